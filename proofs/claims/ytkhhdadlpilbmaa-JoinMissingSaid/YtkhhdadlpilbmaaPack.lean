/- The writer of bytes: pack.Writer over strings.Builder. -/
import Derived.Test.YtkhhdadlpilbmaaVari
import Derived.Lib.Builder
import Derived.Lib.UnsafeStr
import Derived.Lib.AppendStr
import Derived.Laws.Externs
import Derived.Shelf.RegionOpenPlain
namespace Go.Proofs.Ytkhhdadlpilbmaa
open Go.RowKit
namespace Pack
open KeyP PackP Vari
abbrev TW : TypeId := 241
abbrev TSB : TypeId := 239
abbrev TPB : TypeId := 237
abbrev TUP : TypeId := 256
theorem sizeSB : (Try.prog.info? TSB).map (·.size) = some 2 := by kernel_rfl
theorem liesSB : liesAt Try.prog Try.prog.depth TW (2 / Try.prog.cellsOf TW) 0 TSB 1 = true := by kernel_rfl
theorem bk_shape {w : World} {b : Nat} {p v : Value} (h : Bk w b #[p, v] TW) : w.shape? b = some (TW, 2) := by
  unfold Bk at h
  simp [World.shape?, h]
set_option maxRecDepth 100000 in
set_option maxHeartbeats 1000000 in
theorem used (b : Nat) (v : Value) (w : World) (h : Bk w b #[.pointer (some ⟨b, 0, none⟩), v] TW) : Calls Try.prog 221 #[.pointer (some ⟨b, 0, none⟩)] w fun e w' => e = .returned (.tuple #[]) ∧ w = w' := by
  obtain ⟨j, hj, _⟩ := Option.map_eq_some_iff.1 sizeSB
  have h0 := h.cell 0
  have hn := Lib.run_neq_ptr_same (P := Try.prog) w ⟨b, 0, none⟩ Try.underlying237 hj
  go_enter Try.func221, Try.ntmps221
  go_wp2_with fail
  go_end0
  exact ⟨rfl, rfl⟩
set_option maxRecDepth 100000 in
set_option maxHeartbeats 1000000 in
theorem fresh (b : Nat) (v : Value) (w : World) (h : Bk w b #[.pointer none, v] TW) : Calls Try.prog 221 #[.pointer (some ⟨b, 0, none⟩)] w fun e w' => e = .returned (.tuple #[]) ∧ w.setCell ⟨b, 0, none⟩ (.pointer (some ⟨b, 0, none⟩)) = w' := by
  obtain ⟨j, hj, hjs⟩ := Option.map_eq_some_iff.1 sizeSB
  have h0 := h.cell 0
  have hfz := h.free 0
  have hsh := bk_shape h
  have k1 := Lib.run_to_unsafe (P := Try.prog) w ⟨b, 0, none⟩ Try.underlying237 Try.underlying256 hj (by rw [hjs]; decide) hsh (by show 0 < 2; decide)
  have k2 := Lib.run_from_unsafe (P := Try.prog) w ⟨b, 0, none⟩ Try.underlying256 Try.underlying237 hj hsh liesSB
  go_enter Try.func221, Try.ntmps221
  go_wp2_with fail
  rw [run_callFunc_extern Try.func222 (by kernel_rfl) (by kernel_rfl) (by kernel_rfl) (e := Extern.AbiNoEscape.same) (by kernel_rfl)]
  rw [Lib.run_noEscape]
  simp only [Result.andThen]
  rw [Oper.upon_value]
  go_wp2_with fail
  go_end0
  exact ⟨rfl, rfl⟩
/-- Records that lie there stay as they are. -/
def KS (w w' : World) : Prop := ∀ B a, Bk w B a SetW.TSn → Bk w' B a SetW.TSn
theorem KS.refl (w : World) : KS w w := fun _ _ h => h
theorem KS.trans {w w' w'' : World} (h : KS w w') (h' : KS w' w'') : KS w w'' := fun B a hb => h' B a (h B a hb)
theorem KS.fr {w w' : World} (h : Fr (fun _ => False) w w') : KS w w' := fun _ _ hb => hb.fr h (fun _ _ h => h)
theorem bk_ty {w : World} {b b' : Nat} {c c' : Array Value} {t t' : TypeId} (h : Bk w b c t) (h' : Bk w b' c' t') (ht : t ≠ t') : b ≠ b' := fun e => by
  subst e
  unfold Bk at h h'
  rw [h] at h'
  simp at h'
  exact ht h'.2
/-- A writer, and what it has. -/
def WS (w : World) (b : Nat) (l : List UInt8) : Prop := ∃ p v, (p = Value.pointer none ∨ p = .pointer (some ⟨b, 0, none⟩)) ∧ Bk w b #[p, v] TW ∧ w.ownsRow (b + 1) TB 1 v l.length (l.map bc)
theorem WS.fr {S : Nat → Prop} {w w' : World} {b : Nat} {l : List UInt8} (h : WS w b l) (hf : Fr S w w') (hs : ∀ k, b ≤ k → ¬ S k) : WS w' b l := by
  obtain ⟨p, v, hp, hb, ho⟩ := h
  exact ⟨p, v, hp, hb.fr hf (fun k hk => by simp at hk; subst hk; exact hs k (Nat.le_refl _)), ownsRow_fr ho hf (fun k hk => hs k (by have := (ownsRow_blk ho k hk).1; omega))⟩
theorem WS.lt {w : World} {b : Nat} {l : List UInt8} (h : WS w b l) : b < w.heap.size := by
  obtain ⟨p, v, hp, hb, ho⟩ := h
  exact lt_of_heap hb
theorem WS.new (w : World) : WS (w.alloc (.cells #[.pointer none, .slice none 0 0] TW)) w.heap.size [] := ⟨_, _, .inl rfl, Bk.new _ _ _, World.ownsRow_nil _ _ _ _⟩
theorem check {w : World} {b : Nat} {p v : Value} (hp : p = Value.pointer none ∨ p = .pointer (some ⟨b, 0, none⟩)) (h : Bk w b #[p, v] TW) : Calls Try.prog 221 #[.pointer (some ⟨b, 0, none⟩)] w fun e w' => e = .returned (.tuple #[]) ∧ Bk w' b #[.pointer (some ⟨b, 0, none⟩), v] TW ∧ Fr (fun k => k = b) w w' := by
  rcases hp with rfl | rfl
  · refine (fresh b v w h).mono ?_
    rintro e w' ⟨rfl, rfl⟩
    exact ⟨rfl, h.set 0 _, Fr.setCell w ⟨b, 0, none⟩ _ rfl⟩
  · refine (used b v w h).mono ?_
    rintro e w' ⟨rfl, rfl⟩
    exact ⟨rfl, h, Fr.refl _ _⟩
theorem strCells_eq' (s : ByteArray) : Lib.strCells s = s.data.toList.map bc := rfl
theorem WS.put {w w1 w2 : World} {b : Nat} {v v2 : Value} {l : List UInt8} {s : ByteArray} (hb : Bk w1 b #[.pointer (some ⟨b, 0, none⟩), v] TW) (ho : w1.ownsRow (b + 1) TB 1 v l.length (l.map bc)) (hf : Below b w w1) (hsz : w.heap.size ≤ w1.heap.size) (hbl : b < w.heap.size)
    (ho2 : w2.ownsRow (b + 1) TB 1 v2 (l.length + s.size) (l.map bc ++ Lib.strCells s)) (hg : w1.grownBy w2 v.ownBlock) : WS (w2.setCell ⟨b, 1, none⟩ v2) b (l ++ s.data.toList) ∧ Below b w (w2.setCell ⟨b, 1, none⟩ v2) ∧ KS w1 (w2.setCell ⟨b, 1, none⟩ v2) := by
  have f1 : Fr (fun k => v.ownBlock = some k) w1 w2 := Fr.grown hg (fun k h => h)
  have hb2 : Bk w2 b #[.pointer (some ⟨b, 0, none⟩), v] TW := hb.fr f1 (fun k hk e => by simp at hk; subst hk; have := (ownsRow_blk ho k e).1; omega)
  have f2 : Fr (fun k => k = b) w2 (w2.setCell ⟨b, 1, none⟩ v2) := Fr.setCell w2 ⟨b, 1, none⟩ _ rfl
  have hl : (l ++ s.data.toList).length = l.length + s.size := by rw [List.length_append]; simp
  refine ⟨⟨_, v2, .inr rfl, hb2.set 1 v2, ?_⟩, ?_, fun B a hB => ?_⟩
  · rw [hl, List.map_append]
    exact ownsRow_fr ho2 f2 (fun k hk e => by have := (ownsRow_blk ho2 k hk).1; omega)
  · refine hf.trans ((f1.below (B := b) (by omega) (fun k hk e => by have := (ownsRow_blk ho k e).1; omega)).trans (f2.below (B := b) (by have := f1.size; omega) (fun k hk e => by omega)))
  · have h1 : Bk w2 B a SetW.TSn := hB.fr f1 (fun k hk e => by
      simp at hk; subst hk
      obtain ⟨-, -, c, hc⟩ := ownsRow_blk ho k e
      exact bk_ty (t := SetW.TSn) (t' := TB) hB hc (by decide) rfl)
    exact h1.fr f2 (fun k hk e => by simp at hk; subst hk; exact bk_ty (t := SetW.TSn) (t' := TW) h1 hb2 (by decide) e)
set_option maxRecDepth 100000 in
set_option maxHeartbeats 1000000 in
theorem WriteString (b : Nat) (l : List UInt8) (s : ByteArray) (w : World) (h : WS w b l) (hlen : l.length + s.size ≤ 1000000) :
    Calls Try.prog 219 #[.pointer (some ⟨b, 0, none⟩), .string s] w fun e w' => (∃ r, e = .returned r) ∧ WS w' b (l ++ s.data.toList) ∧ Below b w w' ∧ KS w w' := by
  obtain ⟨i0, hi, hz0, hz1, hz2⟩ := info_partsB infoB
  obtain ⟨p, v, hp, hb, ho⟩ := h
  have HC := Lib.hid (check hp hb)
  have HO := Lib.hid ho
  have HBl := Lib.hid (lt_of_heap hb)
  have HW := Lib.hid hb
  clear hp hb ho
  go_enter Try.func219, Try.ntmps219
  go_wp2_with fail
  refine HC.out.mono ?_
  rintro e w1 ⟨rfl, hb1, hf1⟩
  have HB := Lib.hid hb1
  have c1 : w1.cell? ⟨b, 1, none⟩ = some v := hb1.cell 1
  have ho1 := ownsRow_fr HO.out hf1 (fun k hk e => by have := (ownsRow_blk HO.out k hk).1; omega)
  have HO1 := Lib.hid ho1
  have HF := Lib.hid (hf1.below (B := b) (Nat.le_of_lt HBl.out) (fun k hk e => by omega))
  have hsz := hf1.size
  have hbl := HBl.out
  have HK : Hid (KS w w1) := fun B a hB => hB.fr hf1 (fun k hk e => by simp at hk; subst hk; exact bk_ty (t := SetW.TSn) (t' := TW) hB HW.out (by decide) e)
  clear hb1 hf1
  go_wp2_with (at_builtin; refine Lib.wpList_append_own_string w1 rfl (.tmp 12) (.tmp 13) TBs 9 rfl (b + 1) TB i0 Try.underlying218 Try.underlying9 hi hz0 hz1 hz2 _ _ _ rfl ho1 _ rfl ?_ ?_ ?_ ?_)
  · unfold maxLen; omega
  · omega
  · omega
  intro v2 w2 ho2 hg2 _
  have HN := Lib.hid (WS.put HB.out HO1.out HF.out hsz hbl ho2 hg2)
  have hb2 : Bk w2 b #[.pointer (some ⟨b, 0, none⟩), v] TW := HB.out.fr (Fr.grown hg2 (S := fun k => v.ownBlock = some k) (fun k h => h)) (fun k hk e => by simp at hk; subst hk; have := (ownsRow_blk HO1.out k e).1; omega)
  have c1' : w2.cell? ⟨b, 1, none⟩ = some v := hb2.cell 1
  have f1' := hb2.free 1
  obtain ⟨A2, c2, rfl, -, -⟩ := Sl.of_own ho2
  clear ho2 hg2 ho1 hb2 c1 hsz hbl
  go_wp2_with fail
  go_ret2
  exact ⟨⟨_, rfl⟩, HN.out.1, HN.out.2.1, HK.out.trans HN.out.2.2⟩
abbrev PostW (w : World) (b : Nat) (l : List UInt8) (e : Ending) (w' : World) : Prop := e = .returned (.tuple #[]) ∧ WS w' b l ∧ Below b w w' ∧ KS w w'
set_option maxRecDepth 100000 in
set_option maxHeartbeats 1000000 in
theorem put (b : Nat) (l : List UInt8) (s : ByteArray) (w : World) (h : WS w b l) (hlen : l.length + s.size ≤ 1000000) :
    Calls Try.prog 214 #[.pointer (some ⟨b, 0, none⟩), .string s] w (PostW w b (l ++ s.data.toList)) := by
  have HC := Lib.hid (WriteString b l s w h hlen)
  clear h
  go_enter Try.func214, Try.ntmps214
  go_wp2_with fail
  refine HC.out.mono ?_
  rintro e w1 ⟨⟨r, rfl⟩, h1, h2, h3⟩
  have H1 := Lib.hid h1; have H2 := Lib.hid h2; have H3 := Lib.hid h3
  clear h1 h2 h3
  go_wp2_with fail
  go_end0
  exact ⟨rfl, H1.out, H2.out, H3.out⟩
theorem ks_cat (l m : List UInt8) : l ++ (ks m).data.toList = l ++ m := by rw [ks_data]
set_option maxRecDepth 100000 in
set_option maxHeartbeats 1000000 in
theorem Num (b : Nat) (l : List UInt8) {n : Int} (hn : in64 n) (w : World) (h : WS w b l) (hlen : l.length ≤ 1000) :
    Calls Try.prog 204 #[.pointer (some ⟨b, 0, none⟩), .int .i64 n] w (PostW w b (l ++ nb n)) := by
  have H1 := Lib.hid (Vari.Put hn w)
  have HS := Lib.hid h
  have HL := nb_len hn
  have hs := ks_size (nb n)
  have HP := Lib.hid (fun (w1 : World) (h1 : WS w1 b l) => put b l (ks (nb n)) w1 h1 (by rw [ks_size]; omega))
  rw [ks_cat] at HP
  generalize nb n = V at *
  clear h hlen HL hs
  go_enter Try.func204, Try.ntmps204
  go_wp2_with fail
  refine H1.out.mono ?_
  rintro e w1 ⟨rfl, hb⟩
  have HF := Lib.hid (Fr.of_below' hb (fun _ => False))
  clear hb
  go_wp2_with fail
  refine (HP.out _ (HS.out.fr HF.out (fun _ _ h => h))).mono ?_
  rintro e w2 ⟨rfl, h1, h2, h3⟩
  have H1 := Lib.hid h1; have H2 := Lib.hid ((HF.out.below (B := b) (Nat.le_of_lt HS.out.lt) (fun _ _ h => h)).trans h2); have H3 := Lib.hid ((KS.fr HF.out).trans h3)
  clear h1 h2 h3
  go_wp2_with fail
  go_end0
  exact ⟨rfl, H1.out, H2.out, H3.out⟩
set_option maxRecDepth 100000 in
set_option maxHeartbeats 1000000 in
theorem Signed (b : Nat) (l : List UInt8) {n : Int} (hn : in64 n) (w : World) (h : WS w b l) (hlen : l.length ≤ 1000) :
    Calls Try.prog 206 #[.pointer (some ⟨b, 0, none⟩), .int .i64 n] w (PostW w b (l ++ vb (zz n))) := by
  have H1 := Lib.hid (Vari.PutSigned hn w)
  have HS := Lib.hid h
  have HL := vb_len10 (zz_lt hn)
  have hs := ks_size (vb (zz n))
  have HP := Lib.hid (fun (w1 : World) (h1 : WS w1 b l) => put b l (ks (vb (zz n))) w1 h1 (by rw [ks_size]; omega))
  rw [ks_cat] at HP
  generalize vb (zz n) = V at *
  clear h hlen HL hs
  go_enter Try.func206, Try.ntmps206
  go_wp2_with fail
  refine H1.out.mono ?_
  rintro e w1 ⟨rfl, hb⟩
  have HF := Lib.hid (Fr.of_below' hb (fun _ => False))
  clear hb
  go_wp2_with fail
  refine (HP.out _ (HS.out.fr HF.out (fun _ _ h => h))).mono ?_
  rintro e w2 ⟨rfl, h1, h2, h3⟩
  have H1 := Lib.hid h1; have H2 := Lib.hid ((HF.out.below (B := b) (Nat.le_of_lt HS.out.lt) (fun _ _ h => h)).trans h2); have H3 := Lib.hid ((KS.fr HF.out).trans h3)
  clear h1 h2 h3
  go_wp2_with fail
  go_end0
  exact ⟨rfl, H1.out, H2.out, H3.out⟩
set_option maxRecDepth 100000 in
set_option maxHeartbeats 1000000 in
theorem Text (b : Nat) (l : List UInt8) (s : ByteArray) (hs : s.size ≤ 1000) (w : World) (h : WS w b l) (hlen : l.length ≤ 1000) :
    Calls Try.prog 205 #[.pointer (some ⟨b, 0, none⟩), .string s] w (PostW w b (l ++ tb s)) := by
  have hin : in64 (s.size : Int) := by unfold in64; omega
  have H1 := Lib.hid (Vari.Put hin w)
  have HS := Lib.hid h
  have HL := nb_len hin
  have hks := ks_size (nb (s.size : Int))
  have HE : Hid (l ++ (ks (nb (s.size : Int)) ++ s).data.toList = l ++ tb s) := by
    show _ = _
    unfold tb
    rw [nb_ge (by omega), ByteArray.data_append, Array.toList_append]; rfl
  have HP := Lib.hid (fun (w1 : World) (h1 : WS w1 b l) => put b l (ks (nb (s.size : Int)) ++ s) w1 h1 (by rw [ByteArray.size_append, ks_size]; omega))
  rw [HE.out] at HP
  generalize ks (nb (s.size : Int)) = V at *
  clear h hlen HE hin
  go_enter Try.func205, Try.ntmps205
  go_wp2_with fail
  refine H1.out.mono ?_
  rintro e w1 ⟨rfl, hb⟩
  have HF := Lib.hid (Fr.of_below' hb (fun _ => False))
  clear hb
  go_wp2_with fail
  refine (HP.out _ (HS.out.fr HF.out (fun _ _ h => h))).mono ?_
  rintro e w2 ⟨rfl, h1, h2, h3⟩
  have H1 := Lib.hid h1; have H2 := Lib.hid ((HF.out.below (B := b) (Nat.le_of_lt HS.out.lt) (fun _ _ h => h)).trans h2); have H3 := Lib.hid ((KS.fr HF.out).trans h3)
  clear h1 h2 h3
  go_wp2_with fail
  go_end0
  exact ⟨rfl, H1.out, H2.out, H3.out⟩
set_option maxRecDepth 100000 in
set_option maxHeartbeats 1000000 in
theorem Flag (b : Nat) (l : List UInt8) (g : Bool) (w : World) (h : WS w b l) (hlen : l.length ≤ 1000) :
    Calls Try.prog 207 #[.pointer (some ⟨b, 0, none⟩), .bool g] w (PostW w b (l ++ gb g)) := by
  have hz : ∀ c : UInt8, (⟨#[c]⟩ : ByteArray).size = 1 := fun _ => rfl
  have HP := Lib.hid (fun c : UInt8 => put b l ⟨#[c]⟩ w h (by rw [hz]; omega))
  clear h
  cases g
  all_goals
    go_enter Try.func207, Try.ntmps207
    go_wp2_with fail
    refine (HP.out _).mono ?_
    rintro e w2 ⟨rfl, h1, h2, h3⟩
    have H1 := Lib.hid h1; have H2 := Lib.hid h2; have H3 := Lib.hid h3
    clear h1 h2 h3
    go_wp2_with fail
    go_end0
    exact ⟨rfl, H1.out, H2.out, H3.out⟩
set_option maxRecDepth 100000 in
set_option maxHeartbeats 2000000 in
theorem String (b : Nat) (l : List UInt8) (w : World) (h : WS w b l) (hne : l ≠ []) (hlen : l.length ≤ 1000000) :
    Calls Try.prog 208 #[.pointer (some ⟨b, 0, none⟩)] w fun e w' => e = .returned (.string (ks l)) ∧ Below b w w' := by
  obtain ⟨p, v, hp, hb, ho⟩ := h
  obtain ⟨g, cap, cur, rfl, hbg, hg, hnc, hcm, hcs, htake⟩ : ∃ g cap cur, v = .slice (some ⟨g, 0, none⟩) l.length cap ∧ b + 1 ≤ g ∧ w.heap[g]? = some (.cells cur TB (0, 0)) ∧ l.length ≤ cap ∧ cap ≤ maxLen ∧ cur.size = cap * 1 ∧ cur.toList.take (l.length * 1) = l.map bc := by
    rcases ho.2 with ⟨_, hz⟩ | ⟨g, cap, cur, hv, r⟩
    · exact absurd (List.eq_nil_of_length_eq_zero hz) hne
    · exact ⟨g, cap, cur, hv, r⟩
  have c1 : w.drew.cell? ⟨b, 1, none⟩ = some (.slice (some ⟨g, 0, none⟩) l.length cap) := hb.cell 1
  have hl0 : l.length ≠ 0 := by simpa using hne
  have hSD : (Builtin.unsafeSliceData_ #[TBs] 249 #[.slice (some ⟨g, 0, none⟩) l.length cap]).run Try.prog w.drew = .ok (.pointer (some ⟨g, 0, none⟩)) w.drew := Lib.run_unsafeSliceData_row _ _ _ _ _ _ (by omega)
  have hUS : (Builtin.unsafeString_ #[249, 3] 9 #[.pointer (some ⟨g, 0, none⟩), .int .i64 l.length]).run Try.prog w.drew = .ok (.string ⟨l.toArray⟩) (w.drew.freeze ⟨g, 0, none⟩ l.length) := by
    refine Lib.run_unsafeString_row w.drew 249 3 9 TB Try.underlying249 (by kernel_rfl) g cur.size (by have hg' : w.drew.heap[g]? = some (.cells cur TB (0, 0)) := hg; simp [World.shape?, hg']) l hne (by omega) (by omega) ?_
    intro j x hx
    exact World.ownsRow.cells ho (g := g) rfl j (.int .u8 x.toNat) (by simp [hx])
  rw [show (⟨l.toArray⟩ : ByteArray) = ks l from rfl] at hUS
  generalize ks l = K at *
  generalize l.length = n at *
  have mixed : Try.prog.follows Departure.mixedOrders = true := by kernel_rfl
  go_enter Try.func208, Try.ntmps208
  go_wp2_with fail
  go_region_o
  all_goals (go_wp2; go_ret; exact ⟨rfl, Lib.below_freeze (Below.drew (Below.refl b w)) (p := ⟨g, 0, none⟩) (by show b ≤ g; omega) _⟩)
theorem Bytes (b : Nat) (l : List UInt8) (w : World) (h : WS w b l) (hne : l ≠ []) (hlen : l.length ≤ 1000000) :
    Calls Try.prog 190 #[.pointer (some ⟨b, 0, none⟩)] w fun e w' => e = .returned (.string (ks l)) ∧ Below b w w' := by
  have HC := Lib.hid (String b l w h hne hlen)
  clear h hne hlen
  go_enter Try.func190, Try.ntmps190
  go_wp2_with fail
  refine HC.out.mono ?_
  rintro e w1 ⟨rfl, h1⟩
  have H1 := Lib.hid h1
  clear h1
  go_wp2_with fail
  go_ret
  exact ⟨rfl, H1.out⟩
end Pack
end Go.Proofs.Ytkhhdadlpilbmaa
