/- Places of all, and lists of places: the document's. -/
import Derived.Test.YtmcghchhegfilaaClsY
namespace Go.Proofs.Ytmcghchhegfilaa
open Go.RowKit
namespace ClsF
open KeyP PackP SetP SetW SetF Cls ClsW ClsS
attribute [local go_sem] Eng.ev Eng.getO_cons Eng.getO_nil
def eqP (a b : Pc) : Bool := decide (a.t = b.t ∧ a.i = b.i ∧ a.c = b.c ∧ a.d = b.d ∧ a.p = b.p ∧ a.f = b.f)
theorem eqP_iff {a b : Pc} : eqP a b = true ↔ a = b := by
  cases a; cases b; simp [eqP]
theorem eqP_self (a : Pc) : eqP a a = true := eqP_iff.2 rfl
theorem eql_pc (t i c d p f t' i' c' d' p' f' : Int) (w : World) : (binOp .eql TPl (.agg #[.int .i64 t, .int .i64 i, .int .i64 c, .int .i64 d, .int .i64 p, .int .i64 f]) (.agg #[.int .i64 t', .int .i64 i', .int .i64 c', .int .i64 d', .int .i64 p', .int .i64 f'])).run Try.prog w = .ok (.bool (eqP ⟨t, i, c, d, p, f⟩ ⟨t', i', c', d', p', f'⟩)) w := by
  unfold eqP
  have hS : Try.prog.underlying TPl = some (.struct (Try.prog.fieldsOf TPl)) := by kernel_rfl
  have hp : Try.prog.stoodInHeld TPl = false := by kernel_rfl
  rw [run_eql_struct, show (10000 : Nat) = 9999 + 1 from rfl, run_equalIn_agg w 9999 TPl _ _ hS hp]
  simp only [Program.fieldsOf, Try.underlying55]
  go_simp
  clear hS hp
  (repeat' split) <;> simp_all
theorem neq_pc (t i c d p f t' i' c' d' p' f' : Int) (w : World) : (binOp .neq TPl (.agg #[.int .i64 t, .int .i64 i, .int .i64 c, .int .i64 d, .int .i64 p, .int .i64 f]) (.agg #[.int .i64 t', .int .i64 i', .int .i64 c', .int .i64 d', .int .i64 p', .int .i64 f'])).run Try.prog w = .ok (.bool (!eqP ⟨t, i, c, d, p, f⟩ ⟨t', i', c', d', p', f'⟩)) w := by
  unfold eqP
  have hS : Try.prog.underlying TPl = some (.struct (Try.prog.fieldsOf TPl)) := by kernel_rfl
  have hp : Try.prog.stoodInHeld TPl = false := by kernel_rfl
  rw [run_neq_struct, show (10000 : Nat) = 9999 + 1 from rfl, run_equalIn_agg w 9999 TPl _ _ hS hp]
  simp only [Program.fieldsOf, Try.underlying55]
  go_simp
  clear hS hp
  (repeat' split) <;> simp_all
/-- A place's cells. -/
abbrev AtP (w : World) (b o : Nat) (p : Pc) : Prop := ∀ j u, p.cs[j]? = some u → w.cell? ⟨b, o + j, none⟩ = some u
theorem pcs_at {l : List Pc} {k : Nat} (h : k < l.length) {j : Nat} (hj : j < 6) : (pcs l)[k * 6 + j]? = l[k].cs[j]? := by
  induction l generalizing k with
  | nil => simp at h
  | cons a l ih =>
    have e : pcs (a :: l) = a.cs ++ pcs l := rfl
    rw [e]
    cases k with
    | zero => rw [Nat.zero_mul, Nat.zero_add, List.getElem?_append_left (by exact hj)]; rfl
    | succ k =>
      rw [List.getElem?_append_right (by show 6 ≤ _; omega), show (k + 1) * 6 + j - a.cs.length = k * 6 + j by show _ - 6 = _; omega]
      exact ih (by simpa using h)
theorem AtP.row {w : World} {b o : Nat} {l : List Pc} (hc : ∀ j u, (pcs l)[j]? = some u → w.cell? ⟨b, o + j, none⟩ = some u) {k : Nat} (hk : k < l.length) : AtP w b (o + k * 6) l[k] := fun j u hu => by
  rw [Nat.add_assoc]
  refine hc _ u ?_
  have hj : j < 6 := (List.getElem?_eq_some_iff.1 hu).1
  rw [pcs_at hk hj]; exact hu
theorem AtP.lt {w : World} {b o : Nat} {p : Pc} (h : AtP w b o p) : b < w.heap.size := by
  have := h 0 _ rfl
  simp only [World.cell?] at this
  rcases Nat.lt_or_ge b w.heap.size with h1 | h1
  · exact h1
  · rw [Array.getElem?_eq_none h1] at this; cases this
theorem AtP.keep {w w' : World} {b o : Nat} {p : Pc} (h : AtP w b o p) (hf : Fr (fun _ => False) w w') : AtP w' b o p := fun j u hu => by
  have h1 := h j u hu
  rw [← h1]
  simp only [World.cell?]
  rw [hf.block b h.lt (fun h => h)]
set_option maxRecDepth 100000 in
set_option maxHeartbeats 1000000 in
theorem ROf (A : Option Addr) (c : Nat) (L : List Sn) (w : World) (hS : Ls w A c L) (hlen : L.length ≤ 900) :
    Calls Try.prog 28 #[.slice A L.length c] w fun e w' => ∃ A' c', e = .returned (.slice A' (spn L).length c') ∧ Sl w' 6 A' (spn L).length c' (pcs (plcs (spn L))) ∧ Below w.heap.size w w' := by
  obtain ⟨i0, hi, hz0, hz1, hz2⟩ := info_parts infoP
  have HSp := Lib.hid (RefSpans A c L w hS (by omega))
  have hsl := Nat.le_trans (spn_len L) hlen
  have HSr := Lib.hid (spn_srs L)
  clear hS
  generalize spn L = M at *
  go_enter Try.func28, Try.ntmps28
  go_wp2_with fail
  refine HSp.out.mono ?_
  rintro e w1 ⟨A1, c1, rfl, hls, -, hb⟩
  have HL := Lib.hid hls; have HB := Lib.hid hb
  clear hls hb HSp
  go_wp2_with fail
  go_loopg [4, 5] M.length (fun gk v i wr => ∃ k : Nat, i = .int .i64 k ∧ k ≤ M.length ∧ gk = M.length - k ∧ wr.ownsRow w1.heap.size TPl 6 v k (pcs ((plcs M).take k)) ∧ Below w1.heap.size w1 wr)
  case atStart => exact ⟨0, rfl, Nat.zero_le _, rfl, World.ownsRow_nil _ _ _ _, Below.refl _ _⟩
  case round =>
    obtain ⟨k, rfl, hk, hg, hown, hbel⟩ := hrel
    have HG := Lib.hid hg; have HO := Lib.hid hown; have HBe := Lib.hid hbel
    have hszw : w1.heap.size ≤ wr.heap.size := hbel.size
    clear hg hown hbel
    by_cases hlt : k < M.length
    · obtain ⟨b1, o1, rfl, hb1, c1⟩ := HL.out.s.at hlt (by omega)
      have HA := Lib.hid ((At.row c1 hlt).fr (Fr.of_below' HBe.out (fun _ => False)) (fun h => h))
      have HSn : Hid ((plcs M).take (k + 1) = (plcs M).take k ++ [plc M M[k]]) := by show _ = _; rw [List.take_succ_eq_append_getElem (by simpa using hlt)]; simp
      have HR := Lib.hid (rPc_plc HSr.out (List.getElem_mem hlt))
      clear c1 hb1
      generalize M[k] = y at *
      generalize plc M y = p at *
      generalize (plcs M).take k = N at *
      have HAt := Lib.hid (RAt _ c1 M y wr (HL.out.below HBe.out) (by omega) p HR.out)
      have q1 : (0 : Int) ≤ (k : Int) := by omega
      have q2 : decide ((k : Int) < (M.length : Int)) = true := by simp; omega
      have HK1 := Lib.hid (ownsRow_blk HO.out)
      have yc0 : wr.cell? ⟨b1, o1 + k * 9, none⟩ = some (.int .i64 y.t) := HA.out 0 _ rfl
      have yc1 : wr.cell? ⟨b1, o1 + k * 9 + 1, none⟩ = some (.int .i64 y.i) := HA.out 1 _ rfl
      have yc2 : wr.cell? ⟨b1, o1 + k * 9 + 1 + 1, none⟩ = some (.int .i64 y.p) := HA.out 2 _ rfl
      have yc3 : wr.cell? ⟨b1, o1 + k * 9 + 1 + 1 + 1, none⟩ = some (.int .i64 y.r) := HA.out 3 _ rfl
      have yc4 : wr.cell? ⟨b1, o1 + k * 9 + 1 + 1 + 1 + 1, none⟩ = some (.string y.s) := HA.out 4 _ rfl
      have yc5 : wr.cell? ⟨b1, o1 + k * 9 + 1 + 1 + 1 + 1 + 1, none⟩ = some (.string y.o) := HA.out 5 _ rfl
      have yc6 : wr.cell? ⟨b1, o1 + k * 9 + 1 + 1 + 1 + 1 + 1 + 1, none⟩ = some (.int .i64 y.b) := HA.out 6 _ rfl
      have yc7 : wr.cell? ⟨b1, o1 + k * 9 + 1 + 1 + 1 + 1 + 1 + 1 + 1, none⟩ = some (.int .i64 y.d) := HA.out 7 _ rfl
      have yc8 : wr.cell? ⟨b1, o1 + k * 9 + 1 + 1 + 1 + 1 + 1 + 1 + 1 + 1, none⟩ = some (.bool y.g) := HA.out 8 _ rfl
      go_wp2_with fail
      refine HAt.out.mono ?_
      rintro e w4 ⟨rfl, hb⟩
      have f4 := Fr.of_below' hb (fun _ => False)
      have hown4 := ownsRow_fr HO.out f4 (fun _ _ h => h)
      have HB4 := Lib.hid (HBe.out.trans (hb.mono hszw))
      have hs4 : w1.heap.size ≤ w4.heap.size := HB4.out.size
      have hown1' := hown4.alloc (.cells p.arr TPl)
      clear hb f4 HAt HA yc0 yc1 yc2 yc3 yc4 yc5 yc6 yc7 yc8
      go_wp2_with (at_builtin; refine wpList_append_sl _ rfl (.tmp 14) (.tmp 21) TPls rfl w1.heap.size TPl i0 zP 6 48 Try.underlying52 hi hz0 hz1 hz2 rfl (by decide) _ _ _ rfl hown1' _ _ _ _ rfl (Sl.one w4 TPl p.cs 6 rfl) (by simp [Value.oneCell']) ?_ ?_ ?_ ?_)
      · unfold maxLen; omega
      · omega
      · first | omega | (simp; omega)
      intro v1 w5 hown1 hgrow1
      have HO5 := Lib.hid hown1; have HGr := Lib.hid hgrow1
      clear hown1 hgrow1 hown1' hown4
      go_wp2_with fail
      go_roundg (M.length - (k + 1))
      case rel => exact ⟨k + 1, by go_num, by omega, rfl, by rw [HSn.out]; simpa using HO5.out, (HB4.out.alloc (by omega) _).grown HGr.out (by simp; omega) (fun k e => (HK1.out k e).1)⟩
      case measure => have := HG.out; omega
    · obtain rfl : k = M.length := by omega
      have q2 : decide ((M.length : Int) < (M.length : Int)) = false := by simp
      have hO := HO.out
      rw [List.take_of_length_le (by simp)] at hO
      obtain ⟨A2, c2, hv, h2, -⟩ := Sl.of_own hO
      subst hv
      have H2 := Lib.hid h2
      clear h2 hO
      go_wp2_with fail
      go_ret
      exact ⟨A2, c2, rfl, H2.out, HB.out.trans (HBe.out.mono HB.out.size)⟩
end ClsF
end Go.Proofs.Ytmcghchhegfilaa
