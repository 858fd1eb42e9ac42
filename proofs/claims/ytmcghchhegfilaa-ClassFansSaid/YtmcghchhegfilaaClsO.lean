/- Places of all records' spans, and their chains: the program's. -/
import Derived.Test.YtmcghchhegfilaaClsM
namespace Go.Proofs.Ytmcghchhegfilaa
open Go.RowKit
namespace ClsF
open KeyP PackP SetP SetW SetF Cls ClsW ClsS
attribute [local go_sem] Eng.ev Eng.getO_cons Eng.getO_nil
abbrev TPls : TypeId := 52
theorem infoP : (Try.prog.info? TPl).map (fun i => (i.zero, i.size, i.bytes)) = some (some zP, 6, 48) := by kernel_rfl
abbrev pcs (l : List Pc) : List Value := l.flatMap Pc.cs
theorem pcs_len (l : List Pc) : (pcs l).length = l.length * 6 := by
  induction l with
  | nil => rfl
  | cons a l ih => rw [pcs, List.flatMap_cons, List.length_append, ih]; show 6 + l.length * 6 = (l.length + 1) * 6; omega
theorem spn_srs (L : List Sn) : Srs (spn L) := List.Pairwise.filter _ (setOf_ok L).srs
theorem spn_len (L : List Sn) : (spn L).length ≤ L.length := Nat.le_trans (alive_len _) (setOf_len L)
/-- Places of spans among them. -/
abbrev plcs (L : List Sn) : List Pc := L.map (plc L)
structure OP (w1 w2 w : World) (h : Nat) (L : List Sn) (n m k : Nat) (P : Int → Int → Option Pc) (v : Value) : Prop where
  f : Fo w1 w h L L n m P
  g : PG L P
  o : w.ownsRow w2.heap.size TPl 6 v k (pcs ((plcs L).take k))
  b : Below w1.heap.size w1 w
  s : w2.heap.size ≤ w.heap.size
  z : h + 3 < w2.heap.size
set_option maxRecDepth 100000 in
set_option maxHeartbeats 1000000 in
theorem Of (A : Option Addr) (c : Nat) (L : List Sn) (w : World) (hS : Ls w A c L) (hlen : L.length ≤ 900) :
    Calls Try.prog 32 #[.slice A L.length c] w fun e w' => ∃ A' c', e = .returned (.slice A' (spn L).length c') ∧ Sl w' 6 A' (spn L).length c' (pcs (plcs (spn L))) ∧ Below w.heap.size w w' := by
  obtain ⟨i0, hi, hz0, hz1, hz2⟩ := info_parts infoP
  have HSp := Lib.hid (spans A c L w hS (by omega))
  have hsl := Nat.le_trans (spn_len L) hlen
  have HSr := Lib.hid (spn_srs L)
  clear hS
  generalize spn L = M at *
  go_enter Try.func32, Try.ntmps32
  go_wp2_with fail
  refine HSp.out.mono ?_
  rintro e w1 ⟨A1, c1, rfl, hls, hb⟩
  have HL := Lib.hid hls; have HB := Lib.hid hb
  have HPl := Lib.hid (plant A1 c1 M w1 hls HSr.out (by omega))
  clear hls hb HSp
  go_wp2_with fail
  refine HPl.out.mono ?_
  rintro e w2 ⟨h, n, rfl, -, hF⟩
  have HOP : Hid (OP w1 w2 w2 h M n 0 0 (fun _ _ => none) (.slice none 0 0)) := ⟨hF, fun _ _ _ h => (by cases h), World.ownsRow_nil _ _ _ _, hF.l, Nat.le_refl _, lt_of_heap hF.b⟩
  clear hF HPl
  go_wp2_with fail
  go_loopg [5, 7, 14] M.length (fun gk v _ i wr => ∃ (k m : Nat) (P : Int → Int → Option Pc), i = .int .i64 k ∧ k ≤ M.length ∧ gk = M.length - k ∧ m ≤ k * 900 ∧ OP w1 w2 wr h M n m k P v)
  case atStart => exact ⟨0, 0, _, rfl, Nat.zero_le _, rfl, Nat.zero_le _, HOP.out⟩
  case round =>
    clear HOP
    obtain ⟨k, m, P, rfl, hk, hg, hm, hop⟩ := hrel
    have HG := Lib.hid hg; have HO := Lib.hid hop
    clear hg hop
    by_cases hlt : k < M.length
    · obtain ⟨b1, o1, rfl, hb1, c1⟩ := HL.out.s.at hlt (by omega)
      have HA := Lib.hid ((At.row c1 hlt).fr (Fr.of_below' HO.out.b (fun _ => False)) (fun h => h))
      have HYm := Lib.hid (List.getElem_mem hlt)
      have HSn : Hid ((plcs M).take (k + 1) = (plcs M).take k ++ [plc M M[k]]) := by show _ = _; rw [List.take_succ_eq_append_getElem (by simpa using hlt)]; simp
      clear c1 hb1
      generalize M[k] = y at *
      obtain ⟨N, hN⟩ : ∃ N, (plcs M).take k = N := ⟨_, rfl⟩
      have hoo := HO.out.o
      rw [hN] at HSn hoo
      have HOo := Lib.hid hoo
      clear hN hoo
      have q1 : (0 : Int) ≤ (k : Int) := by omega
      have q2 : decide ((k : Int) < (M.length : Int)) = true := by simp; omega
      have yc0 : wr.cell? ⟨b1, o1 + k * 9, none⟩ = some (.int .i64 y.t) := HA.out 0 _ rfl
      have yc1 : wr.cell? ⟨b1, o1 + k * 9 + 1, none⟩ = some (.int .i64 y.i) := HA.out 1 _ rfl
      have yc2 : wr.cell? ⟨b1, o1 + k * 9 + 1 + 1, none⟩ = some (.int .i64 y.p) := HA.out 2 _ rfl
      have yc3 : wr.cell? ⟨b1, o1 + k * 9 + 1 + 1 + 1, none⟩ = some (.int .i64 y.r) := HA.out 3 _ rfl
      have yc4 : wr.cell? ⟨b1, o1 + k * 9 + 1 + 1 + 1 + 1, none⟩ = some (.string y.s) := HA.out 4 _ rfl
      have yc5 : wr.cell? ⟨b1, o1 + k * 9 + 1 + 1 + 1 + 1 + 1, none⟩ = some (.string y.o) := HA.out 5 _ rfl
      have yc6 : wr.cell? ⟨b1, o1 + k * 9 + 1 + 1 + 1 + 1 + 1 + 1, none⟩ = some (.int .i64 y.b) := HA.out 6 _ rfl
      have yc7 : wr.cell? ⟨b1, o1 + k * 9 + 1 + 1 + 1 + 1 + 1 + 1 + 1, none⟩ = some (.int .i64 y.d) := HA.out 7 _ rfl
      have yc8 : wr.cell? ⟨b1, o1 + k * 9 + 1 + 1 + 1 + 1 + 1 + 1 + 1 + 1, none⟩ = some (.bool y.g) := HA.out 8 _ rfl
      go_upto_region 7 with (fail)
      have f1 := Fr.alloc (fun _ => False) wr (.cells y.arr TSn)
      have a1 := At.box (Bk.new wr y.arr TSn)
      have hs1 : (wr.alloc (.cells y.arr TSn)).heap.size = wr.heap.size + 1 := World.size_alloc _ _
      have HA1 := Lib.hid a1; have HF1 := Lib.hid f1
      clear f1 a1 HA yc0 yc1 yc2 yc3 yc4 yc5 yc6 yc7 yc8
      generalize (wr.alloc (.cells y.arr TSn)) = w3 at *
      have HPc := Lib.hid (place y w3 (HO.out.f.fr HF1.out) HO.out.g HSr.out HL.out.ok HYm.out (by omega) (by omega))
      have yc0 : w3.cell? ⟨wr.heap.size, 0, none⟩ = some (.int .i64 y.t) := HA1.out 0 _ rfl
      have yc1 : w3.cell? ⟨wr.heap.size, 1, none⟩ = some (.int .i64 y.i) := HA1.out 1 _ rfl
      have yc2 : w3.cell? ⟨wr.heap.size, 2, none⟩ = some (.int .i64 y.p) := HA1.out 2 _ rfl
      have yc3 : w3.cell? ⟨wr.heap.size, 3, none⟩ = some (.int .i64 y.r) := HA1.out 3 _ rfl
      have yc4 : w3.cell? ⟨wr.heap.size, 4, none⟩ = some (.string y.s) := HA1.out 4 _ rfl
      have yc5 : w3.cell? ⟨wr.heap.size, 5, none⟩ = some (.string y.o) := HA1.out 5 _ rfl
      have yc6 : w3.cell? ⟨wr.heap.size, 6, none⟩ = some (.int .i64 y.b) := HA1.out 6 _ rfl
      have yc7 : w3.cell? ⟨wr.heap.size, 7, none⟩ = some (.int .i64 y.d) := HA1.out 7 _ rfl
      have yc8 : w3.cell? ⟨wr.heap.size, 8, none⟩ = some (.bool y.g) := HA1.out 8 _ rfl
      go_wp2_with fail
      refine HPc.out.mono ?_
      rintro e w4 ⟨m', P', rfl, hm', hF4, hg4, hf4⟩
      have HF4 := Lib.hid hF4; have HG4 := Lib.hid hg4
      have hO4 : w4.ownsRow w2.heap.size TPl 6 _ k (pcs N) := ownsRow_fr (ownsRow_fr HOo.out HF1.out (fun _ _ h => h)) hf4 (fun b hb e => by have := (ownsRow_blk HOo.out b hb).1; have := HO.out.z; omega)
      have hs4 := hf4.size
      have HB4 : Hid (Below w1.heap.size w1 w4) := hF4.l
      have HO4 := Lib.hid hO4
      obtain ⟨p, hp⟩ : ∃ p, plc M y = p := ⟨_, rfl⟩
      rw [hp] at HSn
      rw [hp]
      have hown1' := hO4.alloc (.cells p.arr TPl)
      have HK1 := Lib.hid (ownsRow_blk HO4.out)
      clear hF4 hg4 hf4 hO4 HPc HA1 yc0 yc1 yc2 yc3 yc4 yc5 yc6 yc7 yc8 hp
      go_wp2_with (at_builtin; refine wpList_append_sl _ rfl (.tmp 18) (.tmp 22) TPls rfl w2.heap.size TPl i0 zP 6 48 Try.underlying52 hi hz0 hz1 hz2 rfl (by decide) _ _ _ rfl hown1' _ _ _ _ rfl (Sl.one w4 TPl p.cs 6 rfl) (by simp [Value.oneCell']) ?_ ?_ ?_ ?_)
      · unfold maxLen; omega
      · omega
      · have := HO.out.s; first | omega | (simp; omega)
      intro v1 w5 hown1 hgrow1
      have HO5 := Lib.hid hown1; have HGr := Lib.hid hgrow1
      clear hown1 hgrow1 hown1'
      go_wp2_with fail
      go_roundg (M.length - (k + 1))
      case rel =>
        have hg := HGr.out
        have fa := Fr.alloc (fun _ => False) w4 (.cells p.arr TPl)
        have fg : Fr (fun b => w2.heap.size ≤ b) w4 w5 := fa.trans (Fr.grown (S := fun b => w2.heap.size ≤ b) hg (fun b e => (HK1.out b e).1)) (fun _ _ h => h.elim) (fun _ _ h => h)
        have hz := HO.out.z
        have hfo : Fo w1 w5 h M M n m' P' := by
          have H := HF4.out
          exact ⟨H.b.fr fg (fun j hj e => by simp at hj; omega), H.s.fr fg (by omega), H.p.fr fg (by omega), H.f.fr fg (by omega), H.l.trans (fg.below H.l.size (fun j hj e => by have := H.z; omega)), H.z⟩
        refine ⟨k + 1, m', P', by go_num, by omega, rfl, by omega, hfo, HG4.out, ?_, hfo.l, ?_, HO.out.z⟩
        · rw [HSn.out]; simpa using HO5.out
        · have := HO.out.s; have := fg.size; omega
      case measure => have := HG.out; omega
    · obtain rfl : k = M.length := by omega
      have q2 : decide ((M.length : Int) < (M.length : Int)) = false := by simp
      have hO := HO.out.o
      rw [List.take_of_length_le (by simp)] at hO
      obtain ⟨A2, c2, hv, h2, -⟩ := Sl.of_own hO
      subst hv
      have H2 := Lib.hid h2
      clear h2 hO
      go_wp2_with fail
      go_ret
      exact ⟨A2, c2, rfl, H2.out, HB.out.trans (HO.out.b.mono HB.out.size)⟩
end ClsF
end Go.Proofs.Ytmcghchhegfilaa
