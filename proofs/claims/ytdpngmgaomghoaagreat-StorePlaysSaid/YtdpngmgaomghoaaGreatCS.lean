/- What deltas say of keys, plain: sides, what is composed, and what the document says of it. -/
import Derived.Test.YtdpngmgaomghoaaGreatDeltas
namespace Go.Proofs.YtdpngmgaomghoaaGreat
open Tryz
open Go.RowKit
namespace Comp
open KeyP PackP SetP
section
variable {O1 I1 O2 I2 : List Sn}
end
end Comp
namespace Comp
open KeyP PackP SetP SetW Delta
theorem wout_mem {M L : List Sn} {x : Sn} : x ∈ wout M L ↔ x ∈ L ∧ x ∉ M := by unfold wout; rw [List.mem_filter]; simp
theorem wout_srs {M L : List Sn} (h : Srs L) : Srs (wout M L) := h.filter _
theorem fnd_ins {x y : Sn} {N : List Sn} (hN : Srs N) (h : one x y = false) : (fnd y (ins x N)).isSome = (fnd y N).isSome := by
 cases h1 : fnd y (ins x N) with
 | some z =>
  obtain ⟨a, b⟩ := fnd_some h1
  rcases (ins_mem hN).1 a with rfl | ⟨c, d⟩
  ·rw [h] at b; cases b
  ·rw [fnd_mem hN c b]
 | none =>
  cases h2 : fnd y N with
  | none => rfl
  | some z =>
   obtain ⟨a, b⟩ := fnd_some h2
   have hz : one z x = false := by
    cases hc : one z x with
    | false => rfl
    | true => rw [one_iff] at b hc; have : one x y = true := one_iff.2 (by omega); rw [h] at this; cases this
   have := fnd_none h1 z ((ins_mem hN).2 (.inr ⟨a, hz⟩))
   rw [b] at this; cases this
def says (O I : List Sn) (z : Sn) : Bool := (fnd z O).isSome || (fnd z I).isSome
def addNew (O I : List Sn) (L M : List Sn) : List Sn := M.foldl (fun L z => if says O I z then L else ins z L) L
theorem addNew_srs (O I : List Sn) : ∀ {M L : List Sn}, Srs L → Srs (addNew O I L M)
 | [], _, h => h
 | z :: M, L, h => by
  unfold addNew
  rw [List.foldl_cons]
  refine addNew_srs O I (M := M) ?_
  split
  ·exact h
  ·exact ins_srs h
theorem addNew_mem (O I : List Sn) {y : Sn} : ∀ {M L : List Sn}, Srs L → Srs M → (y ∈ addNew O I L M ↔ (y ∈ L ∧ ∀ z ∈ M, says O I z = false → one y z = false) ∨ (y ∈ M ∧ says O I y = false))
 | [], L, _, _ => by simp [addNew]
 | z :: M, L, hL, hM => by
  obtain ⟨h1, h2⟩ := List.pairwise_cons.1 hM
  show y ∈ addNew O I (if says O I z then L else ins z L) M ↔ _
  cases hs : says O I z with
  | true =>
   rw [if_pos rfl, addNew_mem O I hL h2]
   constructor
   ·rintro (⟨a, b⟩ | ⟨a, b⟩)
    ·refine .inl ⟨a, fun x hx hn => ?_⟩
     rcases List.mem_cons.1 hx with rfl | hx
     ·rw [hs] at hn; cases hn
     ·exact b x hx hn
    ·exact .inr ⟨by simp [a], b⟩
   ·rintro (⟨a, b⟩ | ⟨a, b⟩)
    ·exact .inl ⟨a, fun x hx => b x (by simp [hx])⟩
    ·rcases List.mem_cons.1 a with rfl | a
     ·rw [hs] at b; cases b
     ·exact .inr ⟨a, b⟩
  | false =>
   rw [if_neg (by simp), addNew_mem O I (ins_srs hL) h2, ins_mem hL]
   constructor
   ·rintro (⟨rfl | ⟨a, a'⟩, b⟩ | ⟨a, b⟩)
    ·exact .inr ⟨by simp, hs⟩
    ·refine .inl ⟨a, fun x hx hn => ?_⟩
     rcases List.mem_cons.1 hx with rfl | hx
     ·exact a'
     ·exact b x hx hn
    ·exact .inr ⟨by simp [a], b⟩
   ·rintro (⟨a, b⟩ | ⟨a, b⟩)
    ·exact .inl ⟨.inr ⟨a, b z (by simp) hs⟩, fun x hx => b x (by simp [hx])⟩
    ·rcases List.mem_cons.1 a with rfl | a
     ·exact .inl ⟨.inl rfl, fun x hx _ => bef_ne (h1 x hx)⟩
     ·exact .inr ⟨a, b⟩
section
variable {O1 I1 O2 I2 : List Sn}
end
theorem foldl_ins_mem {y : Sn} : ∀ {I N : List Sn}, Srs N → Srs I → (y ∈ I.foldl (fun N x => ins x N) N ↔ (y ∈ N ∧ ∀ z ∈ I, one y z = false) ∨ y ∈ I)
 | [], N, _, _ => by simp
 | x :: I, N, hN, hI => by
  obtain ⟨h1, h2⟩ := List.pairwise_cons.1 hI
  rw [List.foldl_cons, foldl_ins_mem (ins_srs hN) h2, ins_mem hN]
  constructor
  ·rintro (⟨rfl | ⟨a, b⟩, c⟩ | a)
   ·exact .inr (by simp)
   ·exact .inl ⟨a, fun z hz => by rcases List.mem_cons.1 hz with rfl | hz; exact b; exact c z hz⟩
   ·exact .inr (by simp [a])
  ·rintro (⟨a, b⟩ | a)
   ·exact .inl ⟨.inr ⟨a, b x (by simp)⟩, fun z hz => b z (by simp [hz])⟩
   ·rcases List.mem_cons.1 a with rfl | a
    ·exact .inl ⟨.inl rfl, fun z hz => bef_ne (h1 z hz)⟩
    ·exact .inr a
theorem foldl_ins_srs : ∀ {I N : List Sn}, Srs N → Srs (I.foldl (fun N x => ins x N) N)
 | [], _, h => h
 | x :: I, _N, h => foldl_ins_srs (I := I) (ins_srs (x := x) h)
theorem wout_self (A : List Sn) : wout A A = [] := by
 unfold wout
 rw [List.filter_eq_nil_iff]
 intro x hx
 simp [hx]
end Comp
set_option maxRecDepth 100000
set_option maxHeartbeats 1000000
namespace SameDl
open KeyP PackP SetP SetW SetF Delta
attribute [local go_sem] Eng.ev Eng.getO_cons Eng.getO_nil
theorem fr2 (w : World) (o1 o2 : Obj) : Fr (fun _ => False) w ((w.alloc o1).alloc o2) := (Fr.alloc _ w o1).trans (Fr.alloc (fun _ => False) _ o2) (fun _ _ h => h) (fun _ _ h => h)
def sameD (d e : Dl) : Bool := decide (d.O = e.O) && decide (d.I = e.I)
theorem SameD (d e : Dl) (w : World) (h1 : RdD w d) (h2 : RdD w e) : Calls prog 63 #[d.v, e.v] w fun r w' => r = .returned (.bool (sameD d e)) ∧ Fr (fun _ => False) w w' := by
 have hf := fr2 w (.cells d.arr TDl) (.cells e.arr TDl)
 have HD := Lib.hid (h1.keep hf); have HE := Lib.hid (h2.keep hf)
 have HB1 := Lib.hid ((Bk.new w d.arr TDl).fr (Fr.alloc (fun _ => False) _ (.cells e.arr TDl)) (fun _ _ h => h))
 have HB2 := Lib.hid (show Bk ((w.alloc (.cells d.arr TDl)).alloc (.cells e.arr TDl)) (w.heap.size + 1) e.arr TDl by have := Bk.new (w.alloc (.cells d.arr TDl)) e.arr TDl; rwa [World.size_alloc] at this)
 have HF := Lib.hid hf
 clear h1 h2 hf
 go_enter func63, ntmps63
 go_upto_region 1 with (fail)
 generalize ((w.alloc (.cells d.arr TDl)).alloc (.cells e.arr TDl)) = w1 at *
 have a0 : w1.cell? ⟨w.heap.size, 0, none⟩ = some (.slice d.A1 d.O.length d.c1) := HB1.out.cell 0
 have b0 : w1.cell? ⟨w.heap.size + 1, 0, none⟩ = some (.slice e.A1 e.O.length e.c1) := HB2.out.cell 0
 go_wp2_with fail
 refine (SetF.Same d.A1 e.A1 d.c1 e.c1 d.O e.O w1 HD.out.o.s HE.out.o.s).mono ?_
 rintro r w2 ⟨rfl, hf⟩
 have a1 : w2.cell? ⟨w.heap.size, 1, none⟩ = some (.slice d.A2 d.I.length d.c2) := (HB1.out.fr hf (fun _ _ h => h)).cell 1
 have b1 : w2.cell? ⟨w.heap.size + 1, 1, none⟩ = some (.slice e.A2 e.I.length e.c2) := (HB2.out.fr hf (fun _ _ h => h)).cell 1
 have HD2 := Lib.hid (HD.out.keep hf); have HE2 := Lib.hid (HE.out.keep hf)
 have HF2 := Lib.hid (HF.out.trans hf (T := fun _ => False) (fun _ _ h => h) (fun _ _ h => h))
 clear hf a0 b0 HB1 HB2 HD HE HF
 have HQ : Hid (sameD d e = (decide (d.O = e.O) && decide (d.I = e.I))) := rfl
 cases hq : decide (d.O = e.O) with
 | false =>
  rw [hq] at HQ
  go_wp2_with fail
  go_ret
  exact ⟨by rw [HQ.out]; rfl, HF2.out⟩
 | true =>
  rw [hq, Bool.true_and] at HQ
  go_wp2_with fail
  refine (SetF.Same d.A2 e.A2 d.c2 e.c2 d.I e.I w2 HD2.out.i.s HE2.out.i.s).mono ?_
  rintro r w3 ⟨rfl, hf⟩
  have HF3 := Lib.hid (HF2.out.trans hf (T := fun _ => False) (fun _ _ h => h) (fun _ _ h => h))
  clear hf HF2 a1 b1
  go_wp2_with fail
  go_ret
  exact ⟨by rw [HQ.out]; rfl, HF3.out⟩
theorem SameDT (d e : Dl) (w : World) (h1 : RdD w d) (h2 : RdD w e) (h : sameD d e = true) : Calls prog 63 #[d.v, e.v] w fun r w' => r = .returned (.bool true) ∧ Fr (fun _ => False) w w' := h ▸ SameD d e w h1 h2
end SameDl
end Go.Proofs.YtdpngmgaomghoaaGreat
