/- Are deltas the same? -/
import Derived.Test.YtdpngmgaomghoaaGreatDelta
import Derived.Sort.CutIn
namespace Go.Proofs.YtdpngmgaomghoaaGreat
open Go.RowKit
namespace SameDl
open KeyP PackP SetP SetW SetF Delta
attribute [local go_sem] Eng.ev Eng.getO_cons Eng.getO_nil
theorem fr2 (w : World) (o1 o2 : Obj) : Fr (fun _ => False) w ((w.alloc o1).alloc o2) := (Fr.alloc _ w o1).trans (Fr.alloc (fun _ => False) _ o2) (fun _ _ h => h) (fun _ _ h => h)
def sameD (d e : Dl) : Bool := decide (d.O = e.O) && decide (d.I = e.I)
set_option maxRecDepth 100000 in
set_option maxHeartbeats 1000000 in
theorem SameD (d e : Dl) (w : World) (h1 : RdD w d) (h2 : RdD w e) : Calls Tryz.prog 63 #[d.v, e.v] w fun r w' => r = .returned (.bool (sameD d e)) ∧ Fr (fun _ => False) w w' := by
 have hf := fr2 w (.cells d.arr TDl) (.cells e.arr TDl)
 have HD := Lib.hid (h1.keep hf); have HE := Lib.hid (h2.keep hf)
 have HB1 := Lib.hid ((Bk.new w d.arr TDl).fr (Fr.alloc (fun _ => False) _ (.cells e.arr TDl)) (fun _ _ h => h))
 have HB2 := Lib.hid (show Bk ((w.alloc (.cells d.arr TDl)).alloc (.cells e.arr TDl)) (w.heap.size + 1) e.arr TDl by have := Bk.new (w.alloc (.cells d.arr TDl)) e.arr TDl; rwa [World.size_alloc] at this)
 have HF := Lib.hid hf
 clear h1 h2 hf
 go_enter Tryz.func63, Tryz.ntmps63
 go_upto_region 1 with (fail)
 generalize ((w.alloc (.cells d.arr TDl)).alloc (.cells e.arr TDl)) = w1 at *
 have a0 : w1.cell? ⟨w.heap.size, 0, none⟩ = some (.slice d.A1 d.O.length d.c1) := HB1.out.cell 0
 have b0 : w1.cell? ⟨w.heap.size + 1, 0, none⟩ = some (.slice e.A1 e.O.length e.c1) := HB2.out.cell 0
 go_wp2_with fail
 refine (SetF.Same d.A1 e.A1 d.c1 e.c1 d.O e.O w1 HD.out.o.s HE.out.o.s).mono ?_
 rintro r w2 ⟨rfl, hf⟩
 have a1 : w2.cell? ⟨w.heap.size, 1, none⟩ = some (.slice d.A2 d.I.length d.c2) := (HB1.out.fr hf (fun _ _ h => h)).cell 1
 have b1 : w2.cell? ⟨w.heap.size + 1, 1, none⟩ = some (.slice e.A2 e.I.length e.c2) := (HB2.out.fr hf (fun _ _ h => h)).cell 1
 have HD2 := Lib.hid (HD.out.keep hf); have HE2 := Lib.hid (HE.out.keep hf)
 have HF2 := Lib.hid (HF.out.trans hf (T := fun _ => False) (fun _ _ h => h) (fun _ _ h => h))
 clear hf a0 b0 HB1 HB2 HD HE HF
 have HQ : Hid (sameD d e = (decide (d.O = e.O) && decide (d.I = e.I))) := rfl
 cases hq : decide (d.O = e.O) with
 | false =>
  rw [hq] at HQ
  go_wp2_with fail
  go_ret
  exact ⟨by rw [HQ.out]; rfl, HF2.out⟩
 | true =>
  rw [hq, Bool.true_and] at HQ
  go_wp2_with fail
  refine (SetF.Same d.A2 e.A2 d.c2 e.c2 d.I e.I w2 HD2.out.i.s HE2.out.i.s).mono ?_
  rintro r w3 ⟨rfl, hf⟩
  have HF3 := Lib.hid (HF2.out.trans hf (T := fun _ => False) (fun _ _ h => h) (fun _ _ h => h))
  clear hf HF2 a1 b1
  go_wp2_with fail
  go_ret
  exact ⟨by rw [HQ.out]; rfl, HF3.out⟩
theorem SameDT (d e : Dl) (w : World) (h1 : RdD w d) (h2 : RdD w e) (h : sameD d e = true) : Calls Tryz.prog 63 #[d.v, e.v] w fun r w' => r = .returned (.bool true) ∧ Fr (fun _ => False) w w' := h ▸ SameD d e w h1 h2
end SameDl
end Go.Proofs.YtdpngmgaomghoaaGreat
