/- The document's shapes: Greatest, Same, Of. -/
import Derived.Test.YtgfjpnpbkkadpaaGreatShapes2
namespace Go.Proofs.YtgfjpnpbkkadpaaGreat
open Tryz
set_option maxRecDepth 100000
open Go.RowKit
namespace Ref23
open BagP Bag ShapeP Fm Shape
theorem Same (x:Shp) (A1 A2 B1 B2:Option Addr) (c1 c2 d1 d2:Nat) (w:World) (h1:Cs w A1 c1 x.D) (h2:Cs w A2 c2 x.F) (k1:Cs w B1 d1 x.D) (k2:Cs w B2 d2 x.F):
  Calls prog 51 #[shv x A1 A2 c1 c2,shv x B1 B2 d1 d2] w fun e w'=>e=.returned (.bool true)∧Fr (fun _=>False) w w':=by
 have f0:Fr (fun _=>False) w ((w.alloc (.cells (sha x A1 A2 c1 c2) TSp)).alloc (.cells (sha x B1 B2 d1 d2) TSp)):=(Fr.alloc _ _ _).trans (Fr.alloc (fun _=>False) _ _) (fun _ _ h=>h) (fun _ _ h=>h)
 have HD:=Lib.hid (Ref13.Same A1 B1 c1 d1 x.D x.D ((w.alloc (.cells (sha x A1 A2 c1 c2) TSp)).alloc (.cells (sha x B1 B2 d1 d2) TSp)) _ _ rfl rfl (h1.fr f0 (fun _ _ h=>h)) (k1.fr f0 (fun _ _ h=>h)) rfl)
 have HF:Hid (∀w1,Fr (fun _=>False) ((w.alloc (.cells (sha x A1 A2 c1 c2) TSp)).alloc (.cells (sha x B1 B2 d1 d2) TSp)) w1→Calls prog 21 #[.slice A2 x.F.length c2,.slice B2 x.F.length d2] w1 fun e w'=>e=.returned (.bool true)∧Fr (fun _=>False) w1 w'):=fun w1 hf=>Ref13.Same A2 B2 c2 d2 x.F x.F w1 _ _ rfl rfl ((h2.fr f0 (fun _ _ h=>h)).fr hf (fun _ _ h=>h)) ((k2.fr f0 (fun _ _ h=>h)).fr hf (fun _ _ h=>h)) rfl
 have H0:=Lib.hid f0
 clear h1 h2 k1 k2 f0
 obtain ⟨n_,r_,o_,y_,D,Fn⟩:=x
 dsimp only at HD HF
 go_enter func51,ntmps51
 go_wp2_with fail
 refine HD.out.mono ?_
 rintro e w1 ⟨rfl,hf1⟩
 have b5:w1.cell? ⟨w.heap.size,5,none⟩=some (.slice A2 Fn.length c2):=(((Bk.new w (sha ⟨n_,r_,o_,y_,D,Fn⟩ A1 A2 c1 c2) TSp).fr (Fr.alloc (fun _=>False) _ _) (fun _ _ h=>h)).fr hf1 (fun _ _ h=>h)).cell 5
 have e5:w1.cell? ⟨w.heap.size+1,5,none⟩=some (.slice B2 Fn.length d2):=by
  have:=((Bk.new (w.alloc (.cells (sha ⟨n_,r_,o_,y_,D,Fn⟩ A1 A2 c1 c2) TSp)) (sha ⟨n_,r_,o_,y_,D,Fn⟩ B1 B2 d1 d2) TSp).fr hf1 (fun _ _ h=>h)).cell 5
  rw [World.size_alloc] at this
  exact this
 have HF1:=Lib.hid (HF.out w1 hf1)
 have H1:=Lib.hid (H0.out.trans hf1 (T:=fun _=>False) (fun _ _ h=>h) (fun _ _ h=>h))
 clear hf1 HD HF H0
 go_wp2_with fail
 refine HF1.out.mono ?_
 rintro e w2 ⟨rfl,hf2⟩
 have H2:=Lib.hid (H1.out.trans hf2 (T:=fun _=>False) (fun _ _ h=>h) (fun _ _ h=>h))
 clear hf2 HF1 H1
 go_wp2_with fail
 go_ret
 exact ⟨rfl,H2.out⟩
section
variable {n0 Br Bx Bd Bf:Nat} {n r o c:Int} {D Fn D' F':List (Int × Int)} {FD FF:List Nat} {w0 w w':World}
end
end Ref23
end Go.Proofs.YtgfjpnpbkkadpaaGreat
