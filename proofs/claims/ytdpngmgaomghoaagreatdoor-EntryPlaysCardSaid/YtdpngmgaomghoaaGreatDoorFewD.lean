/- Are a delta's records few? -/
import Derived.Test.YtdpngmgaomghoaaGreatDoorDelta
namespace Go.Proofs.YtdpngmgaomghoaaGreatDoor
open Tryz
set_option maxRecDepth 100000
set_option maxHeartbeats 1000000
open Go.RowKit
namespace FewD
open KeyP PackP SetP SetW SetF Delta
theorem FewD (d:Dl) (w:World) (h:RdD w d):
  Calls prog 8 #[d.v] w fun e w'=>e=.returned (.bool (fewB d.O 12&&fewB d.I 12))∧Fr (fun _=>False) w w':=by
 have hf:=Fr.alloc (fun _=>False) w (.cells d.arr TDl)
 have HD:=Lib.hid (h.keep hf)
 have HB1:=Lib.hid (Bk.new w d.arr TDl)
 have HF:=Lib.hid hf
 clear h hf
 go_enter func8,ntmps8
 go_upto_region 1 with (fail)
 generalize (w.alloc (.cells d.arr TDl))=w1 at *
 have a0:w1.cell? ⟨w.heap.size,0,none⟩=some (.slice d.A1 d.O.length d.c1):=HB1.out.cell 0
 go_wp2_with fail
 refine (SetF.Few d.A1 d.c1 12 d.O w1 HD.out.o.s).mono ?_
 rintro r w2 ⟨rfl,hf⟩
 have HD2:=Lib.hid (HD.out.keep hf)
 have a1:w2.cell? ⟨w.heap.size,1,none⟩=some (.slice d.A2 d.I.length d.c2):=(HB1.out.fr hf (fun _ _ h=>h)).cell 1
 have HF2:=Lib.hid (HF.out.trans hf (T:=fun _=>False) (fun _ _ h=>h) (fun _ _ h=>h))
 clear hf a0 HB1 HD HF
 cases h1:fewB d.O 12 with
 |false=>
  go_wp2_with fail
  go_ret
  exact ⟨by rw [h1];rfl,HF2.out⟩
 |true=>
  go_wp2_with fail
  refine (SetF.Few d.A2 d.c2 12 d.I w2 HD2.out.i.s).mono ?_
  rintro r w3 ⟨rfl,hf⟩
  have HF3:=Lib.hid (HF2.out.trans hf (T:=fun _=>False) (fun _ _ h=>h) (fun _ _ h=>h))
  clear hf HF2 a1
  go_wp2_with fail
  go_ret
  exact ⟨by rw [h1];rfl,HF3.out⟩
end FewD
end Go.Proofs.YtdpngmgaomghoaaGreatDoor
