/- Numbers that are held at their ends, and the document's: sums, differences, when a span ends. -/
import Derived.Test.YtdpngmgaomghoaaGreatDoorKeys
import Derived.Test.YtdpngmgaomghoaaGreatDoorRngs
namespace Go.Proofs.YtdpngmgaomghoaaGreatDoor
open Tryz
open Go.RowKit
namespace Sat2
attribute [local go_sem] Eng.ev Eng.getO_cons Eng.getO_nil
def kd (d:Int):Int:=max 0 (min d 4611686018427387904)
def keptS (x:Sn):Sn:={ x with d:=kd x.d }
theorem Clamp (n:Int) (w:World):Calls prog 85 #[.int .i64 n,.int .i64 0,.int .i64 4611686018427387904] w fun e w'=>e=.returned (.int .i64 (kd n))∧w=w':=by
 have HE:Hid (∀m:Int,m=max 0 (min n 4611686018427387904)→Ending.returned (.int .i64 m)=.returned (.int .i64 (kd n))):=fun m hm=>by rw [hm];rfl
 go_enter func85,ntmps85
 go_wp2
 all_goals
  go_ret
  exact ⟨HE.out _ (by omega),rfl⟩
abbrev TSn:TypeId:=48
theorem Kept (x:Sn) (w:World):Calls prog 57 #[x.v] w fun e w'=>e=.returned (keptS x).v∧Fr (fun _=>False) w w':=by
 obtain ⟨t,i,p,r,s,o,u,d,g⟩:=x
 have HC:=Lib.hid (fun W=>Clamp d W)
 go_enter func57,ntmps57
 go_wp2_with fail
 refine (HC.out _).mono ?_
 rintro e w1 ⟨rfl,rfl⟩
 go_wp2_with fail
 have hh:=heap_new (w.alloc (.cells (Sn.arr ⟨t,i,p,r,s,o,u,kd d,g⟩) TSn)) (.cells (Sn.arr ⟨t,i,p,r,s,o,u,kd d,g⟩) TSn)
 rw [World.size_alloc] at hh
 exact bodyPost_ret (results_cell_row rfl _ _ (w.heap.size+1) TSn _ (0,0) _ rfl hh underlying48 rfl (by kernel_rfl)) rfl ⟨rfl,(Fr.alloc _ _ _).trans (Fr.alloc (fun _=>False) _ _) (fun _ _ h=>h) (fun _ _ h=>h)⟩
end Sat2
end Go.Proofs.YtdpngmgaomghoaaGreatDoor
