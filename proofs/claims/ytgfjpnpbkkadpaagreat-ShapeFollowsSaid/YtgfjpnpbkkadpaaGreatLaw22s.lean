/- Layer 22's statements: what must come, whatever the arguments are. -/
import Derived.Test.YtgfjpnpbkkadpaaGreatDrd5
import Derived.Test.YtgfjpnpbkkadpaaGreatDels
import Derived.Test.YtgfjpnpbkkadpaaGreatDelta3n
namespace Go.Proofs.YtgfjpnpbkkadpaaGreat
open Tryz
open Go.RowKit
namespace Law22
open KeyP PackP SetP SetW SetF Sli Delta KidsP Cls KdO Fst Drd Wrk
attribute [local go_sem] Eng.ev Eng.getO_cons Eng.getO_nil
instance (n:Int):Decidable (in64 n):=by unfold in64;infer_instance
structure Fv (w A:World) (B:Nat) (L:List Sn) (F:List Nat) (bs:List (Nat × Array Value × TypeId)):Prop where
 f:FB A B L (pm L) F
 b:Below w.heap.size w A
 lo:∀b∈F,w.heap.size≤b
 bx:∀x∈bs,Bk A x.1 x.2.1 x.2.2∧x.1∉F
section
variable {w A C:World} {B:Nat} {L L':List Sn} {F F':List Nat} {bs:List (Nat × Array Value × TypeId)}
theorem Fv.new (w:World):Fv w (w.alloc (.cells #[.pointer none,.int .i64 0,.pointer none,.int .i64 0,.pointer none,.int .i64 0] KdO.TX)) w.heap.size [] [w.heap.size] []:=by
 refine ⟨⟨none,[w.heap.size],[],IB.new w (.pointer none,.int .i64 0),AvlSP.MapIn.nil _,by simp,rfl⟩,(Below.refl _ w).alloc (Nat.le_refl _) _,by simp,by simp⟩
structure Pl_ (w:World) (base:Nat) (A:Option Addr) (c n:Nat) (P:List Pq):Prop where
 o:w.ownsRow base TPl 6 (.slice A n c) n (pcs P)
 n:P.length=n
end
end Law22
namespace Law22
open KeyP PackP SetP SetW SetF Sli Delta KidsP Cls KdO Fst Drd Wrk
attribute [local go_sem] Eng.ev Eng.getO_cons Eng.getO_nil
open ClsW (spn RefSpans)
theorem few_len {L:List Sn} {n:Nat} (h:fewB L n=true):L.length≤n:=by unfold fewB at h;simp at h;exact h.2
structure LL (w:World) (A:Option Addr) (c:Nat) (l:List Lv):Prop where
 s:Sl w 1 A l.length c (l.flatMap lvc)
 r:∀x∈l,Ls w x.A x.c x.L
end Law22
namespace Law22
open KeyP PackP SetP SetW SetF Sli Delta KidsP Cls KdO Fst Drd Wrk
attribute [local go_sem] Eng.ev Eng.getO_cons Eng.getO_nil
open ClsW (spn)
structure As (L:List Sn):Prop where
 ok:Ok L
 al:∀x∈L,x.g=false
theorem As.nil:As []:=⟨⟨List.Pairwise.nil,by simp,by simp⟩,by simp⟩
theorem As.spn (L:List Sn):As (spn L):=
 ⟨⟨List.Pairwise.filter _ (setOf_ok L).srs,fun x hx=>(setOf_ok L).may x (List.mem_filter.1 hx).1,fun x hx=>(setOf_ok L).kept x (List.mem_filter.1 hx).1⟩,fun x hx=>by have:=(List.mem_filter.1 hx).2;simpa using this⟩
theorem As.wout {L:List Sn} (h:As L) (M:List Sn):Ok (wout M L):=⟨h.ok.srs.filter _,fun x hx=>h.ok.may x (wout_mem.1 hx).1,fun x hx=>h.ok.kept x (wout_mem.1 hx).1⟩
theorem bet_may {A B:List Sn} (hA:As A) (hB:As B) (gA:∀x∈A,gd x) (gB:∀x∈B,gd x):dmay (A.map br) (wout B A) (wout A B)=0:=by
 have h1:rightB (wout B A) (wout A B)=true:=by
  unfold rightB isB
  rw [Bool.and_eq_true,Bool.and_eq_true,decide_eq_true_eq,decide_eq_true_eq,Bool.not_eq_true']
  refine ⟨(hA.wout B).set,(hB.wout A).set,?_⟩
  rw [List.any_eq_false]
  intro x hx h
  rw [decide_eq_true_eq] at h
  exact (wout_mem.1 hx).2 (wout_mem.1 h).1
 have h2:(wout B A).any (fun x=>x.g)=false:=List.any_eq_false.2 (fun x hx=>by rw [hA.al x (wout_mem.1 hx).1];simp)
 have h3:(wout A B).any (fun x=>x.g)=false:=List.any_eq_false.2 (fun x hx=>by rw [hB.al x (wout_mem.1 hx).1];simp)
 unfold dmay
 rw [h1,h2,h3,mayO_bet hA.ok.srs,mayI_bet hA.ok.srs hB.ok.srs gA gB]
 rfl
section
variable {w1 A C:World} {B:Nat} {L L':List Sn} {F F':List Nat}
end
theorem PlacesF {X:World} {B:Nat} {L:List Sn} {F:List Nat} (h:FB X B (L.map br) (pm (L.map br)) F) (sl:L.length≤5000) (P:List Pq) (hP:L.map (plq L)=P) (n:Nat) (hn:P.length=n):Calls prog 36 #[.pointer (some ⟨B,0,none⟩)] X fun e w'=>∃A1 c1,e=.returned (.slice A1 n c1)∧Sl w' 6 A1 n c1 (pcs P)∧Fr (fun _=>False) X w':=by
 have hv:vals (pm (L.map br))=P:=by rw [pm_br];unfold vals mp;rw [List.map_map,←hP];rfl
 refine (Places X h (by unfold pm mp;rw [List.length_map,List.length_map];omega)).mono ?_
 rintro e w' ⟨A1,c1,rfl,h1,h2⟩
 rw [hv] at h1 ⊢
 obtain ⟨A',c',he,h3,-⟩:=Sl.of_own h1
 cases he
 rw [hn] at h3 ⊢
 exact ⟨A1,c1,rfl,h3,Fr.of_below' h2 _⟩
theorem Ls.gd {w:World} {A:Option Addr} {c:Nat} {L:List Sn} (h:Ls w A c L):∀x∈L,gd x:=fun x hx=>⟨(h.ok x hx).t,(h.ok x hx).i,(h.ok x hx).p⟩
end Law22
end Go.Proofs.YtgfjpnpbkkadpaaGreat
