/- The maps in order (avl) at one instance: getting a value of several cells. -/
import Derived.Test.YtdpngmgaomghoaaGreatDoorAvlSS1
import Derived.Shelf.Abstract
import Derived.OwnWalkIn
import Derived.Sort.QuietIn
namespace Go.Proofs.YtdpngmgaomghoaaGreatDoor
open Tryz
set_option maxRecDepth 100000
set_option maxHeartbeats 1000000
open Go.RowKit
namespace AvlSS
theorem results_row_tmp {P:Program} {fn:Func} {p u:Tmp} {ty:TypeId} (h:fn.results= #[.cell p ty,.tmp u]) (tmps:Array Value) (w:World) (g:Nat) (t:TypeId) (cs:Array Value) (fr:Nat × Nat) (d:TypeDesc)
  (hp:tmps.getD p undef=.pointer (some ⟨g,0,none⟩)) (hg:w.heap[g]? =some (.cells cs t fr))
  (hu:P.underlying ty=some d) (hd:(match d with| .struct _| .array _ _=>true|_=>false)=true) (hi:(P.info? ty).map (·.size)=some cs.size):
  (results fn tmps).run P w=.ok (.tuple #[.agg cs,tmps.getD u undef]) w:=by
 have hp':tmps[p]?.getD undef=.pointer (some ⟨g,0,none⟩):=by simpa using hp
 simp [results,h,hp',asAddr,run_loadVar_row w g t ty cs fr d hg hu hd hi]
abbrev zarr:Array Value:= #[.int .i64 0,.int .i64 0,.int .i64 0,.int .i64 0,.string ⟨#[]⟩,.string ⟨#[]⟩,.int .i64 0,.int .i64 0,.bool false]
abbrev varr (v:Sn):Array Value:= #[.int .i64 v.t,.int .i64 v.i,.int .i64 v.p,.int .i64 v.r,.string v.s,.string v.o,.int .i64 v.b,.int .i64 v.d,.bool v.g]
theorem sets {w:World} {R:Nat} {v v':Sn} (h:w.heap[R]? =some (.cells (varr v') 48 (0,0))):
  ((((((((((w.setCell ⟨R,0,none⟩ (.int .i64 v.t)).setCell ⟨R,1,none⟩ (.int .i64 v.i)).setCell ⟨R,2,none⟩ (.int .i64 v.p)).setCell ⟨R,3,none⟩ (.int .i64 v.r)).setCell ⟨R,4,none⟩ (.string v.s)).setCell ⟨R,5,none⟩ (.string v.o)).setCell ⟨R,6,none⟩ (.int .i64 v.b)).setCell ⟨R,7,none⟩ (.int .i64 v.d)).setCell ⟨R,8,none⟩ (.bool v.g))).heap[R]? =some (.cells (varr v) 48 (0,0))∧Fr (· =R) w ((((((((((w.setCell ⟨R,0,none⟩ (.int .i64 v.t)).setCell ⟨R,1,none⟩ (.int .i64 v.i)).setCell ⟨R,2,none⟩ (.int .i64 v.p)).setCell ⟨R,3,none⟩ (.int .i64 v.r)).setCell ⟨R,4,none⟩ (.string v.s)).setCell ⟨R,5,none⟩ (.string v.o)).setCell ⟨R,6,none⟩ (.int .i64 v.b)).setCell ⟨R,7,none⟩ (.int .i64 v.d)).setCell ⟨R,8,none⟩ (.bool v.g))):=by
 have fs:∀ (w:World) (o:Nat) (u:Value),Fr (· =R) w (w.setCell ⟨R,o,none⟩ u):=fun w o u=>Fr.setCell w ⟨R,o,none⟩ u rfl
 have tr:∀ {x y z:World},Fr (· =R) x y→Fr (· =R) y z→Fr (· =R) x z:=fun h k=>h.trans k (fun _ _ h=>h) (fun _ _ h=>h)
 have h1:=(heap_setCell_same (o:=8) (heap_setCell_same (o:=7) (heap_setCell_same (o:=6) (heap_setCell_same (o:=5) (heap_setCell_same (o:=4) (heap_setCell_same (o:=3) (heap_setCell_same (o:=2) (heap_setCell_same (o:=1) (heap_setCell_same (o:=0) h (.int .i64 v.t)) (.int .i64 v.i)) (.int .i64 v.p)) (.int .i64 v.r)) (.string v.s)) (.string v.o)) (.int .i64 v.b)) (.int .i64 v.d)) (.bool v.g))
 simp only [varr,List.setIfInBounds_toArray,List.set_cons_succ,List.set_cons_zero] at h1
 exact ⟨h1,(tr (tr (tr (tr (tr (tr (tr (tr (fs _ _ _) (fs _ _ _)) (fs _ _ _)) (fs _ _ _)) (fs _ _ _)) (fs _ _ _)) (fs _ _ _)) (fs _ _ _)) (fs _ _ _))⟩
def GetPost (k:ByteArray) (L:List (ByteArray × Sn)) (w:World) (e:Ending) (w':World):Prop:=
 e=.returned (.tuple #[.agg (varr ((getL k L).getD (⟨0,0,0,0,ByteArray.empty,ByteArray.empty,0,0,false⟩:Sn))),.bool (getL k L).isSome])∧Fr (fun _=>False) w w'
theorem Get (k:ByteArray) (p:Option Addr) (t:AT ByteArray Sn) (w:World) (hI:In w t) (hs:Srt t.toL) (ht:∀W,Fr (fun _=>False) w W→Calls prog 86 #[.pointer p] W fun e w'=>e=.returned (.pointer t.adr)∧W=w'):
  Calls prog 58 #[.pointer p,.string k] w (GetPost k t.toL w):=by
 have hf:=Fr.alloc (fun _=>False) w (.cells zarr 48)
 have HT:=Lib.hid (ht _ hf)
 have HI:=Lib.hid (In.fr hI hf (fun _ _ h=>h));have HS:=Lib.hid hs
 have HF:=Lib.hid hf
 have HR:=Lib.hid (heap_new w (.cells zarr 48))
 have HW:=Lib.hid (Nat.le_refl w.heap.size)
 clear ht hI hs hf
 go_enter func58,ntmps58
 go_upto_region 1 with (fail)
 generalize (w.alloc (.cells zarr 48))=w1 at *
 go_wp2_with fail
 refine HT.out.mono ?_
 rintro e w2 ⟨rfl,rfl⟩
 go_wp2_with fail
 go_loopg [6] t.size (fun gk p wr=>w1=wr∧∃s:AT ByteArray Sn,p=.pointer s.adr∧In w1 s∧Srt s.toL∧getL k t.toL=getL k s.toL∧s.size=gk)
 case atStart=>exact ⟨rfl,t,rfl,HI.out,HS.out,rfl,rfl⟩
 case round=>
  obtain ⟨rfl,s,rfl,hI,hs,hg,hk⟩:=hrel
  have HG:=Lib.hid hg;have HK:=Lib.hid hk
  clear hg hk HT HI HS
  cases s with
  |nil=>
   clear hI hs
   rw [AT.adr_nil]
   have HE:Hid (getL k t.toL=none):=HG.out
   have f2:=Fr.alloc (fun _=>False) w1 (.cells zarr 48)
   have HR2:=Lib.hid ((f2.block _ (lt_of_heap HR.out) (fun h=>h)).trans HR.out)
   have HN2:=Lib.hid (heap_new w1 (.cells zarr 48))
   have HF2:=Lib.hid (HF.out.trans f2 (T:=fun _=>False) (fun _ _ h=>h) (fun _ _ h=>h))
   clear f2
   go_upto_region 8 with (fail)
   generalize (w1.alloc (.cells zarr 48))=w2 at *
   have q0:w2.frozen? ⟨w.heap.size,0,none⟩=false:=free_of_block HR2.out 0
   have r0:w2.cell? ⟨w.heap.size,0,none⟩=some (.int .i64 0):=cell_of_block HR2.out 0
   have q1:w2.frozen? ⟨w.heap.size,1,none⟩=false:=free_of_block HR2.out 1
   have r1:w2.cell? ⟨w.heap.size,1,none⟩=some (.int .i64 0):=cell_of_block HR2.out 1
   have q2:w2.frozen? ⟨w.heap.size,2,none⟩=false:=free_of_block HR2.out 2
   have r2:w2.cell? ⟨w.heap.size,2,none⟩=some (.int .i64 0):=cell_of_block HR2.out 2
   have q3:w2.frozen? ⟨w.heap.size,3,none⟩=false:=free_of_block HR2.out 3
   have r3:w2.cell? ⟨w.heap.size,3,none⟩=some (.int .i64 0):=cell_of_block HR2.out 3
   have q4:w2.frozen? ⟨w.heap.size,4,none⟩=false:=free_of_block HR2.out 4
   have r4:w2.cell? ⟨w.heap.size,4,none⟩=some (.string ⟨#[]⟩):=cell_of_block HR2.out 4
   have q5:w2.frozen? ⟨w.heap.size,5,none⟩=false:=free_of_block HR2.out 5
   have r5:w2.cell? ⟨w.heap.size,5,none⟩=some (.string ⟨#[]⟩):=cell_of_block HR2.out 5
   have q6:w2.frozen? ⟨w.heap.size,6,none⟩=false:=free_of_block HR2.out 6
   have r6:w2.cell? ⟨w.heap.size,6,none⟩=some (.int .i64 0):=cell_of_block HR2.out 6
   have q7:w2.frozen? ⟨w.heap.size,7,none⟩=false:=free_of_block HR2.out 7
   have r7:w2.cell? ⟨w.heap.size,7,none⟩=some (.int .i64 0):=cell_of_block HR2.out 7
   have q8:w2.frozen? ⟨w.heap.size,8,none⟩=false:=free_of_block HR2.out 8
   have r8:w2.cell? ⟨w.heap.size,8,none⟩=some (.bool false):=cell_of_block HR2.out 8
   have n0:w2.cell? ⟨w1.heap.size,0,none⟩=some (.int .i64 0):=cell_of_block HN2.out 0
   have n1:w2.cell? ⟨w1.heap.size,1,none⟩=some (.int .i64 0):=cell_of_block HN2.out 1
   have n2:w2.cell? ⟨w1.heap.size,2,none⟩=some (.int .i64 0):=cell_of_block HN2.out 2
   have n3:w2.cell? ⟨w1.heap.size,3,none⟩=some (.int .i64 0):=cell_of_block HN2.out 3
   have n4:w2.cell? ⟨w1.heap.size,4,none⟩=some (.string ⟨#[]⟩):=cell_of_block HN2.out 4
   have n5:w2.cell? ⟨w1.heap.size,5,none⟩=some (.string ⟨#[]⟩):=cell_of_block HN2.out 5
   have n6:w2.cell? ⟨w1.heap.size,6,none⟩=some (.int .i64 0):=cell_of_block HN2.out 6
   have n7:w2.cell? ⟨w1.heap.size,7,none⟩=some (.int .i64 0):=cell_of_block HN2.out 7
   have n8:w2.cell? ⟨w1.heap.size,8,none⟩=some (.bool false):=cell_of_block HN2.out 8
   obtain ⟨hs1,hs2⟩:=sets (v:=(⟨0,0,0,0,ByteArray.empty,ByteArray.empty,0,0,false⟩:Sn)) (v':=(⟨0,0,0,0,ByteArray.empty,ByteArray.empty,0,0,false⟩:Sn)) HR2.out
   have HS1:=Lib.hid hs1
   have HS2:=Lib.hid (HF2.out.trans hs2 (T:=fun _=>False) (fun _ _ h=>h) (fun i hi e=>by have:=HW.out;omega))
   clear hs1 hs2
   go_wp2_with fail
   exact bodyPost_ret (results_row_tmp rfl _ _ w.heap.size 48 _ (0,0) _ rfl HS1.out underlying48 rfl (by kernel_rfl)) rfl ⟨by rw [HE.out];rfl,HS2.out⟩
  |node b k' v' l r d=>
   rw [AT.adr_node]
   obtain ⟨hb,hl,hr⟩:=hI
   obtain ⟨c0,c2,c3,-,-⟩:=cells hb
   have c1:w1.cell? ⟨b,1,none⟩=some (.int .i64 v'.t)∧w1.cell? ⟨b,2,none⟩=some (.int .i64 v'.i)∧w1.cell? ⟨b,3,none⟩=some (.int .i64 v'.p)∧w1.cell? ⟨b,4,none⟩=some (.int .i64 v'.r)∧w1.cell? ⟨b,5,none⟩=some (.string v'.s)∧w1.cell? ⟨b,6,none⟩=some (.string v'.o)∧w1.cell? ⟨b,7,none⟩=some (.int .i64 v'.b)∧w1.cell? ⟨b,8,none⟩=some (.int .i64 v'.d)∧w1.cell? ⟨b,9,none⟩=some (.bool v'.g):=⟨cell_of_block hb 1,cell_of_block hb 2,cell_of_block hb 3,cell_of_block hb 4,cell_of_block hb 5,cell_of_block hb 6,cell_of_block hb 7,cell_of_block hb 8,cell_of_block hb 9⟩
   rw [AT.toL] at hs HG
   rw [AT.size] at HK
   clear hb
   by_cases h1:Ord.lt k k'=true
   ·have th1:Op.bytesLess k.toList k'.toList=true:=h1;have uh1:Op.bytesLess k'.toList k.toList=false:=Ord.asymm h1;have yh1:(k.toList==k'.toList)=false:=Bl.ne h1;have zh1:(k'.toList==k.toList)=false:=Bl.ne' h1
    have _nh1:True:=trivial
    have HG':=Lib.hid (HG.out.trans (getL_low hs h1))
    have HS:=Lib.hid hs.left
    clear HG hs c1
    go_wp2_with fail
    go_roundg l.size
    case rel=>exact ⟨rfl,l,rfl,hl,HS.out,HG'.out,rfl⟩
    case measure=>have:=HK.out;omega
   ·by_cases h2:Ord.lt k' k=true
    ·have th2:Op.bytesLess k'.toList k.toList=true:=h2;have uh2:Op.bytesLess k.toList k'.toList=false:=Ord.asymm h2;have yh2:(k'.toList==k.toList)=false:=Bl.ne h2;have zh2:(k.toList==k'.toList)=false:=Bl.ne' h2
     have _nh2:True:=trivial
     have HG':=Lib.hid (HG.out.trans (getL_high hs h2))
     have HS:=Lib.hid hs.right.tail
     clear HG hs c1
     go_wp2_with fail
     go_roundg r.size
     case rel=>exact ⟨rfl,r,rfl,hr,HS.out,HG'.out,rfl⟩
     case measure=>have:=HK.out;omega
    ·obtain rfl:k=k':=Ord.tri _ _ (by simpa using h1) (by simpa using h2)
     have _nk:(k.toList==k.toList)=true:=by simp
     have HE:Hid (getL k t.toL=some v'):=HG.out.trans (getL_same hs)
     clear HG hs
     obtain ⟨y0,y1,y2,y3,y4,y5,y6,y7,y8⟩:=c1
     have q0:w1.frozen? ⟨w.heap.size,0,none⟩=false:=free_of_block HR.out 0
     have r0:w1.cell? ⟨w.heap.size,0,none⟩=some (.int .i64 0):=cell_of_block HR.out 0
     have q1:w1.frozen? ⟨w.heap.size,1,none⟩=false:=free_of_block HR.out 1
     have r1:w1.cell? ⟨w.heap.size,1,none⟩=some (.int .i64 0):=cell_of_block HR.out 1
     have q2:w1.frozen? ⟨w.heap.size,2,none⟩=false:=free_of_block HR.out 2
     have r2:w1.cell? ⟨w.heap.size,2,none⟩=some (.int .i64 0):=cell_of_block HR.out 2
     have q3:w1.frozen? ⟨w.heap.size,3,none⟩=false:=free_of_block HR.out 3
     have r3:w1.cell? ⟨w.heap.size,3,none⟩=some (.int .i64 0):=cell_of_block HR.out 3
     have q4:w1.frozen? ⟨w.heap.size,4,none⟩=false:=free_of_block HR.out 4
     have r4:w1.cell? ⟨w.heap.size,4,none⟩=some (.string ⟨#[]⟩):=cell_of_block HR.out 4
     have q5:w1.frozen? ⟨w.heap.size,5,none⟩=false:=free_of_block HR.out 5
     have r5:w1.cell? ⟨w.heap.size,5,none⟩=some (.string ⟨#[]⟩):=cell_of_block HR.out 5
     have q6:w1.frozen? ⟨w.heap.size,6,none⟩=false:=free_of_block HR.out 6
     have r6:w1.cell? ⟨w.heap.size,6,none⟩=some (.int .i64 0):=cell_of_block HR.out 6
     have q7:w1.frozen? ⟨w.heap.size,7,none⟩=false:=free_of_block HR.out 7
     have r7:w1.cell? ⟨w.heap.size,7,none⟩=some (.int .i64 0):=cell_of_block HR.out 7
     have q8:w1.frozen? ⟨w.heap.size,8,none⟩=false:=free_of_block HR.out 8
     have r8:w1.cell? ⟨w.heap.size,8,none⟩=some (.bool false):=cell_of_block HR.out 8
     obtain ⟨hs1,hs2⟩:=sets (v:=v') (v':=(⟨0,0,0,0,ByteArray.empty,ByteArray.empty,0,0,false⟩:Sn)) HR.out
     have HS1:=Lib.hid hs1
     have HS2:=Lib.hid (HF.out.trans hs2 (T:=fun _=>False) (fun _ _ h=>h) (fun i hi e=>by have:=HW.out;omega))
     clear hs1 hs2
     go_wp2_with fail
     exact bodyPost_ret (results_row_tmp rfl _ _ w.heap.size 48 _ (0,0) _ rfl HS1.out underlying48 rfl (by kernel_rfl)) rfl ⟨by rw [HE.out];rfl,HS2.out⟩
theorem Get_map (k:ByteArray) (B off:Nat) (r:Option Addr) (L:List (ByteArray × Sn)) (F:List Nat) (w:World) (hM:MapIn w r L F) (h:w.cell? ⟨B,off,none⟩=some (.pointer r)):
  Calls prog 58 #[.pointer (some ⟨B,off,none⟩),.string k] w (GetPost k L w):=by
 obtain ⟨t,rfl,rfl,-,hI,-,-,-,hs⟩:=hM
 exact Get k _ t w hI hs (fun W hf=>top _ _ W rfl ((World.cell?_of_block (w:=w) (a:=⟨B,off,none⟩) (hf.block B (World.block_lt_of_cell? w ⟨B,off,none⟩ h) (fun h=>h))).trans h))
end AvlSS
set_option maxRecDepth 100000
set_option maxHeartbeats 1000000
open Go.RowKit Go.Shelf
attribute [local go_sem] Oper.semAt_some
namespace AvlSS
abbrev encs (x:ByteArray × Sn):Array Value:= #[.string x.1,.agg #[.int .i64 x.2.t,.int .i64 x.2.i,.int .i64 x.2.p,.int .i64 x.2.r,.string x.2.s,.string x.2.o,.int .i64 x.2.b,.int .i64 x.2.d,.bool x.2.g]]
theorem In.kept {S:List Nat} {w w':World} {t:AT ByteArray Sn} (h:In w t) (hk:Kept S w w') (hs:∀b∈t.fp,b∈S):In w' t:=by
 induction t with
 |nil=>trivial
 |node b k v l r d ihl ihr=>
  obtain ⟨h1,h2,h3⟩:=h
  exact ⟨(hk b (hs b (by simp [AT.fp]))).trans h1,ihl h2 (fun x hx=>hs x (by simp [AT.fp,hx])),ihr h3 (fun x hx=>hs x (by simp [AT.fp,hx]))⟩
theorem give_nil (n:Nat) (l:Nat) (q:Option Addr) (W:World):
  CallsIn Fence.wide n prog 90 #[.pointer none,.pointer q,.func (.yield l) #[] #[]] W fun e W'=>e=.returned (.bool true)∧W=W':=by
 refine callsIn_of_wp func90 rfl trivial ?_ rfl
 simp only [ntmps90,List.size_toArray,List.length_cons,List.length_nil,Nat.reduceAdd,Nat.reduceSub,Array.replicate_succ,Array.replicate_zero,List.push_toArray,List.append_toArray,List.nil_append,List.cons_append]
 gi_wp2
 go_ret
 exact ⟨rfl,rfl⟩
theorem step_all (n:Nat) (l:Nat) (b:Nat) (k:ByteArray) (v:Sn) (tl tr:AT ByteArray Sn) (d:Int) (W:World) (A3:World→Prop) (B:World→Prop)
  (hb:W.heap[b]? =some (.cells (blk k v tl.adr tr.adr d) 126 (0,0)))
  (ih1:∀W0:World,W0.heap=W.heap→W0.os=W.os→W0.tape=W.tape→W0.output=W.output→CallsIn Fence.wide (n-1) prog 90 #[.pointer tl.adr,.pointer none,.func (.yield l) #[] #[]] W0 fun e W1=>(e=.returned (.bool true)∧W1.cell? ⟨b,0,none⟩=some (.string k)∧(W1.cell? ⟨b,1,none⟩=some (.int .i64 v.t)∧W1.cell? ⟨b,2,none⟩=some (.int .i64 v.i)∧W1.cell? ⟨b,3,none⟩=some (.int .i64 v.p)∧W1.cell? ⟨b,4,none⟩=some (.int .i64 v.r)∧W1.cell? ⟨b,5,none⟩=some (.string v.s)∧W1.cell? ⟨b,6,none⟩=some (.string v.o)∧W1.cell? ⟨b,7,none⟩=some (.int .i64 v.b)∧W1.cell? ⟨b,8,none⟩=some (.int .i64 v.d)∧W1.cell? ⟨b,9,none⟩=some (.bool v.g))∧
    YieldAt Fence.wide (n-1) prog l #[.string k,.agg #[.int .i64 v.t,.int .i64 v.i,.int .i64 v.p,.int .i64 v.r,.string v.s,.string v.o,.int .i64 v.b,.int .i64 v.d,.bool v.g]] W1 fun e W2=>(e=.returned (.bool true)∧W2.cell? ⟨b,11,none⟩=some (.pointer tr.adr)∧
     CallsIn Fence.wide (n-1) prog 90 #[.pointer tr.adr,.pointer none,.func (.yield l) #[] #[]] W2 fun e W3=>(e=.returned (.bool true)∧A3 W3)∨(e=.returned (.bool false)∧B W3))∨(e=.returned (.bool false)∧B W2))∨(e=.returned (.bool false)∧B W1)):
  CallsIn Fence.wide n prog 90 #[.pointer (some ⟨b,0,none⟩),.pointer none,.func (.yield l) #[] #[]] W fun e W'=>(e=.returned (.bool true)∧A3 W')∨(e=.returned (.bool false)∧B W'):=by
 obtain ⟨c0,c2,-,-,-⟩:=cells hb
 clear hb
 have hdd:∀k:Nat,(Fence.wide.depth.isSome=true→1≤k):=fun k h=>by cases h
 refine callsIn_of_wp func90 rfl trivial ?_ rfl
 simp only [ntmps90,List.size_toArray,List.length_cons,List.length_nil,Nat.reduceAdd,Nat.reduceSub,Array.replicate_succ,Array.replicate_zero,List.push_toArray,List.append_toArray,List.nil_append,List.cons_append]
 gi_wp2_with fail
 gi_quiet (fail)
 gi_wp2_with fail
 have IH:=Lib.hid (ih1 (W.drewN (nq+1)) rfl rfl rfl rfl)
 clear ih1
 refine wpIn_region_any (by kernel_rfl) ?_
 change wpAnyIn _ _ _ _ _ _ _ _ _ (World.drew _)
 refine takeV 0 ?_;refine takeV 1 ?_;refine takeV 2 ?_;refine takeV 4 ?_;refine takeV 5 ?_
 refine wpAnyIn_ready (rs:= [3]) (by kernel_rfl) (by simp) ?_
 refine AllReadyIn.cons rfl (fun K hK=>?_) AllReadyIn.nil
 go_simp
 refine hK _ _ ?_
 clear hK K
 refine wpAnyIn_ready (rs:= [6]) (by kernel_rfl) (by simp) ?_
 refine AllReadyIn.cons rfl (fun K hK=>?_) AllReadyIn.nil
 go_simp
 refine ⟨trivial,hdd _,?_⟩
 refine IH.out.mono ?_
 clear IH
 rintro e W1 (⟨rfl,k0,k1,fn,tmps,assign,body,hy,hR⟩| ⟨rfl,hB1⟩)
 rotate_left
 ·refine hK _ _ ?_
  clear hK K
  refine takeV 7 ?_
  go_simp
  refine takeU 8 ?_;refine takeU 9 ?_;refine takeU 10 ?_;refine takeU 11 ?_;refine takeU 12 ?_
  go_simp
  refine takeU 13 ?_;refine takeU 14 ?_;refine takeU 15 ?_;refine takeU 16 ?_
  go_simp
  refine wpAnyIn_ready (rs:= [17]) (by kernel_rfl) (by simp) ?_
  refine AllReadyIn.cons rfl (fun K hK=>?_) AllReadyIn.nil
  go_simp
  first|refine ⟨fun _ _=>trivial,?_⟩|refine ⟨trivial,?_⟩
  refine hK _ _ ?_
  clear hK K
  refine takeV 18 ?_
  go_simp
  refine takeV 19 ?_
  go_simp
  refine takeU 20 ?_;refine takeU 21 ?_;refine takeU 22 ?_;refine takeU 23 ?_;refine takeU 24 ?_
  go_simp
  refine wpAnyIn_ready (rs:= [25]) (by kernel_rfl) (by simp) ?_
  refine AllReadyIn.cons rfl (fun K hK=>?_) AllReadyIn.nil
  go_simp
  first|refine ⟨fun _ _=>trivial,?_⟩|refine ⟨trivial,?_⟩
  refine hK _ _ ?_
  clear hK K
  refine takeV 26 ?_;refine takeV 27 ?_
  refine wpAnyIn_done (by kernel_rfl) ?_ _
  gi_wp2_with fail
  go_ret
  exact .inr ⟨rfl,hB1⟩
 refine hK _ _ ?_
 clear hK K
 refine takeV 7 ?_
 go_simp
 refine takeV 8 ?_;refine takeV 9 ?_;refine takeV 10 ?_;refine takeV 11 ?_;refine takeV 13 ?_;refine takeV 14 ?_;refine takeV 15 ?_
 go_simp
 refine wpAnyIn_ready (rs:= [12,16]) (by kernel_rfl) (by simp) ?_
 refine AllReadyIn.cons rfl (fun K hK=>?_) (AllReadyIn.cons rfl (fun K hK=>?_) AllReadyIn.nil)
 all_goals go_simp
 all_goals (refine hK _ _ ?_;clear hK K)
 ·skip
  refine wpAnyIn_ready (rs:= [16]) (by kernel_rfl) (by simp) ?_
  refine AllReadyIn.cons rfl (fun K hK=>?_) AllReadyIn.nil
  go_simp
  refine hK _ _ ?_
  clear hK K
  refine wpAnyIn_ready (rs:= [17]) (by kernel_rfl) (by simp) ?_
  refine AllReadyIn.cons rfl (fun K hK=>?_) AllReadyIn.nil
  go_simp
  (try refine ⟨hdd _,?_⟩)
  refine hR.mono ?_
  clear hR
  rintro e W2 (⟨rfl,k3,IH3⟩| ⟨rfl,hB1⟩)
  rotate_left
  ·refine hK _ _ ?_
   clear hK K
   refine takeV 18 ?_
   go_simp
   refine takeV 19 ?_
   go_simp
   refine takeU 20 ?_;refine takeU 21 ?_;refine takeU 22 ?_;refine takeU 23 ?_;refine takeU 24 ?_
   go_simp
   refine wpAnyIn_ready (rs:= [25]) (by kernel_rfl) (by simp) ?_
   refine AllReadyIn.cons rfl (fun K hK=>?_) AllReadyIn.nil
   go_simp
   first|refine ⟨fun _ _=>trivial,?_⟩|refine ⟨trivial,?_⟩
   refine hK _ _ ?_
   clear hK K
   refine takeV 26 ?_;refine takeV 27 ?_
   refine wpAnyIn_done (by kernel_rfl) ?_ _
   gi_wp2_with fail
   go_ret
   exact .inr ⟨rfl,hB1⟩
  refine hK _ _ ?_
  clear hK K
  refine takeV 18 ?_
  go_simp
  refine takeV 19 ?_
  go_simp
  refine takeV 20 ?_;refine takeV 21 ?_;refine takeV 22 ?_;refine takeV 24 ?_
  go_simp
  refine wpAnyIn_ready (rs:= [23]) (by kernel_rfl) (by simp) ?_
  refine AllReadyIn.cons rfl (fun K hK=>?_) AllReadyIn.nil
  go_simp
  refine hK _ _ ?_
  clear hK K
  refine wpAnyIn_ready (rs:= [25]) (by kernel_rfl) (by simp) ?_
  refine AllReadyIn.cons rfl (fun K hK=>?_) AllReadyIn.nil
  go_simp
  refine ⟨trivial,hdd _,?_⟩
  refine IH3.mono ?_
  clear IH3
  rintro e W3 (⟨rfl,hA3⟩| ⟨rfl,hB1⟩)
  ·refine hK _ _ ?_
   clear hK K
   refine takeV 26 ?_
   go_simp
   refine takeV 27 ?_
   refine wpAnyIn_done (by kernel_rfl) ?_ _
   gi_wp2_with fail
   go_ret
   exact .inl ⟨rfl,hA3⟩
  ·refine hK _ _ ?_
   clear hK K
   refine takeV 26 ?_
   go_simp
   refine takeV 27 ?_
   refine wpAnyIn_done (by kernel_rfl) ?_ _
   gi_wp2_with fail
   go_ret
   exact .inr ⟨rfl,hB1⟩
 ·skip
  refine wpAnyIn_ready (rs:= [12]) (by kernel_rfl) (by simp) ?_
  refine AllReadyIn.cons rfl (fun K hK=>?_) AllReadyIn.nil
  go_simp
  refine hK _ _ ?_
  clear hK K
  refine wpAnyIn_ready (rs:= [17]) (by kernel_rfl) (by simp) ?_
  refine AllReadyIn.cons rfl (fun K hK=>?_) AllReadyIn.nil
  go_simp
  (try refine ⟨hdd _,?_⟩)
  refine hR.mono ?_
  clear hR
  rintro e W2 (⟨rfl,k3,IH3⟩| ⟨rfl,hB1⟩)
  rotate_left
  ·refine hK _ _ ?_
   clear hK K
   refine takeV 18 ?_
   go_simp
   refine takeV 19 ?_
   go_simp
   refine takeU 20 ?_;refine takeU 21 ?_;refine takeU 22 ?_;refine takeU 23 ?_;refine takeU 24 ?_
   go_simp
   refine wpAnyIn_ready (rs:= [25]) (by kernel_rfl) (by simp) ?_
   refine AllReadyIn.cons rfl (fun K hK=>?_) AllReadyIn.nil
   go_simp
   first|refine ⟨fun _ _=>trivial,?_⟩|refine ⟨trivial,?_⟩
   refine hK _ _ ?_
   clear hK K
   refine takeV 26 ?_;refine takeV 27 ?_
   refine wpAnyIn_done (by kernel_rfl) ?_ _
   gi_wp2_with fail
   go_ret
   exact .inr ⟨rfl,hB1⟩
  refine hK _ _ ?_
  clear hK K
  refine takeV 18 ?_
  go_simp
  refine takeV 19 ?_
  go_simp
  refine takeV 20 ?_;refine takeV 21 ?_;refine takeV 22 ?_;refine takeV 24 ?_
  go_simp
  refine wpAnyIn_ready (rs:= [23]) (by kernel_rfl) (by simp) ?_
  refine AllReadyIn.cons rfl (fun K hK=>?_) AllReadyIn.nil
  go_simp
  refine hK _ _ ?_
  clear hK K
  refine wpAnyIn_ready (rs:= [25]) (by kernel_rfl) (by simp) ?_
  refine AllReadyIn.cons rfl (fun K hK=>?_) AllReadyIn.nil
  go_simp
  refine ⟨trivial,hdd _,?_⟩
  refine IH3.mono ?_
  clear IH3
  rintro e W3 (⟨rfl,hA3⟩| ⟨rfl,hB1⟩)
  ·refine hK _ _ ?_
   clear hK K
   refine takeV 26 ?_
   go_simp
   refine takeV 27 ?_
   refine wpAnyIn_done (by kernel_rfl) ?_ _
   gi_wp2_with fail
   go_ret
   exact .inl ⟨rfl,hA3⟩
  ·refine hK _ _ ?_
   clear hK K
   refine takeV 26 ?_
   go_simp
   refine takeV 27 ?_
   refine wpAnyIn_done (by kernel_rfl) ?_ _
   gi_wp2_with fail
   go_ret
   exact .inr ⟨rfl,hB1⟩
section
variable (l:Nat) (LL:List (ByteArray × Sn)) (FP:List Nat) (J Jx:List (ByteArray × Sn)→World→Prop)
 (hJd:∀pre W W',J pre W→W'.heap=W.heap→W'.os=W.os→W'.tape=W.tape→W'.output=W.output→J pre W')
 (hY:∀m pre x W,J pre W→pre++ [x]<+:LL→YieldAt Fence.wide m prog l (encs x) W fun e W'=>
  (e=.returned (.bool true)∧J (pre++ [x]) W'∧Kept FP W W')∨(e=.returned (.bool false)∧Jx (pre++ [x]) W'))
include hJd hY
theorem give_all (t:AT ByteArray Sn):∀ (n:Nat) (pre:List (ByteArray × Sn)) (W:World),In W t→(∀b∈t.fp,b∈FP)→J pre W→pre++t.toL<+:LL→
  CallsIn Fence.wide n prog 90 #[.pointer t.adr,.pointer none,.func (.yield l) #[] #[]] W fun e W'=>
   (e=.returned (.bool true)∧J (pre++t.toL) W'∧Kept FP W W')∨(e=.returned (.bool false)∧∃q,q<+:t.toL∧Jx (pre++q) W'):=by
 induction t with
 |nil=>
  intro n pre W _ _ hJ _
  refine (give_nil n l none W).mono ?_
  rintro e W' ⟨rfl,rfl⟩
  exact .inl ⟨rfl,by simpa [AT.toL] using hJ,Kept.refl _ _⟩
 |node b k v tl tr d ihl ihr=>
  intro n pre W hI hfp hJ hN
  rw [AT.toL] at hN
  have hfl:∀x∈tl.fp,x∈FP:=fun x hx=>hfp x (AT.mem_node.2 (.inr (.inl hx)))
  have hfr:∀x∈tr.fp,x∈FP:=fun x hx=>hfp x (AT.mem_node.2 (.inr (.inr hx)))
  have hfb:b∈FP:=hfp b (AT.mem_node.2 (.inl rfl))
  obtain ⟨hb,hl,hr⟩:=hI
  refine (step_all n l b k v tl tr d W (fun W'=>J (pre++(AT.node b k v tl tr d).toL) W'∧Kept FP W W') (fun W'=>∃q,q<+:(AT.node b k v tl tr d).toL∧Jx (pre++q) W') hb ?_)
  intro W0 e1 e2 e3 e4
  have hk0:Kept FP W W0:=fun x _=>by rw [e1]
  refine (ihl (n-1) pre W0 (In.kept hl hk0 hfl) hfl (hJd _ _ _ hJ e1 e2 e3 e4) (List.IsPrefix.trans (by simp) hN)).mono ?_
  rintro e W1 (⟨rfl,hJ1,hk1⟩| ⟨rfl,q,hq,hx⟩)
  ·have hk01:=hk0.trans hk1
   have hb1:=(hk01 b hfb).trans hb
   obtain ⟨c0,-,-,-,-⟩:=cells hb1
   have c1:W1.cell? ⟨b,1,none⟩=some (.int .i64 v.t)∧W1.cell? ⟨b,2,none⟩=some (.int .i64 v.i)∧W1.cell? ⟨b,3,none⟩=some (.int .i64 v.p)∧W1.cell? ⟨b,4,none⟩=some (.int .i64 v.r)∧W1.cell? ⟨b,5,none⟩=some (.string v.s)∧W1.cell? ⟨b,6,none⟩=some (.string v.o)∧W1.cell? ⟨b,7,none⟩=some (.int .i64 v.b)∧W1.cell? ⟨b,8,none⟩=some (.int .i64 v.d)∧W1.cell? ⟨b,9,none⟩=some (.bool v.g):=⟨(cell_of_block hb1 1),(cell_of_block hb1 2),(cell_of_block hb1 3),(cell_of_block hb1 4),(cell_of_block hb1 5),(cell_of_block hb1 6),(cell_of_block hb1 7),(cell_of_block hb1 8),(cell_of_block hb1 9)⟩
   refine .inl ⟨rfl,c0,c1,YieldAt.mono (hY (n-1) _ (k,v) W1 hJ1 (List.IsPrefix.trans ⟨tr.toL,by simp⟩ hN)) ?_⟩
   rintro e W2 (⟨rfl,hJ2,hk2⟩| ⟨rfl,hx⟩)
   ·have hk02:=hk01.trans hk2
    have hb2:=(hk02 b hfb).trans hb
    obtain ⟨-,-,c3,-,-⟩:=cells hb2
    refine .inl ⟨rfl,c3,?_⟩
    refine (ihr (n-1) _ W2 (In.kept hr hk02 hfr) hfr hJ2 (by simpa [List.append_assoc] using hN)).mono ?_
    rintro e W3 (⟨rfl,hJ3,hk3⟩| ⟨rfl,q,hq,hx⟩)
    ·exact .inl ⟨rfl,by simpa [AT.toL,List.append_assoc] using hJ3,hk02.trans hk3⟩
    ·obtain ⟨r,hr'⟩:=hq
     exact .inr ⟨rfl,tl.toL++(k,v)::q,⟨r,by simp [AT.toL,←hr']⟩,by simpa [List.append_assoc] using hx⟩
   ·exact .inr ⟨rfl,tl.toL++ [(k,v)],⟨tr.toL,by simp [AT.toL]⟩,by simpa [List.append_assoc] using hx⟩
  ·exact .inr ⟨rfl,q,hq.trans (by simp [AT.toL]),hx⟩
end
end AvlSS
set_option maxHeartbeats 1000000
attribute [local go_sem] Oper.semAt_some
namespace AvlSS
def MapP (w:World) (p:Option Addr) (L:List (ByteArray × Sn)) (F:List Nat):Prop:=
 (p=none∧L= []∧F= [])∨∃ (B off:Nat) (r:Option Addr),p=some ⟨B,off,none⟩∧w.cell? ⟨B,off,none⟩=some (.pointer r)∧MapIn w r L F
theorem MapP.top {w:World} {p:Option Addr} {L:List (ByteArray × Sn)} {F:List Nat} (h:MapP w p L F):∃t:AT ByteArray Sn,t.toL=L∧t.fp=F∧In w t∧Calls prog 86 #[.pointer p] w fun e w'=>e=.returned (.pointer t.adr)∧w=w':=by
 rcases h with ⟨rfl,rfl,rfl⟩| ⟨B,off,r,rfl,hc,t,rfl,h2,h3,h4,-⟩
 ·exact ⟨.nil,rfl,rfl,trivial,top_none w⟩
 ·exact ⟨t,h2,h3,h4,AvlSS.top _ _ w rfl hc⟩
theorem MapP.below {w w':World} {p:Option Addr} {L:List (ByteArray × Sn)} {F:List Nat} (h:MapP w p L F) (hb:Below w.heap.size w w'):MapP w' p L F:=by
 rcases h with h| ⟨B,off,r,rfl,hc,hm⟩
 ·exact .inl h
 ·have hlt:B<w.heap.size:=by
   rcases Nat.lt_or_ge B w.heap.size with h|h
   ·exact h
   ·rw [World.cell?] at hc;simp [Array.getElem?_eq_none h] at hc
  exact .inr ⟨B,off,r,rfl,(hb.cell (p:=⟨B,off,none⟩) hlt).trans hc,hm.fr (Fr.of_below hb) (fun b hb'=>by have:=hm.lt b hb';omega)⟩
theorem All1 (n l:Nat) (FP:List Nat) (J Jx:List (ByteArray × Sn)→World→Prop) (B0:Nat) (p:Option Addr) (L:List (ByteArray × Sn)) (F:List Nat)
  (hJd:∀pre W W',J pre W→W'.heap=W.heap→W'.os=W.os→W'.tape=W.tape→W'.output=W.output→J pre W')
  (hY:∀m pre x W,J pre W→pre++ [x]<+:L→YieldAt Fence.wide m prog l (encs x) W fun e W'=>
   (e=.returned (.bool true)∧J (pre++ [x]) W'∧Kept FP W W')∨(e=.returned (.bool false)∧Jx (pre++ [x]) W'))
  (W:World) (hc:W.cell? ⟨B0,0,none⟩=some (.pointer p)) (hM:MapP W p L F) (hF:∀b∈F,b∈FP) (h0:J [] W):
  CallsIn Fence.wide n prog 89 #[.func (.yield l) #[] #[],.pointer (some ⟨B0,0,none⟩)] W fun e W'=>(∃v,e=.returned v)∧
   ((∃ys,ys=L∧J ys W')∨(∃pre,pre<+:L∧Jx pre W')):=by
 obtain ⟨t,rfl,rfl,hI,ht⟩:=hM.top
 have hp:=Lib.hid (give_all l t.toL FP J Jx hJd hY t (n-1) [] W hI hF h0 (by simp))
 have HT:=Lib.hid ht
 clear ht hY hM hI
 have hdd:∀k:Nat,(Fence.wide.depth.isSome=true→1≤k):=fun k h=>by cases h
 refine callsIn_of_wp func89 rfl trivial ?_ rfl
 simp only [ntmps89,List.size_toArray,List.length_cons,List.length_nil,Nat.reduceAdd,Nat.reduceSub,Array.replicate_succ,Array.replicate_zero,List.push_toArray,List.append_toArray,List.nil_append,List.cons_append]
 gi_wp2_with fail
 refine ⟨trivial,hdd _,?_⟩
 refine (callsIn_wide.2 HT.out).mono ?_
 rintro e w1 ⟨rfl,rfl⟩
 gi_wp2_with fail
 refine ⟨trivial,hdd _,?_⟩
 refine hp.out.mono ?_
 clear hp
 rintro e W1 (⟨rfl,hJ1,_⟩| ⟨rfl,q,hq,hx⟩)
 ·have HJ:=Lib.hid hJ1
  clear hJ1
  gi_wp2_with fail
  go_end0
  exact ⟨⟨_,rfl⟩,.inl ⟨_,rfl,by simpa using HJ.out⟩⟩
 ·have HX:=Lib.hid hx;have HQ:=Lib.hid hq
  clear hx hq
  gi_wp2_with fail
  go_end0
  exact ⟨⟨_,rfl⟩,.inr ⟨q,HQ.out,by simpa using HX.out⟩⟩
theorem All (p:Option Addr) (w:World):
  Calls prog 62 #[.pointer p] w fun e w'=>e=.returned (.func (.func 89) #[] #[.pointer (some ⟨w.heap.size,0,none⟩)])∧w.alloc (.cells #[.pointer p] 75 (0,0))=w':=by
 go_enter func62,ntmps62
 go_wp2
 go_ret
 exact ⟨rfl,rfl⟩
theorem All_seq (FP:List Nat) (B0:Nat) (p:Option Addr) (L:List (ByteArray × Sn)) (F:List Nat) (w:World)
  (hc:w.cell? ⟨B0,0,none⟩=some (.pointer p)) (hB0:B0<w.heap.size) (hM:MapP w p L F) (hF:∀b∈F,b∈FP):
  SeqP prog 89 #[.pointer (some ⟨B0,0,none⟩)] encs FP 0 L w:=fun n l J Jx W hW hJ _ hY h0=>by
 refine (All1 n l FP (fun pre A=>J pre A∧W.heap.size≤A.heap.size) (fun pre A=>Jx pre A∧W.heap.size≤A.heap.size) B0 p L F
  (fun pre A B hA e1 e2 e3 e4=>⟨hJ pre A B hA.1 ⟨e2,e3,e4,by rw [e1];exact Nat.le_refl _,fun k _ _=>by rw [e1]⟩,by rw [e1];exact hA.2⟩)
  (fun m pre x A hA hl=>YieldAt.mono (hY m pre x A hA.1 hA.2 hl) ?_) W ((hW.cell (p:=⟨B0,0,none⟩) hB0).trans hc) (hM.below hW) hF ⟨h0,Nat.le_refl _⟩).mono ?_
 ·rintro e W' (⟨rfl,h1,h2,-,h3⟩| ⟨rfl,h1,-,h3⟩)
  ·exact .inl ⟨rfl,⟨h1,Nat.le_trans hA.2 h3⟩,h2⟩
  ·exact .inr ⟨rfl,h1,Nat.le_trans hA.2 h3⟩
 ·rintro e W' ⟨hv,(⟨ys,rfl,h1,h2⟩| ⟨pre,hp,h1,h2⟩)⟩
  ·exact ⟨hv,h2,.inl h1⟩
  ·exact ⟨hv,h2,.inr ⟨pre,hp,h1⟩⟩
end AvlSS
namespace AvlSS
def MapB (w:World) (B:Nat) (L:List (ByteArray × Sn)) (F:List Nat):Prop:=
 ∃r,w.heap[B]? =some (.cells #[.pointer r,.int .i64 L.length] 99 (0,0))∧MapIn w r L F∧B∉F
theorem MapB.fr {S:Nat→Prop} {w w':World} {B:Nat} {L:List (ByteArray × Sn)} {F:List Nat} (h:MapB w B L F) (hf:Fr S w w') (h1:¬S B) (hs:∀b∈F,¬S b):MapB w' B L F:=by
 obtain ⟨r,hB,hM,hn⟩:=h
 exact ⟨r,(hf.block B (lt_of_heap hB) h1).trans hB,hM.fr hf hs,hn⟩
theorem MapB.mapP {w:World} {B:Nat} {L:List (ByteArray × Sn)} {F:List Nat} (h:MapB w B L F):MapP w (some ⟨B,0,none⟩) L F:=by
 obtain ⟨r,hB,hM,hn⟩:=h
 exact .inr ⟨B,0,r,rfl,cell_of_block hB 0,hM⟩
theorem MapB.lt {w:World} {B:Nat} {L:List (ByteArray × Sn)} {F:List Nat} (h:MapB w B L F):B<w.heap.size∧∀b∈F,b<w.heap.size:=by
 obtain ⟨r,hB,hM,hn⟩:=h
 exact ⟨lt_of_heap hB,hM.lt⟩
theorem MapB.new (w:World):MapB (w.alloc (.cells #[.pointer none,.int .i64 0] 99 (0,0))) w.heap.size [] []:=
 ⟨none,heap_new _ _,MapIn.nil _,by simp⟩
def Turned (B:Nat) (F:List Nat) (L':List (ByteArray × Sn)) (w w':World):Prop:=
 ∃F',MapB w' B L' F'∧(∀x∈F',x∈F∨w.heap.size≤x)∧Fr (fun x=>x=B∨x∈F) w w'
theorem PutB (B:Nat) (k:ByteArray) (v:Sn) (L:List (ByteArray × Sn)) (F:List Nat) (w:World) (h:MapB w B L F) (sz:L.length<144115188075855872):
  Calls prog 61 #[.pointer (some ⟨B,0,none⟩),.string k,.agg #[.int .i64 v.t,.int .i64 v.i,.int .i64 v.p,.int .i64 v.r,.string v.s,.string v.o,.int .i64 v.b,.int .i64 v.d,.bool v.g]] w fun e w'=>e=.returned (.bool (!hasL k L))∧Turned B F (insL k v L) w w':=by
 have hlt:=h.lt
 obtain ⟨r,hB,hM,hn⟩:=h
 refine (Put B 0 _ _ k v r L F w hB rfl rfl hM hn sz).mono ?_
 rintro e w' ⟨r',F',rfl,h1,h2,h3,h4⟩
 refine ⟨rfl,F',⟨r',h1,h2,fun hx=>?_⟩,h3,h4⟩
 rcases h3 B hx with h|h
 ·exact hn h
 ·omega
theorem GetB (B:Nat) (k:ByteArray) (L:List (ByteArray × Sn)) (F:List Nat) (w:World) (h:MapB w B L F):
  Calls prog 58 #[.pointer (some ⟨B,0,none⟩),.string k] w (GetPost k L w):=by
 obtain ⟨r,hB,hM,hn⟩:=h
 exact Get_map k B 0 r L F w hM (cell_of_block hB 0)
end AvlSS
end Go.Proofs.YtdpngmgaomghoaaGreatDoor
