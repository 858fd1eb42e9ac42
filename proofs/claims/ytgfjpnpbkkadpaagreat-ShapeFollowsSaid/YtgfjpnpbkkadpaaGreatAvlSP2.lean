/- The maps in order (avl) at one instance: getting a value of several cells. -/
import Derived.Test.YtgfjpnpbkkadpaaGreatAvlSP1
namespace Go.Proofs.YtgfjpnpbkkadpaaGreat
open Tryz
set_option maxRecDepth 100000
set_option maxHeartbeats 1000000
open Go.RowKit
namespace AvlSP
theorem results_row_tmp {P:Program} {fn:Func} {p u:Tmp} {ty:TypeId} (h:fn.results= #[.cell p ty,.tmp u]) (tmps:Array Value) (w:World) (g:Nat) (t:TypeId) (cs:Array Value) (fr:Nat × Nat) (d:TypeDesc)
  (hp:tmps.getD p undef=.pointer (some ⟨g,0,none⟩)) (hg:w.heap[g]? =some (.cells cs t fr))
  (hu:P.underlying ty=some d) (hd:(match d with| .struct _| .array _ _=>true|_=>false)=true) (hi:(P.info? ty).map (·.size)=some cs.size):
  (results fn tmps).run P w=.ok (.tuple #[.agg cs,tmps.getD u undef]) w:=by
 have hp':tmps[p]?.getD undef=.pointer (some ⟨g,0,none⟩):=by simpa using hp
 simp [results,h,hp',asAddr,run_loadVar_row w g t ty cs fr d hg hu hd hi]
abbrev zarr:Array Value:= #[.int .i64 0,.int .i64 0,.int .i64 0,.int .i64 0,.int .i64 0,.int .i64 0]
abbrev varr (v:Pq):Array Value:= #[.int .i64 v.t,.int .i64 v.i,.int .i64 v.c,.int .i64 v.d,.int .i64 v.p,.int .i64 v.f]
theorem sets {w:World} {R:Nat} {v v':Pq} (h:w.heap[R]? =some (.cells (varr v') 91 (0,0))):
  (((((((w.setCell ⟨R,0,none⟩ (.int .i64 v.t)).setCell ⟨R,1,none⟩ (.int .i64 v.i)).setCell ⟨R,2,none⟩ (.int .i64 v.c)).setCell ⟨R,3,none⟩ (.int .i64 v.d)).setCell ⟨R,4,none⟩ (.int .i64 v.p)).setCell ⟨R,5,none⟩ (.int .i64 v.f))).heap[R]? =some (.cells (varr v) 91 (0,0))∧Fr (· =R) w (((((((w.setCell ⟨R,0,none⟩ (.int .i64 v.t)).setCell ⟨R,1,none⟩ (.int .i64 v.i)).setCell ⟨R,2,none⟩ (.int .i64 v.c)).setCell ⟨R,3,none⟩ (.int .i64 v.d)).setCell ⟨R,4,none⟩ (.int .i64 v.p)).setCell ⟨R,5,none⟩ (.int .i64 v.f))):=by
 have fs:∀ (w:World) (o:Nat) (u:Value),Fr (· =R) w (w.setCell ⟨R,o,none⟩ u):=fun w o u=>Fr.setCell w ⟨R,o,none⟩ u rfl
 have tr:∀ {x y z:World},Fr (· =R) x y→Fr (· =R) y z→Fr (· =R) x z:=fun h k=>h.trans k (fun _ _ h=>h) (fun _ _ h=>h)
 have h1:=(heap_setCell_same (o:=5) (heap_setCell_same (o:=4) (heap_setCell_same (o:=3) (heap_setCell_same (o:=2) (heap_setCell_same (o:=1) (heap_setCell_same (o:=0) h (.int .i64 v.t)) (.int .i64 v.i)) (.int .i64 v.c)) (.int .i64 v.d)) (.int .i64 v.p)) (.int .i64 v.f))
 simp only [varr,List.setIfInBounds_toArray,List.set_cons_succ,List.set_cons_zero] at h1
 exact ⟨h1,(tr (tr (tr (tr (tr (fs _ _ _) (fs _ _ _)) (fs _ _ _)) (fs _ _ _)) (fs _ _ _)) (fs _ _ _))⟩
def GetPost (k:ByteArray) (L:List (ByteArray × Pq)) (w:World) (e:Ending) (w':World):Prop:=
 e=.returned (.tuple #[.agg (varr ((getL k L).getD (⟨0,0,0,0,0,0⟩:Pq))),.bool (getL k L).isSome])∧Fr (fun _=>False) w w'
theorem Get (k:ByteArray) (p:Option Addr) (t:AT ByteArray Pq) (w:World) (hI:In w t) (hs:Srt t.toL) (ht:∀W,Fr (fun _=>False) w W→Calls prog 143 #[.pointer p] W fun e w'=>e=.returned (.pointer t.adr)∧W=w'):
  Calls prog 81 #[.pointer p,.string k] w (GetPost k t.toL w):=by
 have hf:=Fr.alloc (fun _=>False) w (.cells zarr 91)
 have HT:=Lib.hid (ht _ hf)
 have HI:=Lib.hid (In.fr hI hf (fun _ _ h=>h));have HS:=Lib.hid hs
 have HF:=Lib.hid hf
 have HR:=Lib.hid (heap_new w (.cells zarr 91))
 have HW:=Lib.hid (Nat.le_refl w.heap.size)
 clear ht hI hs hf
 go_enter func81,ntmps81
 go_upto_region 1 with (fail)
 generalize (w.alloc (.cells zarr 91))=w1 at *
 go_wp2_with fail
 refine HT.out.mono ?_
 rintro e w2 ⟨rfl,rfl⟩
 go_wp2_with fail
 go_loopg [6] t.size (fun gk p wr=>w1=wr∧∃s:AT ByteArray Pq,p=.pointer s.adr∧In w1 s∧Srt s.toL∧getL k t.toL=getL k s.toL∧s.size=gk)
 case atStart=>exact ⟨rfl,t,rfl,HI.out,HS.out,rfl,rfl⟩
 case round=>
  obtain ⟨rfl,s,rfl,hI,hs,hg,hk⟩:=hrel
  have HG:=Lib.hid hg;have HK:=Lib.hid hk
  clear hg hk HT HI HS
  cases s with
  |nil=>
   clear hI hs
   rw [AT.adr_nil]
   have HE:Hid (getL k t.toL=none):=HG.out
   have f2:=Fr.alloc (fun _=>False) w1 (.cells zarr 91)
   have HR2:=Lib.hid ((f2.block _ (lt_of_heap HR.out) (fun h=>h)).trans HR.out)
   have HN2:=Lib.hid (heap_new w1 (.cells zarr 91))
   have HF2:=Lib.hid (HF.out.trans f2 (T:=fun _=>False) (fun _ _ h=>h) (fun _ _ h=>h))
   clear f2
   go_upto_region 8 with (fail)
   generalize (w1.alloc (.cells zarr 91))=w2 at *
   have q0:w2.frozen? ⟨w.heap.size,0,none⟩=false:=free_of_block HR2.out 0
   have r0:w2.cell? ⟨w.heap.size,0,none⟩=some (.int .i64 0):=cell_of_block HR2.out 0
   have q1:w2.frozen? ⟨w.heap.size,1,none⟩=false:=free_of_block HR2.out 1
   have r1:w2.cell? ⟨w.heap.size,1,none⟩=some (.int .i64 0):=cell_of_block HR2.out 1
   have q2:w2.frozen? ⟨w.heap.size,2,none⟩=false:=free_of_block HR2.out 2
   have r2:w2.cell? ⟨w.heap.size,2,none⟩=some (.int .i64 0):=cell_of_block HR2.out 2
   have q3:w2.frozen? ⟨w.heap.size,3,none⟩=false:=free_of_block HR2.out 3
   have r3:w2.cell? ⟨w.heap.size,3,none⟩=some (.int .i64 0):=cell_of_block HR2.out 3
   have q4:w2.frozen? ⟨w.heap.size,4,none⟩=false:=free_of_block HR2.out 4
   have r4:w2.cell? ⟨w.heap.size,4,none⟩=some (.int .i64 0):=cell_of_block HR2.out 4
   have q5:w2.frozen? ⟨w.heap.size,5,none⟩=false:=free_of_block HR2.out 5
   have r5:w2.cell? ⟨w.heap.size,5,none⟩=some (.int .i64 0):=cell_of_block HR2.out 5
   have n0:w2.cell? ⟨w1.heap.size,0,none⟩=some (.int .i64 0):=cell_of_block HN2.out 0
   have n1:w2.cell? ⟨w1.heap.size,1,none⟩=some (.int .i64 0):=cell_of_block HN2.out 1
   have n2:w2.cell? ⟨w1.heap.size,2,none⟩=some (.int .i64 0):=cell_of_block HN2.out 2
   have n3:w2.cell? ⟨w1.heap.size,3,none⟩=some (.int .i64 0):=cell_of_block HN2.out 3
   have n4:w2.cell? ⟨w1.heap.size,4,none⟩=some (.int .i64 0):=cell_of_block HN2.out 4
   have n5:w2.cell? ⟨w1.heap.size,5,none⟩=some (.int .i64 0):=cell_of_block HN2.out 5
   obtain ⟨hs1,hs2⟩:=sets (v:=(⟨0,0,0,0,0,0⟩:Pq)) (v':=(⟨0,0,0,0,0,0⟩:Pq)) HR2.out
   have HS1:=Lib.hid hs1
   have HS2:=Lib.hid (HF2.out.trans hs2 (T:=fun _=>False) (fun _ _ h=>h) (fun i hi e=>by have:=HW.out;omega))
   clear hs1 hs2
   go_wp2_with fail
   exact bodyPost_ret (results_row_tmp rfl _ _ w.heap.size 91 _ (0,0) _ rfl HS1.out underlying91 rfl (by kernel_rfl)) rfl ⟨by rw [HE.out];rfl,HS2.out⟩
  |node b k' v' l r d=>
   rw [AT.adr_node]
   obtain ⟨hb,hl,hr⟩:=hI
   obtain ⟨c0,c2,c3,-,-⟩:=cells hb
   have c1:w1.cell? ⟨b,1,none⟩=some (.int .i64 v'.t)∧w1.cell? ⟨b,2,none⟩=some (.int .i64 v'.i)∧w1.cell? ⟨b,3,none⟩=some (.int .i64 v'.c)∧w1.cell? ⟨b,4,none⟩=some (.int .i64 v'.d)∧w1.cell? ⟨b,5,none⟩=some (.int .i64 v'.p)∧w1.cell? ⟨b,6,none⟩=some (.int .i64 v'.f):=⟨cell_of_block hb 1,cell_of_block hb 2,cell_of_block hb 3,cell_of_block hb 4,cell_of_block hb 5,cell_of_block hb 6⟩
   rw [AT.toL] at hs HG
   rw [AT.size] at HK
   clear hb
   by_cases h1:Ord.lt k k'=true
   ·have th1:Op.bytesLess k.toList k'.toList=true:=h1;have uh1:Op.bytesLess k'.toList k.toList=false:=Ord.asymm h1;have yh1:(k.toList==k'.toList)=false:=Bl.ne h1;have zh1:(k'.toList==k.toList)=false:=Bl.ne' h1
    have _nh1:True:=trivial
    have HG':=Lib.hid (HG.out.trans (getL_low hs h1))
    have HS:=Lib.hid hs.left
    clear HG hs c1
    go_wp2_with fail
    go_roundg l.size
    case rel=>exact ⟨rfl,l,rfl,hl,HS.out,HG'.out,rfl⟩
    case measure=>have:=HK.out;omega
   ·by_cases h2:Ord.lt k' k=true
    ·have th2:Op.bytesLess k'.toList k.toList=true:=h2;have uh2:Op.bytesLess k.toList k'.toList=false:=Ord.asymm h2;have yh2:(k'.toList==k.toList)=false:=Bl.ne h2;have zh2:(k.toList==k'.toList)=false:=Bl.ne' h2
     have _nh2:True:=trivial
     have HG':=Lib.hid (HG.out.trans (getL_high hs h2))
     have HS:=Lib.hid hs.right.tail
     clear HG hs c1
     go_wp2_with fail
     go_roundg r.size
     case rel=>exact ⟨rfl,r,rfl,hr,HS.out,HG'.out,rfl⟩
     case measure=>have:=HK.out;omega
    ·obtain rfl:k=k':=Ord.tri _ _ (by simpa using h1) (by simpa using h2)
     have _nk:(k.toList==k.toList)=true:=by simp
     have HE:Hid (getL k t.toL=some v'):=HG.out.trans (getL_same hs)
     clear HG hs
     obtain ⟨y0,y1,y2,y3,y4,y5⟩:=c1
     have q0:w1.frozen? ⟨w.heap.size,0,none⟩=false:=free_of_block HR.out 0
     have r0:w1.cell? ⟨w.heap.size,0,none⟩=some (.int .i64 0):=cell_of_block HR.out 0
     have q1:w1.frozen? ⟨w.heap.size,1,none⟩=false:=free_of_block HR.out 1
     have r1:w1.cell? ⟨w.heap.size,1,none⟩=some (.int .i64 0):=cell_of_block HR.out 1
     have q2:w1.frozen? ⟨w.heap.size,2,none⟩=false:=free_of_block HR.out 2
     have r2:w1.cell? ⟨w.heap.size,2,none⟩=some (.int .i64 0):=cell_of_block HR.out 2
     have q3:w1.frozen? ⟨w.heap.size,3,none⟩=false:=free_of_block HR.out 3
     have r3:w1.cell? ⟨w.heap.size,3,none⟩=some (.int .i64 0):=cell_of_block HR.out 3
     have q4:w1.frozen? ⟨w.heap.size,4,none⟩=false:=free_of_block HR.out 4
     have r4:w1.cell? ⟨w.heap.size,4,none⟩=some (.int .i64 0):=cell_of_block HR.out 4
     have q5:w1.frozen? ⟨w.heap.size,5,none⟩=false:=free_of_block HR.out 5
     have r5:w1.cell? ⟨w.heap.size,5,none⟩=some (.int .i64 0):=cell_of_block HR.out 5
     obtain ⟨hs1,hs2⟩:=sets (v:=v') (v':=(⟨0,0,0,0,0,0⟩:Pq)) HR.out
     have HS1:=Lib.hid hs1
     have HS2:=Lib.hid (HF.out.trans hs2 (T:=fun _=>False) (fun _ _ h=>h) (fun i hi e=>by have:=HW.out;omega))
     clear hs1 hs2
     go_wp2_with fail
     exact bodyPost_ret (results_row_tmp rfl _ _ w.heap.size 91 _ (0,0) _ rfl HS1.out underlying91 rfl (by kernel_rfl)) rfl ⟨by rw [HE.out];rfl,HS2.out⟩
theorem Get_map (k:ByteArray) (B off:Nat) (r:Option Addr) (L:List (ByteArray × Pq)) (F:List Nat) (w:World) (hM:MapIn w r L F) (h:w.cell? ⟨B,off,none⟩=some (.pointer r)):
  Calls prog 81 #[.pointer (some ⟨B,off,none⟩),.string k] w (GetPost k L w):=AvlZ.zg_Get_map
end AvlSP
set_option maxRecDepth 100000
set_option maxHeartbeats 1000000
open Go.RowKit Go.Shelf
attribute [local go_sem] Oper.semAt_some
namespace AvlSP
open Tryz renaming func159→xFn_give,ntmps159→xTn_give
abbrev encs (x:ByteArray × Pq):Array Value:= #[.string x.1,.agg #[.int .i64 x.2.t,.int .i64 x.2.i,.int .i64 x.2.c,.int .i64 x.2.d,.int .i64 x.2.p,.int .i64 x.2.f]]
theorem In.kept {S:List Nat} {w w':World} {t:AT ByteArray Pq} (h:In w t) (hk:Kept S w w') (hs:∀b∈t.fp,b∈S):In w' t:=AvlZ.zh_In_kept
theorem give_nil (n:Nat) (l:Nat) (q:Option Addr) (W:World):
  CallsIn Fence.wide n prog 159 #[.pointer none,.pointer q,.func (.yield l) #[] #[]] W fun e W'=>e=.returned (.bool true)∧W=W':=AvlZ.zh_give_nil
theorem step_all (n:Nat) (l:Nat) (b:Nat) (k:ByteArray) (v:Pq) (tl tr:AT ByteArray Pq) (d:Int) (W:World) (A3:World→Prop) (B:World→Prop)
  (hb:W.heap[b]? =some (.cells (blk k v tl.adr tr.adr d) 218 (0,0)))
  (ih1:∀W0:World,W0.heap=W.heap→W0.os=W.os→W0.tape=W.tape→W0.output=W.output→CallsIn Fence.wide (n-1) prog 159 #[.pointer tl.adr,.pointer none,.func (.yield l) #[] #[]] W0 fun e W1=>(e=.returned (.bool true)∧W1.cell? ⟨b,0,none⟩=some (.string k)∧(W1.cell? ⟨b,1,none⟩=some (.int .i64 v.t)∧W1.cell? ⟨b,2,none⟩=some (.int .i64 v.i)∧W1.cell? ⟨b,3,none⟩=some (.int .i64 v.c)∧W1.cell? ⟨b,4,none⟩=some (.int .i64 v.d)∧W1.cell? ⟨b,5,none⟩=some (.int .i64 v.p)∧W1.cell? ⟨b,6,none⟩=some (.int .i64 v.f))∧
    YieldAt Fence.wide (n-1) prog l #[.string k,.agg #[.int .i64 v.t,.int .i64 v.i,.int .i64 v.c,.int .i64 v.d,.int .i64 v.p,.int .i64 v.f]] W1 fun e W2=>(e=.returned (.bool true)∧W2.cell? ⟨b,8,none⟩=some (.pointer tr.adr)∧
     CallsIn Fence.wide (n-1) prog 159 #[.pointer tr.adr,.pointer none,.func (.yield l) #[] #[]] W2 fun e W3=>(e=.returned (.bool true)∧A3 W3)∨(e=.returned (.bool false)∧B W3))∨(e=.returned (.bool false)∧B W2))∨(e=.returned (.bool false)∧B W1)):
  CallsIn Fence.wide n prog 159 #[.pointer (some ⟨b,0,none⟩),.pointer none,.func (.yield l) #[] #[]] W fun e W'=>(e=.returned (.bool true)∧A3 W')∨(e=.returned (.bool false)∧B W'):=AvlZ.zh_step_all
section
variable (l:Nat) (LL:List (ByteArray × Pq)) (FP:List Nat) (J Jx:List (ByteArray × Pq)→World→Prop)
 (hJd:∀pre W W',J pre W→W'.heap=W.heap→W'.os=W.os→W'.tape=W.tape→W'.output=W.output→J pre W')
 (hY:∀m pre x W,J pre W→pre++ [x]<+:LL→YieldAt Fence.wide m prog l (encs x) W fun e W'=>
  (e=.returned (.bool true)∧J (pre++ [x]) W'∧Kept FP W W')∨(e=.returned (.bool false)∧Jx (pre++ [x]) W'))
include hJd hY
theorem give_all (t:AT ByteArray Pq):∀ (n:Nat) (pre:List (ByteArray × Pq)) (W:World),In W t→(∀b∈t.fp,b∈FP)→J pre W→pre++t.toL<+:LL→
  CallsIn Fence.wide n prog 159 #[.pointer t.adr,.pointer none,.func (.yield l) #[] #[]] W fun e W'=>
   (e=.returned (.bool true)∧J (pre++t.toL) W'∧Kept FP W W')∨(e=.returned (.bool false)∧∃q,q<+:t.toL∧Jx (pre++q) W'):=by
 induction t with
 |nil=>
  intro n pre W _ _ hJ _
  refine (give_nil n l none W).mono ?_
  rintro e W' ⟨rfl,rfl⟩
  exact .inl ⟨rfl,by simpa [AT.toL] using hJ,Kept.refl _ _⟩
 |node b k v tl tr d ihl ihr=>
  intro n pre W hI hfp hJ hN
  rw [AT.toL] at hN
  have hfl:∀x∈tl.fp,x∈FP:=fun x hx=>hfp x (AT.mem_node.2 (.inr (.inl hx)))
  have hfr:∀x∈tr.fp,x∈FP:=fun x hx=>hfp x (AT.mem_node.2 (.inr (.inr hx)))
  have hfb:b∈FP:=hfp b (AT.mem_node.2 (.inl rfl))
  obtain ⟨hb,hl,hr⟩:=hI
  refine (step_all n l b k v tl tr d W (fun W'=>J (pre++(AT.node b k v tl tr d).toL) W'∧Kept FP W W') (fun W'=>∃q,q<+:(AT.node b k v tl tr d).toL∧Jx (pre++q) W') hb ?_)
  intro W0 e1 e2 e3 e4
  have hk0:Kept FP W W0:=fun x _=>by rw [e1]
  refine (ihl (n-1) pre W0 (In.kept hl hk0 hfl) hfl (hJd _ _ _ hJ e1 e2 e3 e4) (List.IsPrefix.trans (by simp) hN)).mono ?_
  rintro e W1 (⟨rfl,hJ1,hk1⟩| ⟨rfl,q,hq,hx⟩)
  ·have hk01:=hk0.trans hk1
   have hb1:=(hk01 b hfb).trans hb
   obtain ⟨c0,-,-,-,-⟩:=cells hb1
   have c1:W1.cell? ⟨b,1,none⟩=some (.int .i64 v.t)∧W1.cell? ⟨b,2,none⟩=some (.int .i64 v.i)∧W1.cell? ⟨b,3,none⟩=some (.int .i64 v.c)∧W1.cell? ⟨b,4,none⟩=some (.int .i64 v.d)∧W1.cell? ⟨b,5,none⟩=some (.int .i64 v.p)∧W1.cell? ⟨b,6,none⟩=some (.int .i64 v.f):=⟨(cell_of_block hb1 1),(cell_of_block hb1 2),(cell_of_block hb1 3),(cell_of_block hb1 4),(cell_of_block hb1 5),(cell_of_block hb1 6)⟩
   refine .inl ⟨rfl,c0,c1,YieldAt.mono (hY (n-1) _ (k,v) W1 hJ1 (List.IsPrefix.trans ⟨tr.toL,by simp⟩ hN)) ?_⟩
   rintro e W2 (⟨rfl,hJ2,hk2⟩| ⟨rfl,hx⟩)
   ·have hk02:=hk01.trans hk2
    have hb2:=(hk02 b hfb).trans hb
    obtain ⟨-,-,c3,-,-⟩:=cells hb2
    refine .inl ⟨rfl,c3,?_⟩
    refine (ihr (n-1) _ W2 (In.kept hr hk02 hfr) hfr hJ2 (by simpa [List.append_assoc] using hN)).mono ?_
    rintro e W3 (⟨rfl,hJ3,hk3⟩| ⟨rfl,q,hq,hx⟩)
    ·exact .inl ⟨rfl,by simpa [AT.toL,List.append_assoc] using hJ3,hk02.trans hk3⟩
    ·obtain ⟨r,hr'⟩:=hq
     exact .inr ⟨rfl,tl.toL++(k,v)::q,⟨r,by simp [AT.toL,←hr']⟩,by simpa [List.append_assoc] using hx⟩
   ·exact .inr ⟨rfl,tl.toL++ [(k,v)],⟨tr.toL,by simp [AT.toL]⟩,by simpa [List.append_assoc] using hx⟩
  ·exact .inr ⟨rfl,q,hq.trans (by simp [AT.toL]),hx⟩
end
end AvlSP
set_option maxHeartbeats 1000000
attribute [local go_sem] Oper.semAt_some
namespace AvlSP
def MapP (w:World) (p:Option Addr) (L:List (ByteArray × Pq)) (F:List Nat):Prop:=
 (p=none∧L= []∧F= [])∨∃ (B off:Nat) (r:Option Addr),p=some ⟨B,off,none⟩∧w.cell? ⟨B,off,none⟩=some (.pointer r)∧MapIn w r L F
theorem MapP.top {w:World} {p:Option Addr} {L:List (ByteArray × Pq)} {F:List Nat} (h:MapP w p L F):∃t:AT ByteArray Pq,t.toL=L∧t.fp=F∧In w t∧Calls prog 143 #[.pointer p] w fun e w'=>e=.returned (.pointer t.adr)∧w=w':=by
 rcases h with ⟨rfl,rfl,rfl⟩| ⟨B,off,r,rfl,hc,t,rfl,h2,h3,h4,-⟩
 ·exact ⟨.nil,rfl,rfl,trivial,top_none w⟩
 ·exact ⟨t,h2,h3,h4,AvlSP.top _ _ w rfl hc⟩
theorem MapP.below {w w':World} {p:Option Addr} {L:List (ByteArray × Pq)} {F:List Nat} (h:MapP w p L F) (hb:Below w.heap.size w w'):MapP w' p L F:=AvlZ.zi_MapP_below
theorem All1 (n l:Nat) (FP:List Nat) (J Jx:List (ByteArray × Pq)→World→Prop) (B0:Nat) (p:Option Addr) (L:List (ByteArray × Pq)) (F:List Nat)
  (hJd:∀pre W W',J pre W→W'.heap=W.heap→W'.os=W.os→W'.tape=W.tape→W'.output=W.output→J pre W')
  (hY:∀m pre x W,J pre W→pre++ [x]<+:L→YieldAt Fence.wide m prog l (encs x) W fun e W'=>
   (e=.returned (.bool true)∧J (pre++ [x]) W'∧Kept FP W W')∨(e=.returned (.bool false)∧Jx (pre++ [x]) W'))
  (W:World) (hc:W.cell? ⟨B0,0,none⟩=some (.pointer p)) (hM:MapP W p L F) (hF:∀b∈F,b∈FP) (h0:J [] W):
  CallsIn Fence.wide n prog 198 #[.func (.yield l) #[] #[],.pointer (some ⟨B0,0,none⟩)] W fun e W'=>(∃v,e=.returned v)∧
   ((∃ys,ys=L∧J ys W')∨(∃pre,pre<+:L∧Jx pre W')):=by
 obtain ⟨t,rfl,rfl,hI,ht⟩:=hM.top
 have hp:=Lib.hid (give_all l t.toL FP J Jx hJd hY t (n-1) [] W hI hF h0 (by simp))
 have HT:=Lib.hid ht
 clear ht hY hM hI
 have hdd:∀k:Nat,(Fence.wide.depth.isSome=true→1≤k):=fun k h=>by cases h
 refine callsIn_of_wp func198 rfl trivial ?_ rfl
 simp only [ntmps198,List.size_toArray,List.length_cons,List.length_nil,Nat.reduceAdd,Nat.reduceSub,Array.replicate_succ,Array.replicate_zero,List.push_toArray,List.append_toArray,List.nil_append,List.cons_append]
 gi_wp2_with fail
 refine ⟨trivial,hdd _,?_⟩
 refine (callsIn_wide.2 HT.out).mono ?_
 rintro e w1 ⟨rfl,rfl⟩
 gi_wp2_with fail
 refine ⟨trivial,hdd _,?_⟩
 refine hp.out.mono ?_
 clear hp
 rintro e W1 (⟨rfl,hJ1,_⟩| ⟨rfl,q,hq,hx⟩)
 ·have HJ:=Lib.hid hJ1
  clear hJ1
  gi_wp2_with fail
  go_end0
  exact ⟨⟨_,rfl⟩,.inl ⟨_,rfl,by simpa using HJ.out⟩⟩
 ·have HX:=Lib.hid hx;have HQ:=Lib.hid hq
  clear hx hq
  gi_wp2_with fail
  go_end0
  exact ⟨⟨_,rfl⟩,.inr ⟨q,HQ.out,by simpa using HX.out⟩⟩
theorem All (p:Option Addr) (w:World):
  Calls prog 149 #[.pointer p] w fun e w'=>e=.returned (.func (.func 198) #[] #[.pointer (some ⟨w.heap.size,0,none⟩)])∧w.alloc (.cells #[.pointer p] 215 (0,0))=w':=by
 go_enter func149,ntmps149
 go_wp2
 go_ret
 exact ⟨rfl,rfl⟩
theorem All_seq (FP:List Nat) (B0:Nat) (p:Option Addr) (L:List (ByteArray × Pq)) (F:List Nat) (w:World)
  (hc:w.cell? ⟨B0,0,none⟩=some (.pointer p)) (hB0:B0<w.heap.size) (hM:MapP w p L F) (hF:∀b∈F,b∈FP):
  SeqP prog 198 #[.pointer (some ⟨B0,0,none⟩)] encs FP 0 L w:=fun n l J Jx W hW hJ _ hY h0=>by
 refine (All1 n l FP (fun pre A=>J pre A∧W.heap.size≤A.heap.size) (fun pre A=>Jx pre A∧W.heap.size≤A.heap.size) B0 p L F
  (fun pre A B hA e1 e2 e3 e4=>⟨hJ pre A B hA.1 ⟨e2,e3,e4,by rw [e1];exact Nat.le_refl _,fun k _ _=>by rw [e1]⟩,by rw [e1];exact hA.2⟩)
  (fun m pre x A hA hl=>YieldAt.mono (hY m pre x A hA.1 hA.2 hl) ?_) W ((hW.cell (p:=⟨B0,0,none⟩) hB0).trans hc) (hM.below hW) hF ⟨h0,Nat.le_refl _⟩).mono ?_
 ·rintro e W' (⟨rfl,h1,h2,-,h3⟩| ⟨rfl,h1,-,h3⟩)
  ·exact .inl ⟨rfl,⟨h1,Nat.le_trans hA.2 h3⟩,h2⟩
  ·exact .inr ⟨rfl,h1,Nat.le_trans hA.2 h3⟩
 ·rintro e W' ⟨hv,(⟨ys,rfl,h1,h2⟩| ⟨pre,hp,h1,h2⟩)⟩
  ·exact ⟨hv,h2,.inl h1⟩
  ·exact ⟨hv,h2,.inr ⟨pre,hp,h1⟩⟩
end AvlSP
end Go.Proofs.YtgfjpnpbkkadpaaGreat
