/- The maps in order (avl) at one instance: getting; the last key. -/
import Derived.Test.YtgfjpnpbkkadpaaGreatAvlSI1
namespace Go.Proofs.YtgfjpnpbkkadpaaGreat
open Tryz
set_option maxRecDepth 100000
open Go.RowKit
namespace AvlSI
def GetPost (k:ByteArray) (L:List (ByteArray × Int)) (w:World) (e:Ending) (w':World):Prop:=
 e=.returned (.tuple #[.int .i64 ((getL k L).getD 0),.bool (getL k L).isSome])∧w=w'
theorem Get (k:ByteArray) (p:Option Addr) (t:AT ByteArray Int) (w:World) (hI:In w t) (hs:Srt t.toL) (ht:Calls prog 140 #[.pointer p] w fun e w'=>e=.returned (.pointer t.adr)∧w=w'):
  Calls prog 185 #[.pointer p,.string k] w (GetPost k t.toL w):=by
 have HT:=Lib.hid ht
 clear ht
 have HI:=Lib.hid hI;have HS:=Lib.hid hs
 clear hI hs
 go_enter func185,ntmps185
 go_wp2_with fail
 refine HT.out.mono ?_
 rintro e w1 ⟨rfl,rfl⟩
 go_wp2_with fail
 go_loopg [6] t.size (fun gk p wr=>w=wr∧∃s:AT ByteArray Int,p=.pointer s.adr∧In w s∧Srt s.toL∧getL k t.toL=getL k s.toL∧s.size=gk)
 case atStart=>exact ⟨rfl,t,rfl,HI.out,HS.out,rfl,rfl⟩
 case round=>
  obtain ⟨rfl,s,rfl,hI,hs,hg,hk⟩:=hrel
  have HG:=Lib.hid hg;have HK:=Lib.hid hk
  clear hg hk HT HI HS
  cases s with
  |nil=>
   clear hI hs
   rw [AT.adr_nil]
   go_wp2_with fail
   go_ret2
   unfold GetPost
   rw [HG.out]
   exact ⟨rfl,rfl⟩
  |node b k' v' l r d=>
   rw [AT.adr_node]
   obtain ⟨hb,hl,hr⟩:=hI
   obtain ⟨c0,c2,c3,-,-⟩:=cells hb
   have c1:w.cell? ⟨b,1,none⟩=some (.int .i64 v'):=by rw [cell_of_block hb];rfl
   rw [AT.toL] at hs HG
   rw [AT.size] at HK
   clear hb
   by_cases h1:Ord.lt k k'=true
   ·have th1:Op.bytesLess k.toList k'.toList=true:=h1;have uh1:Op.bytesLess k'.toList k.toList=false:=Ord.asymm h1;have yh1:(k.toList==k'.toList)=false:=Bl.ne h1;have zh1:(k'.toList==k.toList)=false:=Bl.ne' h1
    have _nh1:True:=trivial
    have HG':=Lib.hid (HG.out.trans (getL_low hs h1))
    have HS:=Lib.hid hs.left
    clear HG hs
    go_wp2_with fail
    go_roundg l.size
    case rel=>exact ⟨rfl,l,rfl,hl,HS.out,HG'.out,rfl⟩
    case measure=>have:=HK.out;omega
   ·by_cases h2:Ord.lt k' k=true
    ·have th2:Op.bytesLess k'.toList k.toList=true:=h2;have uh2:Op.bytesLess k.toList k'.toList=false:=Ord.asymm h2;have yh2:(k'.toList==k.toList)=false:=Bl.ne h2;have zh2:(k.toList==k'.toList)=false:=Bl.ne' h2
     have _nh2:True:=trivial
     have HG':=Lib.hid (HG.out.trans (getL_high hs h2))
     have HS:=Lib.hid hs.right.tail
     clear HG hs
     go_wp2_with fail
     go_roundg r.size
     case rel=>exact ⟨rfl,r,rfl,hr,HS.out,HG'.out,rfl⟩
     case measure=>have:=HK.out;omega
    ·obtain rfl:k=k':=Ord.tri _ _ (by simpa using h1) (by simpa using h2)
     have _nk:(k.toList==k.toList)=true:=by simp
     have HG':=Lib.hid (HG.out.trans (getL_same hs))
     clear HG hs
     go_wp2_with fail
     go_ret2
     unfold GetPost
     rw [HG'.out]
     exact ⟨rfl,rfl⟩
theorem Get_map (k:ByteArray) (B off:Nat) (r:Option Addr) (L:List (ByteArray × Int)) (F:List Nat) (w:World) (hM:MapIn w r L F) (h:w.cell? ⟨B,off,none⟩=some (.pointer r)):
  Calls prog 185 #[.pointer (some ⟨B,off,none⟩),.string k] w (GetPost k L w):=by
 obtain ⟨t,rfl,rfl,-,hI,-,-,-,hs⟩:=hM
 exact Get k _ t w hI hs (top _ _ w rfl h)
end AvlSI
set_option maxRecDepth 100000
set_option maxHeartbeats 1000000
open Go.RowKit Go.Shelf
attribute [local go_sem] Oper.semAt_some
namespace AvlSI
open Tryz renaming func141→xFn_give,ntmps141→xTn_give
abbrev encs (x:ByteArray × Int):Array Value:= #[.string x.1,.int .i64 x.2]
theorem In.kept {S:List Nat} {w w':World} {t:AT ByteArray Int} (h:In w t) (hk:Kept S w w') (hs:∀b∈t.fp,b∈S):In w' t:=AvlZ.zh_In_kept
theorem give_nil (n:Nat) (l:Nat) (q:Option Addr) (W:World):
  CallsIn Fence.wide n prog 141 #[.pointer none,.pointer q,.func (.yield l) #[] #[]] W fun e W'=>e=.returned (.bool true)∧W=W':=AvlZ.zh_give_nil
theorem step_all (n:Nat) (l:Nat) (b:Nat) (k:ByteArray) (v:Int) (tl tr:AT ByteArray Int) (d:Int) (W:World) (A3:World→Prop) (B:World→Prop)
  (hb:W.heap[b]? =some (.cells (blk k v tl.adr tr.adr d) 275 (0,0)))
  (ih1:∀W0:World,W0.heap=W.heap→W0.os=W.os→W0.tape=W.tape→W0.output=W.output→CallsIn Fence.wide (n-1) prog 141 #[.pointer tl.adr,.pointer none,.func (.yield l) #[] #[]] W0 fun e W1=>(e=.returned (.bool true)∧W1.cell? ⟨b,0,none⟩=some (.string k)∧W1.cell? ⟨b,1,none⟩=some (.int .i64 v)∧
    YieldAt Fence.wide (n-1) prog l #[.string k,.int .i64 v] W1 fun e W2=>(e=.returned (.bool true)∧W2.cell? ⟨b,3,none⟩=some (.pointer tr.adr)∧
     CallsIn Fence.wide (n-1) prog 141 #[.pointer tr.adr,.pointer none,.func (.yield l) #[] #[]] W2 fun e W3=>(e=.returned (.bool true)∧A3 W3)∨(e=.returned (.bool false)∧B W3))∨(e=.returned (.bool false)∧B W2))∨(e=.returned (.bool false)∧B W1)):
  CallsIn Fence.wide n prog 141 #[.pointer (some ⟨b,0,none⟩),.pointer none,.func (.yield l) #[] #[]] W fun e W'=>(e=.returned (.bool true)∧A3 W')∨(e=.returned (.bool false)∧B W'):=AvlZ.zh_step_all
section
variable (l:Nat) (LL:List (ByteArray × Int)) (FP:List Nat) (J Jx:List (ByteArray × Int)→World→Prop)
 (hJd:∀pre W W',J pre W→W'.heap=W.heap→W'.os=W.os→W'.tape=W.tape→W'.output=W.output→J pre W')
 (hY:∀m pre x W,J pre W→pre++ [x]<+:LL→YieldAt Fence.wide m prog l (encs x) W fun e W'=>
  (e=.returned (.bool true)∧J (pre++ [x]) W'∧Kept FP W W')∨(e=.returned (.bool false)∧Jx (pre++ [x]) W'))
include hJd hY
theorem give_all (t:AT ByteArray Int):∀ (n:Nat) (pre:List (ByteArray × Int)) (W:World),In W t→(∀b∈t.fp,b∈FP)→J pre W→pre++t.toL<+:LL→
  CallsIn Fence.wide n prog 141 #[.pointer t.adr,.pointer none,.func (.yield l) #[] #[]] W fun e W'=>
   (e=.returned (.bool true)∧J (pre++t.toL) W'∧Kept FP W W')∨(e=.returned (.bool false)∧∃q,q<+:t.toL∧Jx (pre++q) W'):=AvlZ.zh_give_all
end
end AvlSI
attribute [local go_sem] Oper.semAt_some
namespace AvlSI
def MapP (w:World) (p:Option Addr) (L:List (ByteArray × Int)) (F:List Nat):Prop:=
 (p=none∧L= []∧F= [])∨∃ (B off:Nat) (r:Option Addr),p=some ⟨B,off,none⟩∧w.cell? ⟨B,off,none⟩=some (.pointer r)∧MapIn w r L F
theorem MapP.top {w:World} {p:Option Addr} {L:List (ByteArray × Int)} {F:List Nat} (h:MapP w p L F):∃t:AT ByteArray Int,t.toL=L∧t.fp=F∧In w t∧Calls prog 140 #[.pointer p] w fun e w'=>e=.returned (.pointer t.adr)∧w=w':=by
 rcases h with ⟨rfl,rfl,rfl⟩| ⟨B,off,r,rfl,hc,t,rfl,h2,h3,h4,-⟩
 ·exact ⟨.nil,rfl,rfl,trivial,top_none w⟩
 ·exact ⟨t,h2,h3,h4,AvlSI.top _ _ w rfl hc⟩
theorem MapP.below {w w':World} {p:Option Addr} {L:List (ByteArray × Int)} {F:List Nat} (h:MapP w p L F) (hb:Below w.heap.size w w'):MapP w' p L F:=AvlZ.zi_MapP_below
end AvlSI
end Go.Proofs.YtgfjpnpbkkadpaaGreat
