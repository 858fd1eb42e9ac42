/- The maps in order (avl) at one instance: getting; the last key. -/
import Derived.Test.YtdpngmgaomghoaaGreatDoorAvlSI1
import Derived.Test.YtdpngmgaomghoaaGreatDoorRngs
import Derived.Shelf.Abstract
import Derived.OwnWalkIn
import Derived.Sort.QuietIn
namespace Go.Proofs.YtdpngmgaomghoaaGreatDoor
open Tryz
set_option maxRecDepth 100000
open Go.RowKit
namespace AvlSI
def GetPost (k:ByteArray) (L:List (ByteArray × Int)) (w:World) (e:Ending) (w':World):Prop:=
 e=.returned (.tuple #[.int .i64 ((getL k L).getD 0),.bool (getL k L).isSome])∧w=w'
theorem Get (k:ByteArray) (p:Option Addr) (t:AT ByteArray Int) (w:World) (hI:In w t) (hs:Srt t.toL) (ht:Calls prog 65 #[.pointer p] w fun e w'=>e=.returned (.pointer t.adr)∧w=w'):
  Calls prog 42 #[.pointer p,.string k] w (GetPost k t.toL w):=by
 have HT:=Lib.hid ht
 clear ht
 have HI:=Lib.hid hI;have HS:=Lib.hid hs
 clear hI hs
 go_enter func42,ntmps42
 go_wp2_with fail
 refine HT.out.mono ?_
 rintro e w1 ⟨rfl,rfl⟩
 go_wp2_with fail
 go_loopg [6] t.size (fun gk p wr=>w=wr∧∃s:AT ByteArray Int,p=.pointer s.adr∧In w s∧Srt s.toL∧getL k t.toL=getL k s.toL∧s.size=gk)
 case atStart=>exact ⟨rfl,t,rfl,HI.out,HS.out,rfl,rfl⟩
 case round=>
  obtain ⟨rfl,s,rfl,hI,hs,hg,hk⟩:=hrel
  have HG:=Lib.hid hg;have HK:=Lib.hid hk
  clear hg hk HT HI HS
  cases s with
  |nil=>
   clear hI hs
   rw [AT.adr_nil]
   go_wp2_with fail
   go_ret2
   unfold GetPost
   rw [HG.out]
   exact ⟨rfl,rfl⟩
  |node b k' v' l r d=>
   rw [AT.adr_node]
   obtain ⟨hb,hl,hr⟩:=hI
   obtain ⟨c0,c2,c3,-,-⟩:=cells hb
   have c1:w.cell? ⟨b,1,none⟩=some (.int .i64 v'):=by rw [cell_of_block hb];rfl
   rw [AT.toL] at hs HG
   rw [AT.size] at HK
   clear hb
   by_cases h1:Ord.lt k k'=true
   ·have th1:Op.bytesLess k.toList k'.toList=true:=h1;have uh1:Op.bytesLess k'.toList k.toList=false:=Ord.asymm h1;have yh1:(k.toList==k'.toList)=false:=Bl.ne h1;have zh1:(k'.toList==k.toList)=false:=Bl.ne' h1
    have _nh1:True:=trivial
    have HG':=Lib.hid (HG.out.trans (getL_low hs h1))
    have HS:=Lib.hid hs.left
    clear HG hs
    go_wp2_with fail
    go_roundg l.size
    case rel=>exact ⟨rfl,l,rfl,hl,HS.out,HG'.out,rfl⟩
    case measure=>have:=HK.out;omega
   ·by_cases h2:Ord.lt k' k=true
    ·have th2:Op.bytesLess k'.toList k.toList=true:=h2;have uh2:Op.bytesLess k.toList k'.toList=false:=Ord.asymm h2;have yh2:(k'.toList==k.toList)=false:=Bl.ne h2;have zh2:(k.toList==k'.toList)=false:=Bl.ne' h2
     have _nh2:True:=trivial
     have HG':=Lib.hid (HG.out.trans (getL_high hs h2))
     have HS:=Lib.hid hs.right.tail
     clear HG hs
     go_wp2_with fail
     go_roundg r.size
     case rel=>exact ⟨rfl,r,rfl,hr,HS.out,HG'.out,rfl⟩
     case measure=>have:=HK.out;omega
    ·obtain rfl:k=k':=Ord.tri _ _ (by simpa using h1) (by simpa using h2)
     have _nk:(k.toList==k.toList)=true:=by simp
     have HG':=Lib.hid (HG.out.trans (getL_same hs))
     clear HG hs
     go_wp2_with fail
     go_ret2
     unfold GetPost
     rw [HG'.out]
     exact ⟨rfl,rfl⟩
theorem Get_map (k:ByteArray) (B off:Nat) (r:Option Addr) (L:List (ByteArray × Int)) (F:List Nat) (w:World) (hM:MapIn w r L F) (h:w.cell? ⟨B,off,none⟩=some (.pointer r)):
  Calls prog 42 #[.pointer (some ⟨B,off,none⟩),.string k] w (GetPost k L w):=by
 obtain ⟨t,rfl,rfl,-,hI,-,-,-,hs⟩:=hM
 exact Get k _ t w hI hs (top _ _ w rfl h)
end AvlSI
set_option maxRecDepth 100000
set_option maxHeartbeats 1000000
open Go.RowKit Go.Shelf
attribute [local go_sem] Oper.semAt_some
namespace AvlSI
abbrev encs (x:ByteArray × Int):Array Value:= #[.string x.1,.int .i64 x.2]
theorem In.kept {S:List Nat} {w w':World} {t:AT ByteArray Int} (h:In w t) (hk:Kept S w w') (hs:∀b∈t.fp,b∈S):In w' t:=by
 induction t with
 |nil=>trivial
 |node b k v l r d ihl ihr=>
  obtain ⟨h1,h2,h3⟩:=h
  exact ⟨(hk b (hs b (by simp [AT.fp]))).trans h1,ihl h2 (fun x hx=>hs x (by simp [AT.fp,hx])),ihr h3 (fun x hx=>hs x (by simp [AT.fp,hx]))⟩
theorem give_nil (n:Nat) (l:Nat) (q:Option Addr) (W:World):
  CallsIn Fence.wide n prog 71 #[.pointer none,.pointer q,.func (.yield l) #[] #[]] W fun e W'=>e=.returned (.bool true)∧W=W':=by
 refine callsIn_of_wp func71 rfl trivial ?_ rfl
 simp only [ntmps71,List.size_toArray,List.length_cons,List.length_nil,Nat.reduceAdd,Nat.reduceSub,Array.replicate_succ,Array.replicate_zero,List.push_toArray,List.append_toArray,List.nil_append,List.cons_append]
 gi_wp2
 go_ret
 exact ⟨rfl,rfl⟩
theorem step_all (n:Nat) (l:Nat) (b:Nat) (k:ByteArray) (v:Int) (tl tr:AT ByteArray Int) (d:Int) (W:World) (A3:World→Prop) (B:World→Prop)
  (hb:W.heap[b]? =some (.cells (blk k v tl.adr tr.adr d) 109 (0,0)))
  (ih1:∀W0:World,W0.heap=W.heap→W0.os=W.os→W0.tape=W.tape→W0.output=W.output→CallsIn Fence.wide (n-1) prog 71 #[.pointer tl.adr,.pointer none,.func (.yield l) #[] #[]] W0 fun e W1=>(e=.returned (.bool true)∧W1.cell? ⟨b,0,none⟩=some (.string k)∧W1.cell? ⟨b,1,none⟩=some (.int .i64 v)∧
    YieldAt Fence.wide (n-1) prog l #[.string k,.int .i64 v] W1 fun e W2=>(e=.returned (.bool true)∧W2.cell? ⟨b,3,none⟩=some (.pointer tr.adr)∧
     CallsIn Fence.wide (n-1) prog 71 #[.pointer tr.adr,.pointer none,.func (.yield l) #[] #[]] W2 fun e W3=>(e=.returned (.bool true)∧A3 W3)∨(e=.returned (.bool false)∧B W3))∨(e=.returned (.bool false)∧B W2))∨(e=.returned (.bool false)∧B W1)):
  CallsIn Fence.wide n prog 71 #[.pointer (some ⟨b,0,none⟩),.pointer none,.func (.yield l) #[] #[]] W fun e W'=>(e=.returned (.bool true)∧A3 W')∨(e=.returned (.bool false)∧B W'):=by
 obtain ⟨c0,c2,-,-,-⟩:=cells hb
 clear hb
 have hdd:∀k:Nat,(Fence.wide.depth.isSome=true→1≤k):=fun k h=>by cases h
 refine callsIn_of_wp func71 rfl trivial ?_ rfl
 simp only [ntmps71,List.size_toArray,List.length_cons,List.length_nil,Nat.reduceAdd,Nat.reduceSub,Array.replicate_succ,Array.replicate_zero,List.push_toArray,List.append_toArray,List.nil_append,List.cons_append]
 gi_wp2_with fail
 gi_quiet (fail)
 gi_wp2_with fail
 have IH:=Lib.hid (ih1 (W.drewN (nq+1)) rfl rfl rfl rfl)
 clear ih1
 refine wpIn_region_any (by kernel_rfl) ?_
 change wpAnyIn _ _ _ _ _ _ _ _ _ (World.drew _)
 refine takeV 0 ?_;refine takeV 1 ?_;refine takeV 2 ?_;refine takeV 4 ?_;refine takeV 5 ?_
 refine wpAnyIn_ready (rs:= [3]) (by kernel_rfl) (by simp) ?_
 refine AllReadyIn.cons rfl (fun K hK=>?_) AllReadyIn.nil
 go_simp
 refine hK _ _ ?_
 clear hK K
 refine wpAnyIn_ready (rs:= [6]) (by kernel_rfl) (by simp) ?_
 refine AllReadyIn.cons rfl (fun K hK=>?_) AllReadyIn.nil
 go_simp
 refine ⟨trivial,hdd _,?_⟩
 refine IH.out.mono ?_
 clear IH
 rintro e W1 (⟨rfl,k0,k1,fn,tmps,assign,body,hy,hR⟩| ⟨rfl,hB1⟩)
 rotate_left
 ·refine hK _ _ ?_
  clear hK K
  refine takeV 7 ?_
  go_simp
  refine takeU 8 ?_;refine takeU 9 ?_;refine takeU 10 ?_;refine takeU 11 ?_;refine takeU 12 ?_
  go_simp
  refine takeU 13 ?_;refine takeU 14 ?_;refine takeU 15 ?_;refine takeU 16 ?_
  go_simp
  refine wpAnyIn_ready (rs:= [17]) (by kernel_rfl) (by simp) ?_
  refine AllReadyIn.cons rfl (fun K hK=>?_) AllReadyIn.nil
  go_simp
  first|refine ⟨fun _ _=>trivial,?_⟩|refine ⟨trivial,?_⟩
  refine hK _ _ ?_
  clear hK K
  refine takeV 18 ?_
  go_simp
  refine takeV 19 ?_
  go_simp
  refine takeU 20 ?_;refine takeU 21 ?_;refine takeU 22 ?_;refine takeU 23 ?_;refine takeU 24 ?_
  go_simp
  refine wpAnyIn_ready (rs:= [25]) (by kernel_rfl) (by simp) ?_
  refine AllReadyIn.cons rfl (fun K hK=>?_) AllReadyIn.nil
  go_simp
  first|refine ⟨fun _ _=>trivial,?_⟩|refine ⟨trivial,?_⟩
  refine hK _ _ ?_
  clear hK K
  refine takeV 26 ?_;refine takeV 27 ?_
  refine wpAnyIn_done (by kernel_rfl) ?_ _
  gi_wp2_with fail
  go_ret
  exact .inr ⟨rfl,hB1⟩
 refine hK _ _ ?_
 clear hK K
 refine takeV 7 ?_
 go_simp
 refine takeV 8 ?_;refine takeV 9 ?_;refine takeV 10 ?_;refine takeV 11 ?_;refine takeV 13 ?_;refine takeV 14 ?_;refine takeV 15 ?_
 go_simp
 refine wpAnyIn_ready (rs:= [12,16]) (by kernel_rfl) (by simp) ?_
 refine AllReadyIn.cons rfl (fun K hK=>?_) (AllReadyIn.cons rfl (fun K hK=>?_) AllReadyIn.nil)
 all_goals go_simp
 all_goals (refine hK _ _ ?_;clear hK K)
 ·skip
  refine wpAnyIn_ready (rs:= [16]) (by kernel_rfl) (by simp) ?_
  refine AllReadyIn.cons rfl (fun K hK=>?_) AllReadyIn.nil
  go_simp
  refine hK _ _ ?_
  clear hK K
  refine wpAnyIn_ready (rs:= [17]) (by kernel_rfl) (by simp) ?_
  refine AllReadyIn.cons rfl (fun K hK=>?_) AllReadyIn.nil
  go_simp
  (try refine ⟨hdd _,?_⟩)
  refine hR.mono ?_
  clear hR
  rintro e W2 (⟨rfl,k3,IH3⟩| ⟨rfl,hB1⟩)
  rotate_left
  ·refine hK _ _ ?_
   clear hK K
   refine takeV 18 ?_
   go_simp
   refine takeV 19 ?_
   go_simp
   refine takeU 20 ?_;refine takeU 21 ?_;refine takeU 22 ?_;refine takeU 23 ?_;refine takeU 24 ?_
   go_simp
   refine wpAnyIn_ready (rs:= [25]) (by kernel_rfl) (by simp) ?_
   refine AllReadyIn.cons rfl (fun K hK=>?_) AllReadyIn.nil
   go_simp
   first|refine ⟨fun _ _=>trivial,?_⟩|refine ⟨trivial,?_⟩
   refine hK _ _ ?_
   clear hK K
   refine takeV 26 ?_;refine takeV 27 ?_
   refine wpAnyIn_done (by kernel_rfl) ?_ _
   gi_wp2_with fail
   go_ret
   exact .inr ⟨rfl,hB1⟩
  refine hK _ _ ?_
  clear hK K
  refine takeV 18 ?_
  go_simp
  refine takeV 19 ?_
  go_simp
  refine takeV 20 ?_;refine takeV 21 ?_;refine takeV 22 ?_;refine takeV 24 ?_
  go_simp
  refine wpAnyIn_ready (rs:= [23]) (by kernel_rfl) (by simp) ?_
  refine AllReadyIn.cons rfl (fun K hK=>?_) AllReadyIn.nil
  go_simp
  refine hK _ _ ?_
  clear hK K
  refine wpAnyIn_ready (rs:= [25]) (by kernel_rfl) (by simp) ?_
  refine AllReadyIn.cons rfl (fun K hK=>?_) AllReadyIn.nil
  go_simp
  refine ⟨trivial,hdd _,?_⟩
  refine IH3.mono ?_
  clear IH3
  rintro e W3 (⟨rfl,hA3⟩| ⟨rfl,hB1⟩)
  ·refine hK _ _ ?_
   clear hK K
   refine takeV 26 ?_
   go_simp
   refine takeV 27 ?_
   refine wpAnyIn_done (by kernel_rfl) ?_ _
   gi_wp2_with fail
   go_ret
   exact .inl ⟨rfl,hA3⟩
  ·refine hK _ _ ?_
   clear hK K
   refine takeV 26 ?_
   go_simp
   refine takeV 27 ?_
   refine wpAnyIn_done (by kernel_rfl) ?_ _
   gi_wp2_with fail
   go_ret
   exact .inr ⟨rfl,hB1⟩
 ·skip
  refine wpAnyIn_ready (rs:= [12]) (by kernel_rfl) (by simp) ?_
  refine AllReadyIn.cons rfl (fun K hK=>?_) AllReadyIn.nil
  go_simp
  refine hK _ _ ?_
  clear hK K
  refine wpAnyIn_ready (rs:= [17]) (by kernel_rfl) (by simp) ?_
  refine AllReadyIn.cons rfl (fun K hK=>?_) AllReadyIn.nil
  go_simp
  (try refine ⟨hdd _,?_⟩)
  refine hR.mono ?_
  clear hR
  rintro e W2 (⟨rfl,k3,IH3⟩| ⟨rfl,hB1⟩)
  rotate_left
  ·refine hK _ _ ?_
   clear hK K
   refine takeV 18 ?_
   go_simp
   refine takeV 19 ?_
   go_simp
   refine takeU 20 ?_;refine takeU 21 ?_;refine takeU 22 ?_;refine takeU 23 ?_;refine takeU 24 ?_
   go_simp
   refine wpAnyIn_ready (rs:= [25]) (by kernel_rfl) (by simp) ?_
   refine AllReadyIn.cons rfl (fun K hK=>?_) AllReadyIn.nil
   go_simp
   first|refine ⟨fun _ _=>trivial,?_⟩|refine ⟨trivial,?_⟩
   refine hK _ _ ?_
   clear hK K
   refine takeV 26 ?_;refine takeV 27 ?_
   refine wpAnyIn_done (by kernel_rfl) ?_ _
   gi_wp2_with fail
   go_ret
   exact .inr ⟨rfl,hB1⟩
  refine hK _ _ ?_
  clear hK K
  refine takeV 18 ?_
  go_simp
  refine takeV 19 ?_
  go_simp
  refine takeV 20 ?_;refine takeV 21 ?_;refine takeV 22 ?_;refine takeV 24 ?_
  go_simp
  refine wpAnyIn_ready (rs:= [23]) (by kernel_rfl) (by simp) ?_
  refine AllReadyIn.cons rfl (fun K hK=>?_) AllReadyIn.nil
  go_simp
  refine hK _ _ ?_
  clear hK K
  refine wpAnyIn_ready (rs:= [25]) (by kernel_rfl) (by simp) ?_
  refine AllReadyIn.cons rfl (fun K hK=>?_) AllReadyIn.nil
  go_simp
  refine ⟨trivial,hdd _,?_⟩
  refine IH3.mono ?_
  clear IH3
  rintro e W3 (⟨rfl,hA3⟩| ⟨rfl,hB1⟩)
  ·refine hK _ _ ?_
   clear hK K
   refine takeV 26 ?_
   go_simp
   refine takeV 27 ?_
   refine wpAnyIn_done (by kernel_rfl) ?_ _
   gi_wp2_with fail
   go_ret
   exact .inl ⟨rfl,hA3⟩
  ·refine hK _ _ ?_
   clear hK K
   refine takeV 26 ?_
   go_simp
   refine takeV 27 ?_
   refine wpAnyIn_done (by kernel_rfl) ?_ _
   gi_wp2_with fail
   go_ret
   exact .inr ⟨rfl,hB1⟩
theorem step_from (n:Nat) (l:Nat) (b:Nat) (k:ByteArray) (v:Int) (tl tr:AT ByteArray Int) (d:Int) (W:World) (A3:World→Prop) (B:World→Prop) (Bf:Nat) (kf:ByteArray) (hf:W.cell? ⟨Bf,0,none⟩=some (.string kf)) (hge:Ord.lt k kf=false)
  (hb:W.heap[b]? =some (.cells (blk k v tl.adr tr.adr d) 109 (0,0)))
  (ih1:∀W0:World,W0.heap=W.heap→W0.os=W.os→W0.tape=W.tape→W0.output=W.output→CallsIn Fence.wide (n-1) prog 71 #[.pointer tl.adr,.pointer (some ⟨Bf,0,none⟩),.func (.yield l) #[] #[]] W0 fun e W1=>(e=.returned (.bool true)∧W1.cell? ⟨b,0,none⟩=some (.string k)∧W1.cell? ⟨b,1,none⟩=some (.int .i64 v)∧
    YieldAt Fence.wide (n-1) prog l #[.string k,.int .i64 v] W1 fun e W2=>(e=.returned (.bool true)∧W2.cell? ⟨b,3,none⟩=some (.pointer tr.adr)∧
     CallsIn Fence.wide (n-1) prog 71 #[.pointer tr.adr,.pointer none,.func (.yield l) #[] #[]] W2 fun e W3=>(e=.returned (.bool true)∧A3 W3)∨(e=.returned (.bool false)∧B W3))∨(e=.returned (.bool false)∧B W2))∨(e=.returned (.bool false)∧B W1)):
  CallsIn Fence.wide n prog 71 #[.pointer (some ⟨b,0,none⟩),.pointer (some ⟨Bf,0,none⟩),.func (.yield l) #[] #[]] W fun e W'=>(e=.returned (.bool true)∧A3 W')∨(e=.returned (.bool false)∧B W'):=by
 obtain ⟨c0,c2,-,-,-⟩:=cells hb
 clear hb
 have thge:Op.bytesLess k.toList kf.toList=false:=hge
 have hdd:∀k:Nat,(Fence.wide.depth.isSome=true→1≤k):=fun k h=>by cases h
 refine callsIn_of_wp func71 rfl trivial ?_ rfl
 simp only [ntmps71,List.size_toArray,List.length_cons,List.length_nil,Nat.reduceAdd,Nat.reduceSub,Array.replicate_succ,Array.replicate_zero,List.push_toArray,List.append_toArray,List.nil_append,List.cons_append]
 gi_wp2_with fail
 gi_quiet (fail)
 gi_wp2_with fail
 have IH:=Lib.hid (ih1 (W.drewN (nq+1)) rfl rfl rfl rfl)
 clear ih1
 refine wpIn_region_any (by kernel_rfl) ?_
 change wpAnyIn _ _ _ _ _ _ _ _ _ (World.drew _)
 refine takeV 0 ?_;refine takeV 1 ?_;refine takeV 2 ?_;refine takeV 4 ?_;refine takeV 5 ?_
 refine wpAnyIn_ready (rs:= [3]) (by kernel_rfl) (by simp) ?_
 refine AllReadyIn.cons rfl (fun K hK=>?_) AllReadyIn.nil
 go_simp
 refine hK _ _ ?_
 clear hK K
 refine wpAnyIn_ready (rs:= [6]) (by kernel_rfl) (by simp) ?_
 refine AllReadyIn.cons rfl (fun K hK=>?_) AllReadyIn.nil
 go_simp
 refine ⟨trivial,hdd _,?_⟩
 refine IH.out.mono ?_
 clear IH
 rintro e W1 (⟨rfl,k0,k1,fn,tmps,assign,body,hy,hR⟩| ⟨rfl,hB1⟩)
 rotate_left
 ·refine hK _ _ ?_
  clear hK K
  refine takeV 7 ?_
  go_simp
  refine takeU 8 ?_;refine takeU 9 ?_;refine takeU 10 ?_;refine takeU 11 ?_;refine takeU 12 ?_
  go_simp
  refine takeU 13 ?_;refine takeU 14 ?_;refine takeU 15 ?_;refine takeU 16 ?_
  go_simp
  refine wpAnyIn_ready (rs:= [17]) (by kernel_rfl) (by simp) ?_
  refine AllReadyIn.cons rfl (fun K hK=>?_) AllReadyIn.nil
  go_simp
  first|refine ⟨fun _ _=>trivial,?_⟩|refine ⟨trivial,?_⟩
  refine hK _ _ ?_
  clear hK K
  refine takeV 18 ?_
  go_simp
  refine takeV 19 ?_
  go_simp
  refine takeU 20 ?_;refine takeU 21 ?_;refine takeU 22 ?_;refine takeU 23 ?_;refine takeU 24 ?_
  go_simp
  refine wpAnyIn_ready (rs:= [25]) (by kernel_rfl) (by simp) ?_
  refine AllReadyIn.cons rfl (fun K hK=>?_) AllReadyIn.nil
  go_simp
  first|refine ⟨fun _ _=>trivial,?_⟩|refine ⟨trivial,?_⟩
  refine hK _ _ ?_
  clear hK K
  refine takeV 26 ?_;refine takeV 27 ?_
  refine wpAnyIn_done (by kernel_rfl) ?_ _
  gi_wp2_with fail
  go_ret
  exact .inr ⟨rfl,hB1⟩
 refine hK _ _ ?_
 clear hK K
 refine takeV 7 ?_
 go_simp
 refine takeV 8 ?_;refine takeV 9 ?_;refine takeV 10 ?_;refine takeV 11 ?_;refine takeV 13 ?_;refine takeV 14 ?_;refine takeV 15 ?_
 go_simp
 refine wpAnyIn_ready (rs:= [12,16]) (by kernel_rfl) (by simp) ?_
 refine AllReadyIn.cons rfl (fun K hK=>?_) (AllReadyIn.cons rfl (fun K hK=>?_) AllReadyIn.nil)
 all_goals go_simp
 all_goals (refine hK _ _ ?_;clear hK K)
 ·skip
  refine wpAnyIn_ready (rs:= [16]) (by kernel_rfl) (by simp) ?_
  refine AllReadyIn.cons rfl (fun K hK=>?_) AllReadyIn.nil
  go_simp
  refine hK _ _ ?_
  clear hK K
  refine wpAnyIn_ready (rs:= [17]) (by kernel_rfl) (by simp) ?_
  refine AllReadyIn.cons rfl (fun K hK=>?_) AllReadyIn.nil
  go_simp
  (try refine ⟨hdd _,?_⟩)
  refine hR.mono ?_
  clear hR
  rintro e W2 (⟨rfl,k3,IH3⟩| ⟨rfl,hB1⟩)
  rotate_left
  ·refine hK _ _ ?_
   clear hK K
   refine takeV 18 ?_
   go_simp
   refine takeV 19 ?_
   go_simp
   refine takeU 20 ?_;refine takeU 21 ?_;refine takeU 22 ?_;refine takeU 23 ?_;refine takeU 24 ?_
   go_simp
   refine wpAnyIn_ready (rs:= [25]) (by kernel_rfl) (by simp) ?_
   refine AllReadyIn.cons rfl (fun K hK=>?_) AllReadyIn.nil
   go_simp
   first|refine ⟨fun _ _=>trivial,?_⟩|refine ⟨trivial,?_⟩
   refine hK _ _ ?_
   clear hK K
   refine takeV 26 ?_;refine takeV 27 ?_
   refine wpAnyIn_done (by kernel_rfl) ?_ _
   gi_wp2_with fail
   go_ret
   exact .inr ⟨rfl,hB1⟩
  refine hK _ _ ?_
  clear hK K
  refine takeV 18 ?_
  go_simp
  refine takeV 19 ?_
  go_simp
  refine takeV 20 ?_;refine takeV 21 ?_;refine takeV 22 ?_;refine takeV 24 ?_
  go_simp
  refine wpAnyIn_ready (rs:= [23]) (by kernel_rfl) (by simp) ?_
  refine AllReadyIn.cons rfl (fun K hK=>?_) AllReadyIn.nil
  go_simp
  refine hK _ _ ?_
  clear hK K
  refine wpAnyIn_ready (rs:= [25]) (by kernel_rfl) (by simp) ?_
  refine AllReadyIn.cons rfl (fun K hK=>?_) AllReadyIn.nil
  go_simp
  refine ⟨trivial,hdd _,?_⟩
  refine IH3.mono ?_
  clear IH3
  rintro e W3 (⟨rfl,hA3⟩| ⟨rfl,hB1⟩)
  ·refine hK _ _ ?_
   clear hK K
   refine takeV 26 ?_
   go_simp
   refine takeV 27 ?_
   refine wpAnyIn_done (by kernel_rfl) ?_ _
   gi_wp2_with fail
   go_ret
   exact .inl ⟨rfl,hA3⟩
  ·refine hK _ _ ?_
   clear hK K
   refine takeV 26 ?_
   go_simp
   refine takeV 27 ?_
   refine wpAnyIn_done (by kernel_rfl) ?_ _
   gi_wp2_with fail
   go_ret
   exact .inr ⟨rfl,hB1⟩
 ·skip
  refine wpAnyIn_ready (rs:= [12]) (by kernel_rfl) (by simp) ?_
  refine AllReadyIn.cons rfl (fun K hK=>?_) AllReadyIn.nil
  go_simp
  refine hK _ _ ?_
  clear hK K
  refine wpAnyIn_ready (rs:= [17]) (by kernel_rfl) (by simp) ?_
  refine AllReadyIn.cons rfl (fun K hK=>?_) AllReadyIn.nil
  go_simp
  (try refine ⟨hdd _,?_⟩)
  refine hR.mono ?_
  clear hR
  rintro e W2 (⟨rfl,k3,IH3⟩| ⟨rfl,hB1⟩)
  rotate_left
  ·refine hK _ _ ?_
   clear hK K
   refine takeV 18 ?_
   go_simp
   refine takeV 19 ?_
   go_simp
   refine takeU 20 ?_;refine takeU 21 ?_;refine takeU 22 ?_;refine takeU 23 ?_;refine takeU 24 ?_
   go_simp
   refine wpAnyIn_ready (rs:= [25]) (by kernel_rfl) (by simp) ?_
   refine AllReadyIn.cons rfl (fun K hK=>?_) AllReadyIn.nil
   go_simp
   first|refine ⟨fun _ _=>trivial,?_⟩|refine ⟨trivial,?_⟩
   refine hK _ _ ?_
   clear hK K
   refine takeV 26 ?_;refine takeV 27 ?_
   refine wpAnyIn_done (by kernel_rfl) ?_ _
   gi_wp2_with fail
   go_ret
   exact .inr ⟨rfl,hB1⟩
  refine hK _ _ ?_
  clear hK K
  refine takeV 18 ?_
  go_simp
  refine takeV 19 ?_
  go_simp
  refine takeV 20 ?_;refine takeV 21 ?_;refine takeV 22 ?_;refine takeV 24 ?_
  go_simp
  refine wpAnyIn_ready (rs:= [23]) (by kernel_rfl) (by simp) ?_
  refine AllReadyIn.cons rfl (fun K hK=>?_) AllReadyIn.nil
  go_simp
  refine hK _ _ ?_
  clear hK K
  refine wpAnyIn_ready (rs:= [25]) (by kernel_rfl) (by simp) ?_
  refine AllReadyIn.cons rfl (fun K hK=>?_) AllReadyIn.nil
  go_simp
  refine ⟨trivial,hdd _,?_⟩
  refine IH3.mono ?_
  clear IH3
  rintro e W3 (⟨rfl,hA3⟩| ⟨rfl,hB1⟩)
  ·refine hK _ _ ?_
   clear hK K
   refine takeV 26 ?_
   go_simp
   refine takeV 27 ?_
   refine wpAnyIn_done (by kernel_rfl) ?_ _
   gi_wp2_with fail
   go_ret
   exact .inl ⟨rfl,hA3⟩
  ·refine hK _ _ ?_
   clear hK K
   refine takeV 26 ?_
   go_simp
   refine takeV 27 ?_
   refine wpAnyIn_done (by kernel_rfl) ?_ _
   gi_wp2_with fail
   go_ret
   exact .inr ⟨rfl,hB1⟩
theorem step_skip (n:Nat) (l:Nat) (b:Nat) (k:ByteArray) (v:Int) (tl tr:AT ByteArray Int) (d:Int) (W:World) (R:Ending→World→Prop) (Bf:Nat) (kf:ByteArray) (hf:W.cell? ⟨Bf,0,none⟩=some (.string kf)) (hlt:Ord.lt k kf=true)
  (hb:W.heap[b]? =some (.cells (blk k v tl.adr tr.adr d) 109 (0,0)))
  (ih1:∀W0:World,W0.heap=W.heap→W0.os=W.os→W0.tape=W.tape→W0.output=W.output→CallsIn Fence.wide (n-1) prog 71 #[.pointer tr.adr,.pointer (some ⟨Bf,0,none⟩),.func (.yield l) #[] #[]] W0 fun e W1=>∃q:Bool,e=.returned (.bool q)∧R e W1):
  CallsIn Fence.wide n prog 71 #[.pointer (some ⟨b,0,none⟩),.pointer (some ⟨Bf,0,none⟩),.func (.yield l) #[] #[]] W R:=by
 obtain ⟨c0,-,c3,-,-⟩:=cells hb
 clear hb
 have thlt:Op.bytesLess k.toList kf.toList=true:=hlt;have uhlt:Op.bytesLess kf.toList k.toList=false:=Ord.asymm hlt;have yhlt:(k.toList==kf.toList)=false:=Bl.ne hlt;have zhlt:(kf.toList==k.toList)=false:=Bl.ne' hlt
 have hdd:∀k:Nat,(Fence.wide.depth.isSome=true→1≤k):=fun k h=>by cases h
 refine callsIn_of_wp func71 rfl trivial ?_ rfl
 simp only [ntmps71,List.size_toArray,List.length_cons,List.length_nil,Nat.reduceAdd,Nat.reduceSub,Array.replicate_succ,Array.replicate_zero,List.push_toArray,List.append_toArray,List.nil_append,List.cons_append]
 gi_wp2_with fail
 gi_quiet (fail)
 gi_wp2_with fail
 have IH:=Lib.hid (ih1 (W.drewN nq) rfl rfl rfl rfl)
 clear ih1
 refine ⟨trivial,hdd _,?_⟩
 refine IH.out.mono ?_
 clear IH
 rintro e W1 ⟨q,rfl,hR⟩
 have HR:=Lib.hid hR
 clear hR
 gi_wp2_with fail
 exact HR.out
section
variable (l:Nat) (LL:List (ByteArray × Int)) (FP:List Nat) (J Jx:List (ByteArray × Int)→World→Prop)
 (hJd:∀pre W W',J pre W→W'.heap=W.heap→W'.os=W.os→W'.tape=W.tape→W'.output=W.output→J pre W')
 (hY:∀m pre x W,J pre W→pre++ [x]<+:LL→YieldAt Fence.wide m prog l (encs x) W fun e W'=>
  (e=.returned (.bool true)∧J (pre++ [x]) W'∧Kept FP W W')∨(e=.returned (.bool false)∧Jx (pre++ [x]) W'))
include hJd hY
theorem give_all (t:AT ByteArray Int):∀ (n:Nat) (pre:List (ByteArray × Int)) (W:World),In W t→(∀b∈t.fp,b∈FP)→J pre W→pre++t.toL<+:LL→
  CallsIn Fence.wide n prog 71 #[.pointer t.adr,.pointer none,.func (.yield l) #[] #[]] W fun e W'=>
   (e=.returned (.bool true)∧J (pre++t.toL) W'∧Kept FP W W')∨(e=.returned (.bool false)∧∃q,q<+:t.toL∧Jx (pre++q) W'):=by
 induction t with
 |nil=>
  intro n pre W _ _ hJ _
  refine (give_nil n l none W).mono ?_
  rintro e W' ⟨rfl,rfl⟩
  exact .inl ⟨rfl,by simpa [AT.toL] using hJ,Kept.refl _ _⟩
 |node b k v tl tr d ihl ihr=>
  intro n pre W hI hfp hJ hN
  rw [AT.toL] at hN
  have hfl:∀x∈tl.fp,x∈FP:=fun x hx=>hfp x (AT.mem_node.2 (.inr (.inl hx)))
  have hfr:∀x∈tr.fp,x∈FP:=fun x hx=>hfp x (AT.mem_node.2 (.inr (.inr hx)))
  have hfb:b∈FP:=hfp b (AT.mem_node.2 (.inl rfl))
  obtain ⟨hb,hl,hr⟩:=hI
  refine (step_all n l b k v tl tr d W (fun W'=>J (pre++(AT.node b k v tl tr d).toL) W'∧Kept FP W W') (fun W'=>∃q,q<+:(AT.node b k v tl tr d).toL∧Jx (pre++q) W') hb ?_)
  intro W0 e1 e2 e3 e4
  have hk0:Kept FP W W0:=fun x _=>by rw [e1]
  refine (ihl (n-1) pre W0 (In.kept hl hk0 hfl) hfl (hJd _ _ _ hJ e1 e2 e3 e4) (List.IsPrefix.trans (by simp) hN)).mono ?_
  rintro e W1 (⟨rfl,hJ1,hk1⟩| ⟨rfl,q,hq,hx⟩)
  ·have hk01:=hk0.trans hk1
   have hb1:=(hk01 b hfb).trans hb
   obtain ⟨c0,-,-,-,-⟩:=cells hb1
   have c1:W1.cell? ⟨b,1,none⟩=some (.int .i64 v):=by rw [cell_of_block hb1];rfl
   refine .inl ⟨rfl,c0,c1,YieldAt.mono (hY (n-1) _ (k,v) W1 hJ1 (List.IsPrefix.trans ⟨tr.toL,by simp⟩ hN)) ?_⟩
   rintro e W2 (⟨rfl,hJ2,hk2⟩| ⟨rfl,hx⟩)
   ·have hk02:=hk01.trans hk2
    have hb2:=(hk02 b hfb).trans hb
    obtain ⟨-,-,c3,-,-⟩:=cells hb2
    refine .inl ⟨rfl,c3,?_⟩
    refine (ihr (n-1) _ W2 (In.kept hr hk02 hfr) hfr hJ2 (by simpa [List.append_assoc] using hN)).mono ?_
    rintro e W3 (⟨rfl,hJ3,hk3⟩| ⟨rfl,q,hq,hx⟩)
    ·exact .inl ⟨rfl,by simpa [AT.toL,List.append_assoc] using hJ3,hk02.trans hk3⟩
    ·obtain ⟨r,hr'⟩:=hq
     exact .inr ⟨rfl,tl.toL++(k,v)::q,⟨r,by simp [AT.toL,←hr']⟩,by simpa [List.append_assoc] using hx⟩
   ·exact .inr ⟨rfl,tl.toL++ [(k,v)],⟨tr.toL,by simp [AT.toL]⟩,by simpa [List.append_assoc] using hx⟩
  ·exact .inr ⟨rfl,q,hq.trans (by simp [AT.toL]),hx⟩
theorem give_from (Bf:Nat) (kf:ByteArray) (hBf:Bf∈FP) (t:AT ByteArray Int):∀ (n:Nat) (pre:List (ByteArray × Int)) (W:World),In W t→Srt t.toL→W.cell? ⟨Bf,0,none⟩=some (.string kf)→(∀b∈t.fp,b∈FP)→J pre W→pre++geL kf t.toL<+:LL→
  CallsIn Fence.wide n prog 71 #[.pointer t.adr,.pointer (some ⟨Bf,0,none⟩),.func (.yield l) #[] #[]] W fun e W'=>
   (e=.returned (.bool true)∧J (pre++geL kf t.toL) W'∧Kept FP W W')∨(e=.returned (.bool false)∧∃q,q<+:geL kf t.toL∧Jx (pre++q) W'):=by
 induction t with
 |nil=>
  intro n pre W _ _ _ _ hJ _
  refine (give_nil n l _ W).mono ?_
  rintro e W' ⟨rfl,rfl⟩
  exact .inl ⟨rfl,by simpa [AT.toL,geL] using hJ,Kept.refl _ _⟩
 |node b k v tl tr d ihl ihr=>
  intro n pre W hI hs hcf hfp hJ hN
  have hfl:∀x∈tl.fp,x∈FP:=fun x hx=>hfp x (AT.mem_node.2 (.inr (.inl hx)))
  have hfr:∀x∈tr.fp,x∈FP:=fun x hx=>hfp x (AT.mem_node.2 (.inr (.inr hx)))
  have hfb:b∈FP:=hfp b (AT.mem_node.2 (.inl rfl))
  obtain ⟨hb,hl,hr⟩:=hI
  have hs':Srt (tl.toL++(k,v)::tr.toL):=by simpa [AT.toL] using hs
  have hm:=Srt.mid hs'
  cases hlt:Ord.lt k kf with
  |true=>
   have hge:geL kf (AT.node b k v tl tr d).toL=geL kf tr.toL:=by
    rw [AT.toL];exact geL_skip hs' hlt
   refine step_skip n l b k v tl tr d W _ Bf kf hcf hlt hb ?_
   intro W0 e1 e2 e3 e4
   have hk0:Kept FP W W0:=fun x _=>by rw [e1]
   have hcf0:W0.cell? ⟨Bf,0,none⟩=some (.string kf):=by rw [World.cell?_of_block (w:=W) (hk0 Bf hBf)];exact hcf
   refine (ihr (n-1) pre W0 (In.kept hr hk0 hfr) hs'.right.tail hcf0 hfr (hJd _ _ _ hJ e1 e2 e3 e4) (by rw [←hge];exact hN)).mono ?_
   rintro e W1 (⟨rfl,hJ1,hk1⟩| ⟨rfl,q,hq,hx⟩)
   ·exact ⟨true,rfl,.inl ⟨rfl,by rw [hge];exact hJ1,hk0.trans hk1⟩⟩
   ·exact ⟨false,rfl,.inr ⟨rfl,q,by rw [hge];exact hq,hx⟩⟩
  |false=>
   have hge:geL kf (AT.node b k v tl tr d).toL=geL kf tl.toL++(k,v)::tr.toL:=by
    rw [AT.toL];exact geL_keep hs' hlt
   rw [hge] at hN ⊢
   refine (step_from n l b k v tl tr d W (fun W'=>J (pre++(geL kf tl.toL++(k,v)::tr.toL)) W'∧Kept FP W W') (fun W'=>∃q,q<+:geL kf tl.toL++(k,v)::tr.toL∧Jx (pre++q) W') Bf kf hcf hlt hb ?_)
   intro W0 e1 e2 e3 e4
   have hk0:Kept FP W W0:=fun x _=>by rw [e1]
   have hcf0:W0.cell? ⟨Bf,0,none⟩=some (.string kf):=by rw [World.cell?_of_block (w:=W) (hk0 Bf hBf)];exact hcf
   refine (ihl (n-1) pre W0 (In.kept hl hk0 hfl) hs'.left hcf0 hfl (hJd _ _ _ hJ e1 e2 e3 e4) (List.IsPrefix.trans (by simp) hN)).mono ?_
   rintro e W1 (⟨rfl,hJ1,hk1⟩| ⟨rfl,q,hq,hx⟩)
   ·have hk01:=hk0.trans hk1
    have hb1:=(hk01 b hfb).trans hb
    obtain ⟨c0,-,-,-,-⟩:=cells hb1
    have c1:W1.cell? ⟨b,1,none⟩=some (.int .i64 v):=by rw [cell_of_block hb1];rfl
    refine .inl ⟨rfl,c0,c1,YieldAt.mono (hY (n-1) _ (k,v) W1 hJ1 (List.IsPrefix.trans ⟨tr.toL,by simp⟩ hN)) ?_⟩
    rintro e W2 (⟨rfl,hJ2,hk2⟩| ⟨rfl,hx⟩)
    ·have hk02:=hk01.trans hk2
     have hb2:=(hk02 b hfb).trans hb
     obtain ⟨-,-,c3,-,-⟩:=cells hb2
     refine .inl ⟨rfl,c3,?_⟩
     refine (give_all l LL FP J Jx hJd hY tr (n-1) _ W2 (In.kept hr hk02 hfr) hfr hJ2 (by simpa [List.append_assoc] using hN)).mono ?_
     rintro e W3 (⟨rfl,hJ3,hk3⟩| ⟨rfl,q,hq,hx⟩)
     ·exact .inl ⟨rfl,by simpa [List.append_assoc] using hJ3,hk02.trans hk3⟩
     ·obtain ⟨r,hr'⟩:=hq
      exact .inr ⟨rfl,geL kf tl.toL++(k,v)::q,⟨r,by simp [←hr']⟩,by simpa [List.append_assoc] using hx⟩
    ·exact .inr ⟨rfl,geL kf tl.toL++ [(k,v)],⟨tr.toL,by simp⟩,by simpa [List.append_assoc] using hx⟩
   ·exact .inr ⟨rfl,q,hq.trans (by simp),hx⟩
end
end AvlSI
set_option maxHeartbeats 1000000
attribute [local go_sem] Oper.semAt_some
namespace AvlSI
def MapP (w:World) (p:Option Addr) (L:List (ByteArray × Int)) (F:List Nat):Prop:=
 (p=none∧L= []∧F= [])∨∃ (B off:Nat) (r:Option Addr),p=some ⟨B,off,none⟩∧w.cell? ⟨B,off,none⟩=some (.pointer r)∧MapIn w r L F
theorem MapP.srt {w:World} {p:Option Addr} {L:List (ByteArray × Int)} {F:List Nat} (h:MapP w p L F):Srt L:=by
 rcases h with ⟨-,rfl,-⟩| ⟨_,_,_,-,-,h⟩
 ·exact List.Pairwise.nil
 ·exact h.srt
theorem MapP.top {w:World} {p:Option Addr} {L:List (ByteArray × Int)} {F:List Nat} (h:MapP w p L F):∃t:AT ByteArray Int,t.toL=L∧t.fp=F∧In w t∧Calls prog 65 #[.pointer p] w fun e w'=>e=.returned (.pointer t.adr)∧w=w':=by
 rcases h with ⟨rfl,rfl,rfl⟩| ⟨B,off,r,rfl,hc,t,rfl,h2,h3,h4,-⟩
 ·exact ⟨.nil,rfl,rfl,trivial,top_none w⟩
 ·exact ⟨t,h2,h3,h4,AvlSI.top _ _ w rfl hc⟩
theorem MapP.below {w w':World} {p:Option Addr} {L:List (ByteArray × Int)} {F:List Nat} (h:MapP w p L F) (hb:Below w.heap.size w w'):MapP w' p L F:=by
 rcases h with h| ⟨B,off,r,rfl,hc,hm⟩
 ·exact .inl h
 ·have hlt:B<w.heap.size:=by
   rcases Nat.lt_or_ge B w.heap.size with h|h
   ·exact h
   ·rw [World.cell?] at hc;simp [Array.getElem?_eq_none h] at hc
  exact .inr ⟨B,off,r,rfl,(hb.cell (p:=⟨B,off,none⟩) hlt).trans hc,hm.fr (Fr.of_below hb) (fun b hb'=>by have:=hm.lt b hb';omega)⟩
theorem From1 (n l:Nat) (FP:List Nat) (J Jx:List (ByteArray × Int)→World→Prop) (B0 Bf:Nat) (kf:ByteArray) (p:Option Addr) (L:List (ByteArray × Int)) (F:List Nat) (hBf:Bf∈FP)
  (hJd:∀pre W W',J pre W→W'.heap=W.heap→W'.os=W.os→W'.tape=W.tape→W'.output=W.output→J pre W')
  (hY:∀m pre x W,J pre W→pre++ [x]<+:geL kf L→YieldAt Fence.wide m prog l (encs x) W fun e W'=>
   (e=.returned (.bool true)∧J (pre++ [x]) W'∧Kept FP W W')∨(e=.returned (.bool false)∧Jx (pre++ [x]) W'))
  (W:World) (hc:W.cell? ⟨B0,0,none⟩=some (.pointer p)) (hcf:W.cell? ⟨Bf,0,none⟩=some (.string kf)) (hM:MapP W p L F) (hF:∀b∈F,b∈FP) (h0:J [] W):
  CallsIn Fence.wide n prog 72 #[.func (.yield l) #[] #[],.pointer (some ⟨B0,0,none⟩),.pointer (some ⟨Bf,0,none⟩)] W fun e W'=>(∃v,e=.returned v)∧
   ((∃ys,ys=geL kf L∧J ys W')∨(∃pre,pre<+:geL kf L∧Jx pre W')):=by
 obtain ⟨t,rfl,rfl,hI,ht⟩:=hM.top
 have hp:=Lib.hid (give_from l (geL kf t.toL) FP J Jx hJd hY Bf kf hBf t (n-1) [] W hI hM.srt hcf hF h0 (by simp))
 have HT:=Lib.hid ht
 clear ht hY hM hI
 have hdd:∀k:Nat,(Fence.wide.depth.isSome=true→1≤k):=fun k h=>by cases h
 refine callsIn_of_wp func72 rfl trivial ?_ rfl
 simp only [ntmps72,List.size_toArray,List.length_cons,List.length_nil,Nat.reduceAdd,Nat.reduceSub,Array.replicate_succ,Array.replicate_zero,List.push_toArray,List.append_toArray,List.nil_append,List.cons_append]
 gi_wp2_with fail
 refine ⟨trivial,hdd _,?_⟩
 refine (callsIn_wide.2 HT.out).mono ?_
 rintro e w1 ⟨rfl,rfl⟩
 gi_wp2_with fail
 refine ⟨trivial,hdd _,?_⟩
 refine hp.out.mono ?_
 clear hp
 rintro e W1 (⟨rfl,hJ1,_⟩| ⟨rfl,q,hq,hx⟩)
 ·have HJ:=Lib.hid hJ1
  clear hJ1
  gi_wp2_with fail
  go_end0
  exact ⟨⟨_,rfl⟩,.inl ⟨_,rfl,by simpa using HJ.out⟩⟩
 ·have HX:=Lib.hid hx;have HQ:=Lib.hid hq
  clear hx hq
  gi_wp2_with fail
  go_end0
  exact ⟨⟨_,rfl⟩,.inr ⟨q,HQ.out,by simpa using HX.out⟩⟩
theorem From (p:Option Addr) (k:ByteArray) (w:World):
  Calls prog 48 #[.pointer p,.string k] w fun e w'=>e=.returned (.func (.func 72) #[] #[.pointer (some ⟨w.heap.size,0,none⟩),.pointer (some ⟨w.heap.size+1,0,none⟩)])∧(w.alloc (.cells #[.pointer p] 88 (0,0))).alloc (.cells #[.string k] 9 (0,0))=w':=by
 go_enter func48,ntmps48
 go_wp2
 go_ret
 exact ⟨rfl,rfl⟩
theorem From_seq (FP:List Nat) (B0 Bf:Nat) (kf:ByteArray) (p:Option Addr) (L:List (ByteArray × Int)) (F:List Nat) (w:World)
  (hc:w.cell? ⟨B0,0,none⟩=some (.pointer p)) (hB0:B0<w.heap.size) (hcf:w.cell? ⟨Bf,0,none⟩=some (.string kf)) (hBf0:Bf<w.heap.size) (hBf:Bf∈FP) (hM:MapP w p L F) (hF:∀b∈F,b∈FP):
  SeqP prog 72 #[.pointer (some ⟨B0,0,none⟩),.pointer (some ⟨Bf,0,none⟩)] encs FP 0 (geL kf L) w:=fun n l J Jx W hW hJ _ hY h0=>by
 refine (From1 n l FP (fun pre A=>J pre A∧W.heap.size≤A.heap.size) (fun pre A=>Jx pre A∧W.heap.size≤A.heap.size) B0 Bf kf p L F hBf
  (fun pre A B hA e1 e2 e3 e4=>⟨hJ pre A B hA.1 ⟨e2,e3,e4,by rw [e1];exact Nat.le_refl _,fun k _ _=>by rw [e1]⟩,by rw [e1];exact hA.2⟩)
  (fun m pre x A hA hl=>YieldAt.mono (hY m pre x A hA.1 hA.2 hl) ?_) W ((hW.cell (p:=⟨B0,0,none⟩) hB0).trans hc) ((hW.cell (p:=⟨Bf,0,none⟩) hBf0).trans hcf) (hM.below hW) hF ⟨h0,Nat.le_refl _⟩).mono ?_
 ·rintro e W' (⟨rfl,h1,h2,-,h3⟩| ⟨rfl,h1,-,h3⟩)
  ·exact .inl ⟨rfl,⟨h1,Nat.le_trans hA.2 h3⟩,h2⟩
  ·exact .inr ⟨rfl,h1,Nat.le_trans hA.2 h3⟩
 ·rintro e W' ⟨hv,(⟨ys,rfl,h1,h2⟩| ⟨pre,hp,h1,h2⟩)⟩
  ·exact ⟨hv,h2,.inl h1⟩
  ·exact ⟨hv,h2,.inr ⟨pre,hp,h1⟩⟩
end AvlSI
end Go.Proofs.YtdpngmgaomghoaaGreatDoor
