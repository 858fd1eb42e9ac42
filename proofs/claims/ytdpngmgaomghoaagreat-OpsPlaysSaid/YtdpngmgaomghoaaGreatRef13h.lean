/- The document's bag at the head of a greater block: the walks of its methods. -/
import Derived.Test.YtdpngmgaomghoaaGreatBags
namespace Go.Proofs.YtdpngmgaomghoaaGreat
open Tryz
set_option maxRecDepth 100000
set_option maxHeartbeats 1000000
open Go.RowKit
def SBr {α:Type} (w:World) (B:Nat) (T:TypeId) (rest:List Value) (sz:Nat) (f:α→List Value) (L:List α) (F:List Nat):Prop:=
 ∃A c,Bk w B (.slice A L.length c::rest).toArray T∧Sl w sz A L.length c (L.flatMap f)∧F=B::ablk A∧∀a,A=some a→a.block≠B∧a.block<w.heap.size
theorem Bk.c0 {w:World} {B:Nat} {v:Value} {rest:List Value} {T:TypeId} (h:Bk w B (v::rest).toArray T):w.cell? ⟨B,0,none⟩=some v:=(h.cell 0).trans (by simp)
theorem SBr.fr {α:Type} {S:Nat→Prop} {w w':World} {B:Nat} {T:TypeId} {rest:List Value} {sz:Nat} {f:α→List Value} {L:List α} {F:List Nat} (h:SBr w B T rest sz f L F) (hf:Fr S w w') (hs:∀b∈F,¬S b):SBr w' B T rest sz f L F:=by
 obtain ⟨A,c,h1,h2,rfl,h4⟩:=h
 exact ⟨A,c,h1.fr hf (fun b hb=>hs b (by simp at hb;simp [hb])),h2.fr hf (fun a ha=>hs _ (List.mem_cons_of_mem _ (mem_ablk.2 ⟨a,ha,rfl⟩))),rfl,fun a ha=>⟨(h4 a ha).1,Nat.lt_of_lt_of_le (h4 a ha).2 hf.size⟩⟩
theorem SBr.lt {α:Type} {w:World} {B:Nat} {T:TypeId} {rest:List Value} {sz:Nat} {f:α→List Value} {L:List α} {F:List Nat} (h:SBr w B T rest sz f L F):∀x∈F,x<w.heap.size:=by
 obtain ⟨A,c,h1,h2,rfl,h4⟩:=h
 intro x hx
 rcases List.mem_cons.1 hx with rfl|hx
 ·exact lt_of_heap h1
 ·obtain ⟨a,ha,rfl⟩:=mem_ablk.1 hx;exact (h4 a ha).2
theorem SBr.store {α:Type} {w wr:World} {B:Nat} {T E:TypeId} {rest:List Value} {sz:Nat} {f:α→List Value} {L L':List α} {F:List Nat} {v:Value} (h:SBr w B T rest sz f L F) (hb:Below w.heap.size w wr) (hown:wr.ownsRow w.heap.size E sz v L'.length (L'.flatMap f)):
  ∃F',SBr (wr.setCell ⟨B,0,none⟩ v) B T rest sz f L' F'∧Tn F F' w (wr.setCell ⟨B,0,none⟩ v)∧Fr (· =B) w (wr.setCell ⟨B,0,none⟩ v):=by
 obtain ⟨A,c,h1,h2,rfl,h4⟩:=h
 have hlt:=lt_of_heap h1
 have h1':Bk wr B (.slice A L.length c::rest).toArray T:=(hb.block B hlt).trans h1
 obtain ⟨A',c',rfl,hS,hA⟩:=Sl.of_own hown
 have hfs:=Fr.setCell wr ⟨B,0,none⟩ (.slice A' L'.length c') (S:=(· =B)) rfl
 have hne:∀a,A'=some a→a.block≠B:=fun a ha e=>by have:=(hA a ha).1;omega
 have hsz:(wr.setCell ⟨B,0,none⟩ (.slice A' L'.length c')).heap.size=wr.heap.size:=by simp [World.setCell]
 have hfr:Fr (fun x=>x∈B::ablk A) w (wr.setCell ⟨B,0,none⟩ (.slice A' L'.length c')):=
  (Fr.of_below' hb (fun x=>x∈B::ablk A)).trans hfs (fun _ _ h=>h) (fun _ _ h=>by simp [h])
 refine ⟨B::ablk A',⟨A',c',by simpa using h1'.set 0 (.slice A' L'.length c'),hS.fr hfs (fun a ha e=>hne a ha e),rfl,fun a ha=>⟨hne a ha,by rw [hsz];exact (hA a ha).2.2⟩⟩,⟨hfr,fun x hx=>?_⟩,(Fr.of_below' hb (· =B)).trans hfs (fun _ _ h=>h) (fun _ _ h=>h)⟩
 rw [hsz]
 rcases List.mem_cons.1 hx with rfl|hx
 ·exact ⟨.inl (by simp),lt_of_heap h1'⟩
 ·obtain ⟨a,ha,rfl⟩:=mem_ablk.1 hx
  exact ⟨.inr (hA a ha).1,(hA a ha).2.2⟩
namespace Ref13h
open BagP Bag Ref13
abbrev RB (T:TypeId) (rest:List Value) (w:World) (B:Nat) (L:List (Int × Int)) (F:List Nat):Prop:=SBr w B T rest 2 pc L F
theorem Count {T:TypeId} {rest:List Value} (B:Nat) (x:Int) (L:List (Int × Int)) (F:List Nat) (w:World) (h:RB T rest w B L F):
  Calls prog 157 #[.pointer (some ⟨B,0,none⟩),.int .i64 x] w fun e w'=>e=.returned (.int .i64 (cnt x L))∧w=w':=by
 obtain ⟨A,c,hB,hS,-,-⟩:=h
 have cB:w.cell? ⟨B,0,none⟩=some (.slice A L.length c):=hB.c0
 have hlen:L.length≤9223372036854775807:=by have:=hS.2.1;have:=hS.2.2.1;unfold maxLen at this;omega
 clear hB
 go_enter func157,ntmps157
 go_wp2_with fail
 go_loopg [5] L.length (fun gk i wr=>w=wr∧∃j:Nat,i=.int .i64 j∧j≤L.length∧gk=L.length-j∧∀i (_:i<j) (h:i<L.length),L[i].1≠x)
 case atStart=>exact ⟨rfl,0,rfl,Nat.zero_le _,rfl,fun i h=>by omega⟩
 case round=>
  obtain ⟨rfl,j,rfl,hj,hg,hne⟩:=hrel
  have HG:=Lib.hid hg;have HN:=Lib.hid hne
  clear hg hne
  by_cases hlt:j<L.length
  ·obtain ⟨b1,o1,rfl,-,c1⟩:=hS.at hlt (by omega)
   have d1:w.cell? ⟨b1,o1+j*2,none⟩=some (.int .i64 L[j].1):=c1 (j*2) _ (by rw [←Nat.add_zero (j*2),flat_at pc_len hlt (by omega)];rfl)
   have d2:w.cell? ⟨b1,o1+j*2+1,none⟩=some (.int .i64 L[j].2):=c1 (j*2+1) _ (by rw [flat_at pc_len hlt (by omega)];rfl)
   clear c1 hS
   have HGe:=Lib.hid (Ref12.get_take_none (k:=x) HN.out hlt)
   generalize hx:L[j]=p at *
   obtain ⟨k,y⟩:=p
   have HX:=Lib.hid hx
   clear hx
   dsimp only at d1 d2 HGe
   by_cases hxk:k=x
   ·have t2:(k==x)=true:=by simp [hxk]
    have HE:=Lib.hid (HGe.out hxk)
    clear hxk HGe
    go_wp2_with fail
    go_ret
    exact ⟨by unfold cnt;rw [HE.out];rfl,rfl⟩
   ·have t2:(k==x)=false:=by simp [hxk]
    have HXK:=Lib.hid hxk
    clear hxk
    go_wp2_with fail
    go_roundg (L.length-(j+1))
    case rel=>
     refine ⟨rfl,j+1,by go_num,by omega,rfl,fun i hi h=>?_⟩
     rcases Nat.lt_succ_iff_lt_or_eq.1 hi with hi|rfl
     ·exact HN.out i hi h
     ·rw [HX.out];exact HXK.out
    case measure=>have:=HG.out;omega
  ·have HE:=Lib.hid (Ref12.get_none (k:=x) (L:=L) (fun i h=>HN.out i (by omega) h))
   clear hS
   go_wp2_with fail
   go_ret
   exact ⟨by unfold cnt;rw [HE.out];rfl,rfl⟩
theorem Len {T:TypeId} {rest:List Value} (B:Nat) (L:List (Int × Int)) (F:List Nat) (w:World) (h:RB T rest w B L F) (hok:Ok L):
  Calls prog 96 #[.pointer (some ⟨B,0,none⟩)] w fun e w'=>e=.returned (.int .i64 (sumL L))∧w=w':=by
 obtain ⟨A,c,hB,hS,-,-⟩:=h
 have cB:w.cell? ⟨B,0,none⟩=some (.slice A L.length c):=hB.c0
 have hlen:L.length≤9223372036854775807:=by have:=hS.2.1;have:=hS.2.2.1;unfold maxLen at this;omega
 have HOk:=Lib.hid hok
 clear hB hok
 go_enter func96,ntmps96
 go_wp2_with fail
 go_loopg [3,4] L.length (fun gk n i wr=>w=wr∧∃j:Nat,i=.int .i64 j∧j≤L.length∧gk=L.length-j∧n=.int .i64 (sumL (L.take j)))
 case atStart=>exact ⟨rfl,0,rfl,Nat.zero_le _,rfl,rfl⟩
 case round=>
  obtain ⟨rfl,j,rfl,hj,hg,rfl⟩:=hrel
  have HG:=Lib.hid hg
  clear hg
  by_cases hlt:j<L.length
  ·obtain ⟨b1,o1,rfl,-,c1⟩:=hS.at hlt (by omega)
   have d2:w.cell? ⟨b1,o1+j*2+1,none⟩=some (.int .i64 L[j].2):=c1 (j*2+1) _ (by rw [flat_at pc_len hlt (by omega)];rfl)
   have hs1:sumL (L.take (j+1))=sumL (L.take j)+L[j].2:=by rw [List.take_succ_eq_append_getElem hlt,sumL_append];simp [sumL]
   have hb:0≤sumL (L.take j)∧0≤L[j].2∧sumL (L.take j)+L[j].2≤4611686018427387904:=by
    have e:sumL L=sumL (L.take (j+1))+sumL (L.drop (j+1)):=by rw [←sumL_append,List.take_append_drop]
    have p1:Pos (L.take j):=fun p hp=>HOk.out.pos p (List.mem_of_mem_take hp)
    have p2:Pos (L.drop (j+1)):=fun p hp=>HOk.out.pos p (List.mem_of_mem_drop hp)
    have h1:=(p1.cnt 0).2.2
    have h2:=(p2.cnt 0).2.2
    have h3:=HOk.out.pos _ (List.getElem_mem hlt)
    have h4:=HOk.out.most
    omega
   have HS1:=Lib.hid hs1
   clear c1 hS hs1
   generalize L[j].2=y at *
   generalize sumL (L.take j)=s at *
   go_wp2_with fail
   go_roundg (L.length-(j+1))
   case rel=>exact ⟨rfl,j+1,by go_num,by omega,rfl,by rw [HS1.out]⟩
   case measure=>have:=HG.out;omega
  ·obtain rfl:j=L.length:=by omega
   rw [List.take_length]
   clear hS
   go_wp2_with fail
   go_ret
   exact ⟨rfl,rfl⟩
theorem set {T:TypeId} {rest:List Value} (B:Nat) (x many:Int) (L:List (Int × Int)) (F:List Nat) (w:World) (h:RB T rest w B L F) (hok:Ok L) (hm:0≤many) (hlen:L.length≤1000000):
  Calls prog 223 #[.pointer (some ⟨B,0,none⟩),.int .i64 x,.int .i64 many] w fun e w'=>e=.returned (.tuple #[])∧∃F',RB T rest w' B (setL x many L) F'∧Tn F F' w w'∧Fr (· =B) w w':=by
 obtain ⟨i0,hi,hz0,hz1,hz2⟩:=info_parts infoC
 have HH:=Lib.hid h
 have HSrt:=Lib.hid (refSet_eq x many hm hok.srt)
 obtain ⟨A,c,hB,hS,-,-⟩:=h
 have hBl:=lt_of_heap hB
 have HB:=Lib.hid hB;have HS:=Lib.hid hS
 clear hB hS hok
 go_enter func223,ntmps223
 go_upto_block 0 with (fail)
 go_cut [6,7] (fun v _ wc=>∃P:List (Int × Int),P=L.takeWhile (fun p=>decide (p.1<x))∧wc.ownsRow w.heap.size TC 2 v P.length (P.flatMap pc)∧Below w.heap.size w wc)
 case first=>
  go_wp2_with fail
  go_loopg [6,7] L.length (fun gk v i wr=>∃j:Nat,i=.int .i64 j∧j≤L.length∧gk=L.length-j∧(∀i (_:i<j) (h:i<L.length),L[i].1<x)∧wr.ownsRow w.heap.size TC 2 v j ((L.take j).flatMap pc)∧Below w.heap.size w wr)
  case atStart=>exact ⟨0,rfl,Nat.zero_le _,rfl,fun i h=>by omega,World.ownsRow_nil _ _ _ _,Below.refl _ _⟩
  case round=>
   obtain ⟨j,rfl,hj,hg,hlow,hown,hbel⟩:=hrel
   have HG:=Lib.hid hg;have HLow:=Lib.hid hlow
   have cB:wr.cell? ⟨B,0,none⟩=some (.slice A L.length c):=(hbel.cell (p:=⟨B,0,none⟩) hBl).trans (HB.out.c0)
   have hszw:w.heap.size≤wr.heap.size:=hbel.size
   have HBe:=Lib.hid hbel
   clear hg hbel hlow
   by_cases hlt:j<L.length
   ·have HSn:=Lib.hid (List.take_succ_eq_append_getElem hlt)
    obtain ⟨b1,o1,rfl,hb1,c1⟩:=HS.out.at hlt (by omega)
    have d1:wr.cell? ⟨b1,o1+j*2,none⟩=some (.int .i64 L[j].1):=(HBe.out.cell (p:=⟨b1,_,none⟩) hb1).trans (c1 (j*2) _ (by rw [←Nat.add_zero (j*2),flat_at pc_len hlt (by omega)];rfl))
    have d2:wr.cell? ⟨b1,o1+j*2+1,none⟩=some (.int .i64 L[j].2):=(HBe.out.cell (p:=⟨b1,_,none⟩) hb1).trans (c1 (j*2+1) _ (by rw [flat_at pc_len hlt (by omega)];rfl))
    clear c1
    by_cases hx:L[j].1<x
    ·have HX:=Lib.hid hx
     generalize hp:L[j]=p at *
     obtain ⟨pk,py⟩:=p
     have HP:=Lib.hid hp
     clear hp
     dsimp only at d1 d2 hx
     have hown1':=hown.alloc (.cells #[.int .i64 pk,.int .i64 py] TC)
     have HK1:=Lib.hid (ownsRow_blk hown)
     clear hown
     go_wp2_with (at_builtin;refine wpList_append_sl _ rfl (.tmp 30) (.tmp 38) TCs rfl w.heap.size TC i0 (.agg #[.int .i64 0,.int .i64 0]) 2 16 underlying64 hi hz0 hz1 hz2 rfl (by decide) _ _ _ rfl hown1' _ _ _ _ rfl (Sl.one wr TC (pc (pk,py)) 2 rfl) (by simp [Value.oneCell']) ?_ ?_ ?_ ?_)
     ·unfold maxLen;omega
     ·omega
     ·first|omega| (simp;omega)
     intro v1 w1 hown1 hgrow1
     have HO:=Lib.hid hown1;have HGr:=Lib.hid hgrow1
     clear hown1 hgrow1 hown1'
     go_wp2_with fail
     go_roundg (L.length-(j+1))
     case rel=>
      refine ⟨j+1,by go_num,by omega,rfl,fun i hi h=>?_,by rw [HSn.out];simpa using HO.out,(HBe.out.alloc hszw _).grown HGr.out (by simp;omega) (fun k e=>(HK1.out k e).1)⟩
      rcases Nat.lt_succ_iff_lt_or_eq.1 hi with hi|rfl
      ·exact HLow.out i hi h
      ·rw [HP.out];exact HX.out
     case measure=>have:=HG.out;omega
    ·have HW:=Lib.hid (takeWhile_take (p:=fun p=>decide (p.1<x)) (L:=L) (j:=j) (fun i hi h=>by simpa using HLow.out i hi h) (fun _=>by simpa using hx))
     have HO:=Lib.hid hown
     generalize L[j].1=pk at *
     clear hown d2
     go_wp2_with fail
     go_meet
     exact ⟨_,rfl,by rw [HW.out,List.length_take,Nat.min_eq_left hj];exact HO.out,HBe.out⟩
   ·have HW:=Lib.hid (takeWhile_take (p:=fun p=>decide (p.1<x)) (L:=L) (j:=j) (fun i hi h=>by simpa using HLow.out i hi h) (fun h=>absurd h hlt))
    have HO:=Lib.hid hown
    clear hown
    go_wp2_with fail
    go_meet
    exact ⟨_,rfl,by rw [HW.out,List.length_take,Nat.min_eq_left hj];exact HO.out,HBe.out⟩
 case rest=>
  obtain ⟨P,hP,hown,hbel⟩:=hcut
  have HP:=Lib.hid hP;have HBe:=Lib.hid hbel
  have hPl:P.length≤L.length:=by rw [hP];exact (List.takeWhile_prefix _).length_le
  have hszc:w.heap.size≤wc.heap.size:=hbel.size
  clear hP hbel
  obtain ⟨wo,rfl⟩:∃wo:World,wo=wc:=⟨_,rfl⟩
  go_upto_if 41 with (fail)
  go_cut [6] (fun v wc=>∃Q:List (Int × Int),Q=P++(if 0<many then [(x,many)] else [])∧wc.ownsRow w.heap.size TC 2 v Q.length (Q.flatMap pc)∧Below w.heap.size w wc)
  case first=>
   by_cases hpos:0<many
   ·have hown1':=hown.alloc (.cells #[.int .i64 x,.int .i64 many] TC)
    have HK1:=Lib.hid (ownsRow_blk hown)
    clear hown
    go_wp2_with (at_builtin;refine wpList_append_sl _ rfl (.tmp 42) (.tmp 46) TCs rfl w.heap.size TC i0 (.agg #[.int .i64 0,.int .i64 0]) 2 16 underlying64 hi hz0 hz1 hz2 rfl (by decide) _ _ _ rfl hown1' _ _ _ _ rfl (Sl.one wo TC (pc (x,many)) 2 rfl) (by simp [Value.oneCell']) ?_ ?_ ?_ ?_)
    ·unfold maxLen;omega
    ·omega
    ·first|omega| (simp;omega)
    intro v1 w1 hown1 hgrow1
    have HO:=Lib.hid hown1;have HGr:=Lib.hid hgrow1
    clear hown1 hgrow1 hown1'
    go_wp2_with fail
    go_meet
    exact ⟨_,rfl,by rw [if_pos hpos];simpa using HO.out,(HBe.out.alloc hszc _).grown HGr.out (by simp;omega) (fun k e=>(HK1.out k e).1)⟩
   ·have HO:=Lib.hid hown
    clear hown
    go_wp2_with fail
    go_meet
    exact ⟨_,rfl,by rw [if_neg (by omega),List.append_nil];exact HO.out,HBe.out⟩
  case rest=>
   clear hown hszc HBe
   obtain ⟨Q,hQ,hown,hbel⟩:=hcut
   have HQ:=Lib.hid hQ;have HO:=Lib.hid hown;have HBe:=Lib.hid hbel
   have hQl:Q.length≤L.length+1:=by rw [hQ];split<;>simp<;>omega
   clear hQ hown hbel
   go_wp2_with fail
   go_loopg [6,8] L.length (fun gk v i wr=>∃j:Nat,i=.int .i64 j∧j≤L.length∧gk=L.length-j∧wr.ownsRow w.heap.size TC 2 v (Q++(L.take j).filter (fun p=>decide (x<p.1))).length ((Q++(L.take j).filter (fun p=>decide (x<p.1))).flatMap pc)∧Below w.heap.size w wr)
   case atStart=>exact ⟨0,rfl,Nat.zero_le _,rfl,by simpa using HO.out,HBe.out⟩
   case round=>
    clear HBe HO
    obtain ⟨j,rfl,hj,hg,hown,hbel⟩:=hrel
    have HG:=Lib.hid hg
    have cB:wr.cell? ⟨B,0,none⟩=some (.slice A L.length c):=(hbel.cell (p:=⟨B,0,none⟩) hBl).trans (HB.out.c0)
    have hszw:w.heap.size≤wr.heap.size:=hbel.size
    have HBe:=Lib.hid hbel
    clear hg hbel
    have hfl:(Q++(L.take j).filter (fun p=>decide (x<p.1))).length≤L.length+1+j:=by
     have:=List.length_filter_le (fun p:Int × Int=>decide (x<p.1)) (L.take j)
     simp only [List.length_append,List.length_take] at *;omega
    by_cases hlt:j<L.length
    ·have hsn:(L.take (j+1)).filter (fun p=>decide (x<p.1))=(L.take j).filter (fun p=>decide (x<p.1))++(if x<L[j].1 then [L[j]] else []):=by
      rw [List.take_succ_eq_append_getElem hlt,List.filter_append]
      congr 1
      by_cases hx:x<L[j].1<;>simp [hx]
     have HSn:=Lib.hid hsn
     obtain ⟨b1,o1,rfl,hb1,c1⟩:=HS.out.at hlt (by omega)
     have d1:wr.cell? ⟨b1,o1+j*2,none⟩=some (.int .i64 L[j].1):=(HBe.out.cell (p:=⟨b1,_,none⟩) hb1).trans (c1 (j*2) _ (by rw [←Nat.add_zero (j*2),flat_at pc_len hlt (by omega)];rfl))
     have d2:wr.cell? ⟨b1,o1+j*2+1,none⟩=some (.int .i64 L[j].2):=(HBe.out.cell (p:=⟨b1,_,none⟩) hb1).trans (c1 (j*2+1) _ (by rw [flat_at pc_len hlt (by omega)];rfl))
     clear c1 hsn
     generalize L[j]=p at *
     obtain ⟨pk,py⟩:=p
     dsimp only at d1 d2 HSn
     generalize hR:Q++(L.take j).filter (fun p=>decide (x<p.1))=R at *
     have HR:=Lib.hid hR
     clear hR
     by_cases hx:x<pk
     ·have hown1':=hown.alloc (.cells #[.int .i64 pk,.int .i64 py] TC)
      have HK1:=Lib.hid (ownsRow_blk hown)
      clear hown
      go_wp2_with (at_builtin;refine wpList_append_sl _ rfl (.tmp 67) (.tmp 75) TCs rfl w.heap.size TC i0 (.agg #[.int .i64 0,.int .i64 0]) 2 16 underlying64 hi hz0 hz1 hz2 rfl (by decide) _ _ _ rfl hown1' _ _ _ _ rfl (Sl.one wr TC (pc (pk,py)) 2 rfl) (by simp [Value.oneCell']) ?_ ?_ ?_ ?_)
      ·unfold maxLen;omega
      ·omega
      ·first|omega| (simp;omega)
      intro v1 w1 hown1 hgrow1
      have HO:=Lib.hid hown1;have HGr:=Lib.hid hgrow1
      clear hown1 hgrow1 hown1'
      go_wp2_with fail
      go_roundg (L.length-(j+1))
      case rel=>exact ⟨j+1,by go_num,by omega,rfl,by rw [HSn.out,if_pos hx,←List.append_assoc,HR.out];simpa using HO.out,(HBe.out.alloc hszw _).grown HGr.out (by simp;omega) (fun k e=>(HK1.out k e).1)⟩
      case measure=>have:=HG.out;omega
     ·have HO:=Lib.hid hown
      clear hown
      go_wp2_with fail
      go_roundg (L.length-(j+1))
      case rel=>exact ⟨j+1,by go_num,by omega,rfl,by rw [HSn.out,if_neg (by omega),List.append_nil,HR.out];exact HO.out,HBe.out⟩
      case measure=>have:=HG.out;omega
    ·obtain rfl:j=L.length:=by omega
     rw [List.take_length] at hown
     have hE:Q++L.filter (fun p=>decide (x<p.1))=setL x many L:=by
      rw [←HSrt.out,HQ.out,HP.out];rfl
     rw [hE] at hown
     have fB:wr.frozen? ⟨B,0,none⟩=false:=(HBe.out.frozen (p:=⟨B,0,none⟩) hBl).trans (HB.out.free 0)
     have HSt:=Lib.hid (HH.out.store HBe.out hown)
     obtain ⟨A3,c3,rfl,-,-⟩:=Sl.of_own hown
     clear hown hE hfl
     go_wp2_with fail
     go_end0
     exact ⟨rfl,HSt.out⟩
theorem RB.refl {T:TypeId} {rest:List Value} {w:World} {B:Nat} {L:List (Int × Int)} {F:List Nat} (h:RB T rest w B L F):∃F',RB T rest w B L F'∧Tn F F' w w∧Fr (· =B) w w:=⟨F,h,Tn.refl h.lt,Fr.refl _ _⟩
theorem Add {T:TypeId} {rest:List Value} (B:Nat) (x many:Int) (L:List (Int × Int)) (F:List Nat) (w:World) (h:RB T rest w B L F) (hok:Ok L) (hlen:L.length≤1000000):
  Calls prog 163 #[.pointer (some ⟨B,0,none⟩),.int .i64 x,.int .i64 many] w fun e w'=>e=.returned (.bool (okA many L))∧∃F',RB T rest w' B (addL x many L) F'∧Tn F F' w w'∧Fr (· =B) w w':=by
 have hcnt:=hok.pos.cnt x
 have hmost:=hok.most
 have HH:=Lib.hid h
 have HC:=Lib.hid (Count B x L F w h)
 have HLe:=Lib.hid (Len B L F w h hok)
 by_cases hk:0≤many∧many≤4611686018427387904-sumL L
 ·have HOk:=Lib.hid (show okA many L=true by simp [okA,hk])
  have HAdd:=Lib.hid (show addL x many L=setL x (cnt x L+many) L by simp [addL,HOk.out])
  have HSet:=Lib.hid (set B x (cnt x L+many) L F w h hok (by omega) hlen)
  clear h hok
  generalize cnt x L=n at *
  generalize sumL L=s at *
  have q1:¬many<0:=by omega
  have q2:¬4611686018427387904-s<many:=by omega
  go_enter func163,ntmps163
  go_wp2_with fail
  refine HLe.out.mono ?_
  rintro e w1 ⟨rfl,rfl⟩
  go_wp2_with fail
  refine HC.out.mono ?_
  rintro e w1 ⟨rfl,rfl⟩
  go_wp2_with fail
  refine HSet.out.mono ?_
  rintro e w1 ⟨rfl,hp⟩
  have HP:=Lib.hid hp
  clear hp
  go_wp2_with fail
  go_ret
  exact ⟨by rw [HOk.out];rfl,by rw [HAdd.out];exact HP.out⟩
 ·have HOk:=Lib.hid (show okA many L=false by simp [okA];omega)
  have HAdd:=Lib.hid (show addL x many L=L by simp [addL,HOk.out])
  clear h HC hok
  generalize cnt x L=n at *
  generalize sumL L=s at *
  by_cases q1:many<0
  ·go_enter func163,ntmps163
   go_wp2_with fail
   go_ret
   exact ⟨by rw [HOk.out];rfl,by rw [HAdd.out];exact RB.refl HH.out⟩
  ·have q2:4611686018427387904-s<many:=by omega
   go_enter func163,ntmps163
   go_wp2_with fail
   refine HLe.out.mono ?_
   rintro e w1 ⟨rfl,rfl⟩
   go_wp2_with fail
   go_ret
   exact ⟨by rw [HOk.out];rfl,by rw [HAdd.out];exact RB.refl HH.out⟩
theorem Take {T:TypeId} {rest:List Value} (B:Nat) (x many:Int) (L:List (Int × Int)) (F:List Nat) (w:World) (h:RB T rest w B L F) (hok:Ok L) (hlen:L.length≤1000000):
  Calls prog 161 #[.pointer (some ⟨B,0,none⟩),.int .i64 x,.int .i64 many] w fun e w'=>e=.returned (.bool (okT x many L))∧∃F',RB T rest w' B (takeL x many L) F'∧Tn F F' w w'∧Fr (· =B) w w':=by
 have hcnt:=hok.pos.cnt x
 have hmost:=hok.most
 have HH:=Lib.hid h
 have HC:=Lib.hid (Count B x L F w h)
 by_cases hk:0≤many∧many≤cnt x L
 ·have HOk:=Lib.hid (show okT x many L=true by simp [okT,hk])
  have HAdd:=Lib.hid (show takeL x many L=setL x (cnt x L-many) L by simp [takeL,HOk.out])
  have HSet:=Lib.hid (set B x (cnt x L-many) L F w h hok (by omega) hlen)
  clear h hok
  generalize cnt x L=n at *
  generalize sumL L=s at *
  have q1:¬many<0:=by omega
  have q2:¬n<many:=by omega
  go_enter func161,ntmps161
  go_wp2_with fail
  refine HC.out.mono ?_
  rintro e w1 ⟨rfl,rfl⟩
  go_wp2_with fail
  refine HC.out.mono ?_
  rintro e w1 ⟨rfl,rfl⟩
  go_wp2_with fail
  refine HSet.out.mono ?_
  rintro e w1 ⟨rfl,hp⟩
  have HP:=Lib.hid hp
  clear hp
  go_wp2_with fail
  go_ret
  exact ⟨by rw [HOk.out];rfl,by rw [HAdd.out];exact HP.out⟩
 ·have HOk:=Lib.hid (show okT x many L=false by simp [okT];omega)
  have HAdd:=Lib.hid (show takeL x many L=L by simp [takeL,HOk.out])
  clear h hok
  generalize cnt x L=n at *
  by_cases q1:many<0
  ·go_enter func161,ntmps161
   go_wp2_with fail
   go_ret
   exact ⟨by rw [HOk.out];rfl,by rw [HAdd.out];exact RB.refl HH.out⟩
  ·have q2:n<many:=by omega
   go_enter func161,ntmps161
   go_wp2_with fail
   refine HC.out.mono ?_
   rintro e w1 ⟨rfl,rfl⟩
   go_wp2_with fail
   go_ret
   exact ⟨by rw [HOk.out];rfl,by rw [HAdd.out];exact RB.refl HH.out⟩
end Ref13h
end Go.Proofs.YtdpngmgaomghoaaGreat
