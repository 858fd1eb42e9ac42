/- The document's entries: All, the walk. -/
import Derived.Test.YtdpngmgaomghoaaGreatDoorRef28c
namespace Go.Proofs.YtdpngmgaomghoaaGreatDoor
open Tryz
set_option maxRecDepth 100000
set_option maxHeartbeats 4000000
open Go.RowKit
namespace Rf28
open BagP KeyP EntP OpsP PackP SetP SetW SetF Sli Name Pack Delta
open Ent (TI TIs ints infoI TE TEs En EL infoE AllPost)
attribute [local go_sem] Eng.ev Eng.getO_cons Eng.getO_nil
theorem cs_one (T:List En):∀u∈T.flatMap En.cs,u.oneCell'=true:=fun u hu=>by
 obtain ⟨e,_,h⟩:=List.mem_flatMap.1 hu
 simp only [En.cs,List.mem_cons,List.mem_nil_iff,or_false] at h
 rcases h with rfl|rfl|rfl<;>rfl
theorem cs_ins (T:List En) (e:En) (K:Nat):(T.take K++e::T.drop K).flatMap En.cs=(T.flatMap En.cs).take (K*3)++e.cs++(T.flatMap En.cs).drop (K*3):=by
 rw [flat_take En.cs_len,flat_drop En.cs_len,List.flatMap_append,List.flatMap_cons,List.append_assoc]
def TB (w:World) (T:List En):Prop:=∀e∈T,Sl w 1 e.A e.l.length e.c (ints e.l)∧∀a,e.A=some a→a.block<w.heap.size
theorem TB.below {w w':World} {T:List En} {B:Nat} (H:TB w T) (hB:w.heap.size≤B) (hb:Below B w w'):TB w' T:=fun e he=>
 ⟨(H e he).1.below hb (fun a ha=>by have:=(H e he).2 a ha;omega),fun a ha=>by have:=(H e he).2 a ha;have:=hb.size;omega⟩
theorem TB.ins {w:World} {T:List En} {e:En} {p:En→Bool} (H:TB w T) (h1:Sl w 1 e.A e.l.length e.c (ints e.l)) (h2:∀a,e.A=some a→a.block<w.heap.size):TB w (insK p e T):=fun f hf=>by
 rcases mem_insK.1 hf with rfl|hf
 ·exact ⟨h1,h2⟩
 ·exact H f hf
theorem All (h:Nat) (L:List Sn) (R:List Nat) (w:World) (H:DR w h L R) (hl:L.length≤1000000):
  Calls prog 13 #[.pointer (some ⟨h,0,none⟩)] w (AllPost (L.map Ent.kk) w):=by
 obtain ⟨i0,hi,hz0,hz1_,hz2⟩:=info_parts infoE
 have hRl:=H.r.2
 have HD:Hid (∀W,Below w.heap.size w W→DR W h L R):=fun W hW=>H.below hW
 clear H
 go_enter func13,ntmps13
 go_wp2_with fail
 go_loopg [3,4] L.length (fun gk v i wr=>∃ (j:Nat) (T:List En),i=.int .i64 j∧j≤L.length∧gk=L.length-j∧wr.ownsRow w.heap.size TE 3 v T.length (T.flatMap En.cs)∧Below w.heap.size w wr∧AllI L (L.take j) (T.map En.v)∧T.length≤j∧TB wr T)
 case atStart=>exact ⟨0,[],rfl,Nat.zero_le _,rfl,World.ownsRow_nil _ _ _ _,Below.refl _ _,AllI.nil _,Nat.le_refl _,fun e he=>by cases he⟩
 case round=>
  obtain ⟨j,T,rfl,hj,hg,hown,hbel,htr,hol,htb⟩:=hrel
  obtain ⟨wo,hwo⟩:∃wo,wo=wr:=⟨_,rfl⟩
  subst hwo
  have HG:=Lib.hid hg;have HOw:=Lib.hid hown;have HBe:=Lib.hid hbel;have HTr:=Lib.hid htr;have HTB:=Lib.hid htb
  have hszw:=hbel.size
  clear hg hown hbel htr htb
  obtain ⟨A,c,hbo,hLo,-⟩:=(HD.out _ HBe.out).s
  have cB:wo.cell? ⟨h,0,none⟩=some (.slice A L.length c):=hbo.cell 0
  have HLo:=Lib.hid hLo
  clear hbo hLo
  by_cases hlt:j<L.length
  ·obtain ⟨b1,o1,rfl,-,c1'⟩:=HLo.out.s.at hlt (by omega)
   have HRow:=Lib.hid (At.row c1' hlt)
   have hcap:=HLo.out.s.2.1
   have HTk:Hid (L.take (j+1)=L.take j++ [L[j]]):=List.take_succ_eq_append_getElem hlt
   clear c1' HLo
   generalize L[j]=y at *
   have q1:(0:Int)≤(j:Int):=by omega
   have q2:decide ((j:Int)<((L.length:Nat):Int))=true:=by simp;omega
   have q3:(j:Int)<((L.length:Nat):Int):=by omega
   obtain ⟨zc0,zc1,zc2,zc3,zc4,zc5,zc6,zc7,zc8⟩:=SetW.at9 HRow.out
   go_upto_region 6 with (fail)
   have HY:=Lib.hid (Bk.new wo y.arr TSn)
   have HOw2:=Lib.hid (HOw.out.alloc (.cells y.arr TSn));have HBe2:=Lib.hid (HBe.out.alloc hszw (.cells y.arr TSn))
   have HTB2:=Lib.hid (HTB.out.below (Nat.le_refl _) ((Below.refl wo.heap.size wo).alloc (Nat.le_refl _) (.cells y.arr TSn)))
   clear HRow HOw HBe HTB cB zc0 zc1 zc2 zc3 zc4 zc5 zc6 zc7 zc8
   have hszb:w.heap.size≤(wo.alloc (.cells y.arr TSn)).heap.size:=by simp;omega
   have hByl:wo.heap.size<(wo.alloc (.cells y.arr TSn)).heap.size:=by simp
   generalize (wo.alloc (.cells y.arr TSn))=wb at *
   generalize hByq:wo.heap.size=By at *
   clear hByq
   obtain ⟨A1,ca,rfl,hS1,hA1⟩:=Sl.of_own HOw2.out
   have HS1:=Lib.hid hS1;have HA1:=Lib.hid hA1
   have hca:T.length≤ca∧ca≤9223372036854775807:=by have:=hS1.2.1;have:=hS1.2.2.1;unfold maxLen at this;omega
   clear hS1 hA1
   go_upto_block 2 with (fail)
   go_cut [6] (fun s6 wc=>s6=.int .i64 (lowE (y.s,y.o) T)∧Fr (fun _=>False) wb wc)
   case first=>
    go_wp2_with fail
    go_loopg [6] T.length (fun gk i wq=>∃k:Nat,i=.int .i64 k∧k≤T.length∧gk=T.length-k∧Fr (fun _=>False) wb wq∧∀i (h:i<T.length),i<k→ltN T[i].n (y.s,y.o)=true)
    case atStart=>exact ⟨0,rfl,Nat.zero_le _,rfl,Fr.refl _ _,fun i h h'=>by omega⟩
    case round=>
     obtain ⟨k,rfl,hk,hg2,hfr,hlow⟩:=hrel
     have HG2:=Lib.hid hg2;have HLow:=Lib.hid hlow;have HFr:=Lib.hid hfr
     clear hg2 hlow hfr
     by_cases hlk:k<T.length
     ·obtain ⟨b2,o2,rfl,-,c2⟩:=HS1.out.at hlk (by omega)
      have hyb:=HY.out.fr HFr.out (fun _ _ h=>h)
      have HSC:Hid (SE wb wr b2 (o2+k*3) By T[k].n.1 T[k].n.2 y.s y.o):=⟨cellK (by have:=c2 (k*3+0) _ ((flat_at En.cs_len hlk (by omega)).trans rfl);rw [←Nat.add_assoc] at this;exact this) HFr.out,cellK (by have:=c2 (k*3+1) _ ((flat_at En.cs_len hlk (by omega)).trans rfl);rw [←Nat.add_assoc] at this;exact this) HFr.out,hyb.cell 4,hyb.cell 5,HFr.out⟩
      have HQ:Hid (ltN T[k].n (y.s,y.o)=true→∀i (h:i<T.length),i<k+1→ltN T[i].n (y.s,y.o)=true):=fun hb i h hi=>by
       rcases Nat.lt_succ_iff_lt_or_eq.1 hi with hi|rfl
       ·exact HLow.out i h hi
       ·exact hb
      have HQ2:Hid (ltN T[k].n (y.s,y.o)=false→lowE (y.s,y.o) T=k):=fun hb=>lowK_at _ HLow.out (.inr ⟨hlk,hb⟩)
      clear c2 HLow hyb
      generalize T[k].n=q at *
      obtain ⟨qs,qo⟩:=q
      dsimp only at HSC
      go_upto_region 7 with (fail)
      refine al7 (by kernel_rfl) _ _ wb wr b2 o2 T.length ca k By qs qo y.s y.o hlk (by omega) HSC.out rfl rfl rfl rfl ?_
      intro xx w2 hx hsc
      simp only [Eng.setAll,Act.put,List.setIfInBounds_toArray,List.set_cons_succ,List.set_cons_zero]
      rw [hx]
      have H2:=Lib.hid hsc
      clear hsc hx HSC
      cases hb:ltN (qs,qo) (y.s,y.o) with
      |true=>
       have HX:=Lib.hid (HQ.out hb)
       clear hb
       go_wp2_with fail
       go_roundg (T.length-(k+1))
       case rel=>exact ⟨k+1,by go_num,by omega,rfl,H2.out,HX.out⟩
       case measure=>have:=HG2.out;omega
      |false=>
       have HX:=Lib.hid (HQ2.out hb)
       clear hb
       go_wp2_with fail
       go_meet
       exact ⟨by rw [HX.out],H2.out⟩
     ·obtain rfl:k=T.length:=by omega
      have HX:Hid (lowE (y.s,y.o) T=T.length):=lowK_at _ HLow.out (.inl rfl)
      have t1:decide ((T.length:Int)<(T.length:Int))=false:=by simp
      go_upto_region 7 with (fail)
      go_quiet (fail)
      go_wp2_with fail
      go_meet
      exact ⟨by rw [HX.out],HFr.out.trans (Fr.drewN (fun _=>False) _ _) (fun _ _ h=>h) (fun _ _ h=>h)⟩
   case rest=>
    obtain ⟨rfl,hfr⟩:=hcut
    have hll:lowE (y.s,y.o) T≤T.length:=lowK_le _ T
    have HHas:Hid ((∃e∈T,e.n=(y.s,y.o))→∃h:lowE (y.s,y.o) T<T.length,T[lowE (y.s,y.o) T].n=(y.s,y.o)):=fun hm=>lowE_has HTr.out hm
    have HHs:Hid ((∃e∈T,e.n=(y.s,y.o))→AllI L (L.take (j+1)) (T.map En.v)):=fun hm=>by
     rw [HTk.out]
     obtain ⟨e,he,hn⟩:=hm
     exact HTr.out.has ⟨En.v e,List.mem_map.2 ⟨e,he,rfl⟩,hn⟩
    have HIns:Hid (¬ (∃e∈T,e.n=(y.s,y.o))→∀e:En,e.n=(y.s,y.o)→TrI (y.s,y.o) L e.l→AllI L (L.take (j+1)) ((insE e T).map En.v)):=fun hm e he ht=>by rw [HTk.out];exact HTr.out.ins hm he ht
    have HInE:Hid (∀e:En,e.n=(y.s,y.o)→insE e T=T.take (lowE (y.s,y.o) T)++e::T.drop (lowE (y.s,y.o) T)):=fun e he=>by unfold insE insK lowE;rw [he]
    generalize lowE (y.s,y.o) T=k at *
    rename_i wc
    have HBm:=Lib.hid (HBe2.out.trans (hfr.below hszb (fun _ _ h=>h)))
    have HOm:=Lib.hid (ownsRow_fr HOw2.out hfr (fun _ _ h=>h))
    have HSm:=Lib.hid (HS1.out.fr hfr (fun _ _ h=>h))
    have HYm:=Lib.hid (HY.out.fr hfr (fun _ _ h=>h))
    have HTBm:=Lib.hid (HTB2.out.below (Nat.le_refl _) (hfr.below (Nat.le_refl _) (fun _ _ h=>h)))
    have hszf:=hfr.size
    have hszm:w.heap.size≤wc.heap.size:=by omega
    clear HBe2 HOw2 HS1 HY hfr HTr HTk HTB2
    by_cases hmem:∃e∈T,e.n=(y.s,y.o)
    ·obtain ⟨hlk,hne⟩:=HHas.out hmem
     have HX:=Lib.hid (HHs.out hmem)
     have HNe:=Lib.hid hne
     obtain ⟨b2,o2,rfl,-,c2⟩:=HSm.out.at hlk (by omega)
     have HSC:Hid (SE wc wc b2 (o2+k*3) By T[k].n.1 T[k].n.2 y.s y.o):=⟨by have:=c2 (k*3+0) _ ((flat_at En.cs_len hlk (by omega)).trans rfl);rw [←Nat.add_assoc] at this;exact this,by have:=c2 (k*3+1) _ ((flat_at En.cs_len hlk (by omega)).trans rfl);rw [←Nat.add_assoc] at this;exact this,HYm.out.cell 4,HYm.out.cell 5,Fr.refl _ _⟩
     have HDe:Hid (decide ((T[k].n.1,T[k].n.2)=(y.s,y.o))=true):=decide_eq_true hne
     clear c2 hne hmem HHas HHs HIns HInE HNe
     generalize T[k].n=q at *
     go_upto_region 9 with (fail)
     refine al9 (by kernel_rfl) _ _ wc wc b2 o2 T.length ca k By q.1 q.2 y.s y.o hlk (by omega) HSC.out rfl rfl rfl rfl ?_
     intro xx w2 hx hsc
     simp only [Eng.setAll,Act.put,List.setIfInBounds_toArray,List.set_cons_succ,List.set_cons_zero]
     rw [hx,HDe.out]
     have H2:=Lib.hid hsc
     clear hsc hx HSC HDe
     go_wp2_with fail
     go_roundg (L.length-(j+1))
     case rel=>exact ⟨j+1,T,by go_num,by omega,rfl,ownsRow_fr HOm.out H2.out (fun _ _ h=>h),HBm.out.trans (H2.out.below hszm (fun _ _ h=>h)),HX.out,by omega,HTBm.out.below (Nat.le_refl _) (H2.out.below (Nat.le_refl _) (fun _ _ h=>h))⟩
     case measure=>have:=HG.out;omega
    ·have HX:=Lib.hid (HIns.out hmem)
     have HNm:=Lib.hid hmem
     clear hmem HHas HIns HHs
     by_cases hlk:k<T.length
     ·have HE:Hid (decide ((T[k].n.1,T[k].n.2)=(y.s,y.o))=false):=decide_eq_false (fun e=>HNm.out ⟨T[k],List.getElem_mem hlk,e⟩)
      obtain ⟨b2,o2,hAa,-,c2⟩:=HSm.out.at hlk (by omega)
      have HSC:Hid (SE wc wc b2 (o2+k*3) By T[k].n.1 T[k].n.2 y.s y.o):=⟨by have:=c2 (k*3+0) _ ((flat_at En.cs_len hlk (by omega)).trans rfl);rw [←Nat.add_assoc] at this;exact this,by have:=c2 (k*3+1) _ ((flat_at En.cs_len hlk (by omega)).trans rfl);rw [←Nat.add_assoc] at this;exact this,HYm.out.cell 4,HYm.out.cell 5,Fr.refl _ _⟩
      subst hAa
      clear c2
      generalize hq:T[k].n=q at *
      clear hq
      go_upto_region 9 with (fail)
      refine al9 (by kernel_rfl) _ _ wc wc b2 o2 T.length ca k By q.1 q.2 y.s y.o hlk (by omega) HSC.out rfl rfl rfl rfl ?_
      intro xx wm hx hsc
      simp only [Eng.setAll,Act.put,List.setIfInBounds_toArray,List.set_cons_succ,List.set_cons_zero]
      rw [hx,HE.out]
      have H2:=Lib.hid hsc
      clear hsc hx HSC HE
      obtain ⟨A1,hA1e⟩:∃A1,A1=some (⟨b2,o2,none⟩:Addr):=⟨_,rfl⟩
      rw [←hA1e] at HSm HA1 ⊢
      clear hA1e
      have hszx:=H2.out.size
      replace HBm:=Lib.hid (HBm.out.trans (H2.out.below hszm (fun _ _ h=>h)));replace HSm:=Lib.hid (HSm.out.fr H2.out (fun _ _ h=>h));replace HYm:=Lib.hid (HYm.out.fr H2.out (fun _ _ h=>h));replace HTBm:=Lib.hid (HTBm.out.below (Nat.le_refl _) (H2.out.below (Nat.le_refl _) (fun _ _ h=>h)))
      replace hszm:w.heap.size≤wm.heap.size:=by omega
      clear HOm
      have HAm:Hid (∀a,A1=some a→a.block<wm.heap.size):=fun a ha=>by have:=(HA1.out a ha).2.2;omega
      have hS1:Sl wm 3 A1 (k) ca ((T.flatMap En.cs).take (k*3)):=HSm.out.take (k:=k) hll
      go_wp2_with (at_builtin;refine wpList_append_sl _ rfl (.tmp 84) (.tmp 87) TEs rfl wm.heap.size TE i0 (.agg #[.string ByteArray.empty,.string ByteArray.empty,.slice none 0 0]) 3 56 underlying38 hi hz0 hz1_ hz2 rfl (by decide) _ _ _ rfl (World.ownsRow_nil _ _ _ _) _ _ _ _ rfl hS1 (fun u hu=>cs_one T u (List.mem_of_mem_take hu)) ?_ ?_ (Nat.le_refl _) ?_)
      ·unfold maxLen;omega
      ·omega
      intro v1 w1 hown1 hgrow1
      have hb1:Below wm.heap.size wm w1:=(Below.refl _ _).grown hgrow1 (Nat.le_refl _) (fun k e=>by simp [Value.ownBlock] at e)
      have HSR:Hid (SR wm.heap.size wm w1 h L R By y ((T.flatMap En.cs).take (k*3)) (k) v1):=⟨HD.out w1 (HBm.out.trans (hb1.mono hszm)),HYm.out.fr (Fr.of_below' hb1 (fun _=>False)) (fun _ _ h=>h),hown1,hb1,hb1.size,by omega,fun b hb=>by have:=hRl b hb;omega⟩
      have HTB1:=Lib.hid (HTBm.out.below (Nat.le_refl _) hb1)
      clear hb1 hgrow1 hown1 hS1
      go_upto_region 12 with (fail)
      refine al12 (by kernel_rfl) _ _ wm.heap.size wm w1 h L R By y ((T.flatMap En.cs).take (k*3)) (k) v1 hl (by omega) HSR.out rfl rfl rfl rfl ?_
      intro xx w2 e v2 hx he htr hsr
      simp only [Eng.setAll,Act.put,List.setIfInBounds_toArray,List.set_cons_succ,List.set_cons_zero]
      rw [hx]
      have HS2:=Lib.hid hsr;have HEn:=Lib.hid he
      have HX2:=Lib.hid (HX.out e he htr)
      have HIe:=Lib.hid (HInE.out e he)
      have hS3:Sl w2 3 (if ca=k then A1 else A1.map (·.add (k*3))) (T.length-k) (ca-k) ((T.flatMap En.cs).drop (k*3)):=(HSm.out.below hsr.f HAm.out).drop (k:=k) hll
      have hown2:=hsr.o
      have hsz2:wm.heap.size≤w2.heap.size:=hsr.n
      clear hx he htr hsr HSR HTB1
      go_wp2_with (at_builtin;refine wpList_append_sl _ rfl (.tmp 103) (.tmp 106) TEs rfl wm.heap.size TE i0 (.agg #[.string ByteArray.empty,.string ByteArray.empty,.slice none 0 0]) 3 56 underlying38 hi hz0 hz1_ hz2 rfl (by decide) _ _ _ rfl hown2 _ _ _ _ ?_ hS3 (fun u hu=>cs_one T u (List.mem_of_mem_drop hu)) ?_ ?_ ?_ ?_)
      any_goals (unfold maxLen;omega)
      any_goals omega
      all_goals
       intro v3 w3 hown3 hgrow3
       have hf3:Fr (fun b=>v2.ownBlock=some b) w2 w3:=Fr.grown hgrow3 (S:=fun b=>v2.ownBlock=some b) (fun k h=>h)
       have hb3:Below wm.heap.size wm w3:=HS2.out.f.grown hgrow3 hsz2 (fun k e=>(ownsRow_blk HS2.out.o k e).1)
       have HB3:=Lib.hid (HBm.out.trans (hb3.mono hszm));have HO3:=Lib.hid (ownsRow_base hown3 hszm)
       have HTB3:Hid (TB w3 (insE e T)):=Lib.hid ((HTBm.out.below (Nat.le_refl _) hb3).ins (HS2.out.t.fr hf3 (fun a ha h=>(HS2.out.a a ha).2.2 h)) (fun a ha=>Nat.lt_of_lt_of_le (HS2.out.a a ha).1 hf3.size))
       have HO4:Hid (w3.ownsRow w.heap.size TE 3 v3 (insE e T).length ((insE e T).flatMap En.cs)):=by
        show World.ownsRow _ _ _ _ _ _ _
        have h1:k+1+(T.length-k)=T.length+1:=by omega
        have h2:(insE e T).length=T.length+1:=insK_len _ _ _
        rw [h2,HIe.out,cs_ins]
        have:=HO3.out
        (try rw [h1] at this)
        rw [List.append_assoc]
        exact this
       clear hb3 hf3 hgrow3 hown3 hown2 hS3 HO3
       go_wp2_with fail
       go_roundg (L.length-(j+1))
       case rel=>exact ⟨j+1,insE e T,by go_num,by omega,rfl,HO4.out,HB3.out,HX2.out,by have:=insK_len (fun a:En=>ltN a.n e.n) e T;show (insK _ _ _).length≤_;omega,HTB3.out⟩
       case measure=>have:=HG.out;omega
     ·obtain rfl:k=T.length:=by omega
      have t1:decide ((T.length:Int)<(T.length:Int))=false:=by simp
      go_upto_region 9 with (fail)
      go_quiet (fail)
      have H2:=Lib.hid (Fr.drewN (fun _=>False) wc nq)
      generalize wc.drewN nq=wm at *
      have hszx:=H2.out.size
      replace HBm:=Lib.hid (HBm.out.trans (H2.out.below hszm (fun _ _ h=>h)));replace HSm:=Lib.hid (HSm.out.fr H2.out (fun _ _ h=>h));replace HYm:=Lib.hid (HYm.out.fr H2.out (fun _ _ h=>h));replace HTBm:=Lib.hid (HTBm.out.below (Nat.le_refl _) (H2.out.below (Nat.le_refl _) (fun _ _ h=>h)))
      replace hszm:w.heap.size≤wm.heap.size:=by omega
      clear HOm
      have HAm:Hid (∀a,A1=some a→a.block<wm.heap.size):=fun a ha=>by have:=(HA1.out a ha).2.2;omega
      have hS1:Sl wm 3 A1 (T.length) ca ((T.flatMap En.cs).take (T.length*3)):=HSm.out.take (k:=T.length) hll
      go_wp2_with (at_builtin;refine wpList_append_sl _ rfl (.tmp 84) (.tmp 87) TEs rfl wm.heap.size TE i0 (.agg #[.string ByteArray.empty,.string ByteArray.empty,.slice none 0 0]) 3 56 underlying38 hi hz0 hz1_ hz2 rfl (by decide) _ _ _ rfl (World.ownsRow_nil _ _ _ _) _ _ _ _ rfl hS1 (fun u hu=>cs_one T u (List.mem_of_mem_take hu)) ?_ ?_ (Nat.le_refl _) ?_)
      ·unfold maxLen;omega
      ·omega
      intro v1 w1 hown1 hgrow1
      have hb1:Below wm.heap.size wm w1:=(Below.refl _ _).grown hgrow1 (Nat.le_refl _) (fun k e=>by simp [Value.ownBlock] at e)
      have HSR:Hid (SR wm.heap.size wm w1 h L R By y ((T.flatMap En.cs).take (T.length*3)) (T.length) v1):=⟨HD.out w1 (HBm.out.trans (hb1.mono hszm)),HYm.out.fr (Fr.of_below' hb1 (fun _=>False)) (fun _ _ h=>h),hown1,hb1,hb1.size,by omega,fun b hb=>by have:=hRl b hb;omega⟩
      have HTB1:=Lib.hid (HTBm.out.below (Nat.le_refl _) hb1)
      clear hb1 hgrow1 hown1 hS1
      go_upto_region 12 with (fail)
      refine al12 (by kernel_rfl) _ _ wm.heap.size wm w1 h L R By y ((T.flatMap En.cs).take (T.length*3)) (T.length) v1 hl (by omega) HSR.out rfl rfl rfl rfl ?_
      intro xx w2 e v2 hx he htr hsr
      simp only [Eng.setAll,Act.put,List.setIfInBounds_toArray,List.set_cons_succ,List.set_cons_zero]
      rw [hx]
      have HS2:=Lib.hid hsr;have HEn:=Lib.hid he
      have HX2:=Lib.hid (HX.out e he htr)
      have HIe:=Lib.hid (HInE.out e he)
      have hS3:Sl w2 3 (if ca=T.length then A1 else A1.map (·.add (T.length*3))) (T.length-T.length) (ca-T.length) ((T.flatMap En.cs).drop (T.length*3)):=(HSm.out.below hsr.f HAm.out).drop (k:=T.length) hll
      have hown2:=hsr.o
      have hsz2:wm.heap.size≤w2.heap.size:=hsr.n
      clear hx he htr hsr HSR HTB1
      go_wp2_with (at_builtin;refine wpList_append_sl _ rfl (.tmp 103) (.tmp 106) TEs rfl wm.heap.size TE i0 (.agg #[.string ByteArray.empty,.string ByteArray.empty,.slice none 0 0]) 3 56 underlying38 hi hz0 hz1_ hz2 rfl (by decide) _ _ _ rfl hown2 _ _ _ _ ?_ hS3 (fun u hu=>cs_one T u (List.mem_of_mem_drop hu)) ?_ ?_ ?_ ?_)
      any_goals (unfold maxLen;omega)
      any_goals omega
      all_goals
       intro v3 w3 hown3 hgrow3
       have hf3:Fr (fun b=>v2.ownBlock=some b) w2 w3:=Fr.grown hgrow3 (S:=fun b=>v2.ownBlock=some b) (fun k h=>h)
       have hb3:Below wm.heap.size wm w3:=HS2.out.f.grown hgrow3 hsz2 (fun k e=>(ownsRow_blk HS2.out.o k e).1)
       have HB3:=Lib.hid (HBm.out.trans (hb3.mono hszm));have HO3:=Lib.hid (ownsRow_base hown3 hszm)
       have HTB3:Hid (TB w3 (insE e T)):=Lib.hid ((HTBm.out.below (Nat.le_refl _) hb3).ins (HS2.out.t.fr hf3 (fun a ha h=>(HS2.out.a a ha).2.2 h)) (fun a ha=>Nat.lt_of_lt_of_le (HS2.out.a a ha).1 hf3.size))
       have HO4:Hid (w3.ownsRow w.heap.size TE 3 v3 (insE e T).length ((insE e T).flatMap En.cs)):=by
        show World.ownsRow _ _ _ _ _ _ _
        have h1:T.length+1+(T.length-T.length)=T.length+1:=by omega
        have h2:(insE e T).length=T.length+1:=insK_len _ _ _
        rw [h2,HIe.out,cs_ins]
        have:=HO3.out
        (try rw [h1] at this)
        rw [List.append_assoc]
        exact this
       clear hb3 hf3 hgrow3 hown3 hown2 hS3 HO3
       go_wp2_with fail
       go_roundg (L.length-(j+1))
       case rel=>exact ⟨j+1,insE e T,by go_num,by omega,rfl,HO4.out,HB3.out,HX2.out,by have:=insK_len (fun a:En=>ltN a.n e.n) e T;show (insK _ _ _).length≤_;omega,HTB3.out⟩
       case measure=>have:=HG.out;omega
  ·obtain rfl:j=L.length:=by omega
   have htr:=HTr.out
   rw [List.take_length] at htr
   have HX:=Lib.hid htr.fin
   clear htr
   have q2:decide (((L.length:Nat):Int)<((L.length:Nat):Int))=false:=by simp
   obtain ⟨A1,ca,rfl,hS1,hA1⟩:=Sl.of_own HOw.out
   have HS1:=Lib.hid hS1
   clear hS1 hA1 HOw
   go_wp2_with fail
   go_ret
   exact ⟨T,A1,ca,rfl,HX.out,⟨HS1.out,fun e he=>(HTB.out e he).1⟩,HBe.out⟩
end Rf28
end Go.Proofs.YtdpngmgaomghoaaGreatDoor
