/- A span's place is given up, and those of all below it: the program's. -/
import Derived.Test.YtgfjpnpbkkadpaaGreatDrd1
import Derived.Test.YtgfjpnpbkkadpaaGreatQues
namespace Go.Proofs.YtgfjpnpbkkadpaaGreat
open Tryz
set_option maxRecDepth 100000
set_option maxHeartbeats 4000000
open Go.RowKit
namespace Wrk
open KeyP SetP KidsP Cls KdO Fst Drd
attribute [local go_sem] Eng.ev Eng.getO_cons Eng.getO_nil
theorem lo_len' {L Bo:List Sn} {LO:Ll} (h:Lo L Bo LO):LO.length≤L.length+Bo.length:=by
 have:=sub_len' (r:=LO.map (·.1)) (L:=(L.map kk)++(Bo.map kk)) (fst_nodup h.s) (fun k hk=>by
  obtain ⟨q,hq,rfl⟩:=List.mem_map.1 hk
  obtain ⟨i,h1,h2,h3,h4,h5⟩:=h.m q hq
  rw [List.mem_append]
  rcases h5 with h5| ⟨x,hx,e1,e2⟩
  ·obtain ⟨y,hy⟩:=Option.isSome_iff_exists.1 h5
   obtain ⟨k1,k2,k3⟩:=nx_some hy
   exact .inl (List.mem_map.2 ⟨y,k1,by unfold kk;rw [k2,k3,h3]⟩)
  ·exact .inr (List.mem_map.2 ⟨x,hx,by unfold kk;rw [e1,e2,h3]⟩))
 rw [List.length_append,List.length_map,List.length_map,List.length_map] at this
 exact this
theorem wr_len (LO:Ll) (M:Pl):(wr LO M).length=LO.length:=by unfold wr;rw [List.length_map]
theorem off_len (LO:Ll) (M:Pl):(off LO M).length≤M.length:=List.length_filter_le _ _
theorem insL_new {κ ν:Type} [Ord κ] (k:κ) (v:ν):∀ {L:List (κ × ν)},hasL k L=false→(insL k v L).length=L.length+1
 | [],_=>rfl
 | (a,b)::t,h=>by
  rw [hasL_cons,Bool.or_eq_false_iff] at h
  rw [insL]
  by_cases h1:Ord.lt k a=true
  ·rw [if_pos h1];rfl
  ·rw [if_neg h1]
   by_cases h2:Ord.lt a k=true
   ·rw [if_pos h2,List.length_cons,insL_new k v h.2];rfl
   ·have:=Ord.tri a k (by simpa using h2) (by simpa using h1)
    subst this
    rw [sameK_refl] at h;cases h.1
theorem tn_own {F F':List Nat} {w wr w2:World} {S:Nat→Prop} (h:Tn F F' w wr) (hf:Fr S wr w2) (hS:∀b,S b→w.heap.size≤b):Tn F F' w w2:=
 ⟨h.fr.trans hf (fun _ _ h=>h) (fun i hi hs=>by have:=hS i hs;omega),fun x hx=>⟨(h.sub x hx).1,Nat.lt_of_lt_of_le (h.sub x hx).2 hf.size⟩⟩
theorem FW.kids {w:World} {W B:Nat} {L:List Sn} {M WE:Pl} {LO:Ll} {n:Int} {F:List Nat} (h:FW w W B L M WE LO n F) {t p:Int} (ht:wf64 t) (hp:wf64 p):∃F1:List Nat,(∀b∈F1,b∈F)∧∀ (W1:World) (Bx Bt Bi:Nat),Fr (fun _=>False) w W1→Bk W1 Bx #[.pointer (some ⟨B,0,none⟩)] TP→Bk W1 Bt #[.int .i64 t] TI→Bk W1 Bi #[.int .i64 p] TI→
  SeqP prog 188 #[.pointer (some ⟨Bx,0,none⟩),.pointer (some ⟨Bt,0,none⟩),.pointer (some ⟨Bi,0,none⟩)] (fun k:Int=> #[.int .i64 k]) (Bt::Bi::F1) 8 (KidsP.kids t p L) W1:=by
 obtain ⟨Ff,Fw,⟨rp,G1,FP,h1,-,-,rfl⟩,-,-,rfl⟩:=h
 refine ⟨G1,fun b hb=>by simp [hb],fun W1 Bx Bt Bi hf hx hb hi=>?_⟩
 exact Kids_seq _ B _ Bx Bt Bi L G1 t p W1 (h1.fr hf (fun _ _ h=>h)) hx hb hi ht hp (fun b hb=>by simp [hb]) (by simp) (by simp) (fun b hb'=>by
  rcases List.mem_cons.1 hb' with rfl|hb'
  ·exact lt_of_heap hb
  ·rcases List.mem_cons.1 hb' with rfl|hb'
   ·exact lt_of_heap hi
   ·exact Nat.lt_of_lt_of_le (h1.lt b hb') hf.size)
structure LS (w wr:World) (W B:Nat) (L Bo:List Sn) (M0:Pl) (LO LO':Ll) (t i:Int) (left:List Int) (v:Value) (F F':List Nat):Prop where
 q:QRow wr v left.length (ints left)
 o:∀b,v.ownBlock=some b→w.heap.size≤b∧b∉F'
 f:FW wr W B L (off LO' M0) (Drd.wr LO' M0) LO' (LO'.length:Nat) F'
 l:Lo L Bo LO'
 c:Cl L LO' t left
 g:Lf L Bo t left
 i:hasL (key2 t i) LO'=true∨i∈left
 m:∀k,hasL k LO=true→hasL k LO'=true
 t:Tn F F' w wr
theorem lo2 {ops:Array Oper} (hops:Eng.fnOps Tryz.f76 2=ops) (a0:Act) (Q:Exit→Act→World→Prop) (w:World) (g o n cap:Nat) (x:Int) (v1:Value) (hv:∀W:World,(Instr.slice TIs (.slice (some ⟨g,o,none⟩) (n+1) cap) (some (.int .i64 1)) none none).run prog W=.ok v1 W) (hst:w.cell? ⟨g,o,none⟩=some (.int .i64 x))
  (hn:a0.tmps.size=57) (h_6:a0.tmps.getD 6 undef=.slice (some ⟨g,o,none⟩) (n+1) cap)
  (hpost:∀ (x_:Nat→Value) (w':World),x_ 2=.int .i64 x→x_ 6=v1→Fr (fun _=>False) w w'→Q .normal (Eng.setAll a0 [2,6,13,14,15,16,17] x_) w'):
  (Code.region 2 ops true).wp prog Q a0 w:=by
 simp only [Eng.fnOps,Eng.regOps,Tryz.f76,Option.bind_some,Option.getD_some,Nat.reduceEqDiff,↓reduceIte] at hops
 subst hops
 have q1:(0:Int)<(n:Int)+1:=by omega
 have HSt:=Lib.hid ((show w.drew.cell? ⟨g,o,none⟩=some (.int .i64 x) from hst))
 refine Eng.regionT (.take 0 (.take 1 (.take 2 (.take 3 (.take 4 (.take 5 (.take 6 (.done)))))))) (fun w'=>w'.cell? ⟨g,o,none⟩=some (.int .i64 x)) (by kernel_rfl) 57 hn (by kernel_rfl) (by kernel_rfl) (by kernel_rfl) (HSt.out) (fun a b ha hb=>?_)
 subst ha
 have hb6:b 6=.slice (some ⟨g,o,none⟩) (n+1) cap:=(hb 6).symm.trans h_6
 clear hb h_6
 have HP:=Lib.hid hpost;have HN:=Lib.hid hn
 clear hpost hn
 iterate 7 (refine Eng.TW.tk ?_)
 refine Eng.TW.end_ [2,6,13,14,15,16,17] HN.out (by kernel_rfl) (by kernel_rfl) ?_
 exact HP.out _ _ rfl rfl (Fr.drew _ _)
theorem lose {W B:Nat} {L Bo:List Sn} {M0:Pl} {LO:Ll} {F:List Nat} (t i:Int) (w:World) (hM:Srt M0) (h:FW w W B L (off LO M0) (Drd.wr LO M0) LO (LO.length:Nat) F) (ht:wf64 t) (hi:wf64 i) (hlo:Lo L Bo LO) (hcl:Cl L LO t []) (hb:∃x∈Bo,x.t=t∧x.i=i) (sl:L.length≤100000) (sb:Bo.length≤100000) (sm:M0.length≤100000):
  Calls prog 76 #[.pointer (some ⟨W,0,none⟩),.int .i64 t,.int .i64 i] w fun e w'=>e=.returned (.tuple #[])∧∃LO' F',FW w' W B L (off LO' M0) (Drd.wr LO' M0) LO' (LO'.length:Nat) F'∧Lo L Bo LO'∧Cl L LO' t []∧hasL (key2 t i) LO'=true∧(∀k,hasL k LO=true→hasL k LO'=true)∧Tn F F' w w':=by
 obtain ⟨hs,hg,hbr,-⟩:=h.rel
 have HS:=Lib.hid hs;have HG:=Lib.hid hg;have HM:=Lib.hid hM;have HT:=Lib.hid ht;have HI:=Lib.hid hi;have HBo:=Lib.hid hb
 have hfa:=Fr.alloc (fun _=>False) w (.cells #[.int .i64 i] TIn)
 have hL0:LS w (w.alloc (.cells #[.int .i64 i] TIn)) W B L Bo M0 LO LO t i [i] (.slice (some ⟨w.heap.size,0,none⟩) 1 1) F F:=by
  refine ⟨QRow.lit w _,fun b hb=>?_,h.keep hfa,hlo,fun x hx hp=>(hcl x hx hp).imp id (fun q=>by cases q.2),fun j hj=>?_,.inr (by simp),fun _ h=>h,Tn.of_fr hfa h.lt⟩
  ·simp [Value.ownBlock] at hb;subst hb;exact ⟨Nat.le_refl _,fun e=>by have:=h.lt _ e;omega⟩
  ·simp at hj;subst hj;exact ⟨hi,.inr hb⟩
 have HL:=Lib.hid hL0
 clear h hM ht hi hlo hcl hb hs hg hbr hfa hL0
 go_enter func76,ntmps76
 go_wp2_with fail
 generalize (w.alloc (.cells #[.int .i64 i] TIn))=w1 at *
 go_loopg [2,6,7] (L.length+1) (fun gk a v _ wr=>∃ (j:Int) (left:List Int) (LO':Ll) (F':List Nat),a=.int .i64 j∧(mu L LO' t left≤gk∧gk≤L.length+1)∧LS w wr W B L Bo M0 LO LO' t i left v F F')
 case atStart=>exact ⟨i,[i],LO,F,rfl,⟨by have:=(mu_le L LO t [i]).2;simp at this;omega,Nat.le_refl _⟩,HL.out⟩
 case round=>
  clear HL
  obtain ⟨j0,left,LO',F',rfl,hmu,hls⟩:=hrel
  have HMu:=Lib.hid hmu;have HL:=Lib.hid hls
  clear hmu hls
  cases left with
  |nil=>
   obtain ⟨A,c,hv⟩:=HL.out.q.isSl
   subst hv
   have HE:Hid (∃LO' F',FW wr W B L (off LO' M0) (Drd.wr LO' M0) LO' (LO'.length:Nat) F'∧Lo L Bo LO'∧Cl L LO' t []∧hasL (key2 t i) LO'=true∧(∀k,hasL k LO=true→hasL k LO'=true)∧Tn F F' w wr):=⟨LO',F',HL.out.f,HL.out.l,HL.out.c,HL.out.i.resolve_right (by simp),HL.out.m,HL.out.t⟩
   go_wp2_with fail
   first| (go_end0;exact ⟨rfl,HE.out⟩)|exact bodyPost_ret (results_none rfl _ _ _) rfl ⟨rfl,HE.out⟩
  |cons j left=>
   obtain ⟨g,o,cap,v1,hv,hc1,hsl,hq1,hob⟩:=HL.out.q.tail
   subst hv
   obtain ⟨r,hr⟩:∃r,gk=r+1:=⟨gk-1,by have:=HMu.out.1;have:=(mu_le L LO' t (j::left)).1;simp at this;omega⟩
   subst hr
   have HSl:=Lib.hid hsl;have HQ1:=Lib.hid hq1;have HOb:=Lib.hid hob
   have HJ:=Lib.hid (HL.out.g j (by simp)).1
   have HLen:=Lib.hid (lo_len' HL.out.l)
   clear hq1 hob
   go_upto_region 2 with (fail)
   refine lo2 (by kernel_rfl) _ _ wr g o left.length cap j v1 hsl hc1 rfl rfl ?_
   intro x w2 hx1 hx2 hf
   simp only [Eng.setAll,Act.put,List.setIfInBounds_toArray,List.set_cons_succ,List.set_cons_zero,hx1,hx2]
   have HF2:=Lib.hid hf
   have HW2:=Lib.hid (HL.out.f.keep hf)
   clear hf hx1 hx2 hsl hc1
   go_wp2_with fail
   refine (Of' HT.out HJ.out w2).mono ?_
   rintro e w3 ⟨rfl,hf⟩
   have HF3:=Lib.hid (HF2.out.trans hf (fun _ _ h=>h) (fun _ _ h=>h))
   have HW3:=Lib.hid (HW2.out.keep hf)
   clear hf HW2 HF2
   have sz1:LO'.length<1000000:=by have:=HLen.out;omega
   have HSz:=Lib.hid sz1
   go_wp2_with fail
   refine (HW3.out.putL (key2 t j) t sz1).mono ?_
   rintro e w4 ⟨rfl,F2,h4,t4⟩
   have HT3:=Lib.hid (tn_own HL.out.t HF3.out (fun _ h=>h.elim))
   have HT4:=Lib.hid (HT3.out.trans t4)
   have HQ4:Hid (QRow w4 v1 left.length (ints left)):=(HQ1.out.fr HF3.out (fun _ _ h=>h)).fr t4.fr (fun b hb e=>by
    rw [HOb.out] at hb;cases hb
    exact (HL.out.o _ rfl).2 e)
   have HO4:Hid (∀b,v1.ownBlock=some b→w.heap.size≤b∧b∉F2):=fun b hb=>by
    rw [HOb.out] at hb;cases hb
    refine ⟨(HL.out.o _ rfl).1,fun e=>?_⟩
    rcases (t4.sub _ e).1 with e|e
    ·exact (HL.out.o _ rfl).2 e
    ·obtain ⟨cc,hcc⟩:=HL.out.q.lt g rfl
     have:=lt_of_heap hcc;have:=HF3.out.size;omega
   cases hk:hasL (key2 t j) LO' with
   |true=>
    have HLo:=Lib.hid (HL.out.l.old HT.out HJ.out hk)
    have HLS:Hid (LS w w4 W B L Bo M0 LO LO' t i left v1 F F2):=by
     refine ⟨HQ4.out,HO4.out,?_,HL.out.l,HL.out.c.old hk,fun z hz=>HL.out.g z (by simp [hz]),?_,HL.out.m,HT4.out⟩
     ·have:=h4;rwa [HLo.out] at this
     ·rcases HL.out.i with e|e
      ·exact .inl e
      ·rcases List.mem_cons.1 e with e|e
       ·exact .inl (e▸hk)
       ·exact .inr e
    clear h4 t4 hk sz1
    go_wp2_with fail
    go_roundg r
    case rel=>exact ⟨j,left,LO',F2,rfl,by have:=HMu.out.1;have:=HMu.out.2;have:=mu_old (L:=L) (LO:=LO') (t:=t) (i:=j) (left:=left);omega,HLS.out⟩
    case measure=>omega
   |false=>
    have HK:=Lib.hid hk
    have HLo:=Lib.hid (HL.out.l.new HT.out HJ.out (HBo.out.elim fun x hx=>⟨x,hx.1,hx.2.1⟩) (HL.out.g j (by simp)).2)
    have hn:=insL_new (key2 t j) t hk
    have HN:=Lib.hid hn
    have hs:=h4.step ((LO'.length:Int)+1)
    have c1:=h4.cell.2
    have c2:=h4.free 5
    have q1:IntKind.i64.wrap ((LO'.length:Int)+1)=(LO'.length:Int)+1:=by rw [IntKind.wrap_i64];omega
    have HW5:=Lib.hid hs.1
    have HT5:=Lib.hid (HT4.out.trans (Tn.of_W hs.2 (fun b e=>e▸h4.B_lt.2) h4.lt))
    have HQ5:=Lib.hid (HQ4.out.fr hs.2 (fun b hb e=>(HO4.out b hb).2 (e▸h4.B_lt.2)))
    clear h4 t4 hs hn hk
    go_upto_region 6 with (fail)
    generalize (w4.setCell ⟨W,5,none⟩ (.int .i64 ((LO'.length:Int)+1)))=w5 at *
    clear c1 c2 q1
    have sz2:(Drd.wr LO' M0).length<1000000:=by rw [wr_len];exact sz1
    go_wp2_with fail
    refine (touch (key2 t j) w5 HW5.out sz2).mono ?_
    rintro e w6 ⟨rfl,F6,h6,t6⟩
    rw [tch_new HL.out.l.s HK.out t] at h6
    have HW6:=Lib.hid h6
    have HT6:=Lib.hid (HT5.out.trans t6)
    have HQ6:Hid (QRow w6 v1 left.length (ints left)):=HQ5.out.fr t6.fr (fun b hb e=>(HO4.out b hb).2 e)
    have HO6:Hid (∀b,v1.ownBlock=some b→w.heap.size≤b∧b∉F6):=fun b hb=>⟨(HO4.out b hb).1,fun e=>by
     rcases (t6.sub _ e).1 with e|e
     ·exact (HO4.out b hb).2 e
     ·obtain ⟨cc,hcc⟩:=HQ5.out.lt b hb
      have:=lt_of_heap hcc;omega⟩
    clear h6 t6 sz2 HW5 HT5 HQ5 HO4 HT4 HQ4
    have sz3:(off LO' M0).length<1000000:=by have:=off_len LO' M0;omega
    have c0:=HW6.out.cell.1
    go_wp2_with fail
    refine (HW6.out.dropM (key2 t j) sz3).mono ?_
    rintro e w7 ⟨⟨_,rfl⟩,F7,h7,t7⟩
    rw [off_ins HM.out (key2 t j) t] at h7
    have HW7:=Lib.hid h7
    have HT7:=Lib.hid (HT6.out.trans t7)
    have HQ7:Hid (QRow w7 v1 left.length (ints left)):=HQ6.out.fr t7.fr (fun b hb e=>(HO6.out b hb).2 e)
    have HO7:Hid (∀b,v1.ownBlock=some b→w.heap.size≤b∧b∉F7):=fun b hb=>⟨(HO6.out b hb).1,fun e=>by
     rcases (t7.sub _ e).1 with e|e
     ·exact (HO6.out b hb).2 e
     ·obtain ⟨cc,hcc⟩:=HQ6.out.lt b hb
      have:=lt_of_heap hcc;omega⟩
    clear h7 t7 sz3 HW6 HT6 HQ6 HO6 c0
    have c0:=HW7.out.cell.1
    go_wp2_with fail
    refine (Kids_ (some ⟨B,0,none⟩) t j w7).mono ?_
    rintro e w8 ⟨rfl,hg8,hbx,hbt,hbi⟩
    obtain ⟨F1,hF1,hseq⟩:=HW7.out.kids HT.out HJ.out
    obtain ⟨K,hK⟩:∃K,KidsP.kids t j L=K:=⟨_,rfl⟩
    rw [hK] at hseq
    have HKe:=Lib.hid hK
    have HKl:Hid (K.length≤L.length):=by show _≤_;rw [←hK];unfold KidsP.kids ofP;rw [List.length_map];exact List.length_filter_le _ _
    clear hK
    have HSeq:Hid (∀W1,Fr (fun _=>False) w8 W1→SeqP prog 188 #[.pointer (some ⟨w7.heap.size,0,none⟩),.pointer (some ⟨w7.heap.size+1,0,none⟩),.pointer (some ⟨w7.heap.size+2,0,none⟩)] (fun k:Int=> #[.int .i64 k]) ((w7.heap.size+1)::(w7.heap.size+2)::F1) 8 K W1):=fun W1 hf=>
     hseq W1 _ _ _ (hg8.f.trans hf (fun _ _ h=>h) (fun _ _ h=>h)) (hbx.fr hf (fun _ _ h=>h)) (hbt.fr hf (fun _ _ h=>h)) (hbi.fr hf (fun _ _ h=>h))
    have HZ8:=Lib.hid hg8.z
    have HW8:=Lib.hid (HW7.out.keep hg8.f)
    have HT8:=Lib.hid (tn_own HT7.out hg8.f (fun _ h=>h.elim))
    have HQ8:=Lib.hid (HQ7.out.fr hg8.f (fun _ _ h=>h))
    have HF1:=Lib.hid hF1
    have hbl:∀b,v1.ownBlock=some b→b<w7.heap.size:=fun b hb=>by
     obtain ⟨cc,hcc⟩:=HQ7.out.lt b hb
     exact lt_of_heap hcc
    have HBl:=Lib.hid hbl
    clear hg8 hbx hbt hbi hF1 hseq hbl HT7 HQ7 c0
    obtain ⟨A1,cap1,hv1⟩:=HQ8.out.isSl
    subst hv1
    have hlk:left.length+K.length≤1000000:=by
     have h1:=(mu_le L LO' t (j::left));have h2:=HMu.out
     have h3:=HKl.out
     simp at h1;omega
    go_wp2_with fail
    refine (AppendSeq A1 cap1 left.length (ints left) 188 _ _ 8 K w8 HQ8.out (enters_of func188 (by kernel_rfl) rfl) HSeq.out (fun b hb=>?_) hlk).mono ?_
    ·have hz:=HZ8.out
     have hb3:∀b',(Value.slice A1 left.length cap1).ownBlock=some b'→b'<w7.heap.size∧b'∉F7:=fun b' hb'=>⟨HBl.out b' hb',(HO7.out b' hb').2⟩
     rcases List.mem_cons.1 hb with rfl|hb
     ·exact ⟨by omega,fun e=>by have:=(hb3 _ e).1;omega⟩
     ·rcases List.mem_cons.1 hb with rfl|hb
      ·exact ⟨by omega,fun e=>by have:=(hb3 _ e).1;omega⟩
      ·have hb7:=HF1.out b hb
       exact ⟨by have:=HW8.out.lt _ hb7;omega,fun e=>(hb3 _ e).2 hb7⟩
    rintro e w9 ⟨v9,rfl,hq9,hf9,ho9⟩
    obtain ⟨A9,cap9,hv9⟩:=hq9.isSl
    subst hv9
    have HLS:Hid (LS w w9 W B L Bo M0 LO (insL (key2 t j) t LO') t i (left++K) (.slice A9 (left.length+K.length) cap9) F F7):=by
     refine ⟨?_,fun b hb=>?_,?_,HLo.out,by rw [←HKe.out];exact HL.out.c.new HG.out HT.out HJ.out,by rw [←HKe.out];exact HL.out.g.new HS.out HG.out,?_,fun k hk=>?_,tn_own HT8.out hf9 (fun b hb=>(HO7.out b hb).1)⟩
     ·rw [List.length_append,show ints (left++K)=ints left++ints K from List.map_append];exact hq9
     ·rcases ho9 b hb with e|e
      ·exact HO7.out b e
      ·have:=HT8.out.fr.size
       exact ⟨by omega,fun e2=>by have:=HW8.out.lt _ e2;omega⟩
     ·have h9:=HW8.out.fr hf9 (fun b hb e=>(HO7.out b e).2 hb)
      rw [HN.out];exact h9
     ·rw [hasL_ins]
      rcases HL.out.i with e|e
      ·exact .inl (by rw [e,Bool.or_true])
      ·rcases List.mem_cons.1 e with e|e
       ·exact .inl (by rw [e,sameK_refl,Bool.true_or])
       ·exact .inr (List.mem_append.2 (.inl e))
     ·rw [hasL_ins,HL.out.m k hk,Bool.or_true]
    have HMu2:Hid (mu L (insL (key2 t j) t LO') t (left++K)≤r):=by
     show _≤_
     have:=mu_new HG.out HT.out HJ.out (left:=left) HK.out;rw [HKe.out] at this;have:=HMu.out.1;omega
    clear hq9 hf9 ho9 hlk
    go_wp2_with fail
    go_roundg r
    case rel=>exact ⟨j,left++K,insL (key2 t j) t LO',F7,rfl,⟨HMu2.out,by have:=HMu.out.2;omega⟩,HLS.out⟩
    case measure=>omega
end Wrk
set_option maxRecDepth 100000
set_option maxHeartbeats 4000000
namespace Wrk
open KeyP SetP KidsP Cls KdO Fst Drd
attribute [local go_sem] Eng.ev Eng.getO_cons Eng.getO_nil
theorem cw_none {L:List Sn} {t i:Int} {K:Int→Bool} {n:Nat} {s:List Sn} (h:nx L t i=none):cw L t K (n+1) s i=(s,i):=by unfold cw;rw [h]
theorem cw_stop {L:List Sn} {t i:Int} {K:Int→Bool} {n:Nat} {s:List Sn} {y:Sn} (h:nx L t i=some y) (hk:(K i||(fnd y s).isSome)=true):cw L t K (n+1) s i=(s,i):=by unfold cw;rw [h];dsimp only;rw [if_pos hk]
theorem cw_go {L:List Sn} {t i:Int} {K:Int→Bool} {n:Nat} {s:List Sn} {y:Sn} (h:nx L t i=some y) (hk:(K i||(fnd y s).isSome)=false):cw L t K (n+1) s i=cw L t K n (s++ [y]) y.p:=by
 conv=>lhs;unfold cw
 rw [h];dsimp only;rw [if_neg (by rw [hk];simp)]
theorem nodup_snoc {s:List Sn} {y:Sn} (hn:s.Nodup) (hf:(fnd y s).isSome=false):(s++ [y]).Nodup:=by
 rw [List.nodup_append]
 refine ⟨hn,by simp,fun a ha b hb e=>?_⟩
 simp at hb;subst hb;subst e
 have:fnd a s=none:=by cases hq:fnd a s with
  |none=>rfl
  |some q=>rw [hq] at hf;cases hf
 have:=fnd_none this a ha
 rw [one_refl] at this;cases this
abbrev ids (s:List Sn):List Int:=s.map (fun x=>x.i)
theorem ids_mem {s:List Sn} {y:Sn} (hs:∀x∈s,x.t=y.t):decide (y.i∈ids s)=(fnd y s).isSome:=by
 cases hf:fnd y s with
 |some z=>
  obtain ⟨h1,h2⟩:=fnd_some hf
  exact decide_eq_true (List.mem_map.2 ⟨z,h1,(one_iff.1 h2).2⟩)
 |none=>
  refine decide_eq_false (fun h=>?_)
  obtain ⟨x,hx,e⟩:=List.mem_map.1 h
  have:=fnd_none hf x hx
  rw [one_iff.2 ⟨hs x hx,e⟩] at this;cases this
structure CS (w wr:World) (W B:Nat) (L:List Sn) (M WE:Pl) (LO:Ll) (n:Int) (Ff:List Nat) (r1:Option Addr) (F1:List Nat) (r2:Option Addr) (F2:List Nat) (s:List Sn) (v:Value):Prop where
 o:wr.ownsRow w.heap.size TIn 1 v s.length (ints (ids s))
 f:FX wr W B L M WE LO (n+s.length) Ff r1 F1 r2 F2
 t:Fr (fun b=>b=W) w wr
def ChPost (w:World) (W B:Nat) (L:List Sn) (M WE:Pl) (LO:Ll) (n:Int) (Ff:List Nat) (r1:Option Addr) (F1:List Nat) (r2:Option Addr) (F2:List Nat) (SE:List Sn × Int) (e:Ending) (w':World):Prop:=
 ∃A c,e=.returned (.tuple #[.slice A SE.1.length c,.int .i64 SE.2])∧Sl w' 1 A SE.1.length c (ints (ids SE.1))∧FX w' W B L M WE LO (n+SE.1.length+1) Ff r1 F1 r2 F2∧Fr (fun b=>b=W) w w'∧∀a,A=some a→w.heap.size≤a.block
theorem chain {W B:Nat} {L:List Sn} {M WE:Pl} {LO:Ll} {n:Int} {Ff F1 F2:List Nat} {r1 r2:Option Addr} (t i:Int) (w:World) (h:FX w W B L M WE LO n Ff r1 F1 r2 F2) (ht:wf64 t) (hi:wf64 i) (hlen:L.length≤100000) (hn:0≤n∧n<1000000000) (SE:List Sn × Int) (hSE:cw L t (kn M t) (L.length+1) [] i=SE):
  Calls prog 144 #[.pointer (some ⟨W,0,none⟩),.int .i64 t,.int .i64 i] w (ChPost w W B L M WE LO n Ff r1 F1 r2 F2 SE):=by
 obtain ⟨i0,hi0,hz0,hz1,hz2⟩:=info_parts infoQ
 obtain ⟨hs,hg,-,-⟩:=h.fw.rel
 have HLt:=Lib.hid h.fw.lt
 have HG:=Lib.hid hg;have HT:=Lib.hid ht;have HI:=Lib.hid hi;have HN:=Lib.hid hn;have HSE:=Lib.hid hSE;have HX:=Lib.hid h
 clear h hs hg ht hi hn hSE
 go_enter func144,ntmps144
 go_wp2_with fail
 go_step3
 go_wp2_with fail
 go_step3
 go_wp2_with fail
 go_loopg [2,8,9,10,11,12] (L.length+1) (fun gk a v _ _ _ _ wr=>∃ (j:Int) (s:List Sn),a=.int .i64 j∧wf64 j∧gk=L.length+1-s.length∧CS w wr W B L M WE LO n Ff r1 F1 r2 F2 s v∧Ch L t i s j∧s.Nodup∧cw L t (kn M t) gk s j=SE)
 case atStart=>exact ⟨i,[],rfl,HI.out,rfl,⟨World.ownsRow_nil _ _ _ _,by simpa using HX.out,Fr.refl _ _⟩,.nil _,List.nodup_nil,HSE.out⟩
 case round=>
  clear HX HSE
  obtain ⟨j,s,rfl,hj,hg,hcs,hch,hnd,hcw⟩:=hrel
  have hsl:s.length≤L.length:=sub_len hnd (fun z hz=>(hch.mem z hz).1)
  obtain ⟨r,hr⟩:∃r,gk=r+1:=⟨L.length-s.length,by omega⟩
  subst hr
  obtain ⟨A8,c8,hv8,h8,hA8⟩:=Sl.of_own hcs.o
  subst hv8
  have H8:=Lib.hid h8
  clear h8 hA8
  have HGk:=Lib.hid hg;have HC:=Lib.hid hcs;have HCh:=Lib.hid hch;have HNd:=Lib.hid hnd;have HCw:=Lib.hid hcw;have HJ:=Lib.hid hj;have HSl:=Lib.hid hsl
  have c1:=hcs.f.cell.2
  have c2:=hcs.f.fw.free 5
  have q1:IntKind.i64.wrap (n+s.length+1)=n+s.length+1:=by rw [IntKind.wrap_i64];have:=HN.out;omega
  have hst:=hcs.f.step (n+s.length+1)
  have HX:=Lib.hid hst.1
  have HB1:=Lib.hid (ownsRow_blk hcs.o)
  have HWl:=Lib.hid (hcs.f.lt.1 W (by simp))
  have HO:Hid ((wr.setCell ⟨W,5,none⟩ (.int .i64 (n+s.length+1))).ownsRow w.heap.size TIn 1 (.slice A8 s.length c8) s.length (ints (ids s))):=ownsRow_fr hcs.o hst.2 (fun b hb e=>by
   subst e
   have h1:=(ownsRow_blk hcs.o b hb).2.2
   obtain ⟨cc,hc⟩:=h1
   rw [hcs.f.c.blk] at hc
   cases hc)
  have HF:=Lib.hid (hcs.t.trans hst.2 (fun _ _ h=>h) (fun _ _ h=>h))
  clear hg hcs hch hnd hcw hj hst
  go_upto_region 3 with (fail)
  generalize (wr.setCell ⟨W,5,none⟩ (.int .i64 (n+s.length+1)))=w1 at *
  clear c1 c2 q1
  have H81:=Lib.hid ((show Sl w1 1 A8 s.length c8 (ints (ids s)) by
   obtain ⟨A',c',he,hsl',-⟩:=Sl.of_own HO.out
   cases he;exact hsl'))
  clear H8
  have c0:=HX.out.cell.1
  obtain ⟨pa,hpa⟩:∃pa,((nx L t j).map (·.p)).getD 0=pa:=⟨_,rfl⟩
  obtain ⟨pb,hpb⟩:∃pb,(nx L t j).isSome=pb:=⟨_,rfl⟩
  have hpar:=HX.out.fw.parent HT.out HJ.out
  rw [hpa,hpb] at hpar
  have HPa:=Lib.hid hpa;have HPb:=Lib.hid hpb
  clear hpa hpb
  go_wp2_with fail
  refine hpar.mono ?_
  clear hpar
  rintro e w2 ⟨rfl,hf⟩
  have HX2:=Lib.hid (HX.out.keep hf);have HO2:=Lib.hid (ownsRow_fr HO.out hf (fun _ _ h=>h));have HF2:=Lib.hid (HF.out.trans hf (fun _ _ h=>h) (fun _ _ h=>h.elim));have H82:=Lib.hid (H81.out.fr hf (fun _ _ h=>h))
  clear hf c0 HX HO HF H81
  obtain ⟨kv,hkv⟩:∃v,(getL (key2 t j) M).getD z6=v:=⟨_,rfl⟩
  obtain ⟨kb,hkb⟩:∃vb,(getL (key2 t j) M).isSome=vb:=⟨_,rfl⟩
  go_upto_region 4 with (fail)
  refine ch4 (by kernel_rfl) _ _ w2 w2 W B L M WE LO _ _ t j kv kb HT.out HJ.out hkv hkb HX2.out.fw ⟨Fr.refl _ _,by simp⟩ rfl rfl rfl rfl ?_
  intro x w3 Bp hx1 hx2 hst
  simp only [Eng.setAll,Act.put,List.setIfInBounds_toArray,List.set_cons_succ,List.set_cons_zero,hx1,hx2]
  have HKb:Hid (kn M t j=kb):=hkb
  have hf:=hst.f
  have HX3:=Lib.hid (HX2.out.keep hf);have HO3:=Lib.hid (ownsRow_fr HO2.out hf (fun _ _ h=>h));have HF3:=Lib.hid (HF2.out.trans hf (fun _ _ h=>h) (fun _ _ h=>h.elim));have H83:=Lib.hid (H82.out.fr hf (fun _ _ h=>h))
  clear hst hf hx1 hx2 hkv hkb HX2 HO2 HF2 H82
  have hfin:∀w',w3=w'→SE=(s,j)→ChPost w W B L M WE LO n Ff r1 F1 r2 F2 SE (.returned (.tuple #[.slice A8 s.length c8,.int .i64 j])) w':=fun w' hw he=>by
   subst hw;subst he
   exact ⟨A8,c8,rfl,H83.out,HX3.out,HF3.out,fun a ha=>by subst ha;exact (ownsRow_blk HO3.out a.block rfl).1⟩
  have HFin:=Lib.hid hfin
  clear hfin
  cases pb with
  |false=>
   have hnn:nx L t j=none:=by have:=HPb.out;cases hq:nx L t j with
    |none=>rfl
    |some y=>rw [hq] at this;cases this
   have HE:=Lib.hid (HFin.out w3 rfl (HCw.out.symm.trans (cw_none hnn)))
   clear hnn
   go_wp2_with fail
   try rw [Exit.noGoto_ret]
   go_ret2
   exact HE.out
  |true=>
   obtain ⟨y,hy⟩:∃y,nx L t j=some y:=Option.isSome_iff_exists.1 HPb.out
   obtain ⟨hyL,hyt,hyi⟩:=nx_some hy
   have hpy:pa=y.p:=by have:=HPa.out;rw [hy] at this;exact this.symm
   subst hpy
   have HSt:=Lib.hid (fun (hk:(kb||(fnd y s).isSome)=true)=>HFin.out w3 rfl (HCw.out.symm.trans (cw_stop (K:=kn M t) (n:=r) (s:=s) hy (by rw [HKb.out];exact hk))))
   have HGo:=Lib.hid (fun (hk:(kb||(fnd y s).isSome)=false)=>(cw_go (K:=kn M t) (n:=r) (s:=s) hy (by rw [HKb.out];exact hk)).symm.trans HCw.out)
   have HSn:=Lib.hid (HCh.out.snoc hy)
   have HYi:=Lib.hid hyi;have HYp:=Lib.hid (HG.out y hyL).2.2
   have hmem:decide (j∈ids s)=(fnd y s).isSome:=by rw [←hyi];exact ids_mem (fun x hx=>by rw [(HCh.out.mem x hx).2.1,hyt])
   have HMem:=Lib.hid hmem
   clear hy hyL hyt hyi hmem
   cases kb with
   |true=>
    have HE:=Lib.hid (HSt.out rfl)
    clear HSt HGo
    go_wp2_with fail
    try rw [Exit.noGoto_ret]
    go_ret2
    exact HE.out
   |false=>
    go_wp2_with fail
    have hcon:=Contains A8 c8 (ids s) j w3 (by simpa using H83.out)
    rw [List.length_map] at hcon
    refine hcon.mono ?_
    clear hcon
    rintro e w4 ⟨rfl,rfl⟩
    rw [HMem.out]
    cases hc:(fnd y s).isSome with
    |true=>
     have HE:=Lib.hid (HSt.out (by rw [hc];rfl))
     clear HSt HGo hc
     go_wp2_with fail
     try rw [Exit.noGoto_ret]
     go_ret2
     exact HE.out
    |false=>
     have HGo2:=Lib.hid (HGo.out (by rw [hc];rfl))
     have HNd2:=Lib.hid (nodup_snoc HNd.out hc)
     clear HSt HGo hc HFin
     have hown':=HO3.out.alloc (.cells #[.int .i64 j] TIn)
     have hsl2:=HSl.out
     have hszw:=HF3.out.size
     go_wp2_with (at_builtin;refine wpList_append_own _ rfl (.tmp 55) (.tmp 57) TIs rfl w.heap.size TIn i0 (.int .i64 0) 1 8 underlying199 hi0 hz0 hz1 hz2 rfl (by decide) _ _ _ rfl hown' ⟨w4.heap.size,0,none⟩ 1 1 [.int .i64 j] rfl rfl (cell_one_new _ _ _) (by simp [Value.oneCell']) (by unfold maxLen;omega) (by omega) (by simp;omega) ?_)
     intro v1 w5 hown1 hgrow1 _
     have hf5:Fr (fun b=>(Value.slice A8 s.length c8).ownBlock=some b) w4 w5:=(Fr.alloc (fun _=>False) w4 (.cells #[.int .i64 j] TIn)).trans (Fr.grown hgrow1 (S:=fun b=>(Value.slice A8 s.length c8).ownBlock=some b) (fun _ h=>h)) (fun _ _ h=>h.elim) (fun _ _ h=>h)
     have HCS:Hid (CS w w5 W B L M WE LO n Ff r1 F1 r2 F2 (s++ [y]) v1):=by
      refine ⟨?_,?_,HF3.out.trans hf5 (fun _ _ h=>h) (fun i hi h=>by have:=(ownsRow_blk HO3.out i h).1;omega)⟩
      ·rw [List.length_append,List.length_singleton,show ints (ids (s++ [y]))=ints (ids s)++ [.int .i64 j] by rw [←HYi.out];simp [ints,ids]];simpa [ints,ids] using hown1
      ·rw [List.length_append,List.length_singleton,show (n+((s.length+1:Nat):Int))=n+s.length+1 by omega]
       refine HX3.out.fr hf5 (fun b hb h=>?_)
       have h1:=(ownsRow_blk HO3.out b h).1;have h2:=HLt.out b hb;omega
     clear hown1 hgrow1 hf5 hown'
     go_wp2_with fail
     go_roundg r
     case rel=>exact ⟨y.p,s++ [y],rfl,HYp.out,by rw [List.length_append,List.length_singleton];have:=HGk.out;omega,HCS.out,HSn.out,HNd2.out,HGo2.out⟩
     case measure=>omega
end Wrk
end Go.Proofs.YtgfjpnpbkkadpaaGreat
