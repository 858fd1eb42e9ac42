/- The document's dred: what becomes of places that become others; all places; are shifts the same. -/
import Derived.Test.YtgfjpnpbkkadpaaGreatLaw22s
import Derived.Test.YtgfjpnpbkkadpaaGreatClsZs
import Derived.Test.YtgfjpnpbkkadpaaGreatRefDe
namespace Go.Proofs.YtgfjpnpbkkadpaaGreat
open Tryz
set_option maxRecDepth 100000
set_option maxHeartbeats 2000000
open Go.RowKit
namespace Ref22
open KeyP PackP SetP SetW SetF Sli Delta KidsP Cls KdO Fst Drd Wrk
open ClsF (AtP fdI FindP)
open Law22 (As)
attribute [local go_sem] Eng.ev Eng.getO_cons Eng.getO_nil
theorem fdw (O:List Pq) (x:Pq):(fdI O x.t x.i= -1∧kq O x=false)∨∃j,∃h:j<O.length,fdI O x.t x.i=(j:Int)∧oP O[j] x=true:=by
 cases hx:O.findIdx? (fun p=>decide (p.t=x.t)&&decide (p.i=x.i)) with
 |none=>
  refine .inl ⟨by unfold fdI;rw [hx],?_⟩
  rw [List.findIdx?_eq_none_iff] at hx
  exact List.any_eq_false.2 (fun z hz=>by rw [show oP z x=(decide (z.t=x.t)&&decide (z.i=x.i)) from rfl,hx z hz];simp)
 |some j=>
  obtain ⟨h1,h2,-⟩:=List.findIdx?_eq_some_iff_getElem.1 hx
  exact .inr ⟨j,h1,by unfold fdI;rw [hx],h2⟩
def wo (P Q:List Pq):List Pq:=P.filter (fun x=> !decide (x∈Q))
theorem wo_succ {P Q:List Pq} {k:Nat} (h:k<P.length):wo (P.take (k+1)) Q=wo (P.take k) Q++if decide (P[k]∈Q)=true then [] else [P[k]]:=by
 unfold wo
 rw [List.take_succ_eq_append_getElem h,List.filter_append]
 cases hq:decide (P[k]∈Q)<;>simp [hq]
theorem wo_len (P Q:List Pq):(wo P Q).length≤P.length:=List.length_filter_le _ _
theorem mvd_wo {A B:List Sn} (hA:Srs A) (hB:Srs B):mvd A B=wo (A.map (plq A)) (B.map (plq B)):=by
 refine srp_ext (mvd_srp hA) ((srp_map A hA).filter _) (fun y=>?_)
 unfold wo
 rw [mvd_mem hB,List.mem_filter,Bool.not_eq_true',decide_eq_false_iff_not]
theorem wo5 {ops:Array Oper} (hops:Eng.fnOps Tryz.f154 5=ops) (a0:Act) (Q:Exit→Act→World→Prop) (w0 w:World) (A1:Option Addr) (c1:Nat) (O:List Pq) (b1 o1 n c k:Nat) (x:Pq) (j:Int) (hk:k<n) (_hn9:n≤100000) (hO:Sl w0 6 A1 O.length c1 (pcs O)) (ha:AtP w0 b1 (o1+k*6) x) (hj:fdI O x.t x.i=j) (hst:Fr (fun _=>False) w0 w)
  (hn:a0.tmps.size=47) (h_0:a0.tmps.getD 0 undef=.slice (some ⟨b1,o1,none⟩) n c) (h_1:a0.tmps.getD 1 undef=.slice A1 O.length c1) (h_6:a0.tmps.getD 6 undef=.int .i64 (k:Int))
  (hpost:∀ (x_:Nat→Value) (w':World),x_ 7=.int .i64 j→Fr (fun _=>False) w0 w'→Q .normal (Eng.setAll a0 [7,14,15,16,17,18,19,20,21,22,23,24,25] x_) w'):
  (Code.region 5 ops true).wp prog Q a0 w:=by
 simp only [Eng.fnOps,Eng.regOps,Tryz.f154,Option.bind_some,Option.getD_some,Nat.reduceEqDiff,↓reduceIte] at hops
 subst hops
 have q1:(0:Int)≤(k:Int):=by omega
 have q2:(k:Int)<(n:Int):=by omega
 have HSt:=Lib.hid (hst.trans (Fr.drew (fun _=>False) _) (T:=fun _=>False) (fun _ _ h=>h) (fun _ _ h=>h))
 refine Eng.regionT (.take 0 (.take 1 (.take 2 (.take 3 (.take 4 (.take 5 (.take 6 (.take 7 (.take 8 (.take 9 (.take 10 (.alt 11 (.take 12 (.done)) (.stop))))))))))))) (fun w'=>w'.cell? ⟨b1,o1+k*6,none⟩=some (.int .i64 x.t)∧w'.cell? ⟨b1,o1+k*6+1,none⟩=some (.int .i64 x.i)) (by kernel_rfl) 47 hn (by kernel_rfl) (by kernel_rfl) (by kernel_rfl) (⟨(ha.keep HSt.out) 0 _ rfl,(ha.keep HSt.out) 1 _ rfl⟩) (fun a b ha hb=>?_)
 subst ha
 have hb0:b 0=.slice (some ⟨b1,o1,none⟩) n c:=(hb 0).symm.trans h_0
 have hb1:b 1=.slice A1 O.length c1:=(hb 1).symm.trans h_1
 have hb6:b 6=.int .i64 (k:Int):=(hb 6).symm.trans h_6
 clear hb h_0 h_1 h_6
 have HP:=Lib.hid hpost;have HN:=Lib.hid hn
 clear hpost hn
 iterate 11 (refine Eng.TW.tk ?_)
 refine Eng.TW.call rfl rfl (by decide) (by kernel_rfl) ?_ (FindP A1 c1 O x.t x.i w.drew (hO.fr HSt.out (fun _ _ h=>h))) ?_
 ·go_simp
 rintro e w2 ⟨rfl,hf1⟩
 rw [hj]
 have HSt2:=Lib.hid (HSt.out.trans hf1 (T:=fun _=>False) (fun _ _ h=>h) (fun _ _ h=>h))
 clear hf1
 refine ⟨_,rfl,⟨(ha.keep HSt2.out) 0 _ rfl,(ha.keep HSt2.out) 1 _ rfl⟩,?_⟩
 refine Eng.TW.tk ?_
 refine Eng.TW.end_ [7,14,15,16,17,18,19,20,21,22,23,24,25] HN.out (by kernel_rfl) (by kernel_rfl) ?_
 exact HP.out _ _ rfl HSt2.out
theorem wo6 {ops:Array Oper} (hops:Eng.fnOps Tryz.f154 6=ops) (a0:Act) (Q:Exit→Act→World→Prop) (w:World) (b2 o2 n1 c1 b1 o1 n c k j:Nat) (x z:Pq) (hk:k<n) (_hn9:n≤100000) (hj:j<n1) (_hn1:n1≤100000) (ha:AtP w b1 (o1+k*6) x) (hz:AtP w b2 (o2+j*6) z)
  (hn:a0.tmps.size=47) (h_0:a0.tmps.getD 0 undef=.slice (some ⟨b1,o1,none⟩) n c) (h_1:a0.tmps.getD 1 undef=.slice (some ⟨b2,o2,none⟩) n1 c1) (h_6:a0.tmps.getD 6 undef=.int .i64 (k:Int)) (h_7:a0.tmps.getD 7 undef=.int .i64 (j:Int))
  (hpost:∀ (x_:Nat→Value) (w':World),x_ 38=.bool (!eqP x z)→Fr (fun _=>False) w w'→Q .normal (Eng.setAll a0 [26,27,28,29,30,31,32,33,34,35,36,37,38] x_) w'):
  (Code.region 6 ops true).wp prog Q a0 w:=by
 simp only [Eng.fnOps,Eng.regOps,Tryz.f154,Option.bind_some,Option.getD_some,Nat.reduceEqDiff,↓reduceIte] at hops
 subst hops
 have q1:(0:Int)≤(k:Int):=by omega
 have q2:(k:Int)<(n:Int):=by omega
 have q3:(0:Int)≤(j:Int):=by omega
 have q4:(j:Int)<(n1:Int):=by omega
 have q5:decide ((j:Int)<0)=false:=decide_eq_false (by omega)
 have hq:=fun W:World=>neq_pc x.t x.i x.c x.d x.p x.f z.t z.i z.c z.d z.p z.f W
 have HSt:=Lib.hid (Fr.drew (fun _=>False) w)
 refine Eng.regionN [(0,true),(1,true),(2,true),(3,true),(4,true),(5,true),(6,true),(7,true),(8,true),(9,true),(10,true),(11,true),(12,true)] (fun w'=>w'.cell? ⟨b1,o1+k*6,none⟩=some (.int .i64 x.t)∧w'.cell? ⟨b1,o1+k*6+1,none⟩=some (.int .i64 x.i)∧w'.cell? ⟨b1,o1+k*6+1+1,none⟩=some (.int .i64 x.c)∧w'.cell? ⟨b1,o1+k*6+1+1+1,none⟩=some (.int .i64 x.d)∧w'.cell? ⟨b1,o1+k*6+1+1+1+1,none⟩=some (.int .i64 x.p)∧w'.cell? ⟨b1,o1+k*6+1+1+1+1+1,none⟩=some (.int .i64 x.f)∧w'.cell? ⟨b2,o2+j*6,none⟩=some (.int .i64 z.t)∧w'.cell? ⟨b2,o2+j*6+1,none⟩=some (.int .i64 z.i)∧w'.cell? ⟨b2,o2+j*6+1+1,none⟩=some (.int .i64 z.c)∧w'.cell? ⟨b2,o2+j*6+1+1+1,none⟩=some (.int .i64 z.d)∧w'.cell? ⟨b2,o2+j*6+1+1+1+1,none⟩=some (.int .i64 z.p)∧w'.cell? ⟨b2,o2+j*6+1+1+1+1+1,none⟩=some (.int .i64 z.f)) (by kernel_rfl) 47 hn (by kernel_rfl) rfl (by kernel_rfl) (⟨(ha.keep HSt.out) 0 _ rfl,(ha.keep HSt.out) 1 _ rfl,(ha.keep HSt.out) 2 _ rfl,(ha.keep HSt.out) 3 _ rfl,(ha.keep HSt.out) 4 _ rfl,(ha.keep HSt.out) 5 _ rfl,(hz.keep HSt.out) 0 _ rfl,(hz.keep HSt.out) 1 _ rfl,(hz.keep HSt.out) 2 _ rfl,(hz.keep HSt.out) 3 _ rfl,(hz.keep HSt.out) 4 _ rfl,(hz.keep HSt.out) 5 _ rfl⟩) (fun a b ha hb=>?_)
 subst ha
 have hb0:b 0=.slice (some ⟨b1,o1,none⟩) n c:=(hb 0).symm.trans h_0
 have hb1:b 1=.slice (some ⟨b2,o2,none⟩) n1 c1:=(hb 1).symm.trans h_1
 have hb6:b 6=.int .i64 (k:Int):=(hb 6).symm.trans h_6
 have hb7:b 7=.int .i64 (j:Int):=(hb 7).symm.trans h_7
 clear hb h_0 h_1 h_6 h_7
 have HP:=Lib.hid hpost;have HN:=Lib.hid hn
 clear hpost hn
 iterate 13 (refine Eng.Sch.tk ?_)
 refine Eng.Sch.end_ [26,27,28,29,30,31,32,33,34,35,36,37,38] HN.out (by kernel_rfl) (by kernel_rfl) ?_
 exact HP.out _ _ rfl HSt.out
theorem wo6t {ops:Array Oper} (hops:Eng.fnOps Tryz.f154 6=ops) (a0:Act) (Q:Exit→Act→World→Prop) (w:World)
  (hn:a0.tmps.size=47) (h_7:a0.tmps.getD 7 undef=.int .i64 (-1))
  (hpost:∀ (x_:Nat→Value) (w':World),x_ 38=.bool true→Fr (fun _=>False) w w'→Q .normal (Eng.setAll a0 [26,27,28,29,30,31,32,33,34,35,36,37,38] x_) w'):
  (Code.region 6 ops true).wp prog Q a0 w:=by
 simp only [Eng.fnOps,Eng.regOps,Tryz.f154,Option.bind_some,Option.getD_some,Nat.reduceEqDiff,↓reduceIte] at hops
 subst hops
 have HSt:=Lib.hid (Fr.drew (fun _=>False) w)
 refine Eng.regionN [(0,true),(1,true),(2,true),(3,true),(4,true),(5,true),(6,true),(7,true),(8,true),(9,true),(10,true),(11,true),(12,true)] (fun w'=>True) (by kernel_rfl) 47 hn (by kernel_rfl) rfl (by kernel_rfl) (trivial) (fun a b ha hb=>?_)
 subst ha
 have hb7:b 7=.int .i64 (-1):=(hb 7).symm.trans h_7
 clear hb h_7
 have HP:=Lib.hid hpost;have HN:=Lib.hid hn
 clear hpost hn
 iterate 3 (refine Eng.Sch.tk ?_)
 iterate 9 (refine Eng.Sch.skip rfl rfl (by decide) (by kernel_rfl) ?_)
 refine Eng.Sch.tk ?_
 refine Eng.Sch.end_ [26,27,28,29,30,31,32,33,34,35,36,37,38] HN.out (by kernel_rfl) (by kernel_rfl) ?_
 exact HP.out _ _ rfl HSt.out
theorem wo6c {ops:Array Oper} (hops:Eng.fnOps Tryz.f154 6=ops) (a0:Act) (Q:Exit→Act→World→Prop) (w:World) (A1:Option Addr) (c1:Nat) (O:List Pq) (b1 o1 n c k:Nat) (x:Pq) (hk:k<n) (hn9:n≤100000) (hn1:O.length≤100000) (hS:SrP O) (hO:Sl w 6 A1 O.length c1 (pcs O)) (ha:AtP w b1 (o1+k*6) x)
  (hn:a0.tmps.size=47) (h_0:a0.tmps.getD 0 undef=.slice (some ⟨b1,o1,none⟩) n c) (h_1:a0.tmps.getD 1 undef=.slice A1 O.length c1) (h_6:a0.tmps.getD 6 undef=.int .i64 (k:Int)) (h_7:a0.tmps.getD 7 undef=.int .i64 (fdI O x.t x.i))
  (hpost:∀ (x_:Nat→Value) (w':World),x_ 38=.bool (!decide (x∈O))→Fr (fun _=>False) w w'→Q .normal (Eng.setAll a0 [26,27,28,29,30,31,32,33,34,35,36,37,38] x_) w'):
  (Code.region 6 ops true).wp prog Q a0 w:=by
 rcases fdw O x with ⟨ej,hq⟩| ⟨j,hj,ej,ho⟩
 ·rw [ej] at h_7
  have hx:x∉O:=fun hm=>by rw [kq_iff.2 ⟨x,hm,one_refl _⟩] at hq;cases hq
  rw [decide_eq_false hx] at hpost
  exact wo6t hops a0 Q w hn h_7 hpost
 ·rw [ej] at h_7
  obtain ⟨b2,o2,rfl,-,cc⟩:=hO.at hj (by omega)
  have hd:eqP x O[j]=decide (x∈O):=by
   rw [Bool.eq_iff_iff,eqP_iff,decide_eq_true_eq]
   exact ⟨fun e=>by rw [e];exact List.getElem_mem hj,fun hm=>(srp_uni hS (List.getElem_mem hj) hm ho).symm⟩
  rw [←hd] at hpost
  exact wo6 hops a0 Q w b2 o2 O.length c1 b1 o1 n c k j x O[j] hk hn9 hj hn1 ha (AtP.row cc hj) hn h_0 h_1 h_6 h_7 hpost
theorem WithoutP {A A1:Option Addr} {c c1:Nat} {P Q:List Pq} (w:World) (hp:Sl w 6 A P.length c (pcs P)) (hq:Sl w 6 A1 Q.length c1 (pcs Q)) (hS:SrP Q) (l0:P.length≤100000) (l1:Q.length≤100000):
  Calls prog 154 #[.slice A P.length c,.slice A1 Q.length c1] w fun e w'=>∃A3 c3,e=.returned (.slice A3 (wo P Q).length c3)∧Sl w' 6 A3 (wo P Q).length c3 (pcs (wo P Q))∧Below w.heap.size w w'∧(∀q,A3=some q→w.heap.size≤q.block):=by
 obtain ⟨i0,hi,hz0,hz1,hz2⟩:=info_parts infoP
 have HP:=Lib.hid hp;have HQ:=Lib.hid hq
 clear hp hq
 go_enter func154,ntmps154
 go_wp2_with fail
 go_loopg [5,6] P.length (fun gk v i wr=>∃k:Nat,i=.int .i64 k∧k≤P.length∧gk=P.length-k∧wr.ownsRow w.heap.size TPl 6 v (wo (P.take k) Q).length (pcs (wo (P.take k) Q))∧Below w.heap.size w wr)
 case atStart=>exact ⟨0,rfl,Nat.zero_le _,rfl,World.ownsRow_nil _ _ _ _,Below.refl _ _⟩
 case round=>
  obtain ⟨k,rfl,hk,hg,hown,hbel⟩:=hrel
  have HG:=Lib.hid hg;have HW:=Lib.hid hown;have HBe:=Lib.hid hbel
  clear hg hown hbel
  by_cases hlt:k<P.length
  ·have q1:decide ((k:Int)<(P.length:Int))=true:=by simp;omega
   obtain ⟨b1,o1,rfl,-,cc1⟩:=HP.out.at hlt (by omega)
   have hF:=Fr.of_below' HBe.out (fun _=>False)
   have HA:=Lib.hid ((AtP.row cc1 hlt).keep hF)
   have HO1:=Lib.hid (HQ.out.fr hF (fun _ _ h=>h))
   have HS1:=Lib.hid (wo_succ (Q:=Q) hlt)
   have hb1:(wo (P.take k) Q).length≤100000:=Nat.le_trans (wo_len _ _) (Nat.le_trans (List.length_take_le' _ _) l0)
   have qk:IntKind.i64.wrap ((k:Int)+1)=(k:Int)+1:=by rw [IntKind.wrap_i64];omega
   clear hF cc1
   generalize P[k]=x at *
   generalize wo (P.take k) Q=Mk at *
   go_upto_region 5 with (fail)
   refine wo5 (by kernel_rfl) _ _ wr wr A1 c1 Q b1 o1 P.length c k x _ hlt l0 HO1.out HA.out rfl (Fr.refl _ _) rfl rfl rfl rfl ?_
   intro x_ w2 hx7 hf2
   simp only [Eng.setAll,Act.put,List.setIfInBounds_toArray,List.set_cons_succ,List.set_cons_zero,hx7]
   have HA2:=Lib.hid (HA.out.keep hf2);have HO2:=Lib.hid (HO1.out.fr hf2 (fun _ _ h=>h));have HF2:=Lib.hid hf2
   clear hx7 hf2 HA HO1
   go_upto_region 6 with (fail)
   refine wo6c (by kernel_rfl) _ _ w2 A1 c1 Q b1 o1 P.length c k x hlt l0 l1 hS HO2.out HA2.out rfl rfl rfl rfl rfl ?_
   intro x_ w3 hx38 hf3
   simp only [Eng.setAll,Act.put,List.setIfInBounds_toArray,List.set_cons_succ,List.set_cons_zero,hx38]
   have HF3:=Lib.hid (HF2.out.trans hf3 (T:=fun _=>False) (fun _ _ h=>h) (fun _ _ h=>h))
   have HA3:=Lib.hid (HA2.out.keep hf3)
   have HB3:=Lib.hid (HBe.out.trans (HF3.out.below HBe.out.size (fun _ _ h=>h)))
   have HW3:=Lib.hid (ownsRow_fr HW.out HF3.out (fun _ _ h=>h))
   clear hf3 hx38 HF2 HA2 HO2 HW HBe HF3
   cases hd:decide (x∈Q) with
   |true=>
    have HN1:Hid (wo (P.take (k+1)) Q=Mk):=by have:=HS1.out;rw [hd] at this;exact this.trans (List.append_nil _)
    clear hd HS1 HA3
    go_wp2_with fail
    go_roundg (P.length-(k+1))
    case rel=>exact ⟨k+1,by go_num,by omega,rfl,by rw [HN1.out];exact HW3.out,HB3.out⟩
    case measure=>have:=HG.out;omega
   |false=>
    have HN1:Hid (wo (P.take (k+1)) Q=Mk++ [x]):=by have:=HS1.out;rw [hd] at this;exact this
    have q2:(0:Int)≤(k:Int):=by omega
    have q3:(k:Int)<(P.length:Int):=by omega
    have yc0:w3.cell? ⟨b1,o1+k*6,none⟩=some (.int .i64 x.t):=HA3.out 0 _ rfl
    have yc1:w3.cell? ⟨b1,o1+k*6+1,none⟩=some (.int .i64 x.i):=HA3.out 1 _ rfl
    have yc2:w3.cell? ⟨b1,o1+k*6+1+1,none⟩=some (.int .i64 x.c):=HA3.out 2 _ rfl
    have yc3:w3.cell? ⟨b1,o1+k*6+1+1+1,none⟩=some (.int .i64 x.d):=HA3.out 3 _ rfl
    have yc4:w3.cell? ⟨b1,o1+k*6+1+1+1+1,none⟩=some (.int .i64 x.p):=HA3.out 4 _ rfl
    have yc5:w3.cell? ⟨b1,o1+k*6+1+1+1+1+1,none⟩=some (.int .i64 x.f):=HA3.out 5 _ rfl
    have hown2':=HW3.out.alloc (.cells x.arr TPl)
    have hs2:=HB3.out.size
    have HK1:=Lib.hid (ownsRow_blk HW3.out)
    clear hd HS1
    go_wp2_with (at_builtin;refine wpList_append_sl _ rfl (.tmp 39) (.tmp 44) TPls rfl w.heap.size TPl i0 zP 6 48 underlying78 hi hz0 hz1 hz2 rfl (by decide) _ _ _ rfl hown2' _ _ _ _ rfl (Sl.one w3 TPl x.cs 6 rfl) (by simp [Value.oneCell']) ?_ ?_ ?_ ?_)
    ·unfold maxLen;omega
    ·omega
    ·first|omega| (simp;omega)
    intro v1 w5 hown1 hgrow1
    have HO5:=Lib.hid hown1;have HGr:=Lib.hid hgrow1
    clear hown1 hgrow1 hown2' yc0 yc1 yc2 yc3 yc4 yc5
    go_wp2_with fail
    go_roundg (P.length-(k+1))
    case rel=>exact ⟨k+1,by go_num,by omega,rfl,by rw [HN1.out,List.length_append];simpa using HO5.out,(HB3.out.alloc (by omega) _).grown HGr.out (by simp;omega) (fun k e=>(HK1.out k e).1)⟩
    case measure=>have:=HG.out;omega
  ·have hke:k=P.length:=by omega
   subst hke
   rw [List.take_length] at HW
   have q1:decide ((P.length:Int)<(P.length:Int))=false:=by simp
   obtain ⟨A4,c4,hv,hsl,-⟩:=Sl.of_own HW.out
   subst hv
   have HSl:=Lib.hid hsl
   have HNe:Hid (∀q,A4=some q→w.heap.size≤q.block):=fun q hq=>by subst hq;exact (ownsRow_blk HW.out q.block rfl).1
   clear hsl
   go_wp2_with fail
   go_ret
   exact ⟨A4,c4,rfl,HSl.out,HBe.out,HNe.out⟩
theorem put2 {w w1:World} {B:Nat} {v1 v2:Value} (hr:Bk w1 B #[.slice none 0 0,.slice none 0 0] TSh) (hb:Below w.heap.size w w1) (hB:w.heap.size≤B):Bk ((w1.setCell ⟨B,0,none⟩ v1).setCell ⟨B,1,none⟩ v2) B #[v1,v2] TSh∧Below w.heap.size w ((w1.setCell ⟨B,0,none⟩ v1).setCell ⟨B,1,none⟩ v2)∧Fr (fun b=>b=B) w1 ((w1.setCell ⟨B,0,none⟩ v1).setCell ⟨B,1,none⟩ v2):=by
 have hf:Fr (fun b=>b=B) w1 ((w1.setCell ⟨B,0,none⟩ v1).setCell ⟨B,1,none⟩ v2):=(Fr.setCell w1 ⟨B,0,none⟩ v1 (S:=fun b=>b=B) rfl).trans (Fr.setCell _ ⟨B,1,none⟩ v2 (S:=fun b=>b=B) rfl) (fun _ _ h=>h) (fun _ _ h=>h)
 refine ⟨by have:=(hr.set 0 v1).set 1 v2;simpa using this,hb.trans (hf.below hb.size (fun k hk e=>by omega)),hf⟩
theorem BetweenP {A A1:Option Addr} {c c1:Nat} {P Q:List Pq} (w:World) (hp:Sl w 6 A P.length c (pcs P)) (hq:Sl w 6 A1 Q.length c1 (pcs Q)) (hS1:SrP P) (hS:SrP Q) (l0:P.length≤100000) (l1:Q.length≤100000):
  Calls prog 88 #[.slice A P.length c,.slice A1 Q.length c1] w fun e w'=>∃A3 c3 A4 c4,e=.returned (.agg #[.slice A3 (wo P Q).length c3,.slice A4 (wo Q P).length c4])∧Sl w' 6 A3 (wo P Q).length c3 (pcs (wo P Q))∧Sl w' 6 A4 (wo Q P).length c4 (pcs (wo Q P))∧Below w.heap.size w w':=by
 have hf:=Fr.alloc (fun _=>False) w (.cells #[.slice none 0 0,.slice none 0 0] TSh)
 have HR:=Lib.hid (Bk.new w #[.slice none 0 0,.slice none 0 0] TSh)
 have HB:=Lib.hid ((Below.refl w.heap.size w).alloc (Nat.le_refl _) (.cells #[.slice none 0 0,.slice none 0 0] TSh))
 have HP:=Lib.hid (hp.fr hf (fun _ _ h=>h));have HQ:=Lib.hid (hq.fr hf (fun _ _ h=>h))
 have hz1:w.heap.size<(w.alloc (.cells #[.slice none 0 0,.slice none 0 0] TSh)).heap.size:=by simp
 have HZ:=Lib.hid hz1
 have HW1:=Lib.hid (fun (W:World) (h1:Sl W 6 A P.length c (pcs P)) (h2:Sl W 6 A1 Q.length c1 (pcs Q))=>WithoutP W h1 h2 hS l0 l1)
 have HW2:=Lib.hid (fun (W:World) (h1:Sl W 6 A P.length c (pcs P)) (h2:Sl W 6 A1 Q.length c1 (pcs Q))=>WithoutP W h2 h1 hS1 l1 l0)
 generalize wo P Q=X at *
 generalize wo Q P=Y at *
 clear hp hq hf hz1
 go_enter func88,ntmps88
 go_upto_region 1 with (fail)
 generalize (w.alloc (.cells #[.slice none 0 0,.slice none 0 0] TSh))=w1 at *
 go_wp2_with fail
 refine (HW1.out w1 HP.out HQ.out).mono ?_
 rintro e w2 ⟨A3,c3,rfl,hls,hb,hn3⟩
 have hf:=Fr.of_below' hb (fun _=>False)
 have HN3:Hid (∀q,A3=some q→w.heap.size<q.block):=fun q hq=>Nat.lt_of_lt_of_le HZ.out (hn3 q hq)
 replace HZ:Hid (w.heap.size<w2.heap.size):=Nat.lt_of_lt_of_le HZ.out hb.size
 replace HR:=Lib.hid (HR.out.fr hf (fun _ _ h=>h))
 replace HP:=Lib.hid (HP.out.fr hf (fun _ _ h=>h));replace HQ:=Lib.hid (HQ.out.fr hf (fun _ _ h=>h))
 replace HB:=Lib.hid (HB.out.trans (hb.mono HB.out.size))
 have HX:=Lib.hid hls
 clear hls hb hn3 hf
 go_wp2_with fail
 refine (HW2.out w2 HP.out HQ.out).mono ?_
 rintro e w3 ⟨A4,c4,rfl,hls,hb,hn4⟩
 have hf:=Fr.of_below' hb (fun _=>False)
 have HN4:Hid (∀q,A4=some q→w.heap.size<q.block):=fun q hq=>Nat.lt_of_lt_of_le HZ.out (hn4 q hq)
 replace HR:=Lib.hid (HR.out.fr hf (fun _ _ h=>h))
 replace HX:=Lib.hid (HX.out.fr hf (fun _ _ h=>h))
 replace HB:=Lib.hid (HB.out.trans (hb.mono HB.out.size))
 have HY:=Lib.hid hls
 clear hls hb hn4 hf HP HQ HZ HW1 HW2
 have kb:∀W:World,(Instr.build TSh #[(0,.slice A3 X.length c3),(1,.slice A4 Y.length c4)]).run prog W=.ok (.agg #[.slice A3 X.length c3,.slice A4 Y.length c4]) W:=fun W=>by kernel_rfl
 have r0:=HR.out.cell 0;have r1:=HR.out.cell 1;have f0:=HR.out.free 0;have f1:=HR.out.free 1
 simp only [List.getElem?_toArray,List.getElem?_cons_zero,List.getElem?_cons_succ] at r0 r1
 have HU:=Lib.hid (put2 (v1:=.slice A3 X.length c3) (v2:=.slice A4 Y.length c4) HR.out HB.out (Nat.le_refl _))
 go_wp2_with fail
 obtain ⟨u1,u2,u3⟩:=HU.out
 exact bodyPost_ret (results_cell_row rfl _ _ w.heap.size TSh _ (0,0) _ rfl u1 underlying80 rfl (by kernel_rfl)) rfl ⟨A3,c3,A4,c4,rfl,HX.out.fr u3 (fun q hq e=>by have:=HN3.out q hq;omega),HY.out.fr u3 (fun q hq e=>by have:=HN4.out q hq;omega),u2⟩
abbrev TRf:TypeId:=77
theorem PlacesR {w:World} {Bf c:Nat} {A:Option Addr} {L:List Sn} (hb:Bk w Bf #[.slice A L.length c] TRf) (hl:Ls w A c L) (ha:As L) (sl:L.length≤900) (P:List Pq) (hP:L.map (plq L)=P) (n:Nat) (hn:P.length=n):Calls prog 33 #[.pointer (some ⟨Bf,0,none⟩)] w fun e w'=>∃A1 c1,e=.returned (.slice A1 n c1)∧Sl w' 6 A1 n c1 (pcs P)∧Fr (fun _=>False) w w':=by
 have HR:=Lib.hid (ClsF.ROf A c L w hl sl)
 rw [ha.fix,show ClsF.plcs L=P from hP,show L.length=n by rw [←hn,←hP,List.length_map]] at HR
 have z0:w.cell? ⟨Bf,0,none⟩=some (.slice A n c):=by have:=hb.cell 0;rwa [show L.length=n by rw [←hn,←hP,List.length_map]] at this
 clear hb
 go_enter func33,ntmps33
 go_wp2_with fail
 refine HR.out.mono ?_
 rintro e w' ⟨A1,c1,rfl,h1,h2⟩
 have H1:=Lib.hid h1;have H2:=Lib.hid (Fr.of_below' h2 (fun _=>False))
 clear h1 h2
 go_wp2_with fail
 go_ret
 exact ⟨A1,c1,rfl,H1.out,H2.out⟩
theorem SameS {X:World} {A1 A2:Option Addr} {c1 c2 n:Nat} {P:List Pq} (hn:P.length=n) (h1:Sl X 6 A1 n c1 (pcs P)) (h2:Sl X 6 A2 n c2 (pcs P)):Calls prog 35 #[.slice A1 n c1,.slice A2 n c2] X fun e w'=>e=.returned (.bool true)∧Fr (fun _=>False) X w':=by
 have:=ClsF.SameP A1 A2 c1 c2 P P X n n hn hn h1 h2
 rwa [decide_eq_true rfl] at this
theorem SameShift {A1 A2 A3 A4:Option Addr} {c1 c2 c3 c4 n m:Nat} {P Q:List Pq} (w:World) (hn:P.length=n) (hm:Q.length=m) (h1:Sl w 6 A1 n c1 (pcs P)) (h2:Sl w 6 A2 m c2 (pcs Q)) (h3:Sl w 6 A3 n c3 (pcs P)) (h4:Sl w 6 A4 m c4 (pcs Q)):
  Calls prog 34 #[.agg #[.slice A1 n c1,.slice A2 m c2],.agg #[.slice A3 n c3,.slice A4 m c4]] w fun e w'=>e=.returned (.bool true)∧Fr (fun _=>False) w w':=by
 have f1:=Fr.alloc (fun _=>False) w (.cells #[.slice A1 n c1,.slice A2 m c2] TSh)
 have f2:=Fr.alloc (fun _=>False) (w.alloc (.cells #[.slice A1 n c1,.slice A2 m c2] TSh)) (.cells #[.slice A3 n c3,.slice A4 m c4] TSh)
 have f12:=f1.trans f2 (T:=fun _=>False) (fun _ _ h=>h) (fun _ _ h=>h)
 have HA:=Lib.hid ((Bk.new w #[.slice A1 n c1,.slice A2 m c2] TSh).fr f2 (fun _ _ h=>h))
 have hc:=Bk.new (w.alloc (.cells #[.slice A1 n c1,.slice A2 m c2] TSh)) #[.slice A3 n c3,.slice A4 m c4] TSh
 rw [show (w.alloc (.cells #[.slice A1 n c1,.slice A2 m c2] TSh)).heap.size=w.heap.size+1 by simp] at hc
 have HC:=Lib.hid hc
 have H1:=Lib.hid (h1.fr f12 (fun _ _ h=>h));have H2:=Lib.hid (h2.fr f12 (fun _ _ h=>h));have H3:=Lib.hid (h3.fr f12 (fun _ _ h=>h));have H4:=Lib.hid (h4.fr f12 (fun _ _ h=>h))
 have HF:=Lib.hid f12
 clear f1 f2 f12 h1 h2 h3 h4 hc
 go_enter func34,ntmps34
 go_upto_region 1 with (fail)
 generalize (w.alloc (.cells #[.slice A1 n c1,.slice A2 m c2] TSh)).alloc (.cells #[.slice A3 n c3,.slice A4 m c4] TSh)=w2 at *
 have x0:=HA.out.cell 0;have y0:=HC.out.cell 0
 simp only [List.getElem?_toArray,List.getElem?_cons_zero] at x0 y0
 go_wp2_with fail
 refine (SameS hn H1.out H3.out).mono ?_
 rintro e w3 ⟨rfl,hf⟩
 have HF3:=Lib.hid (HF.out.trans hf (T:=fun _=>False) (fun _ _ h=>h) (fun _ _ h=>h))
 have x1:=(HA.out.fr hf (fun _ _ h=>h)).cell 1;have y1:=(HC.out.fr hf (fun _ _ h=>h)).cell 1
 simp only [List.getElem?_toArray,List.getElem?_cons_zero,List.getElem?_cons_succ] at x1 y1
 have HS:=Lib.hid (SameS hm (H2.out.fr hf (fun _ _ h=>h)) (H4.out.fr hf (fun _ _ h=>h)))
 clear hf x0 y0 HA HC H1 H2 H3 H4
 go_wp2_with fail
 refine HS.out.mono ?_
 rintro e w4 ⟨rfl,hf⟩
 have HF4:=Lib.hid (HF3.out.trans hf (T:=fun _=>False) (fun _ _ h=>h) (fun _ _ h=>h))
 clear hf
 go_wp2_with fail
 go_ret
 exact ⟨rfl,HF4.out⟩
end Ref22
set_option maxRecDepth 100000
set_option maxHeartbeats 8000000
namespace Ref22
open KeyP PackP SetP SetW SetF Sli Delta KidsP Cls KdO Fst Drd Wrk
open Law22 (As)
open ClsF (AtP)
attribute [local go_sem] Eng.ev Eng.getO_cons Eng.getO_nil
structure AR (w0 w:World) (Bd Bf:Nat) (d:Dl) (A:Option Addr) (c:Nat) (L:List Sn):Prop where
 r:Fr (fun _=>False) w0 w
 bd:Bk w Bd d.arr TDl
 bf:Bk w Bf #[.slice A L.length c] TRf
 rd:RdD w d
 l:Ls w A c L
section
variable {w0 w w':World} {Bd Bf:Nat} {d:Dl} {A:Option Addr} {c:Nat} {L:List Sn}
theorem AR.fr (h:AR w0 w Bd Bf d A c L) (hf:Fr (fun _=>False) w w'):AR w0 w' Bd Bf d A c L:=⟨h.r.trans hf (fun _ _ h=>h) (fun _ _ h=>h),h.bd.fr hf (fun _ _ h=>h),h.bf.fr hf (fun _ _ h=>h),h.rd.keep hf,h.l.keep hf⟩
theorem AR.below (h:AR w0 w Bd Bf d A c L) (hb:Below w.heap.size w w'):AR w0 w' Bd Bf d A c L:=h.fr (Fr.of_below' hb _)
theorem AR.me (h:AR w0 w Bd Bf d A c L):AR w w Bd Bf d A c L:=⟨Fr.refl _ _,h.bd,h.bf,h.rd,h.l⟩
theorem AR.c0 (h:AR w0 w Bd Bf d A c L):w.cell? ⟨Bd,0,none⟩=some (.slice d.A1 d.O.length d.c1):=h.bd.cell 0
theorem AR.c1 (h:AR w0 w Bd Bf d A c L):w.cell? ⟨Bd,1,none⟩=some (.slice d.A2 d.I.length d.c2):=h.bd.cell 1
theorem AR.cf (h:AR w0 w Bd Bf d A c L):w.cell? ⟨Bf,0,none⟩=some (.slice A L.length c):=h.bf.cell 0
end
theorem ar1a {ops:Array Oper} (hops:Eng.fnOps Tryz.f32 1=ops) (a0:Act) (Q:Exit→Act→World→Prop) (w0 w:World) (Bd Bf:Nat) (d:Dl) (A:Option Addr) (c:Nat) (L:List Sn) (h1:d.O.length≤1000000) (h2:d.I.length≤1000000) (e1:rightB d.O d.I=false) (hst:AR w0 w Bd Bf d A c L)
  (hn:a0.tmps.size=158) (h_3:a0.tmps.getD 3 undef=.pointer (some ⟨Bd,0,none⟩))
  (hpost:∀ (x_:Nat→Value) (w':World),x_ 35=.bool true→Fr (fun _=>False) w0 w'→Q .normal (Eng.setAll a0 [13,14,15,16,17,18,19,20,21,22,23,24,25,26,27,28,29,30,31,32,33,34,35] x_) w'):
  (Code.region 1 ops true).wp prog Q a0 w:=by
 simp only [Eng.fnOps,Eng.regOps,Tryz.f32,Option.bind_some,Option.getD_some,Nat.reduceEqDiff,↓reduceIte] at hops
 subst hops
 have HSt:=Lib.hid (hst.fr (Fr.drew _ _))
 refine Eng.regionT (.take 0 (.alt 1 (.take 2 (.take 3 (.take 4 (.take 5 (.take 6 (.take 7 (.take 8 (.take 9 (.take 10 (.take 11 (.take 12 (.take 13 (.take 14 (.take 15 (.take 16 (.take 17 (.take 18 (.take 19 (.take 20 (.take 21 (.take 22 (.done)))))))))))))))))))))) (.stop))) (fun w'=>w'.cell? ⟨Bd,0,none⟩=some (.slice d.A1 d.O.length d.c1)∧w'.cell? ⟨Bd,1,none⟩=some (.slice d.A2 d.I.length d.c2)) (by kernel_rfl) 158 hn (by kernel_rfl) (by kernel_rfl) (by kernel_rfl) (⟨HSt.out.c0,HSt.out.c1⟩) (fun a b ha hb=>?_)
 subst ha
 have hb3:b 3=.pointer (some ⟨Bd,0,none⟩):=(hb 3).symm.trans h_3
 clear hb h_3
 have HP:=Lib.hid hpost;have HN:=Lib.hid hn
 clear hpost hn
 refine Eng.TW.tk ?_
 refine Eng.TW.call rfl rfl (by decide) (by kernel_rfl) ?_ (RefD.Right d w.drew HSt.out.rd h1 h2) ?_
 ·go_simp
 rintro e w2 ⟨rfl,hb⟩
 rw [e1]
 have HSt2:=Lib.hid (HSt.out.below hb)
 clear hb
 refine ⟨_,rfl,⟨HSt2.out.c0,HSt2.out.c1⟩,?_⟩
 refine Eng.TW.tk ?_
 refine Eng.TW.tk ?_
 iterate 8 (refine Eng.TW.skip rfl rfl (by decide) (by kernel_rfl) ?_)
 refine Eng.TW.tk ?_
 refine Eng.TW.tk ?_
 iterate 8 (refine Eng.TW.skip rfl rfl (by decide) (by kernel_rfl) ?_)
 refine Eng.TW.tk ?_
 refine Eng.TW.end_ [13,14,15,16,17,18,19,20,21,22,23,24,25,26,27,28,29,30,31,32,33,34,35] HN.out (by kernel_rfl) (by kernel_rfl) ?_
 exact HP.out _ _ rfl HSt2.out.r
theorem ar1b {ops:Array Oper} (hops:Eng.fnOps Tryz.f32 1=ops) (a0:Act) (Q:Exit→Act→World→Prop) (w0 w:World) (Bd Bf:Nat) (d:Dl) (A:Option Addr) (c:Nat) (L:List Sn) (h1:d.O.length≤1000000) (h2:d.I.length≤1000000) (e1:rightB d.O d.I=true) (e2:(((ClsW.alive d.O).length:Int) != (d.O.length:Int))=true) (hst:AR w0 w Bd Bf d A c L)
  (hn:a0.tmps.size=158) (h_3:a0.tmps.getD 3 undef=.pointer (some ⟨Bd,0,none⟩))
  (hpost:∀ (x_:Nat→Value) (w':World),x_ 35=.bool true→Fr (fun _=>False) w0 w'→Q .normal (Eng.setAll a0 [13,14,15,16,17,18,19,20,21,22,23,24,25,26,27,28,29,30,31,32,33,34,35] x_) w'):
  (Code.region 1 ops true).wp prog Q a0 w:=by
 simp only [Eng.fnOps,Eng.regOps,Tryz.f32,Option.bind_some,Option.getD_some,Nat.reduceEqDiff,↓reduceIte] at hops
 subst hops
 have HSt:=Lib.hid (hst.fr (Fr.drew _ _))
 refine Eng.regionT (.take 0 (.alt 1 (.take 2 (.take 3 (.take 4 (.take 5 (.take 8 (.take 9 (.take 10 (.alt 6 (.take 7 (.take 11 (.take 12 (.take 13 (.take 14 (.take 15 (.take 16 (.take 17 (.take 18 (.take 19 (.take 20 (.take 21 (.take 22 (.done)))))))))))))) (.stop))))))))) (.stop))) (fun w'=>w'.cell? ⟨Bd,0,none⟩=some (.slice d.A1 d.O.length d.c1)∧w'.cell? ⟨Bd,1,none⟩=some (.slice d.A2 d.I.length d.c2)) (by kernel_rfl) 158 hn (by kernel_rfl) (by kernel_rfl) (by kernel_rfl) (⟨HSt.out.c0,HSt.out.c1⟩) (fun a b ha hb=>?_)
 subst ha
 have hb3:b 3=.pointer (some ⟨Bd,0,none⟩):=(hb 3).symm.trans h_3
 clear hb h_3
 have HP:=Lib.hid hpost;have HN:=Lib.hid hn
 clear hpost hn
 refine Eng.TW.tk ?_
 refine Eng.TW.call rfl rfl (by decide) (by kernel_rfl) ?_ (RefD.Right d w.drew HSt.out.rd h1 h2) ?_
 ·go_simp
 rintro e w2 ⟨rfl,hb⟩
 rw [e1]
 have HSt2:=Lib.hid (HSt.out.below hb)
 clear hb
 refine ⟨_,rfl,⟨HSt2.out.c0,HSt2.out.c1⟩,?_⟩
 iterate 7 (refine Eng.TW.tk ?_)
 refine Eng.TW.call rfl rfl (by decide) (by kernel_rfl) ?_ (ClsW.RefLive _ _ _ w2 HSt2.out.rd.o h1) ?_
 ·go_simp
 rintro e w3 ⟨A5,c5,rfl,-,-,hb⟩
 have HSt3:=Lib.hid (HSt2.out.below hb)
 clear hb
 refine ⟨_,rfl,⟨HSt3.out.c0,HSt3.out.c1⟩,?_⟩
 iterate 4 (refine Eng.TW.tk ?_)
 iterate 8 (refine Eng.TW.skip rfl rfl (by decide) (by kernel_rfl) ?_)
 refine Eng.TW.tk ?_
 refine Eng.TW.end_ [13,14,15,16,17,18,19,20,21,22,23,24,25,26,27,28,29,30,31,32,33,34,35] HN.out (by kernel_rfl) (by kernel_rfl) ?_
 exact HP.out _ _ rfl HSt3.out.r
theorem ar1c {ops:Array Oper} (hops:Eng.fnOps Tryz.f32 1=ops) (a0:Act) (Q:Exit→Act→World→Prop) (w0 w:World) (Bd Bf:Nat) (d:Dl) (A:Option Addr) (c:Nat) (L:List Sn) (h1:d.O.length≤1000000) (h2:d.I.length≤1000000) (q:Bool) (e1:rightB d.O d.I=true) (e2:(((ClsW.alive d.O).length:Int) != (d.O.length:Int))=false) (e3:(((ClsW.alive d.I).length:Int) != (d.I.length:Int))=q) (hst:AR w0 w Bd Bf d A c L)
  (hn:a0.tmps.size=158) (h_3:a0.tmps.getD 3 undef=.pointer (some ⟨Bd,0,none⟩))
  (hpost:∀ (x_:Nat→Value) (w':World),x_ 35=.bool q→Fr (fun _=>False) w0 w'→Q .normal (Eng.setAll a0 [13,14,15,16,17,18,19,20,21,22,23,24,25,26,27,28,29,30,31,32,33,34,35] x_) w'):
  (Code.region 1 ops true).wp prog Q a0 w:=by
 simp only [Eng.fnOps,Eng.regOps,Tryz.f32,Option.bind_some,Option.getD_some,Nat.reduceEqDiff,↓reduceIte] at hops
 subst hops
 have HSt:=Lib.hid (hst.fr (Fr.drew _ _))
 refine Eng.regionT (.take 0 (.alt 1 (.take 2 (.take 3 (.take 4 (.take 5 (.take 8 (.take 9 (.take 10 (.alt 6 (.take 7 (.take 11 (.take 12 (.take 13 (.take 14 (.take 15 (.take 18 (.take 19 (.take 20 (.alt 16 (.take 17 (.take 21 (.take 22 (.done)))) (.stop))))))))))) (.stop))))))))) (.stop))) (fun w'=>w'.cell? ⟨Bd,0,none⟩=some (.slice d.A1 d.O.length d.c1)∧w'.cell? ⟨Bd,1,none⟩=some (.slice d.A2 d.I.length d.c2)) (by kernel_rfl) 158 hn (by kernel_rfl) (by kernel_rfl) (by kernel_rfl) (⟨HSt.out.c0,HSt.out.c1⟩) (fun a b ha hb=>?_)
 subst ha
 have hb3:b 3=.pointer (some ⟨Bd,0,none⟩):=(hb 3).symm.trans h_3
 clear hb h_3
 have HP:=Lib.hid hpost;have HN:=Lib.hid hn
 clear hpost hn
 refine Eng.TW.tk ?_
 refine Eng.TW.call rfl rfl (by decide) (by kernel_rfl) ?_ (RefD.Right d w.drew HSt.out.rd h1 h2) ?_
 ·go_simp
 rintro e w2 ⟨rfl,hb⟩
 rw [e1]
 have HSt2:=Lib.hid (HSt.out.below hb)
 clear hb
 refine ⟨_,rfl,⟨HSt2.out.c0,HSt2.out.c1⟩,?_⟩
 iterate 7 (refine Eng.TW.tk ?_)
 refine Eng.TW.call rfl rfl (by decide) (by kernel_rfl) ?_ (ClsW.RefLive _ _ _ w2 HSt2.out.rd.o h1) ?_
 ·go_simp
 rintro e w3 ⟨A5,c5,rfl,-,-,hb⟩
 have HSt3:=Lib.hid (HSt2.out.below hb)
 clear hb
 refine ⟨_,rfl,⟨HSt3.out.c0,HSt3.out.c1⟩,?_⟩
 iterate 9 (refine Eng.TW.tk ?_)
 refine Eng.TW.call rfl rfl (by decide) (by kernel_rfl) ?_ (ClsW.RefLive _ _ _ w3 HSt3.out.rd.i h2) ?_
 ·go_simp
 rintro e w4 ⟨A5,c5,rfl,-,-,hb⟩
 have HSt4:=Lib.hid (HSt3.out.below hb)
 clear hb
 refine ⟨_,rfl,⟨HSt4.out.c0,HSt4.out.c1⟩,?_⟩
 iterate 3 (refine Eng.TW.tk ?_)
 refine Eng.TW.end_ [13,14,15,16,17,18,19,20,21,22,23,24,25,26,27,28,29,30,31,32,33,34,35] HN.out (by kernel_rfl) (by kernel_rfl) ?_
 exact HP.out _ _ rfl HSt4.out.r
theorem ar6 {ops:Array Oper} (hops:Eng.fnOps Tryz.f32 6=ops) (a0:Act) (Q:Exit→Act→World→Prop) (w0 w:World) (Bd Bf:Nat) (b1 o1 k1:Nat) (O:List Sn) (A2:Option Addr) (k2:Nat) (I:List Sn) (A:Option Addr) (c:Nat) (L:List Sn) (k:Nat) (y:Sn) (hk:k<O.length) (_hlen:O.length≤1000000) (hy:SetW.At w0 b1 (o1+k*9) y) (hst:AR w0 w Bd Bf ⟨some ⟨b1,o1,none⟩,k1,O,A2,k2,I⟩ A c L)
  (hn:a0.tmps.size=158) (h_0:a0.tmps.getD 0 undef=.pointer (some ⟨Bf,0,none⟩)) (h_3:a0.tmps.getD 3 undef=.pointer (some ⟨Bd,0,none⟩)) (h_6:a0.tmps.getD 6 undef=.int .i64 (k:Int))
  (hpost:∀ (x_:Nat→Value) (w':World),x_ 7=.int .i64 (posI y L)→Fr (fun _=>False) w0 w'→Q .normal (Eng.setAll a0 [7,44,45,46,47,48,49,50,51,52,53] x_) w'):
  (Code.region 6 ops true).wp prog Q a0 w:=by
 simp only [Eng.fnOps,Eng.regOps,Tryz.f32,Option.bind_some,Option.getD_some,Nat.reduceEqDiff,↓reduceIte] at hops
 subst hops
 have q1:(0:Int)≤(k:Int):=by omega
 have q2:(k:Int)<(O.length:Int):=by omega
 have HSt:=Lib.hid (hst.fr (Fr.drew _ _))
 refine Eng.regionT (.take 0 (.take 1 (.take 2 (.take 3 (.take 4 (.take 5 (.take 6 (.take 7 (.take 8 (.alt 9 (.take 10 (.done)) (.stop))))))))))) (fun w'=>w'.cell? ⟨Bf,0,none⟩=some (.slice A L.length c)∧w'.cell? ⟨Bd,0,none⟩=some (.slice (some ⟨b1,o1,none⟩) O.length k1)∧w'.cell? ⟨b1,o1+k*9,none⟩=some (.int .i64 y.t)∧w'.cell? ⟨b1,o1+k*9+1,none⟩=some (.int .i64 y.i)∧w'.cell? ⟨b1,o1+k*9+1+1,none⟩=some (.int .i64 y.p)∧w'.cell? ⟨b1,o1+k*9+1+1+1,none⟩=some (.int .i64 y.r)∧w'.cell? ⟨b1,o1+k*9+1+1+1+1,none⟩=some (.string y.s)∧w'.cell? ⟨b1,o1+k*9+1+1+1+1+1,none⟩=some (.string y.o)∧w'.cell? ⟨b1,o1+k*9+1+1+1+1+1+1,none⟩=some (.int .i64 y.b)∧w'.cell? ⟨b1,o1+k*9+1+1+1+1+1+1+1,none⟩=some (.int .i64 y.d)∧w'.cell? ⟨b1,o1+k*9+1+1+1+1+1+1+1+1,none⟩=some (.bool y.g)) (by kernel_rfl) 158 hn (by kernel_rfl) (by kernel_rfl) (by kernel_rfl) (⟨HSt.out.cf,HSt.out.c0,(hy.fr HSt.out.r (fun h=>h)) 0 _ rfl,(hy.fr HSt.out.r (fun h=>h)) 1 _ rfl,(hy.fr HSt.out.r (fun h=>h)) 2 _ rfl,(hy.fr HSt.out.r (fun h=>h)) 3 _ rfl,(hy.fr HSt.out.r (fun h=>h)) 4 _ rfl,(hy.fr HSt.out.r (fun h=>h)) 5 _ rfl,(hy.fr HSt.out.r (fun h=>h)) 6 _ rfl,(hy.fr HSt.out.r (fun h=>h)) 7 _ rfl,(hy.fr HSt.out.r (fun h=>h)) 8 _ rfl⟩) (fun a b ha hb=>?_)
 subst ha
 have hb0:b 0=.pointer (some ⟨Bf,0,none⟩):=(hb 0).symm.trans h_0
 have hb3:b 3=.pointer (some ⟨Bd,0,none⟩):=(hb 3).symm.trans h_3
 have hb6:b 6=.int .i64 (k:Int):=(hb 6).symm.trans h_6
 clear hb h_0 h_3 h_6
 have HP:=Lib.hid hpost;have HN:=Lib.hid hn
 clear hpost hn
 iterate 9 (refine Eng.TW.tk ?_)
 refine Eng.TW.call rfl rfl (by decide) (by kernel_rfl) ?_ (SetW.Find A c L y w.drew HSt.out.l.s) ?_
 ·go_simp
 rintro e w2 ⟨rfl,hf1⟩
 have HSt2:=Lib.hid (HSt.out.fr hf1)
 clear hf1
 refine ⟨_,rfl,⟨HSt2.out.cf,HSt2.out.c0,(hy.fr HSt2.out.r (fun h=>h)) 0 _ rfl,(hy.fr HSt2.out.r (fun h=>h)) 1 _ rfl,(hy.fr HSt2.out.r (fun h=>h)) 2 _ rfl,(hy.fr HSt2.out.r (fun h=>h)) 3 _ rfl,(hy.fr HSt2.out.r (fun h=>h)) 4 _ rfl,(hy.fr HSt2.out.r (fun h=>h)) 5 _ rfl,(hy.fr HSt2.out.r (fun h=>h)) 6 _ rfl,(hy.fr HSt2.out.r (fun h=>h)) 7 _ rfl,(hy.fr HSt2.out.r (fun h=>h)) 8 _ rfl⟩,?_⟩
 refine Eng.TW.tk ?_
 refine Eng.TW.end_ [7,44,45,46,47,48,49,50,51,52,53] HN.out (by kernel_rfl) (by kernel_rfl) ?_
 exact HP.out _ _ rfl HSt2.out.r
theorem ar7 {ops:Array Oper} (hops:Eng.fnOps Tryz.f32 7=ops) (a0:Act) (Q:Exit→Act→World→Prop) (w0 w:World) (Bd Bf:Nat) (b1 o1 k1:Nat) (O:List Sn) (A2:Option Addr) (k2:Nat) (I:List Sn) (b2 o2 c:Nat) (L:List Sn) (k:Nat) (y:Sn) (hk:k<O.length) (_hlen:O.length≤1000000) (hy:SetW.At w0 b1 (o1+k*9) y) (j:Nat) (z:Sn) (hj:j<L.length) (_hl9:L.length≤1000000) (hz:SetW.At w0 b2 (o2+j*9) z) (hst:AR w0 w Bd Bf ⟨some ⟨b1,o1,none⟩,k1,O,A2,k2,I⟩ (some ⟨b2,o2,none⟩) c L)
  (hn:a0.tmps.size=158) (h_0:a0.tmps.getD 0 undef=.pointer (some ⟨Bf,0,none⟩)) (h_3:a0.tmps.getD 3 undef=.pointer (some ⟨Bd,0,none⟩)) (h_6:a0.tmps.getD 6 undef=.int .i64 (k:Int)) (h_7:a0.tmps.getD 7 undef=.int .i64 (j:Int))
  (hpost:∀ (x_:Nat→Value) (w':World),x_ 72=.bool (z.p != y.p)→Fr (fun _=>False) w0 w'→Q .normal (Eng.setAll a0 [54,55,56,57,58,59,60,61,62,63,64,65,66,67,68,69,70,71,72] x_) w'):
  (Code.region 7 ops true).wp prog Q a0 w:=by
 simp only [Eng.fnOps,Eng.regOps,Tryz.f32,Option.bind_some,Option.getD_some,Nat.reduceEqDiff,↓reduceIte] at hops
 subst hops
 have q1:(0:Int)≤(k:Int):=by omega
 have q2:(k:Int)<(O.length:Int):=by omega
 have q3:(0:Int)≤(j:Int):=by omega
 have q4:(j:Int)<(L.length:Int):=by omega
 have q5:decide ((j:Int)<0)=false:=decide_eq_false (by omega)
 have HSt:=Lib.hid (hst.fr (Fr.drew _ _))
 refine Eng.regionN [(0,true),(1,true),(2,true),(3,true),(4,true),(5,true),(6,true),(7,true),(8,true),(9,true),(10,true),(11,true),(12,true),(13,true),(14,true),(15,true),(16,true),(17,true),(18,true)] (fun w'=>w'.cell? ⟨Bf,0,none⟩=some (.slice (some ⟨b2,o2,none⟩) L.length c)∧w'.cell? ⟨Bd,0,none⟩=some (.slice (some ⟨b1,o1,none⟩) O.length k1)∧w'.cell? ⟨b1,o1+k*9+1+1,none⟩=some (.int .i64 y.p)∧w'.cell? ⟨b2,o2+j*9+1+1,none⟩=some (.int .i64 z.p)) (by kernel_rfl) 158 hn (by kernel_rfl) rfl (by kernel_rfl) (⟨HSt.out.cf,HSt.out.c0,(hy.fr HSt.out.r (fun h=>h)) 2 _ rfl,(hz.fr HSt.out.r (fun h=>h)) 2 _ rfl⟩) (fun a b ha hb=>?_)
 subst ha
 have hb0:b 0=.pointer (some ⟨Bf,0,none⟩):=(hb 0).symm.trans h_0
 have hb3:b 3=.pointer (some ⟨Bd,0,none⟩):=(hb 3).symm.trans h_3
 have hb6:b 6=.int .i64 (k:Int):=(hb 6).symm.trans h_6
 have hb7:b 7=.int .i64 (j:Int):=(hb 7).symm.trans h_7
 clear hb h_0 h_3 h_6 h_7
 have HP:=Lib.hid hpost;have HN:=Lib.hid hn
 clear hpost hn
 iterate 19 (refine Eng.Sch.tk ?_)
 refine Eng.Sch.end_ [54,55,56,57,58,59,60,61,62,63,64,65,66,67,68,69,70,71,72] HN.out (by kernel_rfl) (by kernel_rfl) ?_
 exact HP.out _ _ rfl HSt.out.r
theorem ar7t {ops:Array Oper} (hops:Eng.fnOps Tryz.f32 7=ops) (a0:Act) (Q:Exit→Act→World→Prop) (w:World)
  (hn:a0.tmps.size=158) (h_7:a0.tmps.getD 7 undef=.int .i64 (-1))
  (hpost:∀ (x_:Nat→Value) (w':World),x_ 72=.bool true→Fr (fun _=>False) w w'→Q .normal (Eng.setAll a0 [54,55,56,57,58,59,60,61,62,63,64,65,66,67,68,69,70,71,72] x_) w'):
  (Code.region 7 ops true).wp prog Q a0 w:=by
 simp only [Eng.fnOps,Eng.regOps,Tryz.f32,Option.bind_some,Option.getD_some,Nat.reduceEqDiff,↓reduceIte] at hops
 subst hops
 have HSt:=Lib.hid (Fr.drew (fun _=>False) w)
 refine Eng.regionN [(0,true),(1,true),(2,true),(3,true),(4,true),(5,true),(6,true),(7,true),(8,true),(9,true),(10,true),(11,true),(12,true),(13,true),(14,true),(15,true),(16,true),(17,true),(18,true)] (fun w'=>True) (by kernel_rfl) 158 hn (by kernel_rfl) rfl (by kernel_rfl) (trivial) (fun a b ha hb=>?_)
 subst ha
 have hb7:b 7=.int .i64 (-1):=(hb 7).symm.trans h_7
 clear hb h_7
 have HP:=Lib.hid hpost;have HN:=Lib.hid hn
 clear hpost hn
 iterate 3 (refine Eng.Sch.tk ?_)
 iterate 15 (refine Eng.Sch.skip rfl rfl (by decide) (by kernel_rfl) ?_)
 refine Eng.Sch.tk ?_
 refine Eng.Sch.end_ [54,55,56,57,58,59,60,61,62,63,64,65,66,67,68,69,70,71,72] HN.out (by kernel_rfl) (by kernel_rfl) ?_
 exact HP.out _ _ rfl HSt.out
theorem ar12 {ops:Array Oper} (hops:Eng.fnOps Tryz.f32 12=ops) (a0:Act) (Q:Exit→Act→World→Prop) (w0 w:World) (Bd Bf:Nat) (A1:Option Addr) (k1:Nat) (O:List Sn) (b1 o1 k2:Nat) (I:List Sn) (A:Option Addr) (c:Nat) (L:List Sn) (k:Nat) (y:Sn) (hk:k<I.length) (_hlen:I.length≤1000000) (hy:SetW.At w0 b1 (o1+k*9) y) (hp:decide (0≤posI y L)=true) (hst:AR w0 w Bd Bf ⟨A1,k1,O,some ⟨b1,o1,none⟩,k2,I⟩ A c L)
  (hn:a0.tmps.size=158) (h_0:a0.tmps.getD 0 undef=.pointer (some ⟨Bf,0,none⟩)) (h_3:a0.tmps.getD 3 undef=.pointer (some ⟨Bd,0,none⟩)) (h_8:a0.tmps.getD 8 undef=.int .i64 (k:Int))
  (hpost:∀ (x_:Nat→Value) (w':World),x_ 102=.bool (decide (posI y O<0))→Fr (fun _=>False) w0 w'→Q .normal (Eng.setAll a0 [81,82,83,84,85,86,87,88,89,90,91,92,93,94,95,96,97,98,99,100,101,102] x_) w'):
  (Code.region 12 ops true).wp prog Q a0 w:=by
 simp only [Eng.fnOps,Eng.regOps,Tryz.f32,Option.bind_some,Option.getD_some,Nat.reduceEqDiff,↓reduceIte] at hops
 subst hops
 have q1:(0:Int)≤(k:Int):=by omega
 have q2:(k:Int)<(I.length:Int):=by omega
 have q5:decide (posI y L≥0)=true:=hp
 have HSt:=Lib.hid (hst.fr (Fr.drew _ _))
 refine Eng.regionT (.take 0 (.take 1 (.take 2 (.take 3 (.take 4 (.take 5 (.take 6 (.take 7 (.take 8 (.alt 9 (.take 10 (.take 11 (.take 12 (.take 13 (.take 14 (.take 15 (.take 16 (.take 17 (.take 18 (.alt 19 (.take 20 (.take 21 (.done))) (.stop))))))))))) (.stop))))))))))) (fun w'=>w'.cell? ⟨Bf,0,none⟩=some (.slice A L.length c)∧w'.cell? ⟨Bd,0,none⟩=some (.slice A1 O.length k1)∧w'.cell? ⟨Bd,1,none⟩=some (.slice (some ⟨b1,o1,none⟩) I.length k2)∧w'.cell? ⟨b1,o1+k*9,none⟩=some (.int .i64 y.t)∧w'.cell? ⟨b1,o1+k*9+1,none⟩=some (.int .i64 y.i)∧w'.cell? ⟨b1,o1+k*9+1+1,none⟩=some (.int .i64 y.p)∧w'.cell? ⟨b1,o1+k*9+1+1+1,none⟩=some (.int .i64 y.r)∧w'.cell? ⟨b1,o1+k*9+1+1+1+1,none⟩=some (.string y.s)∧w'.cell? ⟨b1,o1+k*9+1+1+1+1+1,none⟩=some (.string y.o)∧w'.cell? ⟨b1,o1+k*9+1+1+1+1+1+1,none⟩=some (.int .i64 y.b)∧w'.cell? ⟨b1,o1+k*9+1+1+1+1+1+1+1,none⟩=some (.int .i64 y.d)∧w'.cell? ⟨b1,o1+k*9+1+1+1+1+1+1+1+1,none⟩=some (.bool y.g)) (by kernel_rfl) 158 hn (by kernel_rfl) (by kernel_rfl) (by kernel_rfl) (⟨HSt.out.cf,HSt.out.c0,HSt.out.c1,(hy.fr HSt.out.r (fun h=>h)) 0 _ rfl,(hy.fr HSt.out.r (fun h=>h)) 1 _ rfl,(hy.fr HSt.out.r (fun h=>h)) 2 _ rfl,(hy.fr HSt.out.r (fun h=>h)) 3 _ rfl,(hy.fr HSt.out.r (fun h=>h)) 4 _ rfl,(hy.fr HSt.out.r (fun h=>h)) 5 _ rfl,(hy.fr HSt.out.r (fun h=>h)) 6 _ rfl,(hy.fr HSt.out.r (fun h=>h)) 7 _ rfl,(hy.fr HSt.out.r (fun h=>h)) 8 _ rfl⟩) (fun a b ha hb=>?_)
 subst ha
 have hb0:b 0=.pointer (some ⟨Bf,0,none⟩):=(hb 0).symm.trans h_0
 have hb3:b 3=.pointer (some ⟨Bd,0,none⟩):=(hb 3).symm.trans h_3
 have hb8:b 8=.int .i64 (k:Int):=(hb 8).symm.trans h_8
 clear hb h_0 h_3 h_8
 have HP:=Lib.hid hpost;have HN:=Lib.hid hn
 clear hpost hn
 iterate 9 (refine Eng.TW.tk ?_)
 refine Eng.TW.call rfl rfl (by decide) (by kernel_rfl) ?_ (SetW.Find A c L y w.drew HSt.out.l.s) ?_
 ·go_simp
 rintro e w2 ⟨rfl,hf1⟩
 have HSt2:=Lib.hid (HSt.out.fr hf1)
 clear hf1
 refine ⟨_,rfl,⟨HSt2.out.cf,HSt2.out.c0,HSt2.out.c1,(hy.fr HSt2.out.r (fun h=>h)) 0 _ rfl,(hy.fr HSt2.out.r (fun h=>h)) 1 _ rfl,(hy.fr HSt2.out.r (fun h=>h)) 2 _ rfl,(hy.fr HSt2.out.r (fun h=>h)) 3 _ rfl,(hy.fr HSt2.out.r (fun h=>h)) 4 _ rfl,(hy.fr HSt2.out.r (fun h=>h)) 5 _ rfl,(hy.fr HSt2.out.r (fun h=>h)) 6 _ rfl,(hy.fr HSt2.out.r (fun h=>h)) 7 _ rfl,(hy.fr HSt2.out.r (fun h=>h)) 8 _ rfl⟩,?_⟩
 iterate 9 (refine Eng.TW.tk ?_)
 refine Eng.TW.call rfl rfl (by decide) (by kernel_rfl) ?_ (SetW.Find A1 k1 O y w2 HSt2.out.rd.o.s) ?_
 ·go_simp
 rintro e w3 ⟨rfl,hf1⟩
 have HSt3:=Lib.hid (HSt2.out.fr hf1)
 clear hf1
 refine ⟨_,rfl,⟨HSt3.out.cf,HSt3.out.c0,HSt3.out.c1,(hy.fr HSt3.out.r (fun h=>h)) 0 _ rfl,(hy.fr HSt3.out.r (fun h=>h)) 1 _ rfl,(hy.fr HSt3.out.r (fun h=>h)) 2 _ rfl,(hy.fr HSt3.out.r (fun h=>h)) 3 _ rfl,(hy.fr HSt3.out.r (fun h=>h)) 4 _ rfl,(hy.fr HSt3.out.r (fun h=>h)) 5 _ rfl,(hy.fr HSt3.out.r (fun h=>h)) 6 _ rfl,(hy.fr HSt3.out.r (fun h=>h)) 7 _ rfl,(hy.fr HSt3.out.r (fun h=>h)) 8 _ rfl⟩,?_⟩
 refine Eng.TW.tk ?_
 refine Eng.TW.tk ?_
 refine Eng.TW.end_ [81,82,83,84,85,86,87,88,89,90,91,92,93,94,95,96,97,98,99,100,101,102] HN.out (by kernel_rfl) (by kernel_rfl) ?_
 exact HP.out _ _ rfl HSt3.out.r
theorem ar12f {ops:Array Oper} (hops:Eng.fnOps Tryz.f32 12=ops) (a0:Act) (Q:Exit→Act→World→Prop) (w0 w:World) (Bd Bf:Nat) (A1:Option Addr) (k1:Nat) (O:List Sn) (b1 o1 k2:Nat) (I:List Sn) (A:Option Addr) (c:Nat) (L:List Sn) (k:Nat) (y:Sn) (hk:k<I.length) (_hlen:I.length≤1000000) (hy:SetW.At w0 b1 (o1+k*9) y) (hp:decide (0≤posI y L)=false) (hst:AR w0 w Bd Bf ⟨A1,k1,O,some ⟨b1,o1,none⟩,k2,I⟩ A c L)
  (hn:a0.tmps.size=158) (h_0:a0.tmps.getD 0 undef=.pointer (some ⟨Bf,0,none⟩)) (h_3:a0.tmps.getD 3 undef=.pointer (some ⟨Bd,0,none⟩)) (h_8:a0.tmps.getD 8 undef=.int .i64 (k:Int))
  (hpost:∀ (x_:Nat→Value) (w':World),x_ 102=.bool false→Fr (fun _=>False) w0 w'→Q .normal (Eng.setAll a0 [81,82,83,84,85,86,87,88,89,90,91,92,93,94,95,96,97,98,99,100,101,102] x_) w'):
  (Code.region 12 ops true).wp prog Q a0 w:=by
 simp only [Eng.fnOps,Eng.regOps,Tryz.f32,Option.bind_some,Option.getD_some,Nat.reduceEqDiff,↓reduceIte] at hops
 subst hops
 have q1:(0:Int)≤(k:Int):=by omega
 have q2:(k:Int)<(I.length:Int):=by omega
 have q5:decide (posI y L≥0)=false:=hp
 have HSt:=Lib.hid (hst.fr (Fr.drew _ _))
 refine Eng.regionT (.take 0 (.take 1 (.take 2 (.take 3 (.take 4 (.take 5 (.take 6 (.take 7 (.take 8 (.alt 9 (.take 10 (.take 11 (.take 12 (.take 13 (.take 14 (.take 15 (.take 16 (.take 17 (.take 18 (.take 19 (.take 20 (.take 21 (.done))))))))))))) (.stop))))))))))) (fun w'=>w'.cell? ⟨Bf,0,none⟩=some (.slice A L.length c)∧w'.cell? ⟨Bd,0,none⟩=some (.slice A1 O.length k1)∧w'.cell? ⟨Bd,1,none⟩=some (.slice (some ⟨b1,o1,none⟩) I.length k2)∧w'.cell? ⟨b1,o1+k*9,none⟩=some (.int .i64 y.t)∧w'.cell? ⟨b1,o1+k*9+1,none⟩=some (.int .i64 y.i)∧w'.cell? ⟨b1,o1+k*9+1+1,none⟩=some (.int .i64 y.p)∧w'.cell? ⟨b1,o1+k*9+1+1+1,none⟩=some (.int .i64 y.r)∧w'.cell? ⟨b1,o1+k*9+1+1+1+1,none⟩=some (.string y.s)∧w'.cell? ⟨b1,o1+k*9+1+1+1+1+1,none⟩=some (.string y.o)∧w'.cell? ⟨b1,o1+k*9+1+1+1+1+1+1,none⟩=some (.int .i64 y.b)∧w'.cell? ⟨b1,o1+k*9+1+1+1+1+1+1+1,none⟩=some (.int .i64 y.d)∧w'.cell? ⟨b1,o1+k*9+1+1+1+1+1+1+1+1,none⟩=some (.bool y.g)) (by kernel_rfl) 158 hn (by kernel_rfl) (by kernel_rfl) (by kernel_rfl) (⟨HSt.out.cf,HSt.out.c0,HSt.out.c1,(hy.fr HSt.out.r (fun h=>h)) 0 _ rfl,(hy.fr HSt.out.r (fun h=>h)) 1 _ rfl,(hy.fr HSt.out.r (fun h=>h)) 2 _ rfl,(hy.fr HSt.out.r (fun h=>h)) 3 _ rfl,(hy.fr HSt.out.r (fun h=>h)) 4 _ rfl,(hy.fr HSt.out.r (fun h=>h)) 5 _ rfl,(hy.fr HSt.out.r (fun h=>h)) 6 _ rfl,(hy.fr HSt.out.r (fun h=>h)) 7 _ rfl,(hy.fr HSt.out.r (fun h=>h)) 8 _ rfl⟩) (fun a b ha hb=>?_)
 subst ha
 have hb0:b 0=.pointer (some ⟨Bf,0,none⟩):=(hb 0).symm.trans h_0
 have hb3:b 3=.pointer (some ⟨Bd,0,none⟩):=(hb 3).symm.trans h_3
 have hb8:b 8=.int .i64 (k:Int):=(hb 8).symm.trans h_8
 clear hb h_0 h_3 h_8
 have HP:=Lib.hid hpost;have HN:=Lib.hid hn
 clear hpost hn
 iterate 9 (refine Eng.TW.tk ?_)
 refine Eng.TW.call rfl rfl (by decide) (by kernel_rfl) ?_ (SetW.Find A c L y w.drew HSt.out.l.s) ?_
 ·go_simp
 rintro e w2 ⟨rfl,hf1⟩
 have HSt2:=Lib.hid (HSt.out.fr hf1)
 clear hf1
 refine ⟨_,rfl,⟨HSt2.out.cf,HSt2.out.c0,HSt2.out.c1,(hy.fr HSt2.out.r (fun h=>h)) 0 _ rfl,(hy.fr HSt2.out.r (fun h=>h)) 1 _ rfl,(hy.fr HSt2.out.r (fun h=>h)) 2 _ rfl,(hy.fr HSt2.out.r (fun h=>h)) 3 _ rfl,(hy.fr HSt2.out.r (fun h=>h)) 4 _ rfl,(hy.fr HSt2.out.r (fun h=>h)) 5 _ rfl,(hy.fr HSt2.out.r (fun h=>h)) 6 _ rfl,(hy.fr HSt2.out.r (fun h=>h)) 7 _ rfl,(hy.fr HSt2.out.r (fun h=>h)) 8 _ rfl⟩,?_⟩
 refine Eng.TW.tk ?_
 refine Eng.TW.tk ?_
 iterate 9 (refine Eng.TW.skip rfl rfl (by decide) (by kernel_rfl) ?_)
 refine Eng.TW.tk ?_
 refine Eng.TW.end_ [81,82,83,84,85,86,87,88,89,90,91,92,93,94,95,96,97,98,99,100,101,102] HN.out (by kernel_rfl) (by kernel_rfl) ?_
 exact HP.out _ _ rfl HSt2.out.r
theorem ar18 {ops:Array Oper} (hops:Eng.fnOps Tryz.f32 18=ops) (a0:Act) (Q:Exit→Act→World→Prop) (w0 w:World) (Bd Bf:Nat) (d:Dl) (b1 o1 c:Nat) (L:List Sn) (k:Nat) (y:Sn) (hk:k<L.length) (_hlen:L.length≤1000000) (hy:SetW.At w0 b1 (o1+k*9) y) (hst:AR w0 w Bd Bf d (some ⟨b1,o1,none⟩) c L)
  (hn:a0.tmps.size=158) (h_0:a0.tmps.getD 0 undef=.pointer (some ⟨Bf,0,none⟩)) (h_3:a0.tmps.getD 3 undef=.pointer (some ⟨Bd,0,none⟩)) (h_10:a0.tmps.getD 10 undef=.int .i64 (k:Int))
  (hpost:∀ (x_:Nat→Value) (w':World),x_ 123=.bool (decide (posI y d.O<0))→Fr (fun _=>False) w0 w'→Q .normal (Eng.setAll a0 [113,114,115,116,117,118,119,120,121,122,123] x_) w'):
  (Code.region 18 ops true).wp prog Q a0 w:=by
 simp only [Eng.fnOps,Eng.regOps,Tryz.f32,Option.bind_some,Option.getD_some,Nat.reduceEqDiff,↓reduceIte] at hops
 subst hops
 have q1:(0:Int)≤(k:Int):=by omega
 have q2:(k:Int)<(L.length:Int):=by omega
 have HSt:=Lib.hid (hst.fr (Fr.drew _ _))
 refine Eng.regionT (.take 0 (.take 1 (.take 2 (.take 3 (.take 4 (.take 5 (.take 6 (.take 7 (.take 8 (.alt 9 (.take 10 (.done)) (.stop))))))))))) (fun w'=>w'.cell? ⟨Bd,0,none⟩=some (.slice d.A1 d.O.length d.c1)∧w'.cell? ⟨Bf,0,none⟩=some (.slice (some ⟨b1,o1,none⟩) L.length c)∧w'.cell? ⟨b1,o1+k*9,none⟩=some (.int .i64 y.t)∧w'.cell? ⟨b1,o1+k*9+1,none⟩=some (.int .i64 y.i)∧w'.cell? ⟨b1,o1+k*9+1+1,none⟩=some (.int .i64 y.p)∧w'.cell? ⟨b1,o1+k*9+1+1+1,none⟩=some (.int .i64 y.r)∧w'.cell? ⟨b1,o1+k*9+1+1+1+1,none⟩=some (.string y.s)∧w'.cell? ⟨b1,o1+k*9+1+1+1+1+1,none⟩=some (.string y.o)∧w'.cell? ⟨b1,o1+k*9+1+1+1+1+1+1,none⟩=some (.int .i64 y.b)∧w'.cell? ⟨b1,o1+k*9+1+1+1+1+1+1+1,none⟩=some (.int .i64 y.d)∧w'.cell? ⟨b1,o1+k*9+1+1+1+1+1+1+1+1,none⟩=some (.bool y.g)) (by kernel_rfl) 158 hn (by kernel_rfl) (by kernel_rfl) (by kernel_rfl) (⟨HSt.out.c0,HSt.out.cf,(hy.fr HSt.out.r (fun h=>h)) 0 _ rfl,(hy.fr HSt.out.r (fun h=>h)) 1 _ rfl,(hy.fr HSt.out.r (fun h=>h)) 2 _ rfl,(hy.fr HSt.out.r (fun h=>h)) 3 _ rfl,(hy.fr HSt.out.r (fun h=>h)) 4 _ rfl,(hy.fr HSt.out.r (fun h=>h)) 5 _ rfl,(hy.fr HSt.out.r (fun h=>h)) 6 _ rfl,(hy.fr HSt.out.r (fun h=>h)) 7 _ rfl,(hy.fr HSt.out.r (fun h=>h)) 8 _ rfl⟩) (fun a b ha hb=>?_)
 subst ha
 have hb0:b 0=.pointer (some ⟨Bf,0,none⟩):=(hb 0).symm.trans h_0
 have hb3:b 3=.pointer (some ⟨Bd,0,none⟩):=(hb 3).symm.trans h_3
 have hb10:b 10=.int .i64 (k:Int):=(hb 10).symm.trans h_10
 clear hb h_0 h_3 h_10
 have HP:=Lib.hid hpost;have HN:=Lib.hid hn
 clear hpost hn
 iterate 9 (refine Eng.TW.tk ?_)
 refine Eng.TW.call rfl rfl (by decide) (by kernel_rfl) ?_ (SetW.Find d.A1 d.c1 d.O y w.drew HSt.out.rd.o.s) ?_
 ·go_simp
 rintro e w2 ⟨rfl,hf1⟩
 have HSt2:=Lib.hid (HSt.out.fr hf1)
 clear hf1
 refine ⟨_,rfl,⟨HSt2.out.c0,HSt2.out.cf,(hy.fr HSt2.out.r (fun h=>h)) 0 _ rfl,(hy.fr HSt2.out.r (fun h=>h)) 1 _ rfl,(hy.fr HSt2.out.r (fun h=>h)) 2 _ rfl,(hy.fr HSt2.out.r (fun h=>h)) 3 _ rfl,(hy.fr HSt2.out.r (fun h=>h)) 4 _ rfl,(hy.fr HSt2.out.r (fun h=>h)) 5 _ rfl,(hy.fr HSt2.out.r (fun h=>h)) 6 _ rfl,(hy.fr HSt2.out.r (fun h=>h)) 7 _ rfl,(hy.fr HSt2.out.r (fun h=>h)) 8 _ rfl⟩,?_⟩
 refine Eng.TW.tk ?_
 refine Eng.TW.end_ [113,114,115,116,117,118,119,120,121,122,123] HN.out (by kernel_rfl) (by kernel_rfl) ?_
 exact HP.out _ _ rfl HSt2.out.r
theorem posI_spec (L:List Sn) (y:Sn):(posI y L= -1∧nx L y.t y.i=none)∨∃j,∃h:j<L.length,posI y L=(j:Int)∧nx L y.t y.i=some L[j]:=by
 cases hn:nx L y.t y.i with
 |none=>exact .inl ⟨ClsF.posI_none hn y rfl rfl,rfl⟩
 |some z=>
  obtain ⟨j,hj,e1,e2⟩:=ClsF.posI_some hn y rfl rfl
  exact .inr ⟨j,hj,e1,by rw [e2]⟩
theorem okO_br (L:List Sn) (y:Sn):okO (L.map br) y=match nx L y.t y.i with|some z=>decide (z.p=y.p)|none=>false:=by
 unfold okO
 rw [nx_br]
 cases nx L y.t y.i<;>rfl
theorem okI_br (L O:List Sn) (y:Sn):okI (L.map br) O y=(!(nx L y.t y.i).isSome||(nx O y.t y.i).isSome):=by
 unfold okI
 rw [nx_br]
 cases nx L y.t y.i<;>rfl
theorem pos_some (L:List Sn) (y:Sn):decide (0≤posI y L)=(nx L y.t y.i).isSome:=by
 rcases posI_spec L y with ⟨e,h⟩| ⟨j,hj,e,h⟩<;>rw [e,h]
 ·rfl
 ·exact decide_eq_true (by omega)
theorem pos_lt (L:List Sn) (y:Sn):decide (posI y L<0)= !(nx L y.t y.i).isSome:=by
 rcases posI_spec L y with ⟨e,h⟩| ⟨j,hj,e,h⟩<;>rw [e,h]
 ·rfl
 ·exact decide_eq_false (by omega)
theorem ar7c {ops:Array Oper} (hops:Eng.fnOps Tryz.f32 7=ops) (a0:Act) (Q:Exit→Act→World→Prop) (w0 w:World) (Bd Bf:Nat) (b1 o1 k1:Nat) (O:List Sn) (A2:Option Addr) (k2:Nat) (I:List Sn) (A:Option Addr) (c:Nat) (L:List Sn) (k:Nat) (y:Sn) (hk:k<O.length) (hlen:O.length≤1000000) (hl9:L.length≤1000000) (hy:SetW.At w0 b1 (o1+k*9) y) (hst:AR w0 w Bd Bf ⟨some ⟨b1,o1,none⟩,k1,O,A2,k2,I⟩ A c L) (hL:Ls w0 A c L)
  (hn:a0.tmps.size=158) (h_0:a0.tmps.getD 0 undef=.pointer (some ⟨Bf,0,none⟩)) (h_3:a0.tmps.getD 3 undef=.pointer (some ⟨Bd,0,none⟩)) (h_6:a0.tmps.getD 6 undef=.int .i64 (k:Int)) (h_7:a0.tmps.getD 7 undef=.int .i64 (posI y L))
  (hpost:∀ (x_:Nat→Value) (w':World),x_ 72=.bool (!okO (L.map br) y)→Fr (fun _=>False) w0 w'→Q .normal (Eng.setAll a0 [54,55,56,57,58,59,60,61,62,63,64,65,66,67,68,69,70,71,72] x_) w'):
  (Code.region 7 ops true).wp prog Q a0 w:=by
 rw [okO_br] at hpost
 rcases posI_spec L y with ⟨ej,hnx⟩| ⟨j,hj,ej,hnx⟩
 ·rw [ej] at h_7
  rw [hnx] at hpost
  exact ar7t hops a0 Q w hn h_7 (fun x_ w' hx hf=>hpost x_ w' hx (hst.r.trans hf (fun _ _ h=>h) (fun _ _ h=>h)))
 ·rw [ej] at h_7
  rw [hnx] at hpost
  obtain ⟨b2,o2,rfl,-,cc⟩:=hL.s.at hj (by omega)
  refine ar7 hops a0 Q w0 w Bd Bf b1 o1 k1 O A2 k2 I b2 o2 c L k y hk hlen hy j L[j] hj hl9 (SetW.At.row cc hj) hst hn h_0 h_3 h_6 h_7 (fun x_ w' hx hf=>hpost x_ w' (hx.trans ?_) hf)
  congr 1
theorem ar12c {ops:Array Oper} (hops:Eng.fnOps Tryz.f32 12=ops) (a0:Act) (Q:Exit→Act→World→Prop) (w0 w:World) (Bd Bf:Nat) (A1:Option Addr) (k1:Nat) (O:List Sn) (b1 o1 k2:Nat) (I:List Sn) (A:Option Addr) (c:Nat) (L:List Sn) (k:Nat) (y:Sn) (hk:k<I.length) (hlen:I.length≤1000000) (hy:SetW.At w0 b1 (o1+k*9) y) (hst:AR w0 w Bd Bf ⟨A1,k1,O,some ⟨b1,o1,none⟩,k2,I⟩ A c L)
  (hn:a0.tmps.size=158) (h_0:a0.tmps.getD 0 undef=.pointer (some ⟨Bf,0,none⟩)) (h_3:a0.tmps.getD 3 undef=.pointer (some ⟨Bd,0,none⟩)) (h_8:a0.tmps.getD 8 undef=.int .i64 (k:Int))
  (hpost:∀ (x_:Nat→Value) (w':World),x_ 102=.bool (!okI (L.map br) O y)→Fr (fun _=>False) w0 w'→Q .normal (Eng.setAll a0 [81,82,83,84,85,86,87,88,89,90,91,92,93,94,95,96,97,98,99,100,101,102] x_) w'):
  (Code.region 12 ops true).wp prog Q a0 w:=by
 rw [okI_br] at hpost
 cases hs:(nx L y.t y.i).isSome with
 |true=>exact ar12 hops a0 Q w0 w Bd Bf A1 k1 O b1 o1 k2 I A c L k y hk hlen hy ((pos_some L y).trans hs) hst hn h_0 h_3 h_8 (fun x_ w' hx hf=>hpost x_ w' (by rw [hx,hs,pos_lt];rfl) hf)
 |false=>exact ar12f hops a0 Q w0 w Bd Bf A1 k1 O b1 o1 k2 I A c L k y hk hlen hy ((pos_some L y).trans hs) hst hn h_0 h_3 h_8 (fun x_ w' hx hf=>hpost x_ w' (by rw [hx,hs];rfl) hf)
theorem alv_ne (L:List Sn):(((ClsW.alive L).length:Int) != (L.length:Int))=L.any (fun x=>x.g):=by
 have key:(ClsW.alive L).length=L.length↔L.any (fun x=>x.g)=false:=by
  rw [List.any_eq_false]
  unfold ClsW.alive
  rw [List.length_filter_eq_length_iff]
  exact ⟨fun h x hx hg=>by have:=h x hx;simp [hg] at this,fun h x hx=>by have:=h x hx;simpa using this⟩
 cases ha:L.any (fun x=>x.g) with
 |false=>rw [key.2 ha];simp
 |true=>
  have:(ClsW.alive L).length≠L.length:=fun e=>by rw [key.1 e] at ha;cases ha
  simp only [bne_iff_ne,ne_eq];omega
theorem ar1 {ops:Array Oper} (hops:Eng.fnOps Tryz.f32 1=ops) (a0:Act) (Q:Exit→Act→World→Prop) (w0 w:World) (Bd Bf:Nat) (d:Dl) (A:Option Addr) (c:Nat) (L:List Sn) (h1:d.O.length≤1000000) (h2:d.I.length≤1000000) (hst:AR w0 w Bd Bf d A c L)
  (hn:a0.tmps.size=158) (h_3:a0.tmps.getD 3 undef=.pointer (some ⟨Bd,0,none⟩))
  (hpost:∀ (x_:Nat→Value) (w':World),x_ 35=.bool (!rightB d.O d.I||(d.O.any (fun x=>x.g)||d.I.any (fun x=>x.g)))→Fr (fun _=>False) w0 w'→Q .normal (Eng.setAll a0 [13,14,15,16,17,18,19,20,21,22,23,24,25,26,27,28,29,30,31,32,33,34,35] x_) w'):
  (Code.region 1 ops true).wp prog Q a0 w:=by
 cases e1:rightB d.O d.I with
 |false=>exact ar1a hops a0 Q w0 w Bd Bf d A c L h1 h2 e1 hst hn h_3 (fun x_ w' hx hf=>hpost x_ w' (by rw [hx,e1];rfl) hf)
 |true=>
  cases e2:d.O.any (fun x=>x.g) with
  |true=>exact ar1b hops a0 Q w0 w Bd Bf d A c L h1 h2 e1 ((alv_ne d.O).trans e2) hst hn h_3 (fun x_ w' hx hf=>hpost x_ w' (by rw [hx,e1,e2];rfl) hf)
  |false=>exact ar1c hops a0 Q w0 w Bd Bf d A c L h1 h2 (d.I.any (fun x=>x.g)) e1 ((alv_ne d.O).trans e2) (alv_ne d.I) hst hn h_3 (fun x_ w' hx hf=>hpost x_ w' (by rw [hx,e1,e2];rfl) hf)
theorem bk_ne {w:World} {B:Nat} {cs:Array Value} {T:TypeId} {A:Option Addr} {n c:Nat} {P:List Pq} (hb:Bk w B cs T) (hc:∀ (o:Nat) (t:Int),cs[o]? ≠some (.int .i64 t)) (h:Sl w 6 A n c (pcs P)) (hn:P.length=n):pcs P≠ []→∀a,A=some a→¬a.block=B:=fun hne a ha e=>by
 have h0:0<P.length:=by
  cases P with
  |nil=>exact absurd rfl hne
  |cons _ _=>simp
 obtain ⟨b,o,hA,-,cc⟩:=h.at (i:=0) (by omega) (by omega)
 rw [hA] at ha;cases ha
 dsimp only at e;subst e
 have h1:=AtP.row cc h0 0 _ rfl
 rw [Nat.zero_mul,Nat.add_zero] at h1
 have h2:=hb.cell o
 rw [h2] at h1
 exact hc _ _ h1
theorem no1 (a:Value) (ha:∀t,a≠ .int .i64 t):∀ (o:Nat) (t:Int),(#[a]:Array Value)[o]? ≠some (.int .i64 t)
 |0,t=>fun h=>ha t (by simpa using h)
 |o+1,t=>fun h=>by simp at h
theorem no2 (a b:Value) (ha:∀t,a≠ .int .i64 t) (hb:∀t,b≠ .int .i64 t):∀ (o:Nat) (t:Int),(#[a,b]:Array Value)[o]? ≠some (.int .i64 t)
 |0,t=>fun h=>ha t (by simpa using h)
 |1,t=>fun h=>hb t (by simpa using h)
 |o+2,t=>fun h=>by simp at h
theorem put2f {w1:World} {B:Nat} {v1 v2:Value} (hr:Bk w1 B #[.slice none 0 0,.slice none 0 0] TSh):Bk ((w1.setCell ⟨B,0,none⟩ v1).setCell ⟨B,1,none⟩ v2) B #[v1,v2] TSh∧Fr (fun b=>b=B) w1 ((w1.setCell ⟨B,0,none⟩ v1).setCell ⟨B,1,none⟩ v2):=
 ⟨by have:=(hr.set 0 v1).set 1 v2;simpa using this,(Fr.setCell w1 ⟨B,0,none⟩ v1 (S:=fun b=>b=B) rfl).trans (Fr.setCell _ ⟨B,1,none⟩ v2 (S:=fun b=>b=B) rfl) (fun _ _ h=>h) (fun _ _ h=>h)⟩
theorem as_rnext {L O I:List Sn} (hA:As L) (hr:rightB O I=true) (hg:I.any (fun x=>x.g)=false):As (rnext L O I):=by
 have hI:Ok I:=by
  unfold rightB at hr
  rw [Bool.and_eq_true,Bool.and_eq_true] at hr
  exact RefD.isB_iff.1 hr.2.1
 have hm:∀x∈rnext L O I,x∈I∨x∈L:=fun x hx=>((rnext_mem hA.ok.srs hI.srs).1 hx).elim .inl (fun h=>.inr h.1)
 exact ⟨⟨rnext_srs hA.ok.srs,fun x hx=>(hm x hx).elim (hI.may x) (hA.ok.may x),fun x hx=>(hm x hx).elim (hI.kept x) (hA.ok.kept x)⟩,fun x hx=>(hm x hx).elim (fun h=>by have:=List.any_eq_false.1 hg x h;simpa using this) (hA.al x)⟩
def RpPost (w:World) (Bf:Nat) (L O I:List Sn) (e:Ending) (w':World):Prop:=
 (dmay (L.map br) O I=0→∃A3 c3 A4 c4 A5 c5,e=.returned (.tuple #[.agg #[.slice A3 (wo (L.map (plq L)) ((rnext L O I).map (plq (rnext L O I)))).length c3,.slice A4 (wo ((rnext L O I).map (plq (rnext L O I))) (L.map (plq L))).length c4],.int .i64 0])∧
  Sl w' 6 A3 (wo (L.map (plq L)) ((rnext L O I).map (plq (rnext L O I)))).length c3 (pcs (wo (L.map (plq L)) ((rnext L O I).map (plq (rnext L O I)))))∧Sl w' 6 A4 (wo ((rnext L O I).map (plq (rnext L O I))) (L.map (plq L))).length c4 (pcs (wo ((rnext L O I).map (plq (rnext L O I))) (L.map (plq L))))∧
  Bk w' Bf #[.slice A5 (rnext L O I).length c5] TRf∧Ls w' A5 c5 (rnext L O I)∧As (rnext L O I)∧(∀a,A5=some a→w.heap.size≤a.block∧a.block<w'.heap.size)∧Fr (fun b=>b=Bf) w w')∧
 (dmay (L.map br) O I≠0→e=.returned (.tuple #[.agg #[.slice none 0 0,.slice none 0 0],.int .i64 (dmay (L.map br) O I)])∧Fr (fun _=>False) w w')
theorem RpPost.no {w w':World} {Bf:Nat} {L O I:List Sn} {m:Int} (hm:dmay (L.map br) O I=m) (h0:m≠0) (hb:Below w.heap.size w w'):RpPost w Bf L O I (.returned (.tuple #[.agg #[.slice none 0 0,.slice none 0 0],.int .i64 m])) w':=by
 subst hm
 exact ⟨fun h=>absurd h h0,fun _=>⟨rfl,Fr.of_below' hb _⟩⟩
theorem outs_snoc {L O:List Sn} {k:Nat} (h:k<L.length):(L.take (k+1)).filter (fun y=> !(fnd y O).isSome)=(L.take k).filter (fun y=> !(fnd y O).isSome)++if (!(fnd L[k] O).isSome)=true then [L[k]] else []:=by
 rw [List.take_succ_eq_append_getElem h,List.filter_append,List.filter_cons]
 cases (fnd L[k] O).isSome<;>simp
theorem inss_snoc {M I:List Sn} {k:Nat} (h:k<I.length):(I.take (k+1)).foldl (fun l x=>ins x l) M=ins I[k] ((I.take k).foldl (fun l x=>ins x l) M):=by
 rw [List.take_succ_eq_append_getElem h,List.foldl_append];rfl
theorem Apply {Bf c k1 k2:Nat} {A A1 A2:Option Addr} {L O I:List Sn} (w:World) (hb:Bk w Bf #[.slice A L.length c] TRf) (hl:Ls w A c L) (hA:As L) (hd:RdD w ⟨A1,k1,O,A2,k2,I⟩) (so:O.length≤1000) (si:L.length+I.length≤900):
  Calls prog 32 #[.pointer (some ⟨Bf,0,none⟩),.agg #[.slice A1 O.length k1,.slice A2 I.length k2]] w (RpPost w Bf L O I):=by
 obtain ⟨i0,hi,hz0,hz1,hz2⟩:=info_parts infoS
 have f1:=Fr.alloc (fun _=>False) w (.cells (Dl.mk A1 k1 O A2 k2 I).arr TDl)
 have f2:=Fr.alloc (fun _=>False) (w.alloc (.cells (Dl.mk A1 k1 O A2 k2 I).arr TDl)) (.cells #[.slice none 0 0,.slice none 0 0] TSh)
 have hst:AR w ((w.alloc (.cells (Dl.mk A1 k1 O A2 k2 I).arr TDl)).alloc (.cells #[.slice none 0 0,.slice none 0 0] TSh)) w.heap.size Bf ⟨A1,k1,O,A2,k2,I⟩ A c L:=
  AR.fr ⟨f1,Bk.new _ _ _,hb.fr f1 (fun _ _ h=>h),hd.keep f1,hl.keep f1⟩ f2
 have hbr:=Bk.new (w.alloc (.cells (Dl.mk A1 k1 O A2 k2 I).arr TDl)) #[.slice none 0 0,.slice none 0 0] TSh
 rw [show (w.alloc (.cells (Dl.mk A1 k1 O A2 k2 I).arr TDl)).heap.size=w.heap.size+1 by simp] at hbr
 have HBr:=Lib.hid hbr;have HSt:=Lib.hid hst
 have HAs:=Lib.hid hA
 have HBf:Hid (Bf<w.heap.size):=lt_of_heap hb
 obtain ⟨dm,hdm⟩:∃m,dmay (L.map br) O I=m:=⟨_,rfl⟩
 have HDm:=Lib.hid hdm
 have HE:Hid (dm=if (!rightB O I||(O.any (fun x=>x.g)||I.any (fun x=>x.g)))=true then 2 else if mayO (L.map br) O=false then 7 else if mayI (L.map br) O I=false then 8 else 0):=by show _=_;rw [←hdm];rfl
 have HNo:=Lib.hid (fun (w':World) (m:Int) (h:dm=m) (h0:m≠0) (hb:Below w.heap.size w w')=>RpPost.no (w:=w) (Bf:=Bf) (hdm.trans h) h0 hb)
 clear hb hl hA hd f1 f2 hst hbr hdm
 have kb:=buildSh
 obtain ⟨PO,hPO⟩:∃P,RpPost w Bf L O I=P:=⟨_,rfl⟩
 have HPO:=Lib.hid hPO
 rw [hPO] at HNo ⊢
 clear hPO
 go_enter func32,ntmps32
 go_upto_region 1 with (fail)
 generalize ((w.alloc (.cells #[.slice A1 O.length k1,.slice A2 I.length k2] TDl)).alloc (.cells #[.slice none 0 0,.slice none 0 0] TSh))=w2 at *
 refine ar1 (by kernel_rfl) _ _ w2 w2 w.heap.size Bf ⟨A1,k1,O,A2,k2,I⟩ A c L (Nat.le_trans so (by omega)) (by show I.length≤_;omega) HSt.out.me rfl rfl ?_
 intro x_ w3 hx35 hf3
 simp only [Eng.setAll,Act.put,List.setIfInBounds_toArray,List.set_cons_succ,List.set_cons_zero,hx35]
 have HSt3:=Lib.hid (HSt.out.fr hf3);have HBr3:=Lib.hid (HBr.out.fr hf3 (fun _ _ h=>h))
 clear hf3 hx35 HSt HBr
 cases hq1:(!rightB O I||(O.any (fun x=>x.g)||I.any (fun x=>x.g))) with
 |true=>
  have HM:Hid (dm=2):=by show _=_;rw [HE.out,if_pos hq1]
  have r0:=HBr3.out.cell 0;have r1:=HBr3.out.cell 1;have g0:=HBr3.out.free 0;have g1:=HBr3.out.free 1
  simp only [List.getElem?_toArray,List.getElem?_cons_zero,List.getElem?_cons_succ] at r0 r1
  have HU:=Lib.hid (put2 (w:=w) (v1:=.slice none 0 0) (v2:=.slice none 0 0) HBr3.out (HSt3.out.r.below (Nat.le_refl _) (fun _ _ h=>h)) (Nat.le_succ _))
  clear hq1
  go_wp2_with fail
  obtain ⟨u1,u2,u3⟩:=HU.out
  exact bodyPost_ret (AvlSP.results_row_tmp (p:=4) (u:=5) rfl _ _ (w.heap.size+1) TSh _ (0,0) _ rfl u1 underlying80 rfl (by kernel_rfl)) rfl (HNo.out _ _ HM.out (by decide) u2)
 |false=>
  have HE1:Hid (dm=if mayO (L.map br) O=false then 7 else if mayI (L.map br) O I=false then 8 else 0):=by show _=_;rw [HE.out,if_neg (by rw [hq1];simp)]
  rw [Bool.or_eq_false_iff,Bool.or_eq_false_iff,Bool.not_eq_false'] at hq1
  have HRi:=Lib.hid hq1
  clear hq1 HE
  go_wp2_with fail
  go_loopg [6] O.length (fun gk i wr=>∃k:Nat,i=.int .i64 k∧k≤O.length∧gk=O.length-k∧(∀y∈O.take k,okO (L.map br) y=true)∧AR w wr w.heap.size Bf ⟨A1,k1,O,A2,k2,I⟩ A c L∧Bk wr (w.heap.size+1) #[.slice none 0 0,.slice none 0 0] TSh)
  case atStart=>exact ⟨0,rfl,Nat.zero_le _,rfl,by simp,HSt3.out,HBr3.out⟩
  case round=>
   clear HSt3 HBr3
   obtain ⟨k,rfl,hk,hg,hall,hst,hbr⟩:=hrel
   have HG:=Lib.hid hg;have HAll:=Lib.hid hall;have HSt:=Lib.hid hst;have HBr:=Lib.hid hbr
   have c0:=hst.c0
   dsimp only at c0
   clear hg hall hst hbr
   by_cases hlt:k<O.length
   ·have q1:decide ((k:Int)<(O.length:Int))=true:=by simp;omega
    obtain ⟨b1,o1,rfl,-,cc1⟩:=HSt.out.rd.o.s.at hlt (by omega)
    have HY:=Lib.hid (SetW.At.row cc1 hlt)
    have HSn:Hid (okO (L.map br) O[k]=true→∀y∈O.take (k+1),okO (L.map br) y=true):=fun h y hy=>by
     rw [List.take_succ_eq_append_getElem hlt] at hy
     rcases List.mem_append.1 hy with hy|hy
     ·exact HAll.out y hy
     ·rw [List.mem_singleton.1 hy];exact h
    have HHit:Hid (okO (L.map br) O[k]=false→dm=7):=fun h=>by
     have:mayO (L.map br) O=false:=List.all_eq_false.2 ⟨_,List.getElem_mem hlt,by rw [h];simp⟩
     rw [HE1.out,if_pos this]
    clear cc1 HAll
    generalize O[k]=y at *
    go_upto_region 6 with (fail)
    refine ar6 (by kernel_rfl) _ _ wr wr w.heap.size Bf b1 o1 k1 O A2 k2 I A c L k y hlt (by omega) HY.out HSt.out.me rfl rfl rfl rfl ?_
    intro x_ w4 hx7 hf4
    simp only [Eng.setAll,Act.put,List.setIfInBounds_toArray,List.set_cons_succ,List.set_cons_zero,hx7]
    have HSt4:=Lib.hid (HSt.out.fr hf4);have HBr4:=Lib.hid (HBr.out.fr hf4 (fun _ _ h=>h));have HY4:=Lib.hid (HY.out.fr hf4 (fun h=>h))
    clear hf4 hx7 HSt HBr HY c0
    go_upto_region 7 with (fail)
    refine ar7c (by kernel_rfl) _ _ w4 w4 w.heap.size Bf b1 o1 k1 O A2 k2 I A c L k y hlt (by omega) (by omega) HY4.out HSt4.out.me HSt4.out.l rfl rfl rfl rfl rfl ?_
    intro x_ w5 hx72 hf5
    simp only [Eng.setAll,Act.put,List.setIfInBounds_toArray,List.set_cons_succ,List.set_cons_zero,hx72]
    have HSt5:=Lib.hid (HSt4.out.fr hf5);have HBr5:=Lib.hid (HBr4.out.fr hf5 (fun _ _ h=>h))
    clear hf5 hx72 HSt4 HBr4 HY4
    cases hok:okO (L.map br) y with
    |false=>
     have HM:=Lib.hid (HHit.out hok)
     have r0:=HBr5.out.cell 0;have r1:=HBr5.out.cell 1;have g0:=HBr5.out.free 0;have g1:=HBr5.out.free 1
     simp only [List.getElem?_toArray,List.getElem?_cons_zero,List.getElem?_cons_succ] at r0 r1
     have HU:=Lib.hid (put2 (w:=w) (v1:=.slice none 0 0) (v2:=.slice none 0 0) HBr5.out (HSt5.out.r.below (Nat.le_refl _) (fun _ _ h=>h)) (Nat.le_succ _))
     clear hok
     go_wp2_with fail
     obtain ⟨u1,u2,u3⟩:=HU.out
     exact bodyPost_ret (AvlSP.results_row_tmp (p:=4) (u:=5) rfl _ _ (w.heap.size+1) TSh _ (0,0) _ rfl u1 underlying80 rfl (by kernel_rfl)) rfl (HNo.out _ _ HM.out (by decide) u2)
    |true=>
     have HSn2:=Lib.hid (HSn.out hok)
     have qk:IntKind.i64.wrap ((k:Int)+1)=(k:Int)+1:=by rw [IntKind.wrap_i64];omega
     clear hok HSn HHit
     go_wp2_with fail
     go_roundg (O.length-(k+1))
     case rel=>exact ⟨k+1,by go_num,by omega,rfl,HSn2.out,HSt5.out,HBr5.out⟩
     case measure=>have:=HG.out;omega
   ·have hke:k=O.length:=by omega
    subst hke
    rw [List.take_length] at HAll
    have q1:decide ((O.length:Int)<(O.length:Int))=false:=by simp
    have HO1:Hid (mayO (L.map br) O=true):=List.all_eq_true.2 HAll.out
    have HE2:Hid (dm=if mayI (L.map br) O I=false then 8 else 0):=by show _=_;rw [HE1.out,if_neg (by rw [HO1.out];simp)]
    clear HE1 HAll HG
    go_wp2_with fail
    clear q1 c0
    go_loopg [8] I.length (fun gk i wr=>∃k:Nat,i=.int .i64 k∧k≤I.length∧gk=I.length-k∧(∀y∈I.take k,okI (L.map br) O y=true)∧AR w wr w.heap.size Bf ⟨A1,k1,O,A2,k2,I⟩ A c L∧Bk wr (w.heap.size+1) #[.slice none 0 0,.slice none 0 0] TSh)
    case atStart=>exact ⟨0,rfl,Nat.zero_le _,rfl,by simp,HSt.out,HBr.out⟩
    case round=>
     clear HSt HBr
     obtain ⟨k,rfl,hk,hg,hall,hst,hbr⟩:=hrel
     have HG:=Lib.hid hg;have HAll:=Lib.hid hall;have HSt:=Lib.hid hst;have HBr:=Lib.hid hbr
     have c1:=hst.c1
     dsimp only at c1
     clear hg hall hst hbr
     by_cases hlt:k<I.length
     ·have q1:decide ((k:Int)<(I.length:Int))=true:=by simp;omega
      obtain ⟨b1,o1,rfl,-,cc1⟩:=HSt.out.rd.i.s.at hlt (by omega)
      have HY:=Lib.hid (SetW.At.row cc1 hlt)
      have HSn:Hid (okI (L.map br) O I[k]=true→∀y∈I.take (k+1),okI (L.map br) O y=true):=fun h y hy=>by
       rw [List.take_succ_eq_append_getElem hlt] at hy
       rcases List.mem_append.1 hy with hy|hy
       ·exact HAll.out y hy
       ·rw [List.mem_singleton.1 hy];exact h
      have HHit:Hid (okI (L.map br) O I[k]=false→dm=8):=fun h=>by
       have:mayI (L.map br) O I=false:=List.all_eq_false.2 ⟨_,List.getElem_mem hlt,by rw [h];simp⟩
       rw [HE2.out,if_pos this]
      clear cc1 HAll
      generalize I[k]=y at *
      go_upto_region 12 with (fail)
      refine ar12c (by kernel_rfl) _ _ wr wr w.heap.size Bf A1 k1 O b1 o1 k2 I A c L k y hlt (by omega) HY.out HSt.out.me rfl rfl rfl rfl ?_
      intro x_ w5 hx102 hf5
      simp only [Eng.setAll,Act.put,List.setIfInBounds_toArray,List.set_cons_succ,List.set_cons_zero,hx102]
      have HSt5:=Lib.hid (HSt.out.fr hf5);have HBr5:=Lib.hid (HBr.out.fr hf5 (fun _ _ h=>h))
      clear hf5 hx102 HSt HBr HY c1
      cases hok:okI (L.map br) O y with
      |false=>
       have HM:=Lib.hid (HHit.out hok)
       have r0:=HBr5.out.cell 0;have r1:=HBr5.out.cell 1;have g0:=HBr5.out.free 0;have g1:=HBr5.out.free 1
       simp only [List.getElem?_toArray,List.getElem?_cons_zero,List.getElem?_cons_succ] at r0 r1
       have HU:=Lib.hid (put2 (w:=w) (v1:=.slice none 0 0) (v2:=.slice none 0 0) HBr5.out (HSt5.out.r.below (Nat.le_refl _) (fun _ _ h=>h)) (Nat.le_succ _))
       clear hok
       go_wp2_with fail
       obtain ⟨u1,u2,u3⟩:=HU.out
       exact bodyPost_ret (AvlSP.results_row_tmp (p:=4) (u:=5) rfl _ _ (w.heap.size+1) TSh _ (0,0) _ rfl u1 underlying80 rfl (by kernel_rfl)) rfl (HNo.out _ _ HM.out (by decide) u2)
      |true=>
       have HSn2:=Lib.hid (HSn.out hok)
       have qk:IntKind.i64.wrap ((k:Int)+1)=(k:Int)+1:=by rw [IntKind.wrap_i64];omega
       clear hok HSn HHit
       go_wp2_with fail
       go_roundg (I.length-(k+1))
       case rel=>exact ⟨k+1,by go_num,by omega,rfl,HSn2.out,HSt5.out,HBr5.out⟩
       case measure=>have:=HG.out;omega
     ·have hke:k=I.length:=by omega
      subst hke
      rw [List.take_length] at HAll
      have q1:decide ((I.length:Int)<(I.length:Int))=false:=by simp
      have HI1:Hid (mayI (L.map br) O I=true):=List.all_eq_true.2 HAll.out
      have HE3:Hid (dmay (L.map br) O I=0):=by show _=_;rw [HDm.out,HE2.out,if_neg (by rw [HI1.out];simp)]
      have HAn:=Lib.hid (as_rnext HAs.out HRi.out.1 HRi.out.2.2)
      clear HE2 HAll HG HNo HDm
      go_wp2_with fail
      clear q1 c1
      obtain ⟨wa,rfl⟩:∃wa,wa=wr:=⟨wr,rfl⟩
      have hwa:w.heap.size+2≤wa.heap.size:=lt_of_heap HBr.out
      have hLl:L.length≤900:=by omega
      go_loopg [9,10] L.length (fun gk v i wr=>∃k:Nat,i=.int .i64 k∧k≤L.length∧gk=L.length-k∧wr.ownsRow wa.heap.size TSn 9 v ((L.take k).filter (fun y=> !(fnd y O).isSome)).length (((L.take k).filter (fun y=> !(fnd y O).isSome)).flatMap scs)∧Below wa.heap.size wa wr)
      case atStart=>exact ⟨0,rfl,Nat.zero_le _,rfl,World.ownsRow_nil _ _ _ _,Below.refl _ _⟩
      case round=>
       obtain ⟨k,rfl,hk,hg,hown,hbel⟩:=hrel
       have HG:=Lib.hid hg;have HO:=Lib.hid hown;have HBe:=Lib.hid hbel
       have hst:=HSt.out.below hbel
       have cf:=hst.cf
       have HS2:=Lib.hid hst
       clear hg hown hbel hst
       by_cases hlt:k<L.length
       ·have q1:decide ((k:Int)<(L.length:Int))=true:=by simp;omega
        obtain ⟨b1,o1,rfl,-,cc1⟩:=HS2.out.l.s.at hlt (by omega)
        have HY:=Lib.hid (SetW.At.row cc1 hlt)
        have HSn:=Lib.hid (outs_snoc (O:=O) hlt)
        have hfl:((L.take k).filter (fun y=> !(fnd y O).isSome)).length≤900:=Nat.le_trans (List.length_filter_le _ _) (Nat.le_trans (List.length_take_le' _ _) hLl)
        have qk:IntKind.i64.wrap ((k:Int)+1)=(k:Int)+1:=by rw [IntKind.wrap_i64];omega
        clear cc1
        generalize L[k]=y at *
        generalize (L.take k).filter (fun y=> !(fnd y O).isSome)=Mk at *
        go_upto_region 18 with (fail)
        refine ar18 (by kernel_rfl) _ _ wr wr w.heap.size Bf ⟨A1,k1,O,A2,k2,I⟩ b1 o1 c L k y hlt (by omega) HY.out HS2.out.me rfl rfl rfl rfl ?_
        intro x_ w5 hx123 hf5
        have hx:x_ 123=.bool (!(fnd y O).isSome):=hx123.trans (by rw [pos_lt];rfl)
        simp only [Eng.setAll,Act.put,List.setIfInBounds_toArray,List.set_cons_succ,List.set_cons_zero,hx]
        have HY5:=Lib.hid (HY.out.fr hf5 (fun h=>h))
        have hcf:=(HS2.out.fr hf5).cf
        have HB5:=Lib.hid (HBe.out.trans (hf5.below HBe.out.size (fun _ _ h=>h)))
        have HO5:=Lib.hid (ownsRow_fr HO.out hf5 (fun _ _ h=>h))
        clear hf5 hx123 hx HS2 HY HO HBe cf
        cases hfs:(!(fnd y O).isSome) with
        |false=>
         have HN1:Hid ((L.take (k+1)).filter (fun y=> !(fnd y O).isSome)=Mk):=by have:=HSn.out;rw [hfs] at this;exact this.trans (List.append_nil _)
         clear hfs HSn
         go_wp2_with fail
         go_roundg (L.length-(k+1))
         case rel=>exact ⟨k+1,by go_num,by omega,rfl,by rw [HN1.out];exact HO5.out,HB5.out⟩
         case measure=>have:=HG.out;omega
        |true=>
         have HN1:Hid ((L.take (k+1)).filter (fun y=> !(fnd y O).isSome)=Mk++ [y]):=by have:=HSn.out;rw [hfs] at this;exact this
         have q2:(0:Int)≤(k:Int):=by omega
         have q3:(k:Int)<(L.length:Int):=by omega
         obtain ⟨yc0,yc1,yc2,yc3,yc4,yc5,yc6,yc7,yc8⟩:=SetW.at9 HY5.out
         have hown1':=HO5.out.alloc (.cells (scs y).toArray TSn)
         have hs5:=HB5.out.size
         have HK1:=Lib.hid (ownsRow_blk HO5.out)
         clear hfs HSn
         go_wp2_with (at_builtin;refine wpList_append_sl _ rfl (.tmp 124) (.tmp 132) TSs rfl wa.heap.size TSn i0 (.agg #[.int .i64 0,.int .i64 0,.int .i64 0,.int .i64 0,.string ByteArray.empty,.string ByteArray.empty,.int .i64 0,.int .i64 0,.bool false]) 9 88 underlying27 hi hz0 hz1 hz2 rfl (by decide) _ _ _ rfl hown1' _ _ _ _ rfl (Sl.one w5 TSn (scs y) 9 rfl) (by simp [Value.oneCell']) ?_ ?_ ?_ ?_)
         ·unfold maxLen;omega
         ·omega
         ·first|omega| (simp;omega)
         intro v1 w6 hown1 hgrow1
         have HO6:=Lib.hid hown1;have HGr:=Lib.hid hgrow1
         clear hown1 hgrow1 hown1' yc0 yc1 yc2 yc3 yc4 yc5 yc6 yc7 yc8
         go_wp2_with fail
         go_roundg (L.length-(k+1))
         case rel=>exact ⟨k+1,by go_num,by omega,rfl,by rw [HN1.out,List.length_append];simpa using HO6.out,(HB5.out.alloc (by omega) _).grown HGr.out (by simp;omega) (fun k e=>(HK1.out k e).1)⟩
         case measure=>have:=HG.out;omega
       ·have hke:k=L.length:=by omega
        subst hke
        rw [List.take_length] at HO
        have q1:decide ((L.length:Int)<(L.length:Int))=false:=by simp
        obtain ⟨M0,hM0⟩:∃M,L.filter (fun y=> !(fnd y O).isSome)=M:=⟨_,rfl⟩
        have hMl:M0.length≤L.length:=by rw [←hM0];exact List.length_filter_le _ _
        have HMs:Hid (Srs M0):=by show Srs M0;rw [←hM0];exact HAs.out.ok.srs.filter _
        have HMo:Hid (∀x∈M0,x.ok):=fun x hx=>by rw [←hM0] at hx;exact HSt.out.l.ok x (List.mem_filter.1 hx).1
        have HRn:Hid (I.foldl (fun l x=>ins x l) M0=rnext L O I):=by show _=_;rw [←hM0];rfl
        rw [hM0] at HO
        clear hM0
        obtain ⟨A9,c9,hv,hsl9,-⟩:=Sl.of_own HO.out
        subst hv
        have HL9:Hid (Ls wr A9 c9 M0):=⟨hsl9,HMo.out⟩
        have HN9:Hid (∀q,A9=some q→w.heap.size+2≤q.block∧q.block<wr.heap.size):=fun q hq=>by subst hq;exact ⟨Nat.le_trans hwa (ownsRow_blk HO.out q.block rfl).1,(ownsRow_blk HO.out q.block rfl).2.1⟩
        have HBw:Hid (w.heap.size+2≤wr.heap.size):=Nat.le_trans hwa HBe.out.size
        have HBr2:=Lib.hid (HBr.out.fr (Fr.of_below' HBe.out (fun _=>False)) (fun _ _ h=>h))
        clear hsl9 HO HMo HG HBe HBr HSt
        go_wp2_with fail
        clear q1 cf
        obtain ⟨wb,rfl⟩:∃wb,wb=wr:=⟨wr,rfl⟩
        go_loopg [9,11] I.length (fun gk v i wr=>∃ (k:Nat) (A9:Option Addr) (c9:Nat),i=.int .i64 k∧k≤I.length∧gk=I.length-k∧v=.slice A9 ((I.take k).foldl (fun l x=>ins x l) M0).length c9∧Ls wr A9 c9 ((I.take k).foldl (fun l x=>ins x l) M0)∧((I.take k).foldl (fun l x=>ins x l) M0).length≤M0.length+k∧(∀q,A9=some q→w.heap.size+2≤q.block∧q.block<wr.heap.size)∧Below wb.heap.size wb wr)
        case atStart=>exact ⟨0,A9,c9,rfl,Nat.zero_le _,rfl,rfl,HL9.out,Nat.le_refl _,HN9.out,Below.refl _ _⟩
        case round=>
         clear HL9 HN9
         obtain ⟨k,A9',c9',rfl,hk,hg,rfl,hls,hln,hne,hbel⟩:=hrel
         have HG:=Lib.hid hg;have HL9:=Lib.hid hls;have HN9:=Lib.hid hne;have HBe:=Lib.hid hbel
         have hst:=HS2.out.below hbel
         have c1:=hst.c1
         dsimp only at c1
         have HS3:=Lib.hid hst
         clear hg hls hne hbel hst
         by_cases hlt:k<I.length
         ·have q1:decide ((k:Int)<(I.length:Int))=true:=by simp;omega
          obtain ⟨b1,o1,rfl,-,cc1⟩:=HS3.out.rd.i.s.at hlt (by omega)
          have HY:=Lib.hid (SetW.At.row cc1 hlt)
          have HYo:=Lib.hid (HS3.out.rd.i.ok _ (List.getElem_mem hlt))
          have HSn:=Lib.hid (inss_snoc (M:=M0) hlt)
          have hsr:Srs ((I.take k).foldl (fun l x=>ins x l) M0):=inss_srs HMs.out
          have hil:=fun x=>ins_len x hsr
          have qk:IntKind.i64.wrap ((k:Int)+1)=(k:Int)+1:=by rw [IntKind.wrap_i64];omega
          have q2:(0:Int)≤(k:Int):=by omega
          have q3:(k:Int)<(I.length:Int):=by omega
          have HIl:=Lib.hid hil
          clear cc1 hsr hil
          dsimp only at HY HYo HSn
          generalize I[k]=y at *
          generalize (I.take k).foldl (fun l x=>ins x l) M0=Mk at *
          obtain ⟨yc0,yc1,yc2,yc3,yc4,yc5,yc6,yc7,yc8⟩:=SetW.at9 HY.out
          go_wp2_with fail
          refine (RefD.InsertL HL9.out HYo.out (by omega)).mono ?_
          rintro e w6 ⟨A10,c10,rfl,hls,hown,hb⟩
          have HN10:Hid (∀q,A10=some q→w.heap.size+2≤q.block∧q.block<w6.heap.size):=fun q hq=>by subst hq;have:=(ownsRow_blk hown q.block rfl).1;have:=(ownsRow_blk hown q.block rfl).2.1;have:=HBe.out.size;have:=HBw.out;exact ⟨by omega,by omega⟩
          have HB6:=Lib.hid (HBe.out.trans (hb.mono HBe.out.size))
          have HL10:=Lib.hid hls
          have hl10:=HIl.out y
          clear hls hown hb HL9 HN9 HBe HS3 HY yc0 yc1 yc2 yc3 yc4 yc5 yc6 yc7 yc8 c1 HIl
          go_wp2_with fail
          go_roundg (I.length-(k+1))
          case rel=>exact ⟨k+1,A10,c10,by go_num,by omega,rfl,by rw [HSn.out],by rw [HSn.out];exact HL10.out,by rw [HSn.out];omega,HN10.out,HB6.out⟩
          case measure=>have:=HG.out;omega
         ·have hke:k=I.length:=by omega
          subst hke
          rw [List.take_length,HRn.out] at HL9 hln ⊢
          have q1:decide ((I.length:Int)<(I.length:Int))=false:=by simp
          have HBr3:=Lib.hid (HBr2.out.fr (Fr.of_below' HBe.out (fun _=>False)) (fun _ _ h=>h))
          obtain ⟨PL,hPL⟩:∃P,L.map (plq L)=P:=⟨_,rfl⟩
          obtain ⟨PN,hPN⟩:∃P,(rnext L O I).map (plq (rnext L O I))=P:=⟨_,rfl⟩
          have HPL:=Lib.hid hPL;have HPN:=Lib.hid hPN
          have HSP:=Lib.hid (srp_map L HAs.out.ok.srs);have HSN:=Lib.hid (srp_map (rnext L O I) HAn.out.ok.srs)
          have hl1:PL.length≤900:=by rw [←hPL,List.length_map];exact hLl
          have hl2:PN.length≤900:=by rw [←hPN,List.length_map];omega
          rw [hPL] at HSP;rw [hPN] at HSN
          have HPs:=Lib.hid (show RpPost w Bf L O I=PO from HPO.out)
          unfold RpPost at HPs
          rw [hPL,hPN] at HPs
          have HPN':=HPN
          generalize rnext L O I=N at *
          clear hPL hPN HRn HPO
          go_wp2_with fail
          refine (PlacesR HS3.out.bf HS3.out.l HAs.out hLl PL HPL.out _ rfl).mono ?_
          rintro e w6 ⟨A11,c11,rfl,hs11,hf6⟩
          have HS3z:=Lib.hid hf6.size
          have HS6:=Lib.hid (HS3.out.fr hf6)
          have HB6:=Lib.hid (HBr3.out.fr hf6 (fun _ _ h=>h))
          have HL6:=Lib.hid (HL9.out.keep hf6)
          have HX:=Lib.hid hs11
          have cf:=HS6.out.cf
          have gf:=HS6.out.bf.free 0
          clear hs11 hf6 HS3 HBr3 HL9 c1
          have hf7:=Fr.setCell w6 ⟨Bf,0,none⟩ (.slice A9' N.length c9') (S:=fun b=>b=Bf) rfl
          have hb7:=HS6.out.bf.set 0 (.slice A9' N.length c9')
          have HB7:=Lib.hid (show Bk (w6.setCell ⟨Bf,0,none⟩ (.slice A9' N.length c9')) Bf #[.slice A9' N.length c9'] TRf by simpa using hb7)
          have HL7:=Lib.hid (HL6.out.fr hf7 (fun q hq e=>by have:=(HN9.out q hq).1;have:=HBf.out;omega))
          have HX7:=Lib.hid (Sl.fr' HX.out hf7 (bk_ne HS6.out.bf (no1 _ (fun t h=>by cases h)) HX.out rfl))
          have HBr7:=Lib.hid (HB6.out.fr hf7 (fun b hb e=>by have:=List.mem_singleton.1 hb;have:=HBf.out;omega))
          have HZ6:=Lib.hid (Nat.le_trans HS3z.out hf7.size);have HF7:=Lib.hid (HS6.out.r.trans hf7 (T:=fun b=>b=Bf) (fun _ _ h=>h.elim) (fun _ _ h=>h))
          clear hf7 hb7 HX HB6 HL6
          go_wp2_with fail
          clear cf gf HS6
          generalize (w6.setCell ⟨Bf,0,none⟩ (.slice A9' N.length c9'))=w7 at *
          refine (PlacesR HB7.out HL7.out HAn.out (by omega) PN HPN'.out _ rfl).mono ?_
          rintro e w8 ⟨A12,c12,rfl,hs12,hf8⟩
          have HBt:=Lib.hid (BetweenP w8 (HX7.out.fr hf8 (fun _ _ h=>h)) hs12 HSP.out HSN.out (by omega) (by omega))
          have HZ8:=Lib.hid (Nat.le_trans HZ6.out hf8.size)
          have HB8:=Lib.hid (HB7.out.fr hf8 (fun _ _ h=>h));have HL8:=Lib.hid (HL7.out.keep hf8);have HBr8:=Lib.hid (HBr7.out.fr hf8 (fun _ _ h=>h))
          have HF8:=Lib.hid (HF7.out.trans hf8 (T:=fun b=>b=Bf) (fun _ _ h=>h) (fun _ _ h=>h.elim))
          clear hs12 hf8 HB7 HL7 HBr7 HF7 HX7
          go_wp2_with fail
          refine HBt.out.mono ?_
          rintro e w9 ⟨A13,c13,A14,c14,rfl,hx,hy,hb⟩
          have hf9:=Fr.of_below' hb (fun _=>False)
          have HZ9:=Lib.hid (Nat.le_trans HZ8.out hf9.size)
          have HB9:=Lib.hid (HB8.out.fr hf9 (fun _ _ h=>h));have HL9:=Lib.hid (HL8.out.keep hf9);have HBr9:=Lib.hid (HBr8.out.fr hf9 (fun _ _ h=>h))
          have HF9:=Lib.hid (HF8.out.trans hf9 (T:=fun b=>b=Bf) (fun _ _ h=>h) (fun _ _ h=>h.elim))
          have HX9:=Lib.hid hx;have HY9:=Lib.hid hy
          clear hx hy hb hf9 HBt HB8 HL8 HBr8 HF8
          generalize wo PL PN=X at *
          generalize wo PN PL=Y at *
          have r0:=HBr9.out.cell 0;have r1:=HBr9.out.cell 1;have g0:=HBr9.out.free 0;have g1:=HBr9.out.free 1
          simp only [List.getElem?_toArray,List.getElem?_cons_zero,List.getElem?_cons_succ] at r0 r1
          have HU:=Lib.hid (put2f (v1:=.slice A13 X.length c13) (v2:=.slice A14 Y.length c14) HBr9.out)
          have HNb:=Lib.hid (no2 (.slice none 0 0) (.slice none 0 0) (fun t h=>by cases h) (fun t h=>by cases h))
          go_wp2_with fail
          obtain ⟨u1,u2⟩:=HU.out
          refine bodyPost_ret (AvlSP.results_row_tmp (p:=4) (u:=5) rfl _ _ (w.heap.size+1) TSh _ (0,0) _ rfl u1 underlying80 rfl (by kernel_rfl)) rfl ?_
          rw [←HPs.out]
          refine ⟨fun _=>⟨A13,c13,A14,c14,A9',c9',rfl,Sl.fr' HX9.out u2 (bk_ne HBr9.out HNb.out HX9.out rfl),Sl.fr' HY9.out u2 (bk_ne HBr9.out HNb.out HY9.out rfl),HB9.out.fr u2 (fun b hb e=>by have:=List.mem_singleton.1 hb;have:=HBf.out;omega),HL9.out.fr u2 (fun q hq e=>by have:=(HN9.out q hq).1;omega),HAn.out,fun q hq=>by have h1:=HN9.out q hq;have h2:=HZ9.out;have h3:=u2.size;exact ⟨by omega,by omega⟩,HF9.out.trans u2 (T:=fun b=>b=Bf) (fun _ _ h=>h) (fun i hi h=>by omega)⟩,fun h=>absurd HE3.out h⟩
end Ref22
end Go.Proofs.YtgfjpnpbkkadpaaGreat
