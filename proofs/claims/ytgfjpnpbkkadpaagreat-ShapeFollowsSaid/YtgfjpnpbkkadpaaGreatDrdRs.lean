/- A chain's places are found from its last span down, plain. No program is named. -/
import Derived.Test.YtgfjpnpbkkadpaaGreatSetWs
import Derived.Test.YtgfjpnpbkkadpaaGreatDrd1
import Derived.Test.YtgfjpnpbkkadpaaGreatShPs
namespace Go.Proofs.YtgfjpnpbkkadpaaGreat
open Go.RowKit
namespace Drd
open KeyP PackP SetP KidsP Cls
theorem cw_unk {L:List Sn} {t:Int} {K:Int→Bool}:∀ (n:Nat) {out:List Sn} {i:Int},(∀z∈out,K z.i=false)→∀z∈(cw L t K n out i).1,K z.i=false
 |0,_,_,h=>h
 |n+1,out,i,h=>by
  unfold cw
  cases hx:nx L t i with
  |none=>exact h
  |some x=>
   dsimp only
   split
   ·exact h
   ·rename_i hc
    refine cw_unk n (fun z hz=>?_)
    rcases List.mem_append.1 hz with hz|hz
    ·exact h z hz
    ·simp at hz;subst hz
     rw [(nx_some hx).2.2]
     cases hk:K i with
     |false=>rfl
     |true=>rw [hk] at hc;simp at hc
theorem hasL_none {κ ν:Type} [Ord κ] {k:κ} {L:List (κ × ν)} (h:getL k L=none):hasL k L=false:=by rw [hasL_get,h];rfl
theorem ins_new {κ ν:Type} [Ord κ] (k:κ) (v:ν):∀ {L:List (κ × ν)},hasL k L=false→(insL k v L).length=L.length+1
 | [],_=>rfl
 | (a,b)::t,h=>by
  rw [hasL_cons,Bool.or_eq_false_iff] at h
  rw [insL]
  by_cases h1:Ord.lt k a=true
  ·rw [if_pos h1];rfl
  ·rw [if_neg h1]
   by_cases h2:Ord.lt a k=true
   ·rw [if_pos h2,List.length_cons,ins_new k v h.2];rfl
   ·have:=Ord.tri a k (by simpa using h2) (by simpa using h1)
    subst this
    rw [sameK_refl] at h;cases h.1
structure FH (L0 L1:List Sn) (M:List (ByteArray × Pq)) (LO:List (ByteArray × Int)) (t i:Int) (s:List Sn) (e:Int):Prop where
 hs:Srs L1
 hg:∀y∈L1,gd y
 ht:wf64 t
 he:wf64 e
 p0:P3 L0 L1 (hl LO) M
 ch:Ch L1 t i s e
 nd:s.Nodup
 en:nx L1 t e=none∨((nx L1 t e).isSome=true∧(kn M t e=true∨∃y∈s,y.i=e))
 unk:∀z∈s,getL (kk z) M=none
 lo:∀y∈L1,getL (kk y) M=none→hasL (kk y) LO=true
structure FP (L0 L1:List Sn) (M:List (ByteArray × Pq)) (LO:List (ByteArray × Int)) (s:List Sn) (j:Nat) (M':List (ByteArray × Pq)) (U:Pq):Prop where
 p:P3 L0 L1 (hl LO) M'
 mo:∀k,(getL k M).isSome=true→(getL k M').isSome=true
 len:M'.length=M.length+j
 dn:∀z∈s.drop (s.length-j),(getL (kk z) M').isSome=true
 un:∀z∈s.take (s.length-j),getL (kk z) M'=none
 lw:∀k z,k+1+j=s.length→s[k]? =some z→low3 (tri U)=cdt L1 z
 d:0≤U.d∧U.d≤L1.length
section
variable {L0 L1:List Sn} {M M':List (ByteArray × Pq)} {LO:List (ByteArray × Int)} {t i e:Int} {s:List Sn} {j:Nat} {U:Pq}
theorem last_i {i e:Int} {s:List Sn} (h:Ch L1 t i s e):e=i∨∃z∈s,z.p=e:=by
 rcases List.eq_nil_or_concat s with rfl| ⟨q,z,rfl⟩
 ·cases h;exact .inl rfl
 ·exact .inr ⟨z,by simp,ch_last (by simpa using h)⟩
theorem FH.of (hs:Srs L1) (hg:∀y∈L1,gd y) (ht:wf64 t) (hi:wf64 i) (hp:P3 L0 L1 (hl LO) M) (hlo:∀y∈L1,getL (kk y) M=none→hasL (kk y) LO=true) (hc:cw L1 t (kn M t) (L1.length+1) [] i=(s,e)):FH L0 L1 M LO t i s e:=by
 have hsp:=cw_spec (K:=kn M t) (n:=L1.length+1) (out:= []) (Ch.nil (L:=L1) (t:=t) i) List.nodup_nil (by simp)
 have hun:=cw_unk (L:=L1) (t:=t) (K:=kn M t) (L1.length+1) (out:= []) (i:=i) (by simp)
 rw [hc] at hsp hun
 obtain ⟨h1,h2,h3⟩:=hsp
 refine ⟨hs,hg,ht,?_,hp,h1,h2,h3,fun z hz=>?_,hlo⟩
 ·rcases last_i h1 with rfl| ⟨z,hz,rfl⟩
  ·exact hi
  ·exact (hg z (h1.mem z hz).1).2.2
 ·have:=hun z hz
  unfold kn at this
  have ht':=(h1.mem z hz).2.1
  unfold kk
  rw [ht']
  cases hv:getL (key2 t z.i) M with
  |none=>rfl
  |some v=>rw [hv] at this;cases this
theorem FH.start (H:FH L0 L1 M LO t i s e) {m:Nat} {z:Sn} (hm:s.length=m+1) (hz:s[m]? =some z):FP L0 L1 M LO s 0 M (abq L1 M t z.i e):=by
 refine ⟨H.p0,fun _ h=>h,rfl,by simp,fun z hz=>H.unk z (List.mem_of_mem_take hz),fun k z' hk hz'=>?_,ab_d H.p0 H.hs H.hg H.ht H.he _⟩
 rcases List.eq_nil_or_concat s with rfl| ⟨q,z2,rfl⟩
 ·simp at hm
 ·rw [List.concat_eq_append] at *
  have hq:q.length=m:=by simpa using hm
  have e1:k=m:=by omega
  subst e1
  rw [hz] at hz';cases hz'
  rw [List.getElem?_append_right (by omega),hq] at hz
  simp at hz;subst hz
  exact ab_low H.p0 H.hs H.hg H.ht H.he H.ch H.en
theorem prev_ok (hs:Srs L1) (hc:Ch L1 t i s e) {k:Nat} (hk:k+1<s.length):low3 (cdt L1 s[k+1])=cdt L1 (s[k]'(by omega)):=by
 have e1:s=s.take k++s[k]::s[k+1]::s.drop (k+2):=by
  rw [List.getElem_cons_drop,List.getElem_cons_drop,List.take_append_drop]
 rw [e1] at hc
 exact (prev_cdt hs hc).symm
theorem FP.step (H:FH L0 L1 M LO t i s e) (h:FP L0 L1 M LO s j M' U) {k:Nat} (hk:k+1+j=s.length) (hlt:k<s.length):
  FP L0 L1 M LO s (j+1) (insL (kk s[k]) (plq L1 s[k]) M') (plq L1 s[k])∧plq L1 s[k]=⟨t,s[k].i,U.c,if U.c=3 then 0 else U.d+1,U.p,((fan L1 s[k]:Nat):Int)⟩∧s[k]∈L1∧s[k].t=t:=by
 obtain ⟨y,hy⟩:∃y,s[k]=y:=⟨_,rfl⟩
 have hmem:y∈s:=hy▸List.getElem_mem hlt
 obtain ⟨hyL,hyt,hyn⟩:=H.ch.mem y hmem
 have hlw:=h.lw k y hk (by rw [List.getElem?_eq_getElem hlt,hy])
 have hlow:=lowq_plq hlw
 have hyun:getL (kk y) M'=none:=h.un y (by
  rw [←hy]
  rw [List.mem_take_iff_getElem]
  exact ⟨k,by omega,rfl⟩)
 rw [hy]
 have htri:tri (plq L1 y)=cdt L1 y:=rfl
 refine ⟨⟨h.p.put hyL (H.lo y hyL (H.unk y hmem)),fun q hq=>?_,?_,fun z hz=>?_,fun z hz=>?_,fun k' z hk' hz=>?_,depth_ok H.hs hyL⟩,?_,hyL,hyt⟩
 ·rw [getL_ins];split
  ·rfl
  ·exact h.mo q hq
 ·rw [ins_new _ _ (hasL_none hyun),h.len];omega
 ·rw [show s.length-(j+1)=k by omega,List.drop_eq_getElem_cons hlt,hy] at hz
  rw [getL_ins]
  split
  ·rfl
  ·rename_i hne
   rcases List.mem_cons.1 hz with rfl|hz
   ·exact absurd (sameK_refl _) hne
   ·exact h.dn z (by rw [show s.length-j=k+1 by omega];exact hz)
 ·rw [show s.length-(j+1)=k by omega] at hz
  have hz2:z∈s.take (s.length-j):=by
   rw [List.mem_take_iff_getElem] at hz ⊢
   obtain ⟨q,hq,e⟩:=hz
   exact ⟨q,by omega,e⟩
  rw [getL_ins,if_neg,h.un z hz2]
  intro hs
  have hzs:=List.mem_of_mem_take hz
  obtain ⟨hzL,hzt,-⟩:=H.ch.mem z hzs
  have hk2:=key2_inj (H.hg z hzL).1 (H.hg z hzL).2.1 (H.hg y hyL).1 (H.hg y hyL).2.1 (sameK_iff.1 hs)
  have:=srs_uni H.hs hzL hyL (one_iff.2 hk2)
  subst this
  rw [List.mem_take_iff_getElem] at hz
  obtain ⟨q,hq,e⟩:=hz
  have:=(List.getElem_inj H.nd).1 (e.trans hy.symm)
  omega
 ·have hk2:k'+1=k:=by omega
  subst hk2
  rw [htri]
  have:=prev_ok H.hs H.ch (k:=k') hlt
  rw [hy] at this
  rw [this]
  rw [List.getElem?_eq_getElem (by omega)] at hz
  exact congrArg _ (Option.some.inj hz)
 ·rw [←hlow]
  unfold lowq
  rw [hyt]
theorem FP.fin (H:FH L0 L1 M LO t i s e) (h:FP L0 L1 M LO s s.length M' U):((nx L1 t i).isSome=true→kn M' t i=true):=
 known_i H.hs H.ch H.en (fun z hz=>h.dn z (by simpa using hz)) h.mo
end
end Drd
namespace Drd
open KeyP PackP SetP SetW KidsP Cls
theorem wout_mem {M L:List Sn} {x:Sn}:x∈wout M L↔x∈L∧x∉M:=by unfold wout;rw [List.mem_filter];simp
theorem wout_srs {M L:List Sn} (h:Srs L):Srs (wout M L):=h.filter _
def br (x:Sn):Sn:=sn x.t x.i x.p
theorem nx_br (L:List Sn) (t i:Int):nx (L.map br) t i=(nx L t i).map br:=by unfold nx;rw [List.find?_map];rfl
theorem dp_br (L:List Sn) (t:Int):∀ (n:Nat) (i:Int),dp (L.map br) t n i=dp L t n i
 |0,_=>rfl
 |n+1,i=>by
  rw [dp_succ,dp_succ,nx_br]
  cases nx L t i with
  |none=>rfl
  |some x=>show (dp (L.map br) t n x.p).map (low (br x))=_;rw [dp_br L t n];rfl
theorem cdt_br (L:List Sn) (x:Sn):cdt (L.map br) (br x)=cdt L x:=by
 unfold cdt T;rw [dp_br,List.length_map];rfl
theorem fan_br (L:List Sn) (x:Sn):fan (L.map br) (br x)=fan L x:=by unfold fan;rw [List.filter_map,List.length_map];rfl
theorem plq_br (L:List Sn) (x:Sn):plq (L.map br) (br x)=plq L x:=by unfold plq;rw [cdt_br,fan_br];rfl
theorem pm_br (L:List Sn):pm (L.map br)=mp (plq L) L:=by
 unfold pm mp;rw [List.map_map];exact List.map_congr_left (fun x _=>by show (kk (br x),plq (L.map br) (br x))=_;rw [plq_br];rfl)
theorem srs_br {L:List Sn} (h:Srs L):Srs (L.map br):=by
 show List.Pairwise _ _
 rw [List.pairwise_map];exact h
theorem gd_br {L:List Sn} (h:∀x∈L,gd x):∀y∈L.map br,gd y:=fun y hy=>by obtain ⟨x,hx,rfl⟩:=List.mem_map.1 hy;exact h x hx
theorem bare_br (L:List Sn):∀y∈L.map br,bare y:=fun y hy=>by obtain ⟨x,hx,rfl⟩:=List.mem_map.1 hy;rfl
theorem mvd_br (A B:List Sn):mvd (A.map br) (B.map br)=mvd A B:=by
 unfold mvd
 rw [List.filter_map,List.map_map]
 have h1:(plq (A.map br)) ∘ br=plq A:=funext (fun x=>plq_br A x)
 rw [h1]
 congr 1
 apply List.filter_congr
 intro x _
 show (!decide ((nx (B.map br) x.t x.i).map (plq (B.map br))=some (plq (A.map br) (br x))))=_
 rw [nx_br,plq_br,Option.map_map]
 have h2:(plq (B.map br)) ∘ br=plq B:=funext (fun x=>plq_br B x)
 rw [h2]
theorem bet_dt {A B:List Sn} (hA:Srs A) (hB:Srs B) (gA:∀x∈A,gd x) (gB:∀x∈B,gd x):Dt (A.map br) (wout B A) (wout A B):=by
 refine ⟨srs_br hA,gd_br gA,bare_br A,wout_srs hA,wout_srs hB,fun x hx=>gA x (wout_mem.1 hx).1,fun x hx=>gB x (wout_mem.1 hx).1,fun x hx=>⟨br x,List.mem_map.2 ⟨x,(wout_mem.1 hx).1,rfl⟩,rfl,rfl,rfl⟩,fun x hx h=>?_⟩
 obtain ⟨h1,h2⟩:=wout_mem.1 hx
 rw [nx_br] at h
 cases hn:nx A x.t x.i with
 |none=>rw [hn] at h;cases h
 |some y=>
  obtain ⟨k1,k2,k3⟩:=nx_some hn
  refine ⟨y,wout_mem.2 ⟨k1,fun hy=>h2 ?_⟩,k2,k3⟩
  rw [←srs_uni hB hy h1 (one_iff.2 ⟨k2,k3⟩)];exact k1
theorem bet_next {A B:List Sn} (hA:Srs A) (hB:Srs B) (gA:∀x∈A,gd x) (gB:∀x∈B,gd x):next (A.map br) (wout B A) (wout A B)=B.map br:=by
 have hd:=bet_dt hA hB gA gB
 refine srs_ext (next_srs hd) (srs_br hB) (fun y=>?_)
 rw [next_mem hd]
 constructor
 ·rintro (⟨x,hx,rfl⟩| ⟨h1,h2⟩)
  ·exact List.mem_map.2 ⟨x,(wout_mem.1 hx).1,rfl⟩
  ·obtain ⟨x,hx,rfl⟩:=List.mem_map.1 h1
   by_cases hb:x∈B
   ·exact List.mem_map.2 ⟨x,hb,rfl⟩
   ·exact absurd ⟨rfl,rfl⟩ (h2 x (by rw [List.mem_append];exact .inl (wout_mem.2 ⟨hx,hb⟩)))
 ·intro hy
  obtain ⟨x,hx,rfl⟩:=List.mem_map.1 hy
  by_cases ha:x∈A
  ·refine .inr ⟨List.mem_map.2 ⟨x,ha,rfl⟩,fun z hz e=>?_⟩
   rcases List.mem_append.1 hz with hz|hz
   ·obtain ⟨h1,h2⟩:=wout_mem.1 hz
    exact h2 (by rw [←srs_uni hA ha h1 (one_iff.2 e)];exact hx)
   ·obtain ⟨h1,h2⟩:=wout_mem.1 hz
    exact h2 (by rw [←srs_uni hB hx h1 (one_iff.2 e)];exact ha)
  ·exact .inl ⟨x,wout_mem.2 ⟨hx,ha⟩,rfl⟩
def okO (L:List Sn) (x:Sn):Bool:=match nx L x.t x.i with|some y=>decide (y.p=x.p)|none=>false
def okI (L O:List Sn) (x:Sn):Bool:= !(nx L x.t x.i).isSome||(nx O x.t x.i).isSome
def mayO (L O:List Sn):Bool:=O.all (okO L)
def mayI (L O I:List Sn):Bool:=I.all (okI L O)
theorem mays_dt {L O I:List Sn} (hs:Srs L) (hg:∀y∈L,gd y) (hb:∀y∈L,bare y) (so:Srs O) (si:Srs I) (go:∀y∈O,gd y) (gi:∀y∈I,gd y) (h1:mayO L O=true) (h2:mayI L O I=true):Dt L O I:=by
 refine ⟨hs,hg,hb,so,si,go,gi,fun x hx=>?_,fun x hx h=>?_⟩
 ·have:=List.all_eq_true.1 h1 x hx
  unfold okO at this
  cases hn:nx L x.t x.i with
  |none=>rw [hn] at this;cases this
  |some y=>
   rw [hn] at this
   obtain ⟨k1,k2,k3⟩:=nx_some hn
   exact ⟨y,k1,k2,k3,of_decide_eq_true this⟩
 ·have:=List.all_eq_true.1 h2 x hx
  unfold okI at this
  rw [h,Bool.not_true,Bool.false_or] at this
  obtain ⟨z,hz⟩:=Option.isSome_iff_exists.1 this
  obtain ⟨k1,k2,k3⟩:=nx_some hz
  exact ⟨z,k1,k2,k3⟩
theorem mayO_bet {A B:List Sn} (hA:Srs A):mayO (A.map br) (wout B A)=true:=by
 refine List.all_eq_true.2 (fun x hx=>?_)
 unfold okO
 rw [nx_br,nx_mem hA (wout_mem.1 hx).1]
 show decide (x.p=x.p)=true
 simp
theorem mayI_bet {A B:List Sn} (hA:Srs A) (hB:Srs B) (gA:∀x∈A,gd x) (gB:∀x∈B,gd x):mayI (A.map br) (wout B A) (wout A B)=true:=by
 refine List.all_eq_true.2 (fun x hx=>?_)
 unfold okI
 cases h:(nx (A.map br) x.t x.i).isSome with
 |false=>rfl
 |true=>
  obtain ⟨z,hz,e1,e2⟩:=(bet_dt hA hB gA gB).ii x hx h
  rw [(nx_iff (wout_srs hA)).2 ⟨hz,e1,e2⟩];rfl
end Drd
namespace Drd
open KeyP PackP SetP KidsP Cls Wrk
theorem insL_old {κ ν:Type} [Ord κ] (k:κ) (v:ν):∀ {L:List (κ × ν)},Srt L→(getL k L).isSome=true→(insL k v L).length=L.length
 | [],_,h=>by rw [getL_nil] at h;cases h
 | (a,b)::t,hs,h=>by
  rw [insL]
  by_cases h1:Ord.lt k a=true
  ·have:=getL_low' (k:=k) (L:=(a,b)::t) (fun q hq=>by
    rcases List.mem_cons.1 hq with rfl|hq
    ·exact h1
    ·exact Ord.tr _ _ _ h1 ((List.pairwise_cons.1 hs).1 q hq))
   rw [this] at h;cases h
  ·rw [if_neg h1]
   by_cases h2:Ord.lt a k=true
   ·rw [if_pos h2,List.length_cons,List.length_cons]
    rw [getL_cons,if_neg (by
     intro e
     rw [sameK_iff.1 e,Ord.irr] at h2;cases h2)] at h
    rw [insL_old k v (List.pairwise_cons.1 hs).2 h]
   ·rw [if_neg h2];rfl
theorem Cl.any {L:List Sn} {LO:List (ByteArray × Int)} {t:Int} (h:Cl L LO t []) (t':Int):Cl L LO t' []:=fun x hx hp=>(h x hx hp).imp id (fun e=>absurd e.2 (by simp))
theorem Cl.nil (L:List Sn) (t:Int):Cl L [] t []:=fun x hx hp=>by simp [hasL] at hp
section
variable {L O I L1:List Sn} {LO:List (ByteArray × Int)} {M WE:List (ByteArray × Pq)} {h:Int→Int→Bool}
theorem Ld.of {t:Int} (h1:Lo L (O++I) LO) (h2:Cl L LO t []) (h3:∀x∈O++I,hasL (kk x) LO=true):Ld L O I LO:=
 ⟨h1,fun x hx hp=>(h2 x hx hp).elim id (fun e=>absurd e.2 (by simp)),h3⟩
theorem cnt_step {M0:List (ByteArray × Pq)} (H:P3 L L1 h M) (hs:Srs L1) (hg:∀y∈L1,gd y) (hf:Full L1 M) (hw:W4 M0 M WE) {t p:Int} (ht:wf64 t) (hp:wf64 p):
  P3 L L1 (upd h t p) (cntM L1 M t p)∧Full L1 (cntM L1 M t p)∧W4 M0 (cntM L1 M t p) (cntW WE M t p)∧(cntM L1 M t p).length=M.length∧(cntW WE M t p).length≤WE.length+1:=by
 unfold cntM cntW
 cases hv:getL (key2 t p) M with
 |none=>exact ⟨H.weak hs hf hv,hf,hw,rfl,Nat.le_succ _⟩
 |some v=>exact ⟨H.cnt hs hg ht hp hv,full_ins hf,hw.tch _ _,insL_old _ _ H.s (by rw [hv];rfl),tch_len _ _ _⟩
structure FL (L O I:List Sn) (LO:List (ByteArray × Int)) (j f:Nat) (n:Int) (M:List (ByteArray × Pq)):Prop where
 p:P3 L (next L O I) (hl LO) M
 mo:∀k,(getL k (off LO (pm L))).isSome=true→(getL k M).isSome=true
 dn:∀q∈LO.take j,∀y∈next L O I,kk y=q.1→(getL q.1 M).isSome=true
 fj:f≤j
 n:n+((off LO (pm L)).length:Nat)=((LO.length+f+M.length:Nat):Int)
theorem FL.start (hd:Dt L O I) (hl:Ld L O I LO):FL L O I LO 0 0 (LO.length:Nat) (off LO (pm L)):=
 ⟨P3.start hd hl,fun _ h=>h,by simp,Nat.le_refl _,by simp⟩
variable {j f:Nat} {n:Int}
theorem FL.lo (H:FL L O I LO j f n M) (hd:Dt L O I) (hl:Ld L O I LO):∀y∈next L O I,getL (kk y) M=none→hasL (kk y) LO=true:=fun y hy hn=>by
 cases hk:hasL (kk y) LO with
 |true=>rfl
 |false=>
  have:=H.mo _ (P3.kept hd hl hy hk)
  rw [hn] at this;cases this
theorem FL.len (H:FL L O I LO j f n M) (_hd:Dt L O I):M.length≤(next L O I).length:=by
 have h1:=sub_len' (r:=M.map (·.1)) (L:=(next L O I).map kk) (fst_nodup H.p.s) (fun k hk=>by
  obtain ⟨q,hq,rfl⟩:=List.mem_map.1 hk
  obtain ⟨y,hy,e,-⟩:=H.p.g _ _ (mem_getL H.p.s hq)
  exact List.mem_map.2 ⟨y,hy,e.symm⟩)
 rwa [List.length_map,List.length_map] at h1
theorem FL.known (H:FL L O I LO j f n M) (hj:j<LO.length) (hk:(getL LO[j].1 M).isSome=true):FL L O I LO (j+1) f n M:=
 ⟨H.p,H.mo,fun q hq y hy e=>by
  rw [List.take_succ_eq_append_getElem hj] at hq
  rcases List.mem_append.1 hq with hq|hq
  ·exact H.dn q hq y hy e
  ·simp at hq;subst hq;exact hk,by have:=H.fj;omega,H.n⟩
theorem FL.found (H:FL L O I LO j f n M) (hd:Dt L O I) (hj:j<LO.length) {t i:Int} (ht:wf64 t) (hi:wf64 i) (hk:LO[j].1=key2 t i) {M':List (ByteArray × Pq)} {n':Int} (h1:P3 L (next L O I) (hl LO) M') (h2:∀k,(getL k M).isSome=true→(getL k M').isSome=true) (h3:(nx (next L O I) t i).isSome=true→kn M' t i=true) (h4:n'+M.length=n+1+M'.length):FL L O I LO (j+1) (f+1) n' M':=
 ⟨h1,fun k h=>h2 k (H.mo k h),fun q hq y hy e=>by
  rw [List.take_succ_eq_append_getElem hj] at hq
  rcases List.mem_append.1 hq with hq|hq
  ·exact h2 _ (H.dn q hq y hy e)
  ·simp at hq;subst hq
   rw [hk] at e ⊢
   obtain ⟨e1,e2⟩:=key2_inj (next_gd hd y hy).1 (next_gd hd y hy).2.1 ht hi e
   exact h3 (by rw [(nx_iff (next_srs hd)).2 ⟨hy,e1,e2⟩];rfl),by have:=H.fj;omega,by have:=H.n;omega⟩
theorem FL.mono (H:FL L O I LO j f n M) (hd:Dt L O I):(off LO (pm L)).length≤M.length:=by
 have h1:=sub_len' (r:=(off LO (pm L)).map (·.1)) (L:=M.map (·.1)) (fst_nodup (off_srt (pm_srt hd.s hd.g))) (fun k hk=>by
  obtain ⟨q,hq,rfl⟩:=List.mem_map.1 hk
  have:=H.mo q.1 (by rw [mem_getL (off_srt (pm_srt hd.s hd.g)) hq];rfl)
  obtain ⟨v,hv⟩:=Option.isSome_iff_exists.1 this
  exact List.mem_map.2 ⟨(q.1,v),getL_mem hv,rfl⟩)
 rwa [List.length_map,List.length_map] at h1
theorem FL.full (H:FL L O I LO LO.length f n M) (hd:Dt L O I) (hl:Ld L O I LO):Full (next L O I) M:=fun y hy=>by
 cases hk:hasL (kk y) LO with
 |false=>exact H.mo _ (P3.kept hd hl hy hk)
 |true=>
  obtain ⟨q,hq,e⟩:=ExpP.hasL_mem.1 hk
  have:=H.dn q (by simpa using hq) y hy e.symm
  rwa [e] at this
structure CL (L O I:List Sn) (LO:List (ByteArray × Int)) (f:Nat) (G:List Sn) (n:Int) (M WE:List (ByteArray × Pq)):Prop where
 p:P3 L (next L O I) (cnd LO G.reverse) M
 u:Full (next L O I) M
 w:W4 (pm L) M WE
 l:M.length≤(next L O I).length
 e:WE.length≤LO.length+G.length
 o:(off LO (pm L)).length≤M.length
 fj:f≤LO.length
 n:n+((off LO (pm L)).length:Nat)=((LO.length+f+M.length+G.length:Nat):Int)
theorem CL.start (H:FL L O I LO LO.length f n M) (hd:Dt L O I) (hl:Ld L O I LO):CL L O I LO f [] n M (wr LO (pm L)):=
 ⟨H.p,H.full hd hl,W4.start hd hl H.p (H.full hd hl),H.len hd,by unfold wr;rw [List.length_map];simp,H.mono hd,H.fj,by have:=H.n;simpa using this⟩
theorem CL.step {G:List Sn} (H:CL L O I LO f G n M WE) (hd:Dt L O I) {x:Sn} (hx:gd x):CL L O I LO f (G++ [x]) (n+1) (cntM (next L O I) M x.t x.p) (cntW WE M x.t x.p):=by
 obtain ⟨h1,h2,h3,h4,h5⟩:=cnt_step H.p (next_srs hd) (next_gd hd) H.u H.w hx.1 hx.2.2
 refine ⟨?_,h2,h3,by rw [h4];exact H.l,?_,?_,H.fj,?_⟩
 ·rw [List.reverse_append];exact h1
 ·have:=H.e;rw [List.length_append];simp;omega
 ·rw [h4];exact H.o
 ·rw [h4,List.length_append];have:=H.n;simp;omega
theorem CL.fin (H:CL L O I LO f (O++I) n M WE) (hd:Dt L O I) (hl:Ld L O I LO):M=pm (next L O I)∧shO WE M=mvd L (next L O I)∧shI WE M=mvd (next L O I) L∧0≤n∧n≤((4*(siz L (O++I)+siz (next L O I) (O++I)):Nat):Int):=by
 have e:=P3.end hd H.p H.u
 have hw:=H.w
 have hm:=H.o
 obtain ⟨m,hm2⟩:∃m:Nat,n=(m:Int):=⟨n.toNat,by have:=H.n;omega⟩
 have h4:=steps_ok hd hl H.p (n:=m) H.fj (by have:=H.n;omega)
 rw [e] at hw ⊢
 exact ⟨rfl,shO_eq hd.s hd.g (next_srs hd) (next_gd hd) hw,shI_eq hd.s hd.g (next_srs hd) (next_gd hd) hw,by omega,by omega⟩
end
end Drd
namespace Drd
open KeyP PackP SetP SetW KidsP Cls
abbrev pk (p:Pq):Sn:=sn p.t p.i 0
def bP (a b:Pq):Bool:=bef (pk a) (pk b)
abbrev SrP (P:List Pq):Prop:=P.Pairwise (fun a b=>bP a b=true)
theorem srp_map {A:List Sn} (L:List Sn) (h:Srs A):SrP (A.map (plq L)):=by
 show List.Pairwise _ _
 rw [List.pairwise_map];exact h
theorem srp_ext {P Q:List Pq} (hP:SrP P) (hQ:SrP Q) (h:∀y,y∈P↔y∈Q):P=Q:=ext_of (fun a b h h'=>by rw [show bP b a=bef (pk b) (pk a) from rfl,bef_asym h] at h';cases h') hP hQ h
theorem mvd_mem {A B:List Sn} (hB:Srs B) {p:Pq}:p∈mvd A B↔p∈A.map (plq A)∧p∉B.map (plq B):=by
 unfold mvd
 rw [List.mem_map,List.mem_map]
 constructor
 ·rintro ⟨y,hy,rfl⟩
  obtain ⟨h1,h2⟩:=List.mem_filter.1 hy
  refine ⟨⟨y,h1,rfl⟩,fun hm=>?_⟩
  obtain ⟨z,hz,e⟩:=List.mem_map.1 hm
  have et:z.t=y.t:=congrArg Pq.t e
  have ei:z.i=y.i:=congrArg Pq.i e
  have h3:=nx_mem hB hz
  rw [et,ei] at h3
  rw [Bool.not_eq_true',decide_eq_false_iff_not] at h2
  apply h2;rw [h3];exact congrArg some e
 ·rintro ⟨⟨y,hy,rfl⟩,hn⟩
  refine ⟨y,List.mem_filter.2 ⟨hy,?_⟩,rfl⟩
  rw [Bool.not_eq_true',decide_eq_false_iff_not]
  intro e
  cases hx:nx B y.t y.i with
  |none=>rw [hx] at e;cases e
  |some z=>
   rw [hx] at e
   exact hn (List.mem_map.2 ⟨z,(nx_some hx).1,Option.some.inj e⟩)
theorem mvd_srp {A B:List Sn} (hA:Srs A):SrP (mvd A B):=srp_map A (hA.filter _)
section
variable {P O I:List Pq}
end
section
variable {A B:List Sn}
end
end Drd
namespace Fol
open KeyP PackP SetP SetW KidsP Cls Drd ShapeP
abbrev toPl (p:Pq):Pl:=⟨p.t,p.i,p.c,p.d,p.p,p.f⟩
abbrev ks (P:List Pq):List K3:=(P.map toPl).map Pl.k
theorem count_split {α:Type} (p q:α→Bool) (l:List α):l.countP p=(l.filter q).countP p+(l.filter (fun x=> !q x)).countP p:=by
 induction l with
 |nil=>rfl
 |cons x l ih=>
  rw [List.countP_cons,ih,List.filter_cons,List.filter_cons]
  cases q x<;>simp only [Bool.not_false,Bool.not_true,if_true,if_false,Bool.false_eq_true,List.countP_cons]<;>omega
theorem ks_count (P:List Pq) (k:K3):(ks P).count k=P.countP (fun p=>(toPl p).k==k):=by
 unfold ks
 rw [List.map_map,List.count,List.countP_map];rfl
theorem mvd_fil {A B:List Sn} (hA:Srs A) (hB:Srs B):mvd A B=(A.map (plq A)).filter (fun x=> !decide (x∈B.map (plq B))):=by
 refine srp_ext (mvd_srp hA) ((srp_map A hA).filter _) (fun y=>?_)
 rw [mvd_mem hB,List.mem_filter,Bool.not_eq_true',decide_eq_false_iff_not]
theorem com_fil {A B:List Sn} (hA:Srs A) (hB:Srs B):(A.map (plq A)).filter (fun x=>decide (x∈B.map (plq B)))=(B.map (plq B)).filter (fun x=>decide (x∈A.map (plq A))):=by
 refine srp_ext ((srp_map A hA).filter _) ((srp_map B hB).filter _) (fun y=>?_)
 rw [List.mem_filter,List.mem_filter,decide_eq_true_eq,decide_eq_true_eq,and_comm]
theorem fol {A B:List Sn} (hA:Srs A) (hB:Srs B) {lk:List K3} (h:lk.Perm (ks (A.map (plq A)))):hasB lk (ks (mvd A B))=true∧(appL lk (ks (mvd A B)) (ks (mvd B A))).Perm (ks (B.map (plq B))):=by
 have hc:∀k,lk.count k=(ks (A.map (plq A))).count k:=fun k=>h.count_eq k
 have s1:∀k,(ks (A.map (plq A))).count k=((A.map (plq A)).filter (fun x=>decide (x∈B.map (plq B)))).countP (fun p=>(toPl p).k==k)+(ks (mvd A B)).count k:=fun k=>by
  rw [ks_count,ks_count,mvd_fil hA hB];exact count_split _ _ _
 have s2:∀k,(ks (B.map (plq B))).count k=((B.map (plq B)).filter (fun x=>decide (x∈A.map (plq A)))).countP (fun p=>(toPl p).k==k)+(ks (mvd B A)).count k:=fun k=>by
  rw [ks_count,ks_count,mvd_fil hB hA];exact count_split _ _ _
 have hh:hasB lk (ks (mvd A B))=true:=hasB_iff.2 (fun k=>by rw [hc,s1];omega)
 refine ⟨hh,List.perm_iff_count.2 (fun k=>?_)⟩
 unfold appL
 rw [if_pos hh,List.count_append,count_dif,hc,s1,s2,com_fil hA hB]
 omega
theorem cn_perm {l l':List K3} (h:l.Perm l') (p:K3→Bool):cn p l=cn p l':=by unfold cn;rw [h.countP_eq]
theorem bag_perm {key:K3→Int} {q:K3→Bool} {l l':List K3} {L:List (Int × Int)} (h:IsBag key q l L) (hp:l.Perm l'):IsBag key q l' L:=
 ⟨h.ok,fun x=>by rw [h.cnt,cn_perm hp],by rw [h.sum,cn_perm hp]⟩
theorem shp_perm {l l':List K3} {x:Shp} (h:IsShp l x) (hp:l.Perm l'):IsShp l' x:=
 ⟨by rw [h.n,hp.length_eq],by rw [h.r,cn_perm hp],by rw [h.o,cn_perm hp],by rw [h.c,cn_perm hp],bag_perm h.D hp,bag_perm h.F hp⟩
end Fol
end Go.Proofs.YtgfjpnpbkkadpaaGreat
