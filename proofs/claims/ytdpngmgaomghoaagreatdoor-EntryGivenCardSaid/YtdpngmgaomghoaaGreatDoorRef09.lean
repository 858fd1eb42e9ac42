/- A record's bytes: the document's. -/
import Derived.Test.YtdpngmgaomghoaaGreatDoorCodes
namespace Go.Proofs.YtdpngmgaomghoaaGreatDoor
open Tryz
set_option maxRecDepth 100000
set_option maxHeartbeats 2000000
open Go.RowKit
namespace Ref09
open KeyP PackP Vari SetW Pack Name Code_
attribute [local go_sem] Eng.ev Eng.getO_cons Eng.getO_nil
abbrev TPt:TypeId:=146
structure Pt where
 k:Int
 n:Int
 s:ByteArray
abbrev Pt.cs (x:Pt):List Value:= [.int .i64 x.k,.int .i64 x.n,.string x.s]
abbrev Pt.arr (x:Pt):Array Value:= #[.int .i64 x.k,.int .i64 x.n,.string x.s]
abbrev Pt.v (x:Pt):Value:=.agg x.arr
def Pt.bs (x:Pt):List UInt8:=if x.k=1 then nb x.n else if x.k=2 then vb (zz x.n) else if x.k=3 then tb x.s else if x.k=4 then gb (x.n==1) else []
structure Pt.ok (x:Pt):Prop where
 n:in64 x.n
 s:x.s.size≤24
theorem Pt.len {x:Pt} (h:x.ok):x.bs.length≤25:=by
 have h1:=nb_len h.n;have h2:=vb_len10 (zz_lt h.n);have h3:=tb_len h.s
 unfold Pt.bs
 split
 ·omega
 ·split
  ·omega
  ·split
   ·omega
   ·split
    ·simp [gb]
    ·simp
theorem Sl.many (w:World) (t:TypeId) (cs:List Value) (sz n:Nat) (hn:n≤1000000) (hs:cs.length=n*sz):Sl (w.alloc (.cells cs.toArray t)) sz (some ⟨w.heap.size,0,none⟩) n n cs:=by
 refine ⟨by omega,Nat.le_refl _,by unfold maxLen;omega,(by simp),fun _=>⟨_,0,rfl,fun i u hu=>?_⟩⟩
 rw [Nat.zero_add,cell_of_block (heap_new w _)]
 simpa using hu
structure PS (w0 w:World) (B:Nat) (x:Pt):Prop where
 b:Bk w B x.arr TPt
 f:Fr (fun _=>False) w0 w
theorem PS.fr {w0 w w':World} {B:Nat} {x:Pt} (h:PS w0 w B x) (hf:Fr (fun _=>False) w w'):PS w0 w' B x:=⟨h.b.fr hf (fun _ _ h=>h),h.f.trans hf (fun _ _ h=>h) (fun _ _ h=>h)⟩
theorem tb_ks (s:ByteArray):ks (nb (s.size:Int))++s=ks (tb s):=by
 rw [←ks_of s,ks_app,ks_of]
 unfold tb
 rw [nb_ge (by omega)];rfl
theorem p7 {ops:Array Oper} (hops:Eng.fnOps Tryz.f125 7=ops) (a0:Act) (Q:Exit→Act→World→Prop) (w0 w:World) (B:Nat) (x:Pt) (hst:PS w0 w B x) (hs:Hid (x.s.size≤24))
  (hn:a0.tmps.size=29) (h_1:a0.tmps.getD 1 undef=.pointer (some ⟨B,0,none⟩))
  (hpost:∀ (x_:Nat→Value) (w':World),x_ 2=.string (ks (tb x.s))→Fr (fun _=>False) w0 w'→Q .normal (Eng.setAll a0 [2,17,18,19,20,21,22,23] x_) w'):
  (Code.region 7 ops true).wp prog Q a0 w:=by
 simp only [Eng.fnOps,Eng.regOps,Tryz.f125,Option.bind_some,Option.getD_some,Nat.reduceEqDiff,↓reduceIte] at hops
 subst hops
 have hs24:x.s.size≤24:=hs.out
 have hin:in64 (x.s.size:Int):=by unfold in64;omega
 have HC:=Lib.hid (fun W:World=>RefPut hin W)
 have hl:=nb_len hin
 have hk:(ks (nb (x.s.size:Int))).size≤10:=by rw [ks_size];exact hl
 have hcat:¬9223372036854775807<(ks (nb (x.s.size:Int))).size+x.s.size:=by omega
 clear hl
 have HT:=Lib.hid (tb_ks x.s)
 generalize ks (nb (x.s.size:Int))=V at *
 have HSt:=Lib.hid (hst.fr (Fr.drew _ _))
 refine Eng.regionT (.take 0 (.take 1 (.take 2 (.take 4 (.take 5 (.alt 3 (.take 6 (.take 7 (.done))) (.stop))))))) (fun w'=>w'.cell? ⟨B,2,none⟩=some (.string x.s)) (by kernel_rfl) 29 hn (by kernel_rfl) (by kernel_rfl) (by kernel_rfl) (HSt.out.b.cell 2) (fun a b ha hb=>?_)
 subst ha
 have hb1:b 1=.pointer (some ⟨B,0,none⟩):=(hb 1).symm.trans h_1
 clear hb h_1
 have HP:=Lib.hid hpost;have HN:=Lib.hid hn
 clear hpost hn
 iterate 5 (refine Eng.TW.tk ?_)
 refine Eng.TW.call rfl rfl (by decide) (by kernel_rfl) ?_ (HC.out _) ?_
 ·go_simp
 rintro e w2 ⟨rfl,hf⟩
 have HSt2:=Lib.hid (HSt.out.fr (Fr.of_below' hf _))
 clear hf
 refine ⟨_,rfl,HSt2.out.b.cell 2,?_⟩
 refine Eng.TW.tk ?_
 refine Eng.TW.tk ?_
 refine Eng.TW.end_ [2,17,18,19,20,21,22,23] HN.out (by kernel_rfl) (by kernel_rfl) ?_
 exact HP.out _ _ (congrArg Value.string HT.out) HSt2.out.f
theorem Put1 (x:Pt) (hx:x.ok) (hk:x.k=1) (w:World):Calls prog 125 #[x.v] w fun e w'=>e=.returned (.string (ks x.bs))∧Fr (fun _=>False) w w':=by
 obtain ⟨k,n,s⟩:=x
 dsimp only at hk
 subst hk
 have HP:Hid (PS w (w.alloc (.cells (Pt.arr ⟨1,n,s⟩) TPt)) w.heap.size ⟨1,n,s⟩):=⟨Bk.new w _ TPt,Fr.alloc _ _ _⟩
 have HE:Hid (Pt.bs ⟨1,n,s⟩=nb n):=rfl
 have HC:=Lib.hid (fun W:World=>RefPut (show in64 n from hx.n) W)
 clear hx
 go_enter func125,ntmps125
 go_wp2_with fail
 refine (HC.out _).mono ?_
 rintro e w1 ⟨rfl,hb⟩
 have HF:=Lib.hid (HP.out.f.trans (Fr.of_below' hb (fun _=>False)) (T:=fun _=>False) (fun _ _ h=>h) (fun _ _ h=>h))
 clear hb
 go_wp2_with fail
 go_ret
 exact ⟨by rw [HE.out];rfl,HF.out⟩
theorem Put2 (x:Pt) (hx:x.ok) (hk:x.k=2) (w:World):Calls prog 125 #[x.v] w fun e w'=>e=.returned (.string (ks x.bs))∧Fr (fun _=>False) w w':=by
 obtain ⟨k,n,s⟩:=x
 dsimp only at hk
 subst hk
 have HP:Hid (PS w (w.alloc (.cells (Pt.arr ⟨2,n,s⟩) TPt)) w.heap.size ⟨2,n,s⟩):=⟨Bk.new w _ TPt,Fr.alloc _ _ _⟩
 have HE:Hid (Pt.bs ⟨2,n,s⟩=vb (zz n)):=rfl
 have HC:=Lib.hid (fun W:World=>RefPutSigned (show in64 n from hx.n) W)
 clear hx
 go_enter func125,ntmps125
 go_wp2_with fail
 refine (HC.out _).mono ?_
 rintro e w1 ⟨rfl,hb⟩
 have HF:=Lib.hid (HP.out.f.trans (Fr.of_below' hb (fun _=>False)) (T:=fun _=>False) (fun _ _ h=>h) (fun _ _ h=>h))
 clear hb
 go_wp2_with fail
 go_ret
 exact ⟨by rw [HE.out];rfl,HF.out⟩
theorem Put3 (x:Pt) (hx:x.ok) (hk:x.k=3) (w:World):Calls prog 125 #[x.v] w fun e w'=>e=.returned (.string (ks x.bs))∧Fr (fun _=>False) w w':=by
 obtain ⟨k,n,s⟩:=x
 dsimp only at hk
 subst hk
 have HP:Hid (PS w (w.alloc (.cells (Pt.arr ⟨3,n,s⟩) TPt)) w.heap.size ⟨3,n,s⟩):=⟨Bk.new w _ TPt,Fr.alloc _ _ _⟩
 have HE:Hid (Pt.bs ⟨3,n,s⟩=tb s):=rfl
 have HS:Hid (s.size≤24):=hx.s
 clear hx
 go_enter func125,ntmps125
 go_upto_region 7 with (fail)
 refine p7 (by kernel_rfl) _ _ w _ w.heap.size ⟨3,n,s⟩ HP.out HS rfl rfl ?_
 intro x w1 e2 hf
 simp only [Eng.setAll,Act.put,List.setIfInBounds_toArray,List.set_cons_succ,List.set_cons_zero]
 rw [e2]
 have HF:=Lib.hid hf
 clear e2 hf
 go_wp2_with fail
 go_ret
 exact ⟨by rw [HE.out];rfl,HF.out⟩
theorem Put4 (x:Pt) (hx:x.ok) (hk:x.k=4) (w:World):Calls prog 125 #[x.v] w fun e w'=>e=.returned (.string (ks x.bs))∧Fr (fun _=>False) w w':=by
 obtain ⟨k,n,s⟩:=x
 dsimp only at hk
 subst hk
 have HP:Hid (PS w (w.alloc (.cells (Pt.arr ⟨4,n,s⟩) TPt)) w.heap.size ⟨4,n,s⟩):=⟨Bk.new w _ TPt,Fr.alloc _ _ _⟩
 have HE:Hid (Pt.bs ⟨4,n,s⟩=gb (n==1)):=rfl
 clear hx
 cases hn:n==1 with
 |true=>
  rw [hn] at HE
  go_enter func125,ntmps125
  go_wp2_with fail
  go_ret
  exact ⟨by rw [HE.out];rfl,HP.out.f⟩
 |false=>
  rw [hn] at HE
  go_enter func125,ntmps125
  go_wp2_with fail
  go_ret
  exact ⟨by rw [HE.out];rfl,HP.out.f⟩
theorem PutAny (x:Pt) (hx:x.ok) (hk:x.k=1∨x.k=2∨x.k=3∨x.k=4) (w:World):Calls prog 125 #[x.v] w fun e w'=>e=.returned (.string (ks x.bs))∧Fr (fun _=>False) w w':=by
 rcases hk with hk|hk|hk|hk
 ·exact Put1 x hx hk w
 ·exact Put2 x hx hk w
 ·exact Put3 x hx hk w
 ·exact Put4 x hx hk w
abbrev pcs (x:Pt):List Value:=x.cs
theorem pcs_len (x:Pt):(pcs x).length=3:=rfl
theorem flat_len (l:List Pt) (h:∀x∈l,x.ok):(l.flatMap Pt.bs).length≤25*l.length:=by
 induction l with
 |nil=>simp
 |cons a l ih=>
  have h1:=Pt.len (h a (by simp));have h2:=ih (fun x hx=>h x (by simp [hx]))
  rw [List.flatMap_cons,List.length_append,List.length_cons];omega
theorem BytesL (A:Option Addr) (c:Nat) (L:List Pt) (w:World) (hS:Sl w 3 A L.length c (L.flatMap pcs)) (hlen:L.length≤40) (hok:∀x∈L,x.ok∧(x.k=1∨x.k=2∨x.k=3∨x.k=4)):
  Calls prog 112 #[.slice A L.length c] w fun e w'=>e=.returned (.string (ks (L.flatMap Pt.bs)))∧Fr (fun _=>False) w w':=by
 have HS:=Lib.hid hS
 have HO:=Lib.hid hok
 have HFl:Hid (∀k,((L.take k).flatMap Pt.bs).length≤1000):=fun k=>by
  have h1:=flat_len (L.take k) (fun x hx=>(hok x (List.mem_of_mem_take hx)).1)
  have h2:(L.take k).length≤L.length:=by rw [List.length_take];omega
  omega
 clear hS hok
 go_enter func112,ntmps112
 go_wp2_with fail
 go_loopg [3,4] L.length (fun gk v i wr=>∃k:Nat,i=.int .i64 k∧k≤L.length∧gk=L.length-k∧v=.string (ks ((L.take k).flatMap Pt.bs))∧Fr (fun _=>False) w wr)
 case atStart=>exact ⟨0,rfl,Nat.zero_le _,rfl,rfl,Fr.refl _ _⟩
 case round=>
  obtain ⟨k,rfl,hk,hg,rfl,hf⟩:=hrel
  have HG:=Lib.hid hg;have HF:=Lib.hid hf
  clear hg hf
  by_cases hlt:k<L.length
  ·have HS1:=HS.out.fr HF.out (fun _ _ h=>h)
   obtain ⟨b1,o1,rfl,hb1,c1⟩:=HS1.at hlt (by omega)
   have HP:=Lib.hid (PutAny L[k] (HO.out _ (List.getElem_mem hlt)).1 (HO.out _ (List.getElem_mem hlt)).2)
   have HT:Hid (ks ((L.take k).flatMap Pt.bs)++ks (L[k].bs)=ks ((L.take (k+1)).flatMap Pt.bs)):=by
    show _=_
    rw [ks_app,List.take_succ_eq_append_getElem hlt,List.flatMap_append];simp
   have hl1:(ks ((L.take k).flatMap Pt.bs)).size≤1000:=by rw [ks_size];exact HFl.out k
   have hl2:(ks (L[k].bs)).size≤25:=by rw [ks_size];exact Pt.len (HO.out _ (List.getElem_mem hlt)).1
   have hat:=fun (j:Nat) (hj:j<3)=>flat_at pcs_len (L:=L) hlt hj
   have d0:wr.cell? ⟨b1,o1+k*3,none⟩=some (.int .i64 (L[k]).k):=c1 (k*3) _ (hat 0 (by omega))
   have d1:wr.cell? ⟨b1,o1+k*3+1,none⟩=some (.int .i64 (L[k]).n):=c1 (k*3+1) _ (hat 1 (by omega))
   have d2:wr.cell? ⟨b1,o1+k*3+1+1,none⟩=some (.string (L[k]).s):=c1 (k*3+2) _ (hat 2 (by omega))
   generalize ks ((L.take k).flatMap Pt.bs)=V1 at *
   generalize ks (L[k].bs)=V2 at *
   generalize L[k]=y at *
   clear HS1 c1 hb1 hat
   go_wp2_with fail
   refine (HP.out _).mono ?_
   rintro e w1 ⟨rfl,hf1⟩
   have HF1:=Lib.hid (HF.out.trans hf1 (T:=fun _=>False) (fun _ _ h=>h) (fun _ _ h=>h))
   clear hf1 d0 d1 d2
   go_wp2_with fail
   go_roundg (L.length-(k+1))
   case rel=>exact ⟨k+1,by go_num,by omega,rfl,by rw [←HT.out],HF1.out⟩
   case measure=>have:=HG.out;omega
  ·obtain rfl:k=L.length:=by omega
   rw [List.take_length]
   go_wp2_with fail
   go_ret
   exact ⟨rfl,HF.out⟩
def oneI (g:Bool):Int:=if g then 1 else 0
theorem one_ (g:Bool) (w:World):Calls prog 113 #[.bool g] w fun e w'=>e=.returned (.int .i64 (oneI g))∧w=w':=by
 cases g
 all_goals
  go_enter func113,ntmps113
  go_wp2_with fail
  go_ret
  exact ⟨rfl,rfl⟩
theorem bldN (k n:Int) (w:World):(Instr.build TPt #[(0,.int .i64 k),(1,.int .i64 n)]).run prog w=.ok (.agg #[.int .i64 k,.int .i64 n,.string ByteArray.empty]) w:=by kernel_rfl
theorem bldS (k:Int) (s:ByteArray) (w:World):(Instr.build TPt #[(0,.int .i64 k),(2,.string s)]).run prog w=.ok (.agg #[.int .i64 k,.int .i64 0,.string s]) w:=by kernel_rfl
def partsOf (x:Sn):List Pt:= [⟨1,x.t,ByteArray.empty⟩,⟨1,x.i,ByteArray.empty⟩,⟨1,x.p,ByteArray.empty⟩,⟨1,x.r,ByteArray.empty⟩,⟨3,0,x.s⟩,⟨3,0,x.o⟩,⟨2,x.b,ByteArray.empty⟩,⟨2,x.d,ByteArray.empty⟩,⟨4,oneI x.g,ByteArray.empty⟩]
theorem parts_enc (x:Sn):(partsOf x).flatMap Pt.bs=enc x:=by
 have h:(oneI x.g==1)=x.g:=by cases x.g<;>rfl
 unfold partsOf enc
 simp only [List.flatMap_cons,List.flatMap_nil,List.append_nil]
 simp only [Pt.bs,h]
 simp
theorem parts_ok {x:Sn} (hx:x.ok) (hs:x.s.size≤24) (ho:x.o.size≤24):∀y∈partsOf x,y.ok∧(y.k=1∨y.k=2∨y.k=3∨y.k=4):=by
 have h0:in64 0:=by unfold in64;omega
 have h1:in64 (oneI x.g):=by cases x.g<;>(unfold oneI in64;simp)
 have hz:ByteArray.empty.size≤24:=by decide
 intro y hy
 simp only [partsOf,List.mem_cons,List.not_mem_nil,or_false] at hy
 rcases hy with rfl|rfl|rfl|rfl|rfl|rfl|rfl|rfl|rfl
 ·exact ⟨⟨hx.t,hz⟩,.inl rfl⟩
 ·exact ⟨⟨hx.i,hz⟩,.inl rfl⟩
 ·exact ⟨⟨hx.p,hz⟩,.inl rfl⟩
 ·exact ⟨⟨hx.r,hz⟩,.inl rfl⟩
 ·exact ⟨⟨h0,hs⟩,.inr (.inr (.inl rfl))⟩
 ·exact ⟨⟨h0,ho⟩,.inr (.inr (.inl rfl))⟩
 ·exact ⟨⟨hx.b,hz⟩,.inr (.inl rfl)⟩
 ·exact ⟨⟨hx.d,hz⟩,.inr (.inl rfl)⟩
 ·exact ⟨⟨h1,hz⟩,.inr (.inr (.inr rfl))⟩
theorem Bytes9 (A:Option Addr) (c:Nat) (x:Sn) (w:World) (hS:Sl w 3 A 9 c ((partsOf x).flatMap pcs)) (hok:∀y∈partsOf x,y.ok∧(y.k=1∨y.k=2∨y.k=3∨y.k=4)):
  Calls prog 112 #[.slice A 9 c] w fun e w'=>e=.returned (.string (ks ((partsOf x).flatMap Pt.bs)))∧Fr (fun _=>False) w w':=BytesL A c (partsOf x) w hS (by show 9≤40;omega) hok
structure XS (w0 w:World) (B:Nat) (x:Sn):Prop where
 a:At w B 0 x
 f:Fr (fun _=>False) w0 w
theorem XS.fr {w0 w w':World} {B:Nat} {x:Sn} (h:XS w0 w B x) (hf:Fr (fun _=>False) w w'):XS w0 w' B x:=⟨h.a.keep hf,h.f.trans hf (fun _ _ h=>h) (fun _ _ h=>h)⟩
theorem b1 {ops:Array Oper} (hops:Eng.fnOps Tryz.f98 1=ops) (a0:Act) (Q:Exit→Act→World→Prop) (w0 w:World) (B:Nat) (x:Sn) (hst:XS w0 w B x) (hok:∀y∈partsOf x,y.ok∧(y.k=1∨y.k=2∨y.k=3∨y.k=4))
  (hn:a0.tmps.size=33) (h_1:a0.tmps.getD 1 undef=.pointer (some ⟨B,0,none⟩))
  (hpost:∀ (x_:Nat→Value) (w':World),x_ 2=.string (ks ((partsOf x).flatMap Pt.bs))→Fr (fun _=>False) w0 w'→Q .normal (Eng.setAll a0 [2,3,4,5,6,7,8,9,10,11,12,13,14,15,16,17,18,19,20,21,22,23,24,25,26,27,28,29,30,31,32] x_) w'):
  (Code.region 1 ops true).wp prog Q a0 w:=by
 simp only [Eng.fnOps,Eng.regOps,Tryz.f98,Option.bind_some,Option.getD_some,Nat.reduceEqDiff,↓reduceIte] at hops
 subst hops
 have kb:=fun (k n:Int) (W:World)=>bldN k n W
 have ks_:=fun (k:Int) (s:ByteArray) (W:World)=>bldS k s W
 have HSt:=Lib.hid (hst.fr (Fr.drew _ _))
 have hSS:=SetW.at0 HSt.out.a
 refine Eng.regionT (.take 0 (.take 1 (.take 2 (.take 3 (.take 4 (.take 5 (.take 6 (.take 7 (.take 8 (.take 9 (.take 10 (.take 11 (.take 12 (.take 13 (.take 14 (.take 15 (.take 16 (.take 17 (.take 18 (.take 19 (.take 20 (.take 21 (.take 22 (.take 23 (.take 24 (.take 25 (.alt 26 (.take 27 (.alt 28 (.alt 29 (.take 30 (.done)) (.stop)) (.stop))) (.stop)))))))))))))))))))))))))))) (fun w'=>w'.cell? ⟨B,0,none⟩=some (.int .i64 x.t)∧w'.cell? ⟨B,1,none⟩=some (.int .i64 x.i)∧w'.cell? ⟨B,2,none⟩=some (.int .i64 x.p)∧w'.cell? ⟨B,3,none⟩=some (.int .i64 x.r)∧w'.cell? ⟨B,4,none⟩=some (.string x.s)∧w'.cell? ⟨B,5,none⟩=some (.string x.o)∧w'.cell? ⟨B,6,none⟩=some (.int .i64 x.b)∧w'.cell? ⟨B,7,none⟩=some (.int .i64 x.d)∧w'.cell? ⟨B,8,none⟩=some (.bool x.g)) (by kernel_rfl) 33 hn (by kernel_rfl) (by kernel_rfl) (by kernel_rfl) (hSS) (fun a b ha hb=>?_)
 subst ha
 have hb1:b 1=.pointer (some ⟨B,0,none⟩):=(hb 1).symm.trans h_1
 clear hb h_1
 have HP:=Lib.hid hpost;have HN:=Lib.hid hn
 clear hpost hn
 iterate 26 (refine Eng.TW.tk ?_)
 refine Eng.TW.call rfl rfl (by decide) (by kernel_rfl) ?_ (one_ x.g _) ?_
 ·go_simp
 rintro e w_2 ⟨rfl,rfl⟩
 refine ⟨_,rfl,hSS,?_⟩
 refine Eng.TW.tk ?_
 have HSt3:=Lib.hid ((hst.fr (Fr.alloc _ w (.cells #[.int .i64 1,.int .i64 x.t,.string ⟨#[]⟩,.int .i64 1,.int .i64 x.i,.string ⟨#[]⟩,.int .i64 1,.int .i64 x.p,.string ⟨#[]⟩,.int .i64 1,.int .i64 x.r,.string ⟨#[]⟩,.int .i64 3,.int .i64 0,.string x.s,.int .i64 3,.int .i64 0,.string x.o,.int .i64 2,.int .i64 x.b,.string ⟨#[]⟩,.int .i64 2,.int .i64 x.d,.string ⟨#[]⟩,.int .i64 4,.int .i64 (oneI x.g),.string ⟨#[]⟩] TPt))).fr (Fr.drew _ _))
 refine Eng.TW.step rfl rfl (by decide) (by kernel_rfl) (by go_simp;first|done|with_reducible rfl) (⟨HSt3.out.a 0 _ rfl,HSt3.out.a 1 _ rfl,HSt3.out.a 2 _ rfl,HSt3.out.a 3 _ rfl,HSt3.out.a 4 _ rfl,HSt3.out.a 5 _ rfl,HSt3.out.a 6 _ rfl,HSt3.out.a 7 _ rfl,HSt3.out.a 8 _ rfl⟩) ?_
 have hSS:=SetW.at0 HSt3.out.a
 refine Eng.TW.call rfl rfl (by decide) (by kernel_rfl) ?_ (Bytes9 _ 9 x _ (Sl.many w.drew TPt [.int .i64 1,.int .i64 x.t,.string ⟨#[]⟩,.int .i64 1,.int .i64 x.i,.string ⟨#[]⟩,.int .i64 1,.int .i64 x.p,.string ⟨#[]⟩,.int .i64 1,.int .i64 x.r,.string ⟨#[]⟩,.int .i64 3,.int .i64 0,.string x.s,.int .i64 3,.int .i64 0,.string x.o,.int .i64 2,.int .i64 x.b,.string ⟨#[]⟩,.int .i64 2,.int .i64 x.d,.string ⟨#[]⟩,.int .i64 4,.int .i64 (oneI x.g),.string ⟨#[]⟩] 3 9 (by omega) rfl) hok) ?_
 ·go_simp
 rintro e w4 ⟨rfl,hf⟩
 have HSt4:=Lib.hid (HSt3.out.fr hf)
 clear hf
 refine ⟨_,rfl,⟨HSt4.out.a 0 _ rfl,HSt4.out.a 1 _ rfl,HSt4.out.a 2 _ rfl,HSt4.out.a 3 _ rfl,HSt4.out.a 4 _ rfl,HSt4.out.a 5 _ rfl,HSt4.out.a 6 _ rfl,HSt4.out.a 7 _ rfl,HSt4.out.a 8 _ rfl⟩,?_⟩
 refine Eng.TW.tk ?_
 refine Eng.TW.end_ [2,3,4,5,6,7,8,9,10,11,12,13,14,15,16,17,18,19,20,21,22,23,24,25,26,27,28,29,30,31,32] HN.out (by kernel_rfl) (by kernel_rfl) ?_
 exact HP.out _ _ rfl HSt4.out.f
theorem Bytes (x:Sn) (hx:x.ok) (hs:x.s.size≤24) (ho:x.o.size≤24) (w:World):Calls prog 98 #[x.v] w fun e w'=>e=.returned (.string (ks (enc x)))∧Fr (fun _=>False) w w':=by
 have HP:Hid (XS w (w.alloc (.cells x.arr TSn)) w.heap.size x):=⟨At.box (Bk.new w x.arr TSn),Fr.alloc _ _ _⟩
 have HO:=Lib.hid (parts_ok hx hs ho)
 have HE:=Lib.hid (parts_enc x)
 clear hx hs ho
 go_enter func98,ntmps98
 go_upto_region 1 with (fail)
 refine b1 (by kernel_rfl) _ _ w _ w.heap.size x HP.out HO.out rfl rfl ?_
 intro x_ w1 e2 hf
 simp only [Eng.setAll,Act.put,List.setIfInBounds_toArray,List.set_cons_succ,List.set_cons_zero]
 rw [e2]
 have HF:=Lib.hid hf
 clear e2 hf
 go_wp2_with fail
 go_ret
 exact ⟨by rw [←HE.out];rfl,HF.out⟩
theorem Put (x:Sn) (hx:x.ok) (w:World):Calls prog 82 #[x.v] w fun e w'=>e=.returned (putV x)∧Fr (fun _=>False) w w':=by
 have HM:=Lib.hid (fun W:World=>RefMay x hx W)
 have HB:=Lib.hid (At.box (Bk.new w x.arr TSn))
 have HF:=Lib.hid (Fr.alloc (fun _=>False) w (.cells x.arr TSn))
 cases hm:mayB x with
 |false=>
  have HE:=Lib.hid (putV_no hm)
  have e0:mayN x=1:=by unfold mayN;rw [hm];rfl
  rw [e0] at HM
  clear hm hx e0
  obtain ⟨t,i,p,r,s,o,b,d,g⟩:=x
  go_enter func82,ntmps82
  go_wp2_with fail
  refine (HM.out _).mono ?_
  rintro e w1 ⟨rfl,hf⟩
  have HF1:=Lib.hid (HF.out.trans hf (T:=fun _=>False) (fun _ _ h=>h) (fun _ _ h=>h))
  clear hf
  go_wp2_with fail
  go_ret2
  exact ⟨by rw [HE.out];rfl,HF1.out⟩
 |true=>
  have HE:=Lib.hid (putV_ok hm)
  have e0:mayN x=0:=by unfold mayN;rw [hm];rfl
  rw [e0] at HM
  have hmay:=may_iff.1 hm
  have HW:=Lib.hid (fun (W:World)=>Bytes x hx (name_size hmay.s).2 (name_size hmay.o).2 W)
  generalize enc x=V at *
  clear hm hx e0 hmay
  obtain ⟨t,i,p,r,s,o,b,d,g⟩:=x
  go_enter func82,ntmps82
  go_wp2_with fail
  refine (HM.out _).mono ?_
  rintro e w1 ⟨rfl,hf⟩
  have HB1:=Lib.hid (HB.out.fr hf (fun h=>h))
  have HF1:=Lib.hid (HF.out.trans hf (T:=fun _=>False) (fun _ _ h=>h) (fun _ _ h=>h))
  clear hf
  have c0:w1.cell? ⟨w.heap.size,0,none⟩=some (.int .i64 t):=HB1.out 0 _ rfl
  have c1:w1.cell? ⟨w.heap.size,1,none⟩=some (.int .i64 i):=HB1.out 1 _ rfl
  have c2:w1.cell? ⟨w.heap.size,2,none⟩=some (.int .i64 p):=HB1.out 2 _ rfl
  have c3:w1.cell? ⟨w.heap.size,3,none⟩=some (.int .i64 r):=HB1.out 3 _ rfl
  have c4:w1.cell? ⟨w.heap.size,4,none⟩=some (.string s):=HB1.out 4 _ rfl
  have c5:w1.cell? ⟨w.heap.size,5,none⟩=some (.string o):=HB1.out 5 _ rfl
  have c6:w1.cell? ⟨w.heap.size,6,none⟩=some (.int .i64 b):=HB1.out 6 _ rfl
  have c7:w1.cell? ⟨w.heap.size,7,none⟩=some (.int .i64 d):=HB1.out 7 _ rfl
  have c8:w1.cell? ⟨w.heap.size,8,none⟩=some (.bool g):=HB1.out 8 _ rfl
  go_wp2_with fail
  refine (HW.out _).mono ?_
  rintro e w2 ⟨rfl,hf⟩
  have HF2:=Lib.hid (HF1.out.trans hf (T:=fun _=>False) (fun _ _ h=>h) (fun _ _ h=>h))
  clear hf
  go_wp2_with fail
  go_ret2
  exact ⟨by rw [HE.out];rfl,HF2.out⟩
end Ref09
end Go.Proofs.YtdpngmgaomghoaaGreatDoor
