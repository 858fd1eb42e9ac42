/- Histograms: the walks of their methods. -/
import Derived.Test.YtdpngmgaomghoaaGreatBucket
import Derived.Test.YtdpngmgaomghoaaGreatWides
import Derived.Test.YtdpngmgaomghoaaGreatBags
namespace Go.Proofs.YtdpngmgaomghoaaGreat
open Tryz
set_option maxRecDepth 100000
set_option maxHeartbeats 400000
open Go.RowKit
namespace Hist
open HistP BagP Bag Wide Bucket
attribute [local go_sem] Eng.ev Eng.getO_cons Eng.getO_nil
abbrev TH:TypeId:=228
abbrev TI:TypeId:=3
def HB (w:World) (B:Nat) (x:HS) (F:List Nat):Prop:=∃c G,BagIn w B 0 c TH x.1 G∧F=B::G∧c.size=5∧c[3]? =some (.int .i64 x.2.1)∧c[4]? =some (.int .i64 x.2.2)∧HistP.May x.2
section
variable {w w' w0:World} {B:Nat} {x:HS} {F F0:List Nat}
theorem HB.fr {S:Nat→Prop} (h:HB w B x F) (hf:Fr S w w') (hs:∀b∈F,¬S b):HB w' B x F:=by
 obtain ⟨c,G,h1,rfl,h2⟩:=h
 exact ⟨c,G,h1.fr hf hs,rfl,h2⟩
theorem HB.lt (h:HB w B x F):∀b∈F,b<w.heap.size:=by obtain ⟨c,G,h,rfl,-⟩:=h;exact h.lt
theorem HB.ok (h:HB w B x F):Ok x.1:=by obtain ⟨c,G,h,-⟩:=h;exact h.ok
theorem HB.mem (h:HB w B x F):B∈F:=by obtain ⟨c,G,h,rfl,-⟩:=h;simp
theorem HB.may (h:HB w B x F):HistP.May x.2:=by obtain ⟨c,G,-,-,-,-,-,h⟩:=h;exact h
theorem HB.cells (h:HB w B x F):w.cell? ⟨B,3,none⟩=some (.int .i64 x.2.1)∧w.cell? ⟨B,4,none⟩=some (.int .i64 x.2.2)∧w.frozen? ⟨B,3,none⟩=false∧w.frozen? ⟨B,4,none⟩=false:=by
 obtain ⟨c,G,h,-,-,h3,h4,-⟩:=h
 exact ⟨(h.1.cell 3).trans h3,(h.1.cell 4).trans h4,h.1.free 3,h.1.free 4⟩
theorem HB.mapP (h:HB w B x F):∃G,AvlII.MapP w (some ⟨B,0,none⟩) x.1 G∧∀b∈G,b∈F:=by
 obtain ⟨c,G,h,rfl,-⟩:=h
 exact ⟨G,h.mapP,fun b hb=>by simp [hb]⟩
theorem HB.new (w:World):HB (w.alloc (.cells #[.pointer none,.int .i64 0,.int .i64 0,.int .i64 0,.int .i64 0] TH)) w.heap.size ([],(0,0)) [w.heap.size]:=
 ⟨_,[],⟨heap_new _ _,⟨none,rfl,rfl,rfl,AvlII.MapIn.nil _,fun p h=>by simp at h,by simp [sumL]⟩,by simp⟩,rfl,rfl,rfl,rfl,May.zero⟩
theorem HB.of_post {c:Array Value} {G:List Nat} {L':List (Int × Int)} {s:Int × Int} (hc:c.size=5) (h3:c[3]? =some (.int .i64 s.1)) (h4:c[4]? =some (.int .i64 s.2)) (hm:HistP.May s) (hlt:B<w.heap.size) (h:BagPost B 0 c TH L' G w w'):
  ∃F',HB w' B (L',s) F'∧Tn (B::G) F' w w':=by
 obtain ⟨c',G',h1,h2,hk,hs,hf⟩:=h
 refine ⟨B::G',⟨c',G',h1,rfl,h2.trans hc,(hk 3 (by omega)).trans h3,(hk 4 (by omega)).trans h4,hm⟩,hf.mono (fun i _ hi=>by simpa using hi),fun x hx=>?_⟩
 have hl:=h1.lt x hx
 rcases List.mem_cons.1 hx with rfl|hx
 ·exact ⟨.inl (by simp),hl⟩
 ·exact ⟨(hs x hx).elim (fun h=>.inl (by simp [h])) .inr,hl⟩
theorem HB.setS (h:HB w B x F) {s:Int × Int} (hs:HistP.May s):HB ((w.setCell ⟨B,3,none⟩ (.int .i64 s.1)).setCell ⟨B,4,none⟩ (.int .i64 s.2)) B (x.1,s) F∧Tn F F w ((w.setCell ⟨B,3,none⟩ (.int .i64 s.1)).setCell ⟨B,4,none⟩ (.int .i64 s.2)):=by
 have hlt:=h.lt
 have hB:=h.mem
 obtain ⟨c,G,⟨h1,h2,h3⟩,rfl,h5,h6,h7,h8⟩:=h
 have f1:=(Fr.setCell w ⟨B,3,none⟩ (.int .i64 s.1) (S:=(· =B)) rfl).trans (Fr.setCell (w.setCell ⟨B,3,none⟩ (.int .i64 s.1)) ⟨B,4,none⟩ (.int .i64 s.2) (S:=(· =B)) rfl) (T:=(· =B)) (fun _ _ h=>h) (fun _ _ h=>h)
 refine ⟨⟨_,G,⟨(h1.set 3 _).set 4 _,?_,h3⟩,rfl,by simp [h5],by simp [h5],by simp [h5],hs⟩,f1.mono (fun i _ e=>by simp [e]),fun y hy=>⟨.inl hy,Nat.lt_of_lt_of_le (hlt y hy) f1.size⟩⟩
 obtain ⟨r,a0,a1,a2,hM,hP⟩:=h2.fr f1 (fun b hb e=>h3 (e▸hb))
 exact ⟨r,by simpa using a0,by simpa using a1,by simpa using a2,hM,hP⟩
structure HT (w0:World) (F0:List Nat) (w:World) (B:Nat) (x:HS) (F:List Nat):Prop where
 h:HB w B x F
 t:Tn F0 F w0 w
theorem HB.ht (h:HB w B x F):HT w F w B x F:=⟨h,Tn.refl h.lt⟩
theorem HT.fr (h:HT w0 F0 w B x F) (hf:Fr (fun _=>False) w w'):HT w0 F0 w' B x F:=⟨h.h.fr hf (fun _ _ h=>h),h.t.trans (Tn.of_fr hf h.h.lt)⟩
theorem HT.to {y:HS} {F':List Nat} (h:HT w0 F0 w B x F) (k:HB w' B y F') (t:Tn F F' w w'):HT w0 F0 w' B y F':=⟨k,h.t.trans t⟩
theorem HT.setS (h:HT w0 F0 w B x F) {s:Int × Int} (hs:HistP.May s):HT w0 F0 ((w.setCell ⟨B,3,none⟩ (.int .i64 s.1)).setCell ⟨B,4,none⟩ (.int .i64 s.2)) B (x.1,s) F:=h.to (h.h.setS hs).1 (h.h.setS hs).2
theorem HT.bagAdd (h:HT w0 F0 w B x F) (k m:Int) (sz:x.1.length<144115188075855871):
  Calls prog 219 #[.pointer (some ⟨B,0,none⟩),.int .i64 k,.int .i64 m] w fun e w'=>e=.returned (.bool (okA m x.1))∧∃F',HT w0 F0 w' B (addL k m x.1,x.2) F':=by
 have hlt:=h.h.lt B h.h.mem
 obtain ⟨⟨c,G,h1,rfl,h5,h6,h7,h8⟩,ht⟩:=h
 refine (Bag.Add B 0 c TH k m x.1 G w h1 sz).mono ?_
 rintro e w' ⟨he,hp⟩
 obtain ⟨F',hb,hT⟩:=HB.of_post h5 h6 h7 h8 hlt hp
 exact ⟨he,F',hb,ht.trans hT⟩
theorem HT.bagTake (h:HT w0 F0 w B x F) (k m:Int) (sz:x.1.length<144115188075855871):
  Calls prog 261 #[.pointer (some ⟨B,0,none⟩),.int .i64 k,.int .i64 m] w fun e w'=>e=.returned (.bool (okT k m x.1))∧∃F',HT w0 F0 w' B (takeL k m x.1,x.2) F':=by
 have hlt:=h.h.lt B h.h.mem
 obtain ⟨⟨c,G,h1,rfl,h5,h6,h7,h8⟩,ht⟩:=h
 refine (Bag.Take B 0 c TH k m x.1 G w h1 sz).mono ?_
 rintro e w' ⟨he,hp⟩
 obtain ⟨F',hb,hT⟩:=HB.of_post h5 h6 h7 h8 hlt hp
 exact ⟨he,F',hb,ht.trans hT⟩
end
theorem Len_none (w:World):Calls prog 150 #[.pointer none] w fun e w'=>e=.returned (.int .i64 0)∧w=w':=by
 go_enter func150,ntmps150
 go_wp2
 go_ret
 exact ⟨rfl,rfl⟩
theorem Len (B:Nat) (x:HS) (F:List Nat) (w:World) (h:HB w B x F):Calls prog 150 #[.pointer (some ⟨B,0,none⟩)] w fun e w'=>e=.returned (.int .i64 (sumL x.1))∧w=w':=by
 obtain ⟨c,G,h1,-⟩:=h
 have HL:=Lib.hid (Bag.Len B 0 c TH x.1 G w h1)
 clear h1
 generalize sumL x.1=n at *
 go_enter func150,ntmps150
 go_wp2_with fail
 refine HL.out.mono ?_
 rintro e w1 ⟨rfl,rfl⟩
 go_wp2_with fail
 go_ret
 exact ⟨rfl,rfl⟩
theorem Sum (B:Nat) (x:HS) (F:List Nat) (w:World) (h:HB w B x F):Calls prog 169 #[.pointer (some ⟨B,0,none⟩)] w (PostS x.2 w):=by
 obtain ⟨c3,c4,-,-⟩:=(h.fr (Fr.alloc (fun _=>False) w (.cells #[.int .i64 0,.int .i64 0] TS)) (fun _ _ h=>h)).cells
 have hne:¬w.heap.size=B:=fun e=>by have:=h.lt B h.mem;omega
 clear h
 obtain ⟨L,s,t⟩:=x
 dsimp only at c3 c4 ⊢
 go_enter func169,ntmps169
 go_wp2
 exact bodyPost_ret (results_cell_row rfl _ _ w.heap.size TS _ (0,0) _ rfl (heap_new _ _) underlying63 rfl (by kernel_rfl)) rfl ⟨rfl,Fr.alloc _ _ _⟩
theorem Buckets (B:Nat) (x:HS) (F:List Nat) (w:World) (h:HB w B x F) (hlen:x.1.length≤1000000000000):Calls prog 170 #[.pointer (some ⟨B,0,none⟩)] w fun e w'=>∃A c,e=.returned (.slice A x.1.length c)∧Sl w' 2 A x.1.length c (x.1.flatMap pc)∧(∀a,A=some a→w.heap.size≤a.block∧a.block<w'.heap.size)∧Fr (fun _=>False) w w':=by
 obtain ⟨c,G,h1,-⟩:=h
 have HL:=Lib.hid (Bag.Counts B 0 c TH x.1 G w h1 hlen)
 clear h1
 go_enter func170,ntmps170
 go_wp2_with fail
 refine HL.out.mono ?_
 rintro e w1 ⟨v,rfl,hown,hb⟩
 obtain ⟨A,c,rfl,hS,hA⟩:=Sl.of_own hown
 have HS:=Lib.hid hS;have HA:=Lib.hid hA;have HB:=Lib.hid hb
 clear hown hS hA hb
 go_wp2_with fail
 go_ret
 exact ⟨A,c,rfl,HS.out,fun a ha=>⟨(HA.out a ha).1,(HA.out a ha).2.2⟩,Fr.of_below' HB.out _⟩
theorem a1 {ops:Array Oper} (hops:Eng.fnOps Tryz.f156 1=ops) (a0:Act) (Q:Exit→Act→World→Prop) (w0:World) (F0:List Nat) (w:World) (B:Nat) (x_:HS) (F:List Nat) (d:Int) (hst:HT w0 F0 w B x_ F) (hlen:x_.1.length<144115188075855871)
  (hn:a0.tmps.size=21) (h_0:a0.tmps.getD 0 undef=.pointer (some ⟨B,0,none⟩)) (h_1:a0.tmps.getD 1 undef=.int .i64 d)
  (hpost:∀ (x:Nat→Value) (w':World) (F':List Nat),HT w0 F0 w' B (addL (bk d) 1 x_.1,x_.2) F'→Q .normal (Eng.setAll a0 [6,7,8,9,10,11] x) w'):
  (Code.region 1 ops true).wp prog Q a0 w:=by
 simp only [Eng.fnOps,Eng.regOps,Tryz.f156,Option.bind_some,Option.getD_some,Nat.reduceEqDiff,↓reduceIte] at hops
 subst hops
 have HSt:=Lib.hid (hst.fr (Fr.drew _ _))
 have hSS:True:=trivial
 refine Eng.regionN [(0,true),(1,true),(2,true),(3,true),(4,false),(5,false)] (fun w'=>True) (by kernel_rfl) 21 hn (by kernel_rfl) rfl (by kernel_rfl) (hSS) (fun a b ha hb=>?_)
 subst ha
 have hb0:b 0=.pointer (some ⟨B,0,none⟩):=(hb 0).symm.trans h_0
 have hb1:b 1=.int .i64 d:=(hb 1).symm.trans h_1
 clear hb h_0 h_1
 have HP:=Lib.hid hpost;have HN:=Lib.hid hn
 clear hpost hn
 iterate 4 (refine Eng.Sch.tk ?_)
 refine Eng.Sch.call rfl rfl (by decide) (by kernel_rfl) ?_ (Bucket.Of d _) ?_
 ·go_simp
 rintro e w_1 ⟨rfl,rfl⟩
 refine ⟨_,rfl,hSS,?_⟩
 refine Eng.Sch.call rfl rfl (by decide) (by kernel_rfl) ?_ (HSt.out.bagAdd (bk d) 1 hlen) ?_
 ·go_simp
 rintro e w2 ⟨rfl,F2,hT⟩
 have HSt1:=Lib.hid (hT)
 clear hT
 refine ⟨_,rfl,trivial,?_⟩
 refine Eng.Sch.end_ [6,7,8,9,10,11] HN.out (by kernel_rfl) (by kernel_rfl) ?_
 exact HP.out _ _ _ HSt1.out
theorem Add (B:Nat) (d:Int) (x:HS) (F:List Nat) (w:World) (h:HB w B x F) (hlen:x.1.length<144115188075855871):Calls prog 156 #[.pointer (some ⟨B,0,none⟩),.int .i64 d] w fun e w'=>e=.returned (.tuple #[])∧∃F',HB w' B (addH d x) F'∧Tn F F' w w':=by
 have HH:=Lib.hid h.ht
 have HAd:=fun w=>Lib.hid (Wide.Add x.2 d h.may w)
 have hm:=h.may.add d
 have HM:=Lib.hid hm
 have HE:Hid (addH d x=(addL (bk d) 1 x.1,addS x.2 d)):=rfl
 clear h hm
 go_enter func156,ntmps156
 go_upto_region 1 with (fail)
 refine a1 (by kernel_rfl) _ _ w F w B x F d HH.out hlen rfl rfl rfl ?_
 intro y w1 F1 hst
 simp only [Eng.setAll,Act.put,List.setIfInBounds_toArray,List.set_cons_succ,List.set_cons_zero]
 have H1:=Lib.hid hst
 obtain ⟨c3,c4,f3,f4⟩:=hst.h.cells
 dsimp only at c3 c4
 generalize addL (bk d) 1 x.1=L' at *
 clear hst HH
 obtain ⟨L,s,t⟩:=x
 dsimp only at c3 c4 HAd HM HE H1
 go_wp2_with fail
 refine (HAd _).out.mono ?_
 rintro e w2 ⟨rfl,hf⟩
 have H2:=Lib.hid (H1.out.fr hf)
 clear c3 c4 f3 f4 hf H1 HAd
 have H3:=Lib.hid (H2.out.setS HM.out)
 obtain ⟨c3,c4,f3,f4⟩:=H2.out.h.cells
 dsimp only at c3 c4 H3
 generalize addS (s,t) d=s' at *
 obtain ⟨s1,t1⟩:=s'
 dsimp only at H3
 go_wp2_with fail
 go_end0
 exact ⟨rfl,F1,by rw [HE.out];exact H3.out.h,H3.out.t⟩
theorem Of (A:Option Addr) (c:Nat) (l:List Int) (w:World) (hS:Sl w 1 A l.length c (ints l)) (hlen:l.length≤1000):Calls prog 155 #[.slice A l.length c] w fun e w'=>e=.returned (.pointer (some ⟨w.heap.size,0,none⟩))∧∃F,HB w' w.heap.size (ofH l) F∧(∀b∈F,w.heap.size≤b∧b<w'.heap.size)∧Fr (fun _=>False) w w':=by
 have HS:=Lib.hid hS
 have H0:=Lib.hid (HB.new w)
 clear hS
 go_enter func155,ntmps155
 go_wp2_with fail
 go_loopg [5,10] l.length (fun gk _ i wr=>∃ (k:Nat) (F:List Nat),i=.int .i64 k∧k≤l.length∧gk=l.length-k∧HB wr w.heap.size (ofH (l.take k)) F∧(ofH (l.take k)).1.length≤k∧(∀b∈F,w.heap.size≤b)∧Fr (fun _=>False) w wr)
 case atStart=>exact ⟨0,_,rfl,Nat.zero_le _,rfl,H0.out,Nat.le_refl _,by simp,Fr.alloc _ _ _⟩
 case round=>
  clear H0
  obtain ⟨k,F,rfl,hk,hg,hst,hl,hF,hfr⟩:=hrel
  have HG:=Lib.hid hg;have HSt:=Lib.hid hst;have HF:=Lib.hid hF;have HFr:=Lib.hid hfr
  clear hg hst hF hfr
  by_cases hlt:k<l.length
  ·obtain ⟨b1,o1,rfl,hb1,c1⟩:=HS.out.at hlt (by omega)
   have e1:wr.cell? ⟨b1,o1+k,none⟩=some (.int .i64 l[k]):=(World.cell?_of_block (w:=w) (a:=⟨b1,_,none⟩) (HFr.out.block b1 hb1 (fun h=>h))).trans (c1 k _ (by simp [ints,hlt]))
   have HAd:=Lib.hid (Add w.heap.size l[k] (ofH (l.take k)) F wr HSt.out (by omega))
   have HSn:Hid (ofH (l.take (k+1))=addH l[k] (ofH (l.take k))):=by show _=_;unfold ofH;rw [List.take_succ_eq_append_getElem hlt,List.foldl_append];rfl
   clear c1
   generalize l[k]=d at *
   go_wp2_with fail
   refine HAd.out.mono ?_
   rintro e w2 ⟨rfl,F2,hb2,ht2⟩
   have H2:=Lib.hid hb2;have HT2:=Lib.hid ht2
   clear hb2 ht2 HAd
   go_wp2_with fail
   go_roundg (l.length-(k+1))
   case rel=>
    refine ⟨k+1,F2,by go_num,by omega,rfl,by rw [HSn.out];exact H2.out,by rw [HSn.out];exact Nat.le_trans (addL_len _ _ _) (by omega),fun b hb=>?_,?_⟩
    ·have h2:=HFr.out.size
     rcases (HT2.out.sub b hb).1 with h|h
     ·exact HF.out b h
     ·omega
    ·exact HFr.out.trans HT2.out.fr (fun _ _ h=>h) (fun i hi h=>by have:=HF.out i h;omega)
   case measure=>have:=HG.out;omega
  ·obtain rfl:k=l.length:=by omega
   rw [List.take_length] at HSt
   go_wp2_with fail
   go_ret
   exact ⟨rfl,F,HSt.out,fun b hb=>⟨HF.out b hb,HSt.out.lt b hb⟩,HFr.out⟩
end Hist
set_option maxRecDepth 100000
set_option maxHeartbeats 400000
namespace Hist
open HistP BagP Bag Wide Bucket
attribute [local go_sem] Eng.ev Eng.getO_cons Eng.getO_nil
theorem rank (n p:Int) (w:World) (h0:0≤n) (h1:n≤4611686018427387904):Calls prog 171 #[.int .i64 n,.int .i64 p] w fun e w'=>e=.returned (.int .i64 (HistP.rank n p))∧w=w':=by
 have HC:=Lib.hid (Sat.Clamp p 0 1000 w)
 have HE:Hid (HistP.rank n p=max 1 (n / 1000*clamp p 0 1000+(n % 1000*clamp p 0 1000+999) / 1000)):=rfl
 have hc:0≤clamp p 0 1000∧clamp p 0 1000≤1000:=by unfold clamp;omega
 generalize clamp p 0 1000=c at *
 have hA0:0≤n / 1000*c:=Int.mul_nonneg (by omega) hc.1
 have hA1:n / 1000*c≤n / 1000*1000:=Int.mul_le_mul_of_nonneg_left hc.2 (by omega)
 have hB0:0≤n % 1000*c:=Int.mul_nonneg (by omega) hc.1
 have hB1:n % 1000*c≤n % 1000*1000:=Int.mul_le_mul_of_nonneg_left hc.2 (by omega)
 have HR:Hid (∀m:Int,m=max 1 (n / 1000*c+(n % 1000*c+999) / 1000)→Ending.returned (.int .i64 m)=.returned (.int .i64 (HistP.rank n p))):=fun m hm=>by rw [hm,HE.out]
 go_enter func171,ntmps171
 go_wp2_with fail
 refine HC.out.mono ?_
 rintro e w1 ⟨rfl,rfl⟩
 go_wp2_with fail
 all_goals
  go_ret
  exact ⟨HR.out _ (by omega),rfl⟩
theorem three {w w1:World} {a b c:Int × Int} (hf:Fr (fun _=>False) (((w.alloc (.cells #[.int .i64 a.1,.int .i64 a.2] TS)).alloc (.cells #[.int .i64 b.1,.int .i64 b.2] TS)).alloc (.cells #[.int .i64 c.1,.int .i64 c.2] TS)) w1):
  Bk w1 w.heap.size #[.int .i64 a.1,.int .i64 a.2] TS∧Bk w1 (w.heap.size+1) #[.int .i64 b.1,.int .i64 b.2] TS∧Bk w1 (w.heap.size+2) #[.int .i64 c.1,.int .i64 c.2] TS∧Fr (fun _=>False) w w1:=by
 obtain ⟨h1,h2,h3⟩:=two ((Fr.alloc _ _ _).to hf)
 refine ⟨h1,h2,?_,h3⟩
 have:=(Bk.new ((w.alloc (.cells #[.int .i64 a.1,.int .i64 a.2] TS)).alloc (.cells #[.int .i64 b.1,.int .i64 b.2] TS)) #[.int .i64 c.1,.int .i64 c.2] TS).frF hf
 simpa using this
theorem both (a b:Int × Int) (ha:HistP.May a) (hb:HistP.May b) (w:World):Calls prog 258 #[sv a,sv b] w (PostS (bothS a b) w):=by
 have HAd:=fun w=>Lib.hid (Wide.Add a b.2 ha w)
 have hm:=ha.add b.2
 have HE:Hid (bothS a b=if 4294967296<(addS a b.2).1+b.1 then (4294967296,4611686018427387903) else ((addS a b.2).1+b.1,(addS a b.2).2)):=rfl
 generalize bothS a b=z at *
 generalize addS a b.2=s at *
 obtain ⟨h,l⟩:=a
 obtain ⟨u,v⟩:=b
 obtain ⟨s1,s2⟩:=s
 obtain ⟨m1,m2,m3,m4⟩:=hm
 obtain ⟨n1,n2,n3,n4⟩:=hb
 clear ha
 dsimp only at *
 go_enter func258,ntmps258
 go_wp2_with fail
 refine (HAd _).out.mono ?_
 rintro e w1 ⟨rfl,hf⟩
 obtain ⟨-,b2,b3,hf⟩:=three (a:=(h,l)) (b:=(u,v)) (c:=(0,0)) hf
 have hlt3:=lt_of_heap b3
 have fa:=Fr.alloc (fun _=>False) w1 (.cells #[.int .i64 s1,.int .i64 s2] TS)
 have HB2:=Lib.hid (b2.frF fa);have HB3:=Lib.hid (b3.frF fa);have HBx:=Lib.hid (Bk.new w1 #[.int .i64 s1,.int .i64 s2] TS);have HF:=Lib.hid (hf.to fa)
 have hle:w.heap.size≤w1.heap.size:=hf.size
 obtain ⟨c0,c1,f0,f1⟩:=Bk.cells b2
 obtain ⟨d0,d1,g0,g1⟩:=Bk.cells b3
 try dsimp only at c0 c1 d0 d1
 clear b2 b3 hf HAd fa
 go_upto_region 2 with (fail)
 clear c0 c1 f0 f1 d0 d1 g0 g1
 have z1:¬w1.heap.size=w.heap.size+1:=by omega
 have z2:¬w1.heap.size=w.heap.size+1+1:=by omega
 have z3:¬w.heap.size+1=w1.heap.size:=by omega
 have z4:¬w.heap.size+1+1=w1.heap.size:=by omega
 clear hlt3
 generalize w1.alloc (.cells #[.int .i64 s1,.int .i64 s2] TS)=W at *
 generalize w1.heap.size=Bx at *
 obtain ⟨c0,c1,f0,f1⟩:=Bk.cells HB2.out
 obtain ⟨d0,d1,g0,g1⟩:=Bk.cells HB3.out
 obtain ⟨e0,e1,k0,k1⟩:=Bk.cells HBx.out
 try dsimp only at c0 c1 d0 d1
 by_cases hg:4294967296<s1+u
 all_goals
  first|rw [if_pos hg] at HE|rw [if_neg hg] at HE
  go_wp2_with fail
  exact bodyPost_ret (results_cell_row rfl _ _ (w.heap.size+1+1) TS _ (0,0) _ rfl (by refine Bk.set (Bk.set (c:= #[.int .i64 0,.int .i64 0]) ?_ 0 _) 1 _;(repeat (refine Bk.other ?_ (by simpa using z2) _));exact HB3.out) underlying63 rfl (by kernel_rfl)) rfl ⟨by rw [HE.out];rfl,by (repeat (refine Fr.set_new ?_ (by first|exact hle| (simp;omega)) _));exact HF.out⟩
theorem LessB (a b:Int × Int) (ha:HistP.May a) (hb:HistP.May b) (bb:Bool) (h:Hid (lessS a b=bb)) (w:World):Calls prog 259 #[sv a,sv b] w fun e w'=>e=.returned (.bool bb)∧Fr (fun _=>False) w w':=
 (Wide.Less a b ha hb w).mono (fun _ _ k=>⟨by rw [k.1,h.out],k.2⟩)
theorem HT.takeB {w w0:World} {B:Nat} {x:HS} {F F0:List Nat} (h:HT w0 F0 w B x F) (k m:Int) (sz:x.1.length<144115188075855871) {tb:Bool} (ht:Hid (okT k m x.1=tb)):
  Calls prog 261 #[.pointer (some ⟨B,0,none⟩),.int .i64 k,.int .i64 m] w fun e w'=>e=.returned (.bool tb)∧∃F',HT w0 F0 w' B (takeL k m x.1,x.2) F':=
 (h.bagTake k m sz).mono (fun _ _ k=>⟨by rw [k.1,ht.out],k.2⟩)
theorem d1a {ops:Array Oper} (hops:Eng.fnOps Tryz.f217 1=ops) (a0:Act) (Q:Exit→Act→World→Prop) (w0:World) (F0:List Nat) (w:World) (B:Nat) (L:List (Int × Int)) (s t:Int) (F:List Nat) (d:Int) (hst:HT w0 F0 w B (L,(s,t)) F) (_hlen:L.length<144115188075855871) (h1:Hid (lessS (s,t) (sumS [d])=true))
  (hn:a0.tmps.size=35) (h_0:a0.tmps.getD 0 undef=.pointer (some ⟨B,0,none⟩)) (h_1:a0.tmps.getD 1 undef=.int .i64 d)
  (hpost:∀ (x:Nat→Value) (w':World),x 25=.bool true→HT w0 F0 w' B (L,(s,t)) F→Q .normal (Eng.setAll a0 [5,6,7,8,9,10,11,12,13,14,15,16,17,18,19,20,21,22,23,24,25] x) w'):
  (Code.region 1 ops true).wp prog Q a0 w:=by
 simp only [Eng.fnOps,Eng.regOps,Tryz.f217,Option.bind_some,Option.getD_some,Nat.reduceEqDiff,↓reduceIte] at hops
 subst hops
 have HSt:=Lib.hid (hst.fr (Fr.drew _ _))
 refine Eng.regionN [(0,true),(1,true),(2,true),(3,true),(4,true),(5,true),(6,true),(7,true),(8,false),(9,false),(10,false),(11,true),(12,true),(13,true),(14,true),(15,true),(16,true),(17,true),(18,true),(19,true),(20,true)] (fun w'=>w'.cell? ⟨B,3,none⟩=some (.int .i64 s)∧w'.cell? ⟨B,4,none⟩=some (.int .i64 t)) (by kernel_rfl) 35 hn (by kernel_rfl) rfl (by kernel_rfl) (⟨HSt.out.h.cells.1,HSt.out.h.cells.2.1⟩) (fun a b ha hb=>?_)
 subst ha
 have hb0:b 0=.pointer (some ⟨B,0,none⟩):=(hb 0).symm.trans h_0
 have hb1:b 1=.int .i64 d:=(hb 1).symm.trans h_1
 clear hb h_0 h_1
 have HP:=Lib.hid hpost;have HN:=Lib.hid hn
 clear hpost hn
 iterate 8 (refine Eng.Sch.tk ?_)
 have HSt1:=Lib.hid (HSt.out.fr (Fr.alloc _ _ (.cells #[.int .i64 d] TI)))
 refine Eng.Sch.step rfl rfl (by decide) (by kernel_rfl) (by go_simp;first|done|with_reducible rfl) (⟨HSt1.out.h.cells.1,HSt1.out.h.cells.2.1⟩) ?_
 have hSS:(w.drew.alloc (.cells #[.int .i64 d] TI)).cell? ⟨B,3,none⟩=some (.int .i64 s)∧(w.drew.alloc (.cells #[.int .i64 d] TI)).cell? ⟨B,4,none⟩=some (.int .i64 t):=⟨HSt1.out.h.cells.1,HSt1.out.h.cells.2.1⟩
 refine Eng.Sch.call rfl rfl (by decide) (by kernel_rfl) ?_ (Wide.Of _ 1 [d] _ (Sl.one _ TI [.int .i64 d] 1 rfl)) ?_
 ·go_simp
 rintro e w3 ⟨rfl,hf⟩
 have HSt2:=Lib.hid (HSt1.out.fr hf)
 clear hf
 refine ⟨_,rfl,⟨HSt2.out.h.cells.1,HSt2.out.h.cells.2.1⟩,?_⟩
 refine Eng.Sch.call rfl rfl (by decide) (by kernel_rfl) ?_ (LessB (s,t) (sumS [d]) hst.h.may (May.sum _ May.zero) true h1 _) ?_
 ·go_simp
 rintro e w4 ⟨rfl,hf⟩
 have HSt3:=Lib.hid (HSt2.out.fr hf)
 clear hf
 refine ⟨_,rfl,⟨HSt3.out.h.cells.1,HSt3.out.h.cells.2.1⟩,?_⟩
 refine Eng.Sch.tk ?_
 refine Eng.Sch.tk ?_
 iterate 7 (refine Eng.Sch.skip rfl rfl (by decide) (by kernel_rfl) ?_)
 refine Eng.Sch.tk ?_
 refine Eng.Sch.end_ [5,6,7,8,9,10,11,12,13,14,15,16,17,18,19,20,21,22,23,24,25] HN.out (by kernel_rfl) (by kernel_rfl) ?_
 exact HP.out _ _ rfl HSt3.out
theorem d1b {ops:Array Oper} (hops:Eng.fnOps Tryz.f217 1=ops) (a0:Act) (Q:Exit→Act→World→Prop) (w0:World) (F0:List Nat) (w:World) (B:Nat) (L:List (Int × Int)) (s t:Int) (F:List Nat) (d:Int) (hst:HT w0 F0 w B (L,(s,t)) F) (hlen:L.length<144115188075855871) (tb:Bool) (h1:Hid (lessS (s,t) (sumS [d])=false)) (h2:Hid (okT (bk d) 1 L=tb))
  (hn:a0.tmps.size=35) (h_0:a0.tmps.getD 0 undef=.pointer (some ⟨B,0,none⟩)) (h_1:a0.tmps.getD 1 undef=.int .i64 d)
  (hpost:∀ (x:Nat→Value) (w':World) (F':List Nat),x 25=.bool (!tb)→HT w0 F0 w' B (takeL (bk d) 1 L,(s,t)) F'→Q .normal (Eng.setAll a0 [5,6,7,8,9,10,11,12,13,14,15,16,17,18,19,20,21,22,23,24,25] x) w'):
  (Code.region 1 ops true).wp prog Q a0 w:=by
 simp only [Eng.fnOps,Eng.regOps,Tryz.f217,Option.bind_some,Option.getD_some,Nat.reduceEqDiff,↓reduceIte] at hops
 subst hops
 have HSt:=Lib.hid (hst.fr (Fr.drew _ _))
 refine Eng.regionN [(0,true),(1,true),(2,true),(3,true),(4,true),(5,true),(6,true),(7,true),(8,false),(9,false),(10,false),(11,true),(12,true),(13,true),(14,true),(15,true),(16,true),(17,false),(18,false),(19,true),(20,true)] (fun w'=>w'.cell? ⟨B,3,none⟩=some (.int .i64 s)∧w'.cell? ⟨B,4,none⟩=some (.int .i64 t)) (by kernel_rfl) 35 hn (by kernel_rfl) rfl (by kernel_rfl) (⟨HSt.out.h.cells.1,HSt.out.h.cells.2.1⟩) (fun a b ha hb=>?_)
 subst ha
 have hb0:b 0=.pointer (some ⟨B,0,none⟩):=(hb 0).symm.trans h_0
 have hb1:b 1=.int .i64 d:=(hb 1).symm.trans h_1
 clear hb h_0 h_1
 have HP:=Lib.hid hpost;have HN:=Lib.hid hn
 clear hpost hn
 iterate 8 (refine Eng.Sch.tk ?_)
 have HSt1:=Lib.hid (HSt.out.fr (Fr.alloc _ _ (.cells #[.int .i64 d] TI)))
 refine Eng.Sch.step rfl rfl (by decide) (by kernel_rfl) (by go_simp;first|done|with_reducible rfl) (⟨HSt1.out.h.cells.1,HSt1.out.h.cells.2.1⟩) ?_
 have hSS:(w.drew.alloc (.cells #[.int .i64 d] TI)).cell? ⟨B,3,none⟩=some (.int .i64 s)∧(w.drew.alloc (.cells #[.int .i64 d] TI)).cell? ⟨B,4,none⟩=some (.int .i64 t):=⟨HSt1.out.h.cells.1,HSt1.out.h.cells.2.1⟩
 refine Eng.Sch.call rfl rfl (by decide) (by kernel_rfl) ?_ (Wide.Of _ 1 [d] _ (Sl.one _ TI [.int .i64 d] 1 rfl)) ?_
 ·go_simp
 rintro e w3 ⟨rfl,hf⟩
 have HSt2:=Lib.hid (HSt1.out.fr hf)
 clear hf
 refine ⟨_,rfl,⟨HSt2.out.h.cells.1,HSt2.out.h.cells.2.1⟩,?_⟩
 refine Eng.Sch.call rfl rfl (by decide) (by kernel_rfl) ?_ (LessB (s,t) (sumS [d]) hst.h.may (May.sum _ May.zero) false h1 _) ?_
 ·go_simp
 rintro e w4 ⟨rfl,hf⟩
 have HSt3:=Lib.hid (HSt2.out.fr hf)
 have hSS:w4.cell? ⟨B,3,none⟩=some (.int .i64 s)∧w4.cell? ⟨B,4,none⟩=some (.int .i64 t):=⟨HSt3.out.h.cells.1,HSt3.out.h.cells.2.1⟩
 clear hf
 refine ⟨_,rfl,hSS,?_⟩
 iterate 6 (refine Eng.Sch.tk ?_)
 refine Eng.Sch.call rfl rfl (by decide) (by kernel_rfl) ?_ (Bucket.Of d _) ?_
 ·go_simp
 rintro e w_4 ⟨rfl,rfl⟩
 refine ⟨_,rfl,hSS,?_⟩
 refine Eng.Sch.call rfl rfl (by decide) (by kernel_rfl) ?_ (HSt3.out.takeB (bk d) 1 hlen h2) ?_
 ·go_simp
 rintro e w5 ⟨rfl,F2,hT⟩
 have HSt4:=Lib.hid (hT)
 clear hT
 refine ⟨_,rfl,⟨HSt4.out.h.cells.1,HSt4.out.h.cells.2.1⟩,?_⟩
 refine Eng.Sch.tk ?_
 refine Eng.Sch.tk ?_
 refine Eng.Sch.end_ [5,6,7,8,9,10,11,12,13,14,15,16,17,18,19,20,21,22,23,24,25] HN.out (by kernel_rfl) (by kernel_rfl) ?_
 exact HP.out _ _ _ rfl HSt4.out
theorem takeL_not {k m:Int} {L:List (Int × Int)} (h:okT k m L=false):takeL k m L=L:=by unfold takeL;rw [h];rfl
theorem Drop_none (d:Int) (w:World):Calls prog 217 #[.pointer none,.int .i64 d] w fun e w'=>e=.returned (.bool false)∧Fr (fun _=>False) w w':=by
 go_enter func217,ntmps217
 go_upto_region 1 with (fail)
 go_quiet (fail)
 go_wp2_with fail
 go_ret
 exact ⟨rfl,Fr.drewN _ _ _⟩
theorem Drop (B:Nat) (d:Int) (x:HS) (F:List Nat) (w:World) (h:HB w B x F) (hlen:x.1.length<144115188075855871):Calls prog 217 #[.pointer (some ⟨B,0,none⟩),.int .i64 d] w fun e w'=>e=.returned (.bool (okD d x))∧∃F',HB w' B (dropH d x) F'∧Tn F F' w w':=by
 have HH:=Lib.hid h.ht
 have HSu:=fun w=>Lib.hid (Wide.Sub x.2 d h.may w)
 have HM:=Lib.hid (h.may.sub d)
 have HE:Hid (okD d x=(!lessS x.2 (sumS [d])&&okT (bk d) 1 x.1)):=rfl
 have HD:Hid (dropH d x=if okD d x then (takeL (bk d) 1 x.1,subS x.2 d) else x):=rfl
 clear h
 obtain ⟨L,s,t⟩:=x
 dsimp only at hlen HE HSu HM
 cases hl:lessS (s,t) (sumS [d]) with
 |true=>
  have H1:=Lib.hid hl
  have HO:Hid (okD d (L,s,t)=false):=by show _=_;rw [HE.out,hl];rfl
  clear hl HSu HM
  go_enter func217,ntmps217
  go_upto_region 1 with (fail)
  refine d1a (by kernel_rfl) _ _ w F w B L s t F d HH.out hlen H1 rfl rfl rfl ?_
  intro y w1 hx hst
  simp only [Eng.setAll,Act.put,List.setIfInBounds_toArray,List.set_cons_succ,List.set_cons_zero]
  rw [hx]
  have H2:=Lib.hid hst
  clear hst hx
  go_wp2_with fail
  go_ret
  exact ⟨by rw [HO.out];rfl,F,by rw [HD.out,HO.out];exact H2.out.h,H2.out.t⟩
 |false=>
  have H1:=Lib.hid hl
  cases ht:okT (bk d) 1 L with
  |false=>
   have HO:Hid (okD d (L,s,t)=false):=by show _=_;rw [HE.out,hl,ht];rfl
   have H2:=Lib.hid ht
   have HK:=Lib.hid (takeL_not ht)
   clear hl ht HSu HM
   go_enter func217,ntmps217
   go_upto_region 1 with (fail)
   refine d1b (by kernel_rfl) _ _ w F w B L s t F d HH.out hlen false H1 H2 rfl rfl rfl ?_
   intro y w1 F1 hx hst
   simp only [Eng.setAll,Act.put,List.setIfInBounds_toArray,List.set_cons_succ,List.set_cons_zero]
   rw [hx]
   rw [HK.out] at hst
   have H3:=Lib.hid hst
   clear hst hx
   go_wp2_with fail
   go_ret
   exact ⟨by rw [HO.out];rfl,F1,by rw [HD.out,HO.out];exact H3.out.h,H3.out.t⟩
  |true=>
   have HO:Hid (okD d (L,s,t)=true):=by show _=_;rw [HE.out,hl,ht];rfl
   have H2:=Lib.hid ht
   clear hl ht
   go_enter func217,ntmps217
   go_upto_region 1 with (fail)
   refine d1b (by kernel_rfl) _ _ w F w B L s t F d HH.out hlen true H1 H2 rfl rfl rfl ?_
   intro y w1 F1 hx hst
   simp only [Eng.setAll,Act.put,List.setIfInBounds_toArray,List.set_cons_succ,List.set_cons_zero]
   rw [hx]
   have H3:=Lib.hid hst
   obtain ⟨c3,c4,f3,f4⟩:=hst.h.cells
   dsimp only at c3 c4
   clear hst hx HH
   go_wp2_with fail
   refine (HSu _).out.mono ?_
   rintro e w2 ⟨rfl,hf⟩
   have H4:=Lib.hid (H3.out.fr hf)
   clear c3 c4 f3 f4 hf H3 HSu
   have H5:=Lib.hid (H4.out.setS HM.out)
   obtain ⟨c3,c4,f3,f4⟩:=H4.out.h.cells
   dsimp only at c3 c4 H5
   rw [HO.out,if_pos rfl] at HD
   generalize subS (s,t) d=s' at *
   obtain ⟨s1,t1⟩:=s'
   dsimp only at H5
   go_wp2_with fail
   go_ret
   exact ⟨by rw [HO.out];rfl,F1,by rw [HD.out];exact H5.out.h,H5.out.t⟩
structure HM (w0:World) (F0:List Nat) (w:World) (B:Nat) (x:HS) (F:List Nat) (Bt:Nat) (k m:Int):Prop where
 h:HT w0 F0 w B x F
 b:Bk w Bt #[.int .i64 k,.int .i64 m] TC
 n:Bt∉F
theorem HM.fr {w w' w0:World} {B:Nat} {x:HS} {F F0:List Nat} {Bt:Nat} {k m:Int} (h:HM w0 F0 w B x F Bt k m) (hf:Fr (fun _=>False) w w'):HM w0 F0 w' B x F Bt k m:=⟨h.h.fr hf,h.b.frF hf,h.n⟩
theorem HM.add {w w0:World} {B:Nat} {x:HS} {F F0:List Nat} {Bt:Nat} {k m:Int} (h:HM w0 F0 w B x F Bt k m) (sz:x.1.length<144115188075855871):
  Calls prog 219 #[.pointer (some ⟨B,0,none⟩),.int .i64 k,.int .i64 m] w fun e w'=>e=.returned (.bool (okA m x.1))∧∃F',HM w0 F0 w' B (addL k m x.1,x.2) F' Bt k m:=by
 refine (h.h.h.ht.bagAdd k m sz).mono ?_
 rintro e w' ⟨he,F',hb⟩
 exact ⟨he,F',h.h.to hb.h hb.t,h.b.fr hb.t.fr (fun b hb'=>by simp at hb';subst hb';exact h.n),fun hx=>by
  rcases (hb.t.sub Bt hx).1 with e|e
  ·exact h.n e
  ·have:=lt_of_heap h.b;omega⟩
theorem m4 {ops:Array Oper} (hops:Eng.fnOps Tryz.f216 4=ops) (a0:Act) (Q:Exit→Act→World→Prop) (w0:World) (F0:List Nat) (w:World) (B:Nat) (x_:HS) (F:List Nat) (Bt:Nat) (k m:Int) (hst:HM w0 F0 w B x_ F Bt k m) (hlen:x_.1.length<144115188075855871)
  (hn:a0.tmps.size=40) (h_0:a0.tmps.getD 0 undef=.pointer (some ⟨B,0,none⟩)) (h_5:a0.tmps.getD 5 undef=.pointer (some ⟨Bt,0,none⟩))
  (hpost:∀ (x:Nat→Value) (w':World) (F':List Nat),HM w0 F0 w' B (addL k m x_.1,x_.2) F' Bt k m→Q .normal (Eng.setAll a0 [19,20,21,22,23,24,25,26] x) w'):
  (Code.region 4 ops true).wp prog Q a0 w:=by
 simp only [Eng.fnOps,Eng.regOps,Tryz.f216,Option.bind_some,Option.getD_some,Nat.reduceEqDiff,↓reduceIte] at hops
 subst hops
 have HSt:=Lib.hid (hst.fr (Fr.drew _ _))
 refine Eng.regionN [(0,true),(1,true),(2,true),(3,true),(4,true),(5,true),(6,true),(7,false)] (fun w'=>w'.cell? ⟨Bt,0,none⟩=some (.int .i64 k)∧w'.cell? ⟨Bt,1,none⟩=some (.int .i64 m)) (by kernel_rfl) 40 hn (by kernel_rfl) rfl (by kernel_rfl) (⟨HSt.out.b.cell 0,HSt.out.b.cell 1⟩) (fun a b ha hb=>?_)
 subst ha
 have hb0:b 0=.pointer (some ⟨B,0,none⟩):=(hb 0).symm.trans h_0
 have hb5:b 5=.pointer (some ⟨Bt,0,none⟩):=(hb 5).symm.trans h_5
 clear hb h_0 h_5
 have HP:=Lib.hid hpost;have HN:=Lib.hid hn
 clear hpost hn
 iterate 7 (refine Eng.Sch.tk ?_)
 refine Eng.Sch.call rfl rfl (by decide) (by kernel_rfl) ?_ (HSt.out.add hlen) ?_
 ·go_simp
 rintro e w2 ⟨rfl,F2,hT⟩
 have HSt1:=Lib.hid (hT)
 clear hT
 refine ⟨_,rfl,⟨HSt1.out.b.cell 0,HSt1.out.b.cell 1⟩,?_⟩
 refine Eng.Sch.end_ [19,20,21,22,23,24,25,26] HN.out (by kernel_rfl) (by kernel_rfl) ?_
 exact HP.out _ _ _ HSt1.out
theorem addAll_snoc (o L:List (Int × Int)) {k:Nat} (h:k<o.length):addAll (o.take (k+1)) L=addL o[k].1 o[k].2 (addAll (o.take k) L):=by
 unfold addAll;rw [List.take_succ_eq_append_getElem h,List.foldl_append];rfl
theorem addAll_len (o:List (Int × Int)):∀L:List (Int × Int),(addAll o L).length≤L.length+o.length:=by
 induction o with
 |nil=>intro L;exact Nat.le_refl _
 |cons p o ih=>intro L;have h1:=ih (addL p.1 p.2 L);have h2:=addL_len p.1 p.2 L;simp only [addAll,List.foldl_cons,List.length_cons] at *;omega
theorem Merge_of_none (B:Nat) (w:World):Calls prog 216 #[.pointer (some ⟨B,0,none⟩),.pointer none] w fun e w'=>e=.returned (.tuple #[])∧w=w':=by
 go_enter func216,ntmps216
 go_wp2
 refine bodyPost_ret (results_none rfl _ _ _) rfl ?_
 exact ⟨rfl,rfl⟩
theorem Merge_any (B Bo:Nat) (x y:HS) (F Fo:List Nat) (w:World) (h:HB w B x F) (ho:HB w Bo y Fo) (hlen:x.1.length+y.1.length<1000000)
  (hO:∀w' L' F',HT w F w' B (L',x.2) F'→w'.cell? ⟨Bo,3,none⟩=some (.int .i64 y.2.1)∧w'.cell? ⟨Bo,4,none⟩=some (.int .i64 y.2.2)):
  Calls prog 216 #[.pointer (some ⟨B,0,none⟩),.pointer (some ⟨Bo,0,none⟩)] w fun e w'=>e=.returned (.tuple #[])∧∃F',HB w' B (mergeH y x) F'∧Tn F F' w w':=by
 have HBk:=Lib.hid (Buckets Bo y Fo w ho (by omega))
 have HH:=Lib.hid h.ht;have HO:=Lib.hid hO
 have HBo:=fun w=>Lib.hid (both x.2 y.2 h.may ho.may w)
 have HMb:=Lib.hid (h.may.both ho.may)
 have HE:Hid (mergeH y x=(addAll y.1 x.1,bothS x.2 y.2)):=rfl
 generalize mergeH y x=z at *
 clear h ho hO
 obtain ⟨L,s⟩:=x
 obtain ⟨M,u⟩:=y
 dsimp only at *
 generalize bothS s u=v at *
 go_enter func216,ntmps216
 go_wp2_with fail
 refine HBk.out.mono ?_
 rintro e w1 ⟨A,c,rfl,hS,hA,hf⟩
 have HS:=Lib.hid hS;have HA:=Lib.hid hA
 have H1:=Lib.hid (HH.out.fr hf)
 have hFA:Hid (∀a,A=some a→¬a.block∈F):=fun a ha hx=>by have:=(hA a ha).1;have:=HH.out.h.lt _ hx;omega
 have HF:=Lib.hid hf
 clear hS hA hf HBk
 go_wp2_with fail
 go_loopg [5,15] M.length (fun gk _ i wr=>∃ (k:Nat) (F':List Nat),i=.int .i64 k∧k≤M.length∧gk=M.length-k∧HT w1 F wr B (addAll (M.take k) L,s) F')
 case atStart=>exact ⟨0,F,rfl,Nat.zero_le _,rfl,H1.out.h.ht⟩
 case round=>
  obtain ⟨k,F',rfl,hk,hg,hst⟩:=hrel
  have HG:=Lib.hid hg;have HSt:=Lib.hid hst
  clear hg hst
  by_cases hlt:k<M.length
  ·obtain ⟨b1,o1,rfl,hb1,hc1⟩:=HS.out.at hlt (by omega)
   have hkp:∀j,wr.cell? ⟨b1,j,none⟩=w1.cell? ⟨b1,j,none⟩:=fun j=>World.cell?_of_block (w:=w1) (a:=⟨b1,j,none⟩) (HSt.out.t.fr.block b1 hb1 (hFA.out _ rfl))
   have e0:wr.cell? ⟨b1,o1+k*2,none⟩=some (.int .i64 M[k].1):=(hkp _).trans (hc1 (k*2) _ (by rw [←Nat.add_zero (k*2),flat_at pc_len hlt (by omega)];rfl))
   have e1:wr.cell? ⟨b1,o1+k*2+1,none⟩=some (.int .i64 M[k].2):=(hkp _).trans (hc1 (k*2+1) _ (by rw [flat_at pc_len hlt (by omega)];rfl))
   have HSn:=Lib.hid (addAll_snoc M L hlt)
   have hl:=addAll_len (M.take k) L
   have hl2:(M.take k).length≤M.length:=by simp;omega
   generalize M[k]=p at *
   obtain ⟨kk,mm⟩:=p
   dsimp only at e0 e1 HSn
   have HM1:Hid (HM w1 F (wr.alloc (.cells #[.int .i64 kk,.int .i64 mm] TC)) B (addAll (M.take k) L,s) F' wr.heap.size kk mm):=⟨HSt.out.fr (Fr.alloc _ _ _),Bk.new _ _ _,fun hx=>by have:=HSt.out.h.lt _ hx;omega⟩
   have hl3:(addAll (M.take k) L).length<144115188075855871:=by omega
   clear hc1 hkp hl hl2
   generalize addAll (M.take k) L=L1 at *
   go_upto_region 4 with (fail)
   clear e0 e1
   refine m4 (by kernel_rfl) _ _ w1 F _ B (L1,s) F' wr.heap.size kk mm HM1.out hl3 rfl rfl rfl ?_
   intro y2 w2 F2 hst
   simp only [Eng.setAll,Act.put,List.setIfInBounds_toArray,List.set_cons_succ,List.set_cons_zero]
   have H2:=Lib.hid hst.h
   clear hst
   go_wp2_with fail
   go_roundg (M.length-(k+1))
   case rel=>exact ⟨k+1,F2,by go_num,by omega,rfl,by rw [HSn.out];exact H2.out⟩
   case measure=>have:=HG.out;omega
  ·obtain rfl:k=M.length:=by omega
   rw [List.take_length] at HSt
   have hT:Tn F F' w wr:=(Tn.of_fr HF.out HH.out.h.lt).trans HSt.out.t
   obtain ⟨c3,c4⟩:=HO.out wr (addAll M L) F' ⟨HSt.out.h,hT⟩
   obtain ⟨d3,d4,f3,f4⟩:=HSt.out.h.cells
   dsimp only at d3 d4
   have HKp:Hid (∀w2,Fr (fun _=>False) wr.drew w2→HB w2 B (addAll M L,s) F'∧Tn F F' w w2):=fun w2 hf=>⟨HSt.out.h.fr ((Fr.drew _ _).to hf) (fun _ _ h=>h),hT.trans (Tn.of_fr ((Fr.drew _ _).to hf) HSt.out.h.lt)⟩
   clear hT HS HA hFA H1 HH HO
   generalize addAll M L=L1 at *
   obtain ⟨s1,s2⟩:=s
   obtain ⟨u1,u2⟩:=u
   obtain ⟨v1,v2⟩:=v
   dsimp only at d3 d4 c3 c4
   go_upto_region 6 with (fail)
   go_region_with (first| (go_at_call 258;refine (HBo _).out.mono ?_;rintro e w2 ⟨rfl,hf⟩;obtain ⟨q3,q4,p3,p4⟩:=(HKp.out _ hf).1.cells;dsimp only at q3 q4))
   all_goals
    have H3:=Lib.hid ((HKp.out _ hf).1.setS HMb.out);have H4:=Lib.hid (HKp.out _ hf).2
    clear hf
    go_wp2_with fail
    go_end0
    exact ⟨rfl,F',by rw [HE.out];exact H3.out.1,H4.out.trans H3.out.2⟩
theorem Merge (B Bo:Nat) (x y:HS) (F Fo:List Nat) (w:World) (h:HB w B x F) (ho:HB w Bo y Fo) (hlen:x.1.length+y.1.length<1000000) (hd:∀b∈Fo,¬b∈F):
  Calls prog 216 #[.pointer (some ⟨B,0,none⟩),.pointer (some ⟨Bo,0,none⟩)] w fun e w'=>e=.returned (.tuple #[])∧∃F',HB w' B (mergeH y x) F'∧Tn F F' w w':=
 Merge_any B Bo x y F Fo w h ho hlen (fun w' L' F' ht=>by
  have:=(ho.fr ht.t.fr hd).cells
  exact ⟨this.1,this.2.1⟩)
end Hist
set_option maxRecDepth 100000
set_option maxHeartbeats 1000000
open Go.RowKit Go.Shelf
namespace Hist
open HistP BagP Bag Wide Bucket
attribute [local go_sem] Oper.semAt_some
theorem findQ_app (r:Int) (A B:List (Int × Int)) (h:findQ r A=none):findQ r (A++B)=findQ (r-sumL A) B:=by
 induction A generalizing r with
 |nil=>simp [sumL]
 |cons p A ih=>
  obtain ⟨k,m⟩:=p
  unfold findQ at h
  rw [List.cons_append]
  conv=>lhs;unfold findQ
  by_cases hr:r≤m
  ·rw [if_pos hr] at h;cases h
  ·rw [if_neg hr] at h ⊢
   rw [ih _ h,show sumL ((k,m)::A)=m+sumL A by simp [sumL],Int.sub_sub]
theorem findQ_pre {r k:Int} {A L:List (Int × Int)} (h:findQ r A=some k) (hp:A<+:L):findQ r L=some k:=by
 obtain ⟨B,rfl⟩:=hp
 induction A generalizing r with
 |nil=>cases h
 |cons p A ih=>
  obtain ⟨k',m⟩:=p
  unfold findQ at h
  rw [List.cons_append]
  unfold findQ
  by_cases hr:r≤m
  ·rw [if_pos hr] at h ⊢;exact h
  ·rw [if_neg hr] at h ⊢;exact ih h
theorem sum_pre {A L:List (Int × Int)} (hp:A<+:L) (hP:Pos L):0≤sumL A∧sumL A≤sumL L:=by
 obtain ⟨B,rfl⟩:=hp
 have h1:Pos A:=fun p h=>hP p (by simp [h])
 have h2:Pos B:=fun p h=>hP p (by simp [h])
 have:=(h1.cnt 0).2.2
 have:=(h2.cnt 0).2.2
 rw [sumL_append];omega
theorem Quantile_none (p:Int) (w:World):Calls prog 100 #[.pointer none,.int .i64 p] w fun e w'=>e=.returned (bv (0,0,false))∧w=w':=by
 have HL:=Lib.hid (Len_none w)
 go_enter func100,ntmps100
 go_wp2_with fail
 go_step3
 go_wp2_with fail
 refine HL.out.mono ?_
 rintro e w1 ⟨rfl,rfl⟩
 go_wp2_with fail
 rw [Exit.noGoto_ret]
 go_ret3
 exact ⟨rfl,rfl⟩
structure QI (w:World) (Bl Ba:Nat) (W:World) (r k:Int):Prop where
 l:Bk W Bl #[.int .i64 r] TI
 a:Bk W Ba #[.int .i64 k] TI
 f:Fr (fun _=>False) w W
theorem QI.frR {w W W':World} {Bl Ba lo hi:Nat} {r k:Int} (h:QI w Bl Ba W r k) (hf:Fr (Rg lo hi) W W') (h1:Bl<lo) (h2:Ba<lo) (h3:w.heap.size≤lo):QI w Bl Ba W' r k:=
 ⟨h.l.fr hf (fun b hb hr=>by simp at hb;subst hb;have:=hr.1;omega),h.a.fr hf (fun b hb hr=>by simp at hb;subst hb;have:=hr.1;omega),h.f.trans hf (fun _ _ h=>h) (fun i hi hr=>by have:=hr.1;omega)⟩
def lastK (pre:List (Int × Int)):Int:=(pre.getLast?.map (·.1)).getD 0
theorem Quantile (B:Nat) (p:Int) (x:HS) (F:List Nat) (w:World) (h:HB w B x F):Calls prog 100 #[.pointer (some ⟨B,0,none⟩),.int .i64 p] w fun e w'=>e=.returned (bv (quant x p))∧Fr (fun _=>False) w w':=by
 have HL:=Lib.hid (Len B x F w h)
 have hok:=h.ok
 have hs0:=(hok.pos.cnt 0).2.2
 by_cases hz:sumL x.1=0
 ·have HE:Hid (quant x p=(0,0,false)):=by
   show _=_
   have hnil:x.1= []:=by
    cases hx:x.1 with
    |nil=>rfl
    |cons q t=>
     exfalso
     have h1:=hok.pos q (by rw [hx];simp)
     have h2:Pos t:=fun q hq=>hok.pos q (by rw [hx];simp [hq])
     have h3:=(h2.cnt 0).2.2
     rw [hx] at hz
     simp [sumL] at hz
     omega
   unfold quant;rw [hnil];rfl
  rw [hz] at HL
  clear h hok hs0 hz
  go_enter func100,ntmps100
  go_wp2_with fail
  go_step3
  go_wp2_with fail
  refine HL.out.mono ?_
  rintro e w1 ⟨rfl,rfl⟩
  go_wp2_with fail
  rw [Exit.noGoto_ret]
  go_ret3
  exact ⟨by rw [HE.out];rfl,Fr.refl _ _⟩
 ·have hn1:1≤sumL x.1:=by omega
  have hmost:=hok.most
  have HRk:=Lib.hid (rank (sumL x.1) p w hs0 hmost)
  have hr:=rank_rng (p:=p) hn1
  obtain ⟨kq,hkq⟩:=findQ_some hr.1 hr.2
  have HE:Hid (quant x p=bnd kq):=by show _=_;unfold quant;rw [hkq]
  have HKq:=Lib.hid hkq
  have t0:(sumL x.1==0)=false:=by simpa using hz
  obtain ⟨G,hM,hGF⟩:=h.mapP
  have HPos:=Lib.hid hok.pos
  have hGlt:Hid (∀b∈G,b<w.heap.size):=fun b hb=>h.lt b (hGF b hb)
  have HM:=Lib.hid hM
  clear h hok hz hkq hM hGF
  obtain ⟨L,s⟩:=x
  dsimp only at *
  generalize hrr:HistP.rank (sumL L) p=r at *
  clear hrr
  have HAll:=fun w=>Lib.hid (Bag.All B 0 w)
  refine (callsIn_wide (n:=3)).1 ?_
  refine callsIn_of_wp_marks func100 rfl trivial ?_ rfl
  simp only [ntmps100,List.size_toArray,List.length_cons,List.length_nil,Nat.reduceAdd,Nat.reduceSub,Array.replicate_succ,Array.replicate_zero,List.push_toArray,List.append_toArray,List.nil_append,List.cons_append]
  refine wpIn_wide.2 ?_
  go_wp2_with fail
  go_step3
  go_wp2_with fail
  refine HL.out.mono ?_
  rintro e w1 ⟨rfl,rfl⟩
  go_wp2_with fail
  refine HL.out.mono ?_
  rintro e w1 ⟨rfl,rfl⟩
  go_wp2_with fail
  refine HRk.out.mono ?_
  rintro e w1 ⟨rfl,rfl⟩
  go_wp2_with fail
  go_step3
  go_wp2_with fail
  refine (HAll _).out.mono ?_
  rintro e w1 ⟨rfl,rfl⟩
  go_wp2_with fail
  have hq0:QI w w.heap.size (w.heap.size+1) (((w.alloc (.cells #[.int .i64 r] TI)).alloc (.cells #[.int .i64 0] TI)).alloc (.cells #[.pointer (some ⟨B,0,none⟩)] 270)) r 0:=by
   have b2:=(Bk.new (w.alloc (.cells #[.int .i64 r] TI)) #[.int .i64 0] TI).frF (Fr.alloc _ _ (.cells #[.pointer (some ⟨B,0,none⟩)] 270))
   rw [World.size_alloc] at b2
   exact ⟨((Bk.new w _ _).frF (Fr.alloc _ _ _)).frF (Fr.alloc _ _ _),b2,((Fr.alloc _ _ _).to (Fr.alloc _ _ _)).to (Fr.alloc _ _ _)⟩
  have hcc:(((w.alloc (.cells #[.int .i64 r] TI)).alloc (.cells #[.int .i64 0] TI)).alloc (.cells #[.pointer (some ⟨B,0,none⟩)] 270)).cell? ⟨w.heap.size+1+1,0,none⟩=some (.pointer (some ⟨B,0,none⟩)):=by
   have:=(Bk.new ((w.alloc (.cells #[.int .i64 r] TI)).alloc (.cells #[.int .i64 0] TI)) #[.pointer (some ⟨B,0,none⟩)] 270).cell 0
   simpa using this
  have hsz0:(((w.alloc (.cells #[.int .i64 r] TI)).alloc (.cells #[.int .i64 0] TI)).alloc (.cells #[.pointer (some ⟨B,0,none⟩)] 270)).heap.size=w.heap.size+3:=by simp
  have hM0:=HM.out.below (hq0.f.below (Nat.le_refl _) (fun _ _ h=>h))
  generalize ((w.alloc (.cells #[.int .i64 r] TI)).alloc (.cells #[.int .i64 0] TI)).alloc (.cells #[.pointer (some ⟨B,0,none⟩)] 270)=W0 at *
  have HS0:=Lib.hid hsz0;have HQ0:=Lib.hid hq0
  clear hsz0 HM HL HRk HAll hq0
  refine (wpIn_wide (n:=3)).1 ?_
  refine range_P' (n:=3) (a₁:=?fr) (gf:=271) (lb:= #[.pointer (some ⟨w.heap.size+1+1,0,none⟩)]) rfl (enters_of func271 (by kernel_rfl) rfl)
   (AvlII.All_seq G (w.heap.size+1+1) (some ⟨B,0,none⟩) L G W0 hcc (by have:=HS0.out;omega) hM0 (fun _ h=>h)) (fun b hb=>by have:=hGlt.out b hb;have:=HS0.out;omega) (fun _=>rfl)
   (fun (pre:List (Int × Int)) (W:World)=>QI w w.heap.size (w.heap.size+1) W (r-sumL pre) (lastK pre)∧findQ r pre=none)
   (fun k (pre:List (Int × Int)) (W:World)=>k=.exit 0∧∃kk r',QI w w.heap.size (w.heap.size+1) W r' kk∧findQ r pre=some kk)
   (fun pre A B h hf=>⟨h.1.frR hf (by have:=HS0.out;omega) (by have:=HS0.out;omega) (by have:=HS0.out;omega),h.2⟩)
   (fun k pre A B h hf=>⟨h.1,h.2.imp fun kk h=>h.imp fun r' h=>⟨h.1.frR hf (by have:=HS0.out;omega) (by have:=HS0.out;omega) (by have:=HS0.out;omega),h.2⟩⟩)
   ⟨by simpa [sumL,lastK] using HQ0.out,rfl⟩ ?assign ?body ?done ?stop
  case assign=>
   intro l m x W K hK
   gi_wp2
   exact hK
  case body=>
   rintro l m pre x W ⟨hI,hno⟩ hsz hpre rfl _ _
   (try dsimp only)
   obtain ⟨xk,xm⟩:=x
   have hs1:=sum_pre hpre HPos.out
   have hs2:=sum_pre (List.IsPrefix.trans (List.prefix_append _ _) hpre) HPos.out
   have hsn:sumL (pre++ [(xk,xm)])=sumL pre+xm:=by rw [sumL_append];simp [sumL]
   have HF:=Lib.hid (findQ_app r pre [(xk,xm)] hno)
   have HSn:=Lib.hid hsn
   rw [hsn] at hs1
   have HLk:Hid (lastK (pre++ [(xk,xm)])=xk):=by show _=_;simp [lastK]
   have cl0:W.cell? ⟨w.heap.size,0,none⟩=some (.int .i64 (r-sumL pre)):=hI.l.cell 0
   have ca0:W.cell? ⟨w.heap.size+1,0,none⟩=some (.int .i64 (lastK pre)):=hI.a.cell 0
   have fl0:=hI.l.free 0
   have fa0:=hI.a.free 0
   have HI:=Lib.hid hI
   clear hsn hno hI
   generalize hsp:sumL pre=sp at *
   clear hsp
   have hW:Hid (∀u v:Value,Fr (fun k=>k=w.heap.size∨k=w.heap.size+1) W ((W.setCell ⟨w.heap.size+1,0,none⟩ u).setCell ⟨w.heap.size,0,none⟩ v)):=fun u v=>
    (Fr.setCell W ⟨w.heap.size+1,0,none⟩ u (S:=fun k=>k=w.heap.size∨k=w.heap.size+1) (.inr rfl)).trans (Fr.setCell _ ⟨w.heap.size,0,none⟩ v (S:=fun k=>k=w.heap.size∨k=w.heap.size+1) (.inl rfl)) (fun _ _ h=>h) (fun _ _ h=>h)
   have HQ:Hid (∀u v:Int,QI w w.heap.size (w.heap.size+1) ((W.setCell ⟨w.heap.size+1,0,none⟩ (.int .i64 u)).setCell ⟨w.heap.size,0,none⟩ (.int .i64 v)) v u):=fun u v=>
    ⟨(HI.out.l.other (a:=⟨w.heap.size+1,0,none⟩) (by simp) _).set 0 _,(HI.out.a.set 0 _).other (a:=⟨w.heap.size,0,none⟩) (by simp) _,(HI.out.f.set_new (by simp) _).set_new (by simp) _⟩
   by_cases hle:r-sp-xm≤0
   ·have HFd:Hid (findQ r (pre++ [(xk,xm)])=some xk):=by show _=_;rw [HF.out];unfold findQ;rw [if_pos (by omega)]
    gi_wp2
    have hs3:=HS0.out
    refine ⟨KeptR.of_fr (hW.out _ _) hsz (fun b hr h=>by have:=hr.1;omega),(hW.out _ _).size,rfl,_,_,HQ.out _ _,HFd.out⟩
   ·have HFd:Hid (findQ r (pre++ [(xk,xm)])=none):=by show _=_;rw [HF.out];unfold findQ;rw [if_neg (by omega)];rfl
    gi_wp2
    have hs3:=HS0.out
    refine ⟨KeptR.of_fr (hW.out _ _) hsz (fun b hr h=>by have:=hr.1;omega),(hW.out _ _).size,KeptL.of_fr (hW.out _ _) (fun b hb=>⟨by have:=hGlt.out b hb;omega,fun h=>by have:=hGlt.out b hb;omega⟩),?_,HFd.out⟩
    rw [HSn.out,HLk.out,←Int.sub_sub]
    exact HQ.out _ _
  case done=>
   rintro W hsz ⟨hI,hno⟩ hK
   have:=HKq.out
   rw [hno] at this
   cases this
  case stop=>
   rintro k pre W hsz hpre ⟨rfl,kk,r',hI,hfd⟩ hK
   have hkk:kk=kq:=by
    have h1:=findQ_pre hfd hpre
    rw [HKq.out] at h1
    cases h1;rfl
   subst hkk
   have ca0:W.cell? ⟨w.heap.size+1,0,none⟩=some (.int .i64 kk):=hI.a.cell 0
   have HI:=Lib.hid hI;have HK:=Lib.hid hK
   clear hI hK hfd hcc hM0
   have HBo:=Lib.hid (Bucket.Bounds kk W)
   refine (wpIn_wide (n:=3)).2 ?_
   go_wp2_with fail
   refine HBo.out.mono ?_
   rintro e w2 ⟨rfl,rfl⟩
   generalize bnd kk=bb at *
   obtain ⟨b1,b2,b3⟩:=bb
   go_wp2_with fail
   rw [Exit.noGoto_ret]
   refine ⟨by simp,.inl ⟨_,_,rfl,run_takeDeferred HK.out,?_⟩⟩
   have hs1:=HS0.out
   have hf:=Fr.putObj W W0.heap.size (.deferred none) (S:=(· =W0.heap.size)) rfl
   exact ⟨bv (b1,b2,b3),by simp [results,Tryz.results100,go_sem],by rw [HE.out],HI.out.f.trans hf (fun _ _ h=>h) (fun i hi e=>by omega)⟩
end Hist
end Go.Proofs.YtdpngmgaomghoaaGreat
