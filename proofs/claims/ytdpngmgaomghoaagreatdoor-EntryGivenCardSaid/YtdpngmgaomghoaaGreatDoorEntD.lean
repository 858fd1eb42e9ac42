/- The traces of an entry, given in order: the program's. -/
import Derived.Test.YtdpngmgaomghoaaGreatDoorEntB
namespace Go.Proofs.YtdpngmgaomghoaaGreatDoor
open Tryz
set_option maxRecDepth 100000
set_option maxHeartbeats 4000000
open Go.RowKit Go.Shelf
namespace Ent
open BagP KeyP EntP OpsP PackP SetP SetW SetF Sli Name Pack Delta
attribute [local go_sem] Eng.ev Eng.getO_cons Eng.getO_nil
attribute [local go_sem] Oper.semAt_some
abbrev TYi:TypeId:=78
abbrev TVp:TypeId:=29
theorem roundIn_in {m l l2:Nat} {P:Program} {fn:FuncId} {tmps:Array Value} {assign body:Code} {W:World} {R:Ending→World→Prop} (h:RoundIn Fence.wide m P l fn tmps assign body W R):RoundIn (Fence.wide.inRound l2) m P l fn tmps assign body W R:=h
structure Gw (w0 w:World) (m:Nat):Prop where
 f:Fr (fun _=>False) w0 w
 z:w.heap.size=w0.heap.size+m
theorem Gw.to {w0 w w':World} {m n:Nat} (h:Gw w0 w m) (hf:Fr (fun _=>False) w w') (hz:w'.heap.size=w.heap.size+n):Gw w0 w' (m+n):=⟨h.f.trans hf (fun _ _ h=>h) (fun _ _ h=>h),by rw [hz,h.z];omega⟩
theorem Gw.cell {w0 w:World} {m:Nat} (h:Gw w0 w m) {b o:Nat} {u:Value} (hc:w0.cell? ⟨b,o,none⟩=some u):w.cell? ⟨b,o,none⟩=some u:=
 (World.cell?_of_block (w:=w0) (a:=⟨b,o,none⟩) (h.f.block b (World.block_lt_of_cell? w0 ⟨b,o,none⟩ hc) (fun h=>h))).trans hc
theorem pre_run {α:Type} {p:α→Bool}:∀ {L:List α} {m:Nat},(∀y∈L.take m,p y=true)→L.take m<+:L.takeWhile p
 | [],m,_=>by simp
 |a::L,0,_=>by simp
 |a::L,m+1,h=>by
  rw [List.take_succ_cons,List.takeWhile_cons,h a (by simp),if_pos rfl]
  exact (List.prefix_cons_inj a).2 (pre_run (fun y hy=>h y (by simp [hy])))
theorem run_stop {α:Type} {p:α→Bool}:∀ {L:List α} {m:Nat},(∀y∈L.take m,p y=true)→(∀h:m<L.length,p L[m]=false)→L.takeWhile p=L.take m
 | [],m,_,_=>by simp
 |a::L,0,_,h=>by rw [List.takeWhile_cons,show p a=false from h (by simp)];simp
 |a::L,m+1,h,h2=>by
  rw [List.take_succ_cons,List.takeWhile_cons,h a (by simp),if_pos rfl,run_stop (L:=L) (m:=m) (fun y hy=>h y (by simp [hy])) (fun hm=>h2 (by simpa using hm))]
theorem geL_keys {V:Cv} {K:List Tk} (h:V.map (·.1)=K.map ek) (f:ByteArray):(geL f V).map (·.1)=(K.filter (fun k=> !Ord.lt (ek k) f)).map ek:=by
 have h1:(V.map (·.1)).filter (fun b=> !Ord.lt b f)=(K.map ek).filter (fun b=> !Ord.lt b f):=by rw [h]
 rw [List.filter_map,List.filter_map] at h1
 exact h1
abbrev isn (n:Nm):Tk→Bool:=fun k=>decide (k.1=n)
structure TK (J:List Int→World→Prop) (N l:Nat) (n:Nm) (G:List Tk) (m:Nat) (W:World):Prop where
 j:J ((G.take m).map (·.2)) W
 a:∀k∈G.take m,isn n k=true
 y:Bk W N #[.func (.yield l) #[] #[]] TYi
 s:Bk W (N+1) #[.string (fst n)] TSt
 sz:N+4≤W.heap.size
theorem TK.fr {J:List Int→World→Prop} {N l:Nat} {n:Nm} {G:List Tk} {m:Nat} {W W':World} {S:Nat→Prop} (h:TK J N l n G m W) (hJ:Abide N (N+6) J) (hf:Fr S W W') (hS:∀b,b<W.heap.size→S b→Rg N (N+6) b) (h1:¬S N) (h2:¬S (N+1)):TK J N l n G m W':=
 ⟨hJ _ _ _ h.j (hf.mono hS),h.a,h.y.fr hf (fun b hb=>by simp at hb;subst hb;exact h1),h.s.fr hf (fun b hb=>by simp at hb;subst hb;exact h2),Nat.le_trans h.sz hf.size⟩
def TX (J Jx:List Int→World→Prop) (N:Nat) (LL:List Int) (k:Code) (A:World):Prop:=(k=.exit 0∧(J LL A∨∃q,q<+:LL∧Jx q A))∧N+4≤A.heap.size
theorem TX.fr {J Jx:List Int→World→Prop} {N:Nat} {LL:List Int} {k:Code} {A C:World} {S:Nat→Prop} (h:TX J Jx N LL k A) (hJ:Abide N (N+6) J) (hJx:Abide N (N+6) Jx) (hf:Fr S A C) (hS:∀b,b<A.heap.size→S b→Rg N (N+6) b):TX J Jx N LL k C:=by
 obtain ⟨⟨rfl,h1⟩,h2⟩:=h
 refine ⟨⟨rfl,?_⟩,Nat.le_trans h2 hf.size⟩
 rcases h1 with h1| ⟨q,h3,h4⟩
 ·exact .inl (hJ _ _ _ h1 (hf.mono hS))
 ·exact .inr ⟨q,h3,hJx _ _ _ h4 (hf.mono hS)⟩
theorem Traces_seq (FP:List Nat) (B Bs Bo Bx:Nat) (V:Cv) (M:List Nat) (K:List Tk) (s o:ByteArray) (w:World) (hM:AvlSI.MapP w (some ⟨B,0,none⟩) V M) (hVK:V.map (·.1)=K.map ek) (hKs:K.Pairwise (fun a b=>ltT a b=true)) (hKz:∀k∈K,nzK k) (hs:Bk w Bs #[.string s] TSt) (ho:Bk w Bo #[.string o] TSt) (hx:Bk w Bx #[.pointer (some ⟨B,0,none⟩)] TVp) (hl:s.size+o.size≤1000000) (hF:∀b∈M,b∈FP) (hFP:∀b∈FP,b<w.heap.size):
  SeqP prog 37 #[.pointer (some ⟨Bs,0,none⟩),.pointer (some ⟨Bo,0,none⟩),.pointer (some ⟨Bx,0,none⟩)] (fun t:Int=> #[.int .i64 t]) FP 6 ((K.filter (isn (s,o))).map (·.2)) w:=by
 intro n l J Jx W hW hJ hJx hY h0
 have hfw:=Fr.of_below' hW (fun _=>False)
 have hs:=hs.fr hfw (fun _ _ h=>h)
 have ho:=ho.fr hfw (fun _ _ h=>h)
 have hx:=hx.fr hfw (fun _ _ h=>h)
 have hM:=hM.below hW
 have hFP:∀b∈FP,b<W.heap.size:=fun b hb=>Nat.lt_of_lt_of_le (hFP b hb) hfw.size
 have run1:=geL_keys hVK (fst (s,o))
 have run2:=from_take hKs hKz (s,o)
 have hGz:∀k∈K.filter (fun k=> !Ord.lt (ek k) (fst (s,o))),nzK k:=fun k hk=>hKz k (List.mem_filter.1 hk).1
 clear hfw hW hVK hKs hKz
 generalize K.filter (fun k=> !Ord.lt (ek k) (fst (s,o)))=G at *
 rw [←run2] at hY ⊢
 clear run2
 generalize hLs:(G.takeWhile (fun k=>decide (k.1=(s,o)))).map (·.2)=LL at *
 have hseq0:=fun W1 (Bm Bf:Nat) h1 h2 h3 h4 h5=>AvlSI.From_seq (Bf::M) Bm Bf (fst (s,o)) (some ⟨B,0,none⟩) V M W1 h1 h2 h3 h4 (by simp) h5 (fun b hb=>by simp [hb])
 obtain ⟨VG,hVG⟩:∃VG,geL (fst (s,o)) V=VG:=⟨_,rfl⟩
 rw [hVG] at run1 hseq0
 have HSeq:=Lib.hid hseq0
 have HLs:=Lib.hid hLs;have HRun:=Lib.hid run1;have HGz:=Lib.hid hGz
 clear hLs run1 hGz hVG hseq0
 have HM:=Lib.hid hM;have HFP:=Lib.hid hFP;have HF:=Lib.hid hF;have HY:=Lib.hid hY;have HJ:=Lib.hid hJ;have HJx:=Lib.hid hJx;have H0:=Lib.hid h0
 have HF1:=fun W=>Lib.hid (first_ s o W hl)
 have HFr:=fun W=>Lib.hid (from_ B (fst (s,o)) W)
 have HBx:=Lib.hid hx
 have c1:=hs.cell 0;have c2:=ho.cell 0
 clear hM hFP hF hY hJ hJx h0 hs ho hx
 refine callsIn_of_wp_marks func37 rfl trivial ?_ rfl
 simp only [ntmps37,List.size_toArray,List.length_cons,List.length_nil,Nat.reduceAdd,Nat.reduceSub,Array.replicate_succ,Array.replicate_zero,List.push_toArray,List.append_toArray,List.nil_append,List.cons_append]
 refine wpIn_wide.2 ?_
 go_wp2_with fail
 go_step3
 have hV:Gw W (W.alloc (.cells #[.func (.yield l) #[] #[]] TYi)) 1:=⟨Fr.alloc _ _ _,by simp⟩
 have hy0:=Bk.new W #[.func (.yield l) #[] #[]] TYi
 generalize W.alloc (.cells #[.func (.yield l) #[] #[]] TYi)=Va at *
 have c1v:=hV.cell c1;have c2v:=hV.cell c2
 go_wp2_with fail
 refine (HF1 _).out.mono ?_
 rintro e w1 ⟨rfl,rfl⟩
 clear HF1 c1v c2v c1 c2
 go_wp2_with fail
 go_step3
 have hvz:=hV.z
 have hVb:Gw W (w1.alloc (.cells #[.string (fst (s,o))] TSt)) 2:=hV.to (n:=1) (Fr.alloc _ _ _) (by simp)
 have hs1:=Bk.new w1 #[.string (fst (s,o))] TSt
 have hy1:=hy0.fr (Fr.alloc (fun _=>False) w1 (.cells #[.string (fst (s,o))] TSt)) (fun _ _ h=>h)
 rw [hvz] at hs1 ⊢
 generalize w1.alloc (.cells #[.string (fst (s,o))] TSt)=Vb at *
 have cx:Vb.cell? ⟨Bx,0,none⟩=some (.pointer (some ⟨B,0,none⟩)):=hVb.cell (HBx.out.cell 0)
 have cst:Vb.cell? ⟨W.heap.size+1,0,none⟩=some (.string (fst (s,o))):=hs1.cell 0
 clear hvz hy0 hV
 go_wp2_with fail
 refine (HFr _).out.mono ?_
 rintro e w2 ⟨rfl,hw2⟩
 have hbz:=hVb.z
 have fa:=Fr.alloc (fun _=>False) Vb (.cells #[.pointer (some ⟨B,0,none⟩)] 88)
 have fb:=Fr.alloc (fun _=>False) (Vb.alloc (.cells #[.pointer (some ⟨B,0,none⟩)] 88)) (.cells #[.string (fst (s,o))] TSt)
 have fc:=fa.trans fb (T:=fun _=>False) (fun _ _ h=>h) (fun _ _ h=>h)
 have hm2:=(Bk.new Vb #[.pointer (some ⟨B,0,none⟩)] 88).fr fb (fun _ _ h=>h)
 have hf2:=Bk.new (Vb.alloc (.cells #[.pointer (some ⟨B,0,none⟩)] 88)) #[.string (fst (s,o))] TSt
 have hz2:((Vb.alloc (.cells #[.pointer (some ⟨B,0,none⟩)] 88)).alloc (.cells #[.string (fst (s,o))] TSt)).heap.size=Vb.heap.size+2:=by simp
 rw [World.size_alloc] at hf2
 rw [←hw2] at fc hm2 hf2 hz2
 have hG4:Gw W w2 4:=hVb.to fc hz2
 have hy2:=hy1.fr fc (fun _ _ h=>h)
 have hs2:=hs1.fr fc (fun _ _ h=>h)
 rw [hbz] at hm2 hf2 ⊢
 clear hw2 hz2 fa fb fc hy1 hs1 hbz cx cst HFr HBx hVb
 have n4:w2.heap.size=W.heap.size+4:=hG4.z
 have HN:=Lib.hid n4
 have HM2:=Lib.hid (HM.out.below (hG4.f.below (Nat.le_refl _) (fun _ _ h=>h)))
 have HJ1:Hid (J [] w2):=HJ.out _ _ _ H0.out (hG4.f.mono (fun _ _ h=>h.elim))
 have HY2:=Lib.hid hy2;have HS2:=Lib.hid hs2
 have hseq:=HSeq.out w2 (W.heap.size+2) (W.heap.size+2+1) (hm2.cell 0) (by omega) (hf2.cell 0) (by omega) HM2.out
 clear hm2 hf2 hy2 hs2 hG4 n4 HSeq HM H0
 go_wp2_with fail
 refine (wpIn_wide (n:=n)).1 ?_
 refine range_P' (n:=n) (a₁:=?fr) (gf:=72) (lb:= #[.pointer (some ⟨W.heap.size+2,0,none⟩),.pointer (some ⟨W.heap.size+2+1,0,none⟩)]) rfl (enters_of func72 (by kernel_rfl) rfl)
  hseq (fun b hb=>by
   rcases List.mem_cons.1 hb with rfl|hb
   ·have:=HN.out;omega
   ·have:=HFP.out b (HF.out b hb);have:=HN.out;omega) (fun _=>rfl)
  (fun (pre:Cv) (A:World)=>TK J W.heap.size l (s,o) G pre.length A)
  (fun k (_:Cv) (A:World)=>TX J Jx W.heap.size LL k A)
  (fun pre A C hA hf=>hA.fr HJ.out hf (fun b _ hb=>⟨by have:=hb.1;have:=HN.out;omega,by have:=hb.2;have:=HN.out;omega⟩) (fun hb=>by have:=hb.1;have:=HN.out;omega) (fun hb=>by have:=hb.1;have:=HN.out;omega))
  (fun k pre A C hA hf=>hA.fr HJ.out HJx.out hf (fun b _ hb=>⟨by have:=hb.1;have:=HN.out;omega,by have:=hb.2;have:=HN.out;omega⟩))
  ⟨by simpa using HJ1.out,by simp,HY2.out,HS2.out,by have:=HN.out;omega⟩ ?assign ?body ?done ?stop
 case assign=>
  intro l m x W9 K hK
  gi_wp2
  exact hK
 case body=>
  rintro l2 m pre x W2 hI hsz hpre rfl ⟨r,hl⟩ hd
  (try dsimp only)
  have hlen:VG.length=G.length:=by have:=congrArg List.length HRun.out;simpa using this
  have hlt:pre.length<G.length:=by have:=hpre.length_le;rw [List.length_append,List.length_singleton] at this;omega
  have hx:x.1=ek G[pre.length]:=by
   obtain ⟨t',ht'⟩:=hpre
   have h1:VG[pre.length]? =some x:=by rw [←ht'];simp
   have h2:=congrArg (fun l=>l[pre.length]?) HRun.out
   simp only [List.getElem?_map,h1,List.getElem?_eq_getElem hlt,Option.map_some,Option.some.injEq] at h2
   exact h2
  have HI:=Lib.hid hI;have HSz:=Lib.hid hsz
  have HTk:=Lib.hid (List.take_succ_eq_append_getElem hlt)
  have HStop:Hid (isn (s,o) G[pre.length]=false→J LL W2):=fun h=>by rw [←HLs.out,run_stop HI.out.a (fun _=>h)];exact HI.out.j
  have HAll:Hid (isn (s,o) G[pre.length]=true→∀x∈G.take (pre.length+1),isn (s,o) x=true):=fun h x hx=>by
   rw [HTk.out,List.mem_append] at hx
   rcases hx with hx|hx
   ·exact HI.out.a x hx
   ·simp at hx;rw [hx];exact h
  have hz:=HGz.out _ (List.getElem_mem hlt)
  clear hI hl hd hpre hsz hlen
  obtain ⟨xk,xm⟩:=x
  dsimp only at hx
  subst hx
  generalize hk:G[pre.length]=k at *
  clear hk
  have HSp:=Lib.hid (fun W=>split_ k W hz.1.2.2 hz.2)
  have e1:=bl_eq (fst k.1) (fst (s,o))
  have HIn:Hid (fst k.1=fst (s,o)↔isn (s,o) k=true):=⟨fun h=>by simp [isn,(fst_inj hz.1 h.symm).symm],fun h=>by rw [of_decide_eq_true h]⟩
  clear hz
  dsimp only
  have ct:W2.cell? ⟨W.heap.size+1,0,none⟩=some (.string (fst (s,o))):=HI.out.s.cell 0
  have cy:W2.cell? ⟨W.heap.size,0,none⟩=some (.func (.yield l) #[] #[]):=HI.out.y.cell 0
  gi_wp2_with fail
  refine ⟨trivial,fun h=>(by cases h),CallsIn.inRound _ (callsIn_wide.2 ?_)⟩
  refine (HSp.out _).mono ?_
  rintro e W3 ⟨rfl,hf⟩
  have hI3:=HI.out.fr HJ.out hf (fun b _ h=>h.elim) (fun h=>h) (fun h=>h)
  have hk3:KeptR W.heap.size (W.heap.size+6) W2 W3:=fun b hb=>hf.block b (by have:=hb.2;have:=HSz.out;have:=HN.out;omega) (fun h=>h)
  have hl3:∀b∈FP,W3.heap[b]? =W2.heap[b]? :=fun b hb=>hf.block b (by have:=HFP.out b hb;have:=HSz.out;have:=HN.out;omega) (fun h=>h)
  have hz3:=hf.size
  have HStop3:Hid (isn (s,o) k=false→J LL W3):=fun h=>HJ.out _ _ _ (HStop.out h) (hf.mono (fun _ _ h=>h.elim))
  have HI3:=Lib.hid hI3;have HK3:=Lib.hid hk3;have HL3:=Lib.hid hl3;have HZ3:=Lib.hid hz3
  clear hI3 hk3 hl3 hz3 hf ct cy HI HStop HSp
  have ct:W3.cell? ⟨W.heap.size+1,0,none⟩=some (.string (fst (s,o))):=HI3.out.s.cell 0
  have cy:W3.cell? ⟨W.heap.size,0,none⟩=some (.func (.yield l) #[] #[]):=HI3.out.y.cell 0
  by_cases h1:fst k.1=fst (s,o)
  ·rw [decide_eq_true h1] at e1
   have HOwn:=Lib.hid (HIn.out.1 h1)
   have hall:=HAll.out HOwn.out
   have hpre2:(G.take pre.length).map (·.2)++ [k.2]<+:LL:=by
    have:=(pre_run hall).map (·.2)
    rwa [HTk.out,List.map_append,HLs.out,List.map_singleton] at this
   have HAl:=Lib.hid hall;have HPre:=Lib.hid hpre2
   have hsz2:W.heap.size+6≤W3.heap.size:=by have:=HSz.out;have:=HN.out;have:=HZ3.out;omega
   obtain ⟨fn,tmps,assign,body,hyy,hR⟩:=HY.out (m-1) _ k.2 W3 HI3.out.j hsz2 hpre2
   have HR:=Lib.hid hR
   have HSz2:=Lib.hid hsz2
   clear hall hpre2 hR h1 hsz2
   gi_wp2_with fail
   refine ⟨fun h=>(by cases h),roundIn_in (HR.out.mono ?_)⟩
   rintro e W4 (⟨rfl,j3,k3',r3,s3⟩| ⟨rfl,j3,r3,s3⟩)
   ·have HJ4:=Lib.hid j3;have HK4:=Lib.hid k3';have HR4:=Lib.hid r3;have HS4:=Lib.hid s3
    clear j3 k3' r3 s3 HR hyy ct cy
    gi_wp2_with fail
    have hn:=HN.out
    refine ⟨fun b hb=>?_,Nat.le_trans HZ3.out HS4.out,fun b hb=>?_,?_⟩
    ·have hb1:Rg W.heap.size (W.heap.size+6) b:=⟨by have:=hb.1;omega,by have:=hb.2;omega⟩
     exact (HR4.out b hb1).trans (HK3.out b hb1)
    ·rcases List.mem_cons.1 hb with rfl|hb
     ·exact (HR4.out _ ⟨by omega,by omega⟩).trans (HK3.out _ ⟨by omega,by omega⟩)
     ·exact (HK4.out b (HF.out b hb)).trans (HL3.out b (HF.out b hb))
    ·show TK J W.heap.size l (s,o) G (pre++ [(ek k,xm)]).length W4
     rw [List.length_append,List.length_singleton]
     exact ⟨by rw [HTk.out,List.map_append,List.map_singleton];exact HJ4.out,HAl.out,(HR4.out _ ⟨Nat.le_refl _,by omega⟩).trans HI3.out.y,(HR4.out _ ⟨by omega,by omega⟩).trans HI3.out.s,by have:=HS4.out;have:=HSz2.out;omega⟩
   ·have HJ4:=Lib.hid j3;have HR4:=Lib.hid r3;have HS4:=Lib.hid s3
    clear j3 r3 s3 HR hyy ct cy
    gi_wp2_with fail
    have hn:=HN.out
    refine ⟨fun b hb=>?_,Nat.le_trans HZ3.out HS4.out,⟨rfl,.inr ⟨_,HPre.out,HJ4.out⟩⟩,by have:=HS4.out;have:=HSz2.out;omega⟩
    have hb1:Rg W.heap.size (W.heap.size+6) b:=⟨by have:=hb.1;omega,by have:=hb.2;omega⟩
    exact (HR4.out b hb1).trans (HK3.out b hb1)
  ·rw [decide_eq_false h1] at e1
   have HE:=Lib.hid (HStop3.out (by cases h:isn (s,o) k with|false=>rfl|true=>exact absurd (HIn.out.2 h) h1))
   clear h1
   gi_wp2_with fail
   refine ⟨fun _ h=>(by cases h),?_⟩
   gi_wp2_with fail
   have hn:=HN.out
   exact ⟨fun b hb=>HK3.out b ⟨by have:=hb.1;omega,by have:=hb.2;omega⟩,HZ3.out,⟨rfl,.inl HE.out⟩,HI3.out.sz⟩
 case done=>
  rintro W3 hsz hI hK
  have hlen:VG.length=G.length:=by have:=congrArg List.length HRun.out;simpa using this
  rw [hlen] at hI
  have hj:=hI.j
  have hall:=hI.a
  rw [List.take_length] at hj hall
  rw [show G.map (·.2)=LL by rw [←HLs.out,run_stop (m:=G.length) (by rw [List.take_length];exact hall) (fun h=>absurd h (Nat.lt_irrefl _)),List.take_length]] at hj
  have HJ3:=Lib.hid hj;have HK:=Lib.hid hK
  clear hI hj hall hK hlen
  go_wp2_with fail
  try rw [Exit.noGoto_ret]
  refine ⟨by simp,.inl ⟨_,_,rfl,run_takeDeferred HK.out,?_⟩⟩
  have hn:=HN.out
  have hf:=Fr.putObj W3 w2.heap.size (.deferred none) (S:=Rg W.heap.size (W.heap.size+6)) ⟨by omega,by omega⟩
  refine ⟨.tuple #[],by simp [results,Tryz.results37,go_sem],⟨_,rfl⟩,by have:=hf.size;omega,.inl (HJ.out _ _ _ HJ3.out hf)⟩
 case stop=>
  rintro k pre W3 hsz hpre ⟨⟨rfl,hI⟩,hsz0⟩ hK
  have HI3:=Lib.hid hI;have HK:=Lib.hid hK
  clear hI hK
  refine (wpIn_wide (n:=n)).2 ?_
  go_wp2_with fail
  try rw [Exit.noGoto_ret]
  refine ⟨by simp,.inl ⟨_,_,rfl,run_takeDeferred HK.out,?_⟩⟩
  have hn:=HN.out
  have hf:=Fr.putObj W3 w2.heap.size (.deferred none) (S:=Rg W.heap.size (W.heap.size+6)) ⟨by omega,by omega⟩
  refine ⟨.tuple #[],by simp [results,Tryz.results37,go_sem],⟨_,rfl⟩,by have:=hf.size;omega,?_⟩
  rcases HI3.out with h| ⟨q,h1,h2⟩
  ·exact .inl (HJ.out _ _ _ h hf)
  ·exact .inr ⟨q,h1,HJx.out _ _ _ h2 hf⟩
theorem TracesV (a:Option Addr) (s o:ByteArray) (w:World):Calls prog 20 #[.pointer a,.string s,.string o] w fun e w'=>e=.returned (.func (.func 37) #[] #[.pointer (some ⟨w.heap.size+1,0,none⟩),.pointer (some ⟨w.heap.size+2,0,none⟩),.pointer (some ⟨w.heap.size,0,none⟩)])∧((w.alloc (.cells #[.pointer a] TVp)).alloc (.cells #[.string s] TSt)).alloc (.cells #[.string o] TSt)=w':=by
 go_enter func20,ntmps20
 go_wp2_with fail
 go_ret
 exact ⟨by simp,rfl⟩
end Ent
end Go.Proofs.YtdpngmgaomghoaaGreatDoor
