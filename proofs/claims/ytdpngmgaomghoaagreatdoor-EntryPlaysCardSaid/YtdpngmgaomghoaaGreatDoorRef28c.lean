/- The document's entries: All. -/
import Derived.Test.YtdpngmgaomghoaaGreatDoorRef28
namespace Go.Proofs.YtdpngmgaomghoaaGreatDoor
open Tryz
set_option maxRecDepth 100000
set_option maxHeartbeats 1000000
open Go.RowKit
namespace Rf28
open BagP KeyP EntP OpsP PackP SetP SetW SetF Sli Name Pack Delta
open Ent (TI TIs ints infoI TE TEs En EL infoE)
attribute [local go_sem] Eng.ev Eng.getO_cons Eng.getO_nil
theorem bldE3 (s o:ByteArray) (A:Option Addr) (n c:Nat) (W:World):(Instr.build TE #[(0,.string s),(1,.string o),(2,.slice A n c)]).run prog W=.ok (.agg #[.string s,.string o,.slice A n c]) W:=by kernel_rfl
structure AllI (L Lj:List Sn) (out:List (Nm × List Int)):Prop where
 srt:out.Pairwise (fun a b=>ltN a.1 b.1=true)
 tr:∀e∈out,TrI e.1 L e.2
 nm:∀n,(∃e∈out,e.1=n)↔ ∃y∈Lj,(y.s,y.o)=n
theorem AllI.nil (L:List Sn):AllI L [] []:=⟨List.Pairwise.nil,by simp,by simp⟩
theorem AllI.fin {L:List Sn} {out:List (Nm × List Int)} (h:AllI L L out):IsAll (fun n t=>(n,t)∈L.map Ent.kk) out:=by
 refine ⟨h.srt,fun e he=>⟨?_,(h.tr e he).1⟩,fun n t=>?_⟩
 ·obtain ⟨y,hy,hn⟩:=(h.nm e.1).1 ⟨e,he,rfl⟩
  intro h0
  have:=((h.tr e he).2 y.t).2 (List.mem_map.2 ⟨y,hy,by unfold Ent.kk;rw [hn]⟩)
  rw [h0] at this;cases this
 ·constructor
  ·intro hm
   obtain ⟨y,hy,hk⟩:=List.mem_map.1 hm
   unfold Ent.kk at hk
   obtain ⟨e,he,hn⟩:=(h.nm n).2 ⟨y,hy,congrArg Prod.fst hk⟩
   exact ⟨e,he,hn,((h.tr e he).2 t).2 (by rw [hn];exact hm)⟩
  ·rintro ⟨e,he,hn,ht⟩
   have:=((h.tr e he).2 t).1 ht
   rwa [hn] at this
theorem AllI.has {L Lj:List Sn} {y:Sn} {out:List (Nm × List Int)} (h:AllI L Lj out) (hy:∃e∈out,e.1=(y.s,y.o)):AllI L (Lj++ [y]) out:=
 ⟨h.srt,h.tr,fun n=>by
  rw [h.nm]
  constructor
  ·rintro ⟨z,hz,hn⟩;exact ⟨z,List.mem_append_left _ hz,hn⟩
  ·rintro ⟨z,hz,hn⟩
   rcases List.mem_append.1 hz with hz|hz
   ·exact ⟨z,hz,hn⟩
   ·simp at hz;subst hz
    rw [←hn];exact (h.nm _).1 hy⟩
def lowE (n:Nm) (T:List En):Nat:=lowK (fun e:En=>ltN e.n n) T
def insE (e:En) (T:List En):List En:=insK (fun a:En=>ltN a.n e.n) e T
theorem AllI.ins {L Lj:List Sn} {y:Sn} {T:List En} {e:En} (h:AllI L Lj (T.map En.v)) (hy:¬ ∃e∈T,e.n=(y.s,y.o)) (hn:e.n=(y.s,y.o)) (ht:TrI (y.s,y.o) L e.l):AllI L (Lj++ [y]) ((insE e T).map En.v):=by
 have hp:T.Pairwise (fun a b=>ltN (En.n a) (En.n b)=true):=List.pairwise_map.1 h.srt
 refine ⟨List.pairwise_map.2 ?_,fun f hf=>?_,fun n=>?_⟩
 ·exact ins_pw En.n ltN (fun _ _ _=>ltN_tr) (fun _ _=>ltN_tri) e hp (fun a ha ea=>hy ⟨a,ha,by rw [←hn];exact ea⟩)
 ·obtain ⟨g,hg,rfl⟩:=List.mem_map.1 hf
  rcases mem_insK.1 hg with rfl|hg
  ·show TrI g.n L g.l
   rw [hn];exact ht
  ·exact h.tr _ (List.mem_map.2 ⟨g,hg,rfl⟩)
 ·constructor
  ·rintro ⟨f,hf,he⟩
   obtain ⟨g,hg,rfl⟩:=List.mem_map.1 hf
   rcases mem_insK.1 hg with rfl|hg
   ·exact ⟨y,by simp,by rw [←he];exact hn.symm⟩
   ·obtain ⟨z,hz,hzn⟩:=(h.nm n).1 ⟨En.v g,List.mem_map.2 ⟨g,hg,rfl⟩,he⟩
    exact ⟨z,List.mem_append_left _ hz,hzn⟩
  ·rintro ⟨z,hz,hzn⟩
   rcases List.mem_append.1 hz with hz|hz
   ·obtain ⟨f,hf,he⟩:=(h.nm n).2 ⟨z,hz,hzn⟩
    obtain ⟨g,hg,rfl⟩:=List.mem_map.1 hf
    exact ⟨En.v g,List.mem_map.2 ⟨g,mem_insK.2 (.inr hg),rfl⟩,he⟩
   ·simp at hz;subst hz
    exact ⟨En.v e,List.mem_map.2 ⟨e,mem_insK.2 (.inl rfl),rfl⟩,by show e.n=n;rw [hn];exact hzn⟩
theorem lowE_has {L Lj:List Sn} {T:List En} (h:AllI L Lj (T.map En.v)) {n:Nm} (hy:∃e∈T,e.n=n):∃h:lowE n T<T.length,T[lowE n T].n=n:=
 low_has En.n ltN ltN_irr n (List.pairwise_map.1 h.srt) hy
structure SE (w0 w:World) (b p By:Nat) (f1 f2 s o:ByteArray):Prop where
 c1:w.cell? ⟨b,p,none⟩=some (.string f1)
 c2:w.cell? ⟨b,p+1,none⟩=some (.string f2)
 b4:w.cell? ⟨By,4,none⟩=some (.string s)
 b5:w.cell? ⟨By,5,none⟩=some (.string o)
 f:Fr (fun _=>False) w0 w
theorem SE.keep {w0 w w':World} {b p By:Nat} {f1 f2 s o:ByteArray} (H:SE w0 w b p By f1 f2 s o) (hf:Fr (fun _=>False) w w'):SE w0 w' b p By f1 f2 s o:=
 ⟨cellK H.c1 hf,cellK H.c2 hf,cellK H.b4 hf,cellK H.b5 hf,H.f.trans hf (fun _ _ h=>h) (fun _ _ h=>h)⟩
theorem al7a {ops:Array Oper} (hops:Eng.fnOps Tryz.f13 7=ops) (a0:Act) (Q:Exit→Act→World→Prop) (w0 w:World) (b2 o2 len c k By:Nat) (f1 f2 s o:ByteArray) (hk:k<len) (_hlen:len≤9223372036854775807) (hst:SE w0 w b2 (o2+k*3) By f1 f2 s o) (h1:Op.bytesLess f1.toList s.toList=true)
  (hn:a0.tmps.size=109) (h_3:a0.tmps.getD 3 undef=.slice (some ⟨b2,o2,none⟩) len c) (h_5:a0.tmps.getD 5 undef=.pointer (some ⟨By,0,none⟩)) (h_6:a0.tmps.getD 6 undef=.int .i64 (k:Int))
  (hpost:∀ (x:Nat→Value) (w':World),x 57=.bool true→Fr (fun _=>False) w0 w'→Q .normal (Eng.setAll a0 [24,25,26,27,28,29,30,31,32,33,34,35,36,37,38,39,40,41,42,43,44,45,46,47,48,49,50,51,52,53,54,55,56,57] x) w'):
  (Code.region 7 ops true).wp prog Q a0 w:=by
 simp only [Eng.fnOps,Eng.regOps,Tryz.f13,Option.bind_some,Option.getD_some,Nat.reduceEqDiff,↓reduceIte] at hops
 subst hops
 have q1:(0:Int)≤(k:Int):=by omega
 have q2:(k:Int)<(len:Int):=by omega
 have HSt:=Lib.hid (hst.keep (Fr.drew _ _))
 refine Eng.regionN [(0,true),(1,true),(2,true),(3,true),(4,true),(5,true),(6,true),(7,true),(8,true),(9,true),(10,true),(11,true),(12,true),(13,true),(14,true),(15,true),(16,true),(17,true),(18,true),(19,true),(20,true),(21,true),(22,true),(23,true),(24,true),(25,true),(26,true),(27,true),(28,true),(29,true),(30,true),(31,true),(32,true),(33,true)] (fun w'=>w'.cell? ⟨b2,o2+k*3,none⟩=some (.string f1)∧w'.cell? ⟨b2,o2+k*3+1,none⟩=some (.string f2)∧w'.cell? ⟨By,4,none⟩=some (.string s)∧w'.cell? ⟨By,5,none⟩=some (.string o)) (by kernel_rfl) 109 hn (by kernel_rfl) rfl (by kernel_rfl) (⟨HSt.out.c1,HSt.out.c2,HSt.out.b4,HSt.out.b5⟩) (fun a b ha hb=>?_)
 subst ha
 have hb3:b 3=.slice (some ⟨b2,o2,none⟩) len c:=(hb 3).symm.trans h_3
 have hb5:b 5=.pointer (some ⟨By,0,none⟩):=(hb 5).symm.trans h_5
 have hb6:b 6=.int .i64 (k:Int):=(hb 6).symm.trans h_6
 clear hb h_3 h_5 h_6
 have HP:=Lib.hid hpost;have HN:=Lib.hid hn
 clear hpost hn
 iterate 14 (refine Eng.Sch.tk ?_)
 iterate 18 (refine Eng.Sch.skip rfl rfl (by decide) (by kernel_rfl) ?_)
 refine Eng.Sch.tk ?_
 refine Eng.Sch.tk ?_
 refine Eng.Sch.end_ [24,25,26,27,28,29,30,31,32,33,34,35,36,37,38,39,40,41,42,43,44,45,46,47,48,49,50,51,52,53,54,55,56,57] HN.out (by kernel_rfl) (by kernel_rfl) ?_
 exact HP.out _ _ rfl HSt.out.f
theorem al7b {ops:Array Oper} (hops:Eng.fnOps Tryz.f13 7=ops) (a0:Act) (Q:Exit→Act→World→Prop) (w0 w:World) (b2 o2 len c k By:Nat) (f1 f2 s o:ByteArray) (hk:k<len) (_hlen:len≤9223372036854775807) (hst:SE w0 w b2 (o2+k*3) By f1 f2 s o) (h1:Op.bytesLess f1.toList s.toList=false) (h2:(f1.toList==s.toList)=false)
  (hn:a0.tmps.size=109) (h_3:a0.tmps.getD 3 undef=.slice (some ⟨b2,o2,none⟩) len c) (h_5:a0.tmps.getD 5 undef=.pointer (some ⟨By,0,none⟩)) (h_6:a0.tmps.getD 6 undef=.int .i64 (k:Int))
  (hpost:∀ (x:Nat→Value) (w':World),x 57=.bool false→Fr (fun _=>False) w0 w'→Q .normal (Eng.setAll a0 [24,25,26,27,28,29,30,31,32,33,34,35,36,37,38,39,40,41,42,43,44,45,46,47,48,49,50,51,52,53,54,55,56,57] x) w'):
  (Code.region 7 ops true).wp prog Q a0 w:=by
 simp only [Eng.fnOps,Eng.regOps,Tryz.f13,Option.bind_some,Option.getD_some,Nat.reduceEqDiff,↓reduceIte] at hops
 subst hops
 have q1:(0:Int)≤(k:Int):=by omega
 have q2:(k:Int)<(len:Int):=by omega
 have HSt:=Lib.hid (hst.keep (Fr.drew _ _))
 refine Eng.regionN [(0,true),(1,true),(2,true),(3,true),(4,true),(5,true),(6,true),(7,true),(8,true),(9,true),(10,true),(11,true),(12,true),(13,true),(14,true),(15,true),(16,true),(17,true),(18,true),(19,true),(20,true),(21,true),(22,true),(23,true),(24,true),(25,true),(26,true),(27,true),(28,true),(29,true),(30,true),(31,true),(32,true),(33,true)] (fun w'=>w'.cell? ⟨b2,o2+k*3,none⟩=some (.string f1)∧w'.cell? ⟨b2,o2+k*3+1,none⟩=some (.string f2)∧w'.cell? ⟨By,4,none⟩=some (.string s)∧w'.cell? ⟨By,5,none⟩=some (.string o)) (by kernel_rfl) 109 hn (by kernel_rfl) rfl (by kernel_rfl) (⟨HSt.out.c1,HSt.out.c2,HSt.out.b4,HSt.out.b5⟩) (fun a b ha hb=>?_)
 subst ha
 have hb3:b 3=.slice (some ⟨b2,o2,none⟩) len c:=(hb 3).symm.trans h_3
 have hb5:b 5=.pointer (some ⟨By,0,none⟩):=(hb 5).symm.trans h_5
 have hb6:b 6=.int .i64 (k:Int):=(hb 6).symm.trans h_6
 clear hb h_3 h_5 h_6
 have HP:=Lib.hid hpost;have HN:=Lib.hid hn
 clear hpost hn
 iterate 23 (refine Eng.Sch.tk ?_)
 iterate 8 (refine Eng.Sch.skip rfl rfl (by decide) (by kernel_rfl) ?_)
 iterate 3 (refine Eng.Sch.tk ?_)
 refine Eng.Sch.end_ [24,25,26,27,28,29,30,31,32,33,34,35,36,37,38,39,40,41,42,43,44,45,46,47,48,49,50,51,52,53,54,55,56,57] HN.out (by kernel_rfl) (by kernel_rfl) ?_
 exact HP.out _ _ rfl HSt.out.f
theorem al7c {ops:Array Oper} (hops:Eng.fnOps Tryz.f13 7=ops) (a0:Act) (Q:Exit→Act→World→Prop) (w0 w:World) (b2 o2 len c k By:Nat) (f1 f2 s o:ByteArray) (q:Bool) (hk:k<len) (_hlen:len≤9223372036854775807) (hst:SE w0 w b2 (o2+k*3) By f1 f2 s o) (h1:Op.bytesLess f1.toList s.toList=false) (h2:(f1.toList==s.toList)=true) (h3:Op.bytesLess f2.toList o.toList=q)
  (hn:a0.tmps.size=109) (h_3:a0.tmps.getD 3 undef=.slice (some ⟨b2,o2,none⟩) len c) (h_5:a0.tmps.getD 5 undef=.pointer (some ⟨By,0,none⟩)) (h_6:a0.tmps.getD 6 undef=.int .i64 (k:Int))
  (hpost:∀ (x:Nat→Value) (w':World),x 57=.bool q→Fr (fun _=>False) w0 w'→Q .normal (Eng.setAll a0 [24,25,26,27,28,29,30,31,32,33,34,35,36,37,38,39,40,41,42,43,44,45,46,47,48,49,50,51,52,53,54,55,56,57] x) w'):
  (Code.region 7 ops true).wp prog Q a0 w:=by
 simp only [Eng.fnOps,Eng.regOps,Tryz.f13,Option.bind_some,Option.getD_some,Nat.reduceEqDiff,↓reduceIte] at hops
 subst hops
 have q1:(0:Int)≤(k:Int):=by omega
 have q2:(k:Int)<(len:Int):=by omega
 have HSt:=Lib.hid (hst.keep (Fr.drew _ _))
 refine Eng.regionN [(0,true),(1,true),(2,true),(3,true),(4,true),(5,true),(6,true),(7,true),(8,true),(9,true),(10,true),(11,true),(12,true),(13,true),(14,true),(15,true),(16,true),(17,true),(18,true),(19,true),(20,true),(21,true),(22,true),(23,true),(24,true),(25,true),(26,true),(27,true),(28,true),(29,true),(30,true),(31,true),(32,true),(33,true)] (fun w'=>w'.cell? ⟨b2,o2+k*3,none⟩=some (.string f1)∧w'.cell? ⟨b2,o2+k*3+1,none⟩=some (.string f2)∧w'.cell? ⟨By,4,none⟩=some (.string s)∧w'.cell? ⟨By,5,none⟩=some (.string o)) (by kernel_rfl) 109 hn (by kernel_rfl) rfl (by kernel_rfl) (⟨HSt.out.c1,HSt.out.c2,HSt.out.b4,HSt.out.b5⟩) (fun a b ha hb=>?_)
 subst ha
 have hb3:b 3=.slice (some ⟨b2,o2,none⟩) len c:=(hb 3).symm.trans h_3
 have hb5:b 5=.pointer (some ⟨By,0,none⟩):=(hb 5).symm.trans h_5
 have hb6:b 6=.int .i64 (k:Int):=(hb 6).symm.trans h_6
 clear hb h_3 h_5 h_6
 have HP:=Lib.hid hpost;have HN:=Lib.hid hn
 clear hpost hn
 iterate 34 (refine Eng.Sch.tk ?_)
 refine Eng.Sch.end_ [24,25,26,27,28,29,30,31,32,33,34,35,36,37,38,39,40,41,42,43,44,45,46,47,48,49,50,51,52,53,54,55,56,57] HN.out (by kernel_rfl) (by kernel_rfl) ?_
 exact HP.out _ _ rfl HSt.out.f
theorem al9a {ops:Array Oper} (hops:Eng.fnOps Tryz.f13 9=ops) (a0:Act) (Q:Exit→Act→World→Prop) (w0 w:World) (b2 o2 len c k By:Nat) (f1 f2 s o:ByteArray) (hk:k<len) (_hlen:len≤9223372036854775807) (hst:SE w0 w b2 (o2+k*3) By f1 f2 s o) (h1:(f1.toList==s.toList)=false)
  (hn:a0.tmps.size=109) (h_3:a0.tmps.getD 3 undef=.slice (some ⟨b2,o2,none⟩) len c) (h_5:a0.tmps.getD 5 undef=.pointer (some ⟨By,0,none⟩)) (h_6:a0.tmps.getD 6 undef=.int .i64 (k:Int))
  (hpost:∀ (x:Nat→Value) (w':World),x 83=.bool false→Fr (fun _=>False) w0 w'→Q .normal (Eng.setAll a0 [60,61,62,63,64,65,66,67,68,69,70,71,72,73,74,75,76,77,78,79,80,81,82,83] x) w'):
  (Code.region 9 ops true).wp prog Q a0 w:=by
 simp only [Eng.fnOps,Eng.regOps,Tryz.f13,Option.bind_some,Option.getD_some,Nat.reduceEqDiff,↓reduceIte] at hops
 subst hops
 have q1:(0:Int)≤(k:Int):=by omega
 have q2:(k:Int)<(len:Int):=by omega
 have HSt:=Lib.hid (hst.keep (Fr.drew _ _))
 refine Eng.regionN [(0,true),(1,true),(2,true),(3,true),(4,true),(5,true),(6,true),(7,true),(8,true),(9,true),(10,true),(11,true),(12,true),(13,true),(14,true),(15,true),(16,true),(17,true),(18,true),(19,true),(20,true),(21,true),(22,true),(23,true)] (fun w'=>w'.cell? ⟨b2,o2+k*3,none⟩=some (.string f1)∧w'.cell? ⟨b2,o2+k*3+1,none⟩=some (.string f2)∧w'.cell? ⟨By,4,none⟩=some (.string s)∧w'.cell? ⟨By,5,none⟩=some (.string o)) (by kernel_rfl) 109 hn (by kernel_rfl) rfl (by kernel_rfl) (⟨HSt.out.c1,HSt.out.c2,HSt.out.b4,HSt.out.b5⟩) (fun a b ha hb=>?_)
 subst ha
 have hb3:b 3=.slice (some ⟨b2,o2,none⟩) len c:=(hb 3).symm.trans h_3
 have hb5:b 5=.pointer (some ⟨By,0,none⟩):=(hb 5).symm.trans h_5
 have hb6:b 6=.int .i64 (k:Int):=(hb 6).symm.trans h_6
 clear hb h_3 h_5 h_6
 have HP:=Lib.hid hpost;have HN:=Lib.hid hn
 clear hpost hn
 iterate 15 (refine Eng.Sch.tk ?_)
 iterate 8 (refine Eng.Sch.skip rfl rfl (by decide) (by kernel_rfl) ?_)
 refine Eng.Sch.tk ?_
 refine Eng.Sch.end_ [60,61,62,63,64,65,66,67,68,69,70,71,72,73,74,75,76,77,78,79,80,81,82,83] HN.out (by kernel_rfl) (by kernel_rfl) ?_
 exact HP.out _ _ rfl HSt.out.f
theorem al9b {ops:Array Oper} (hops:Eng.fnOps Tryz.f13 9=ops) (a0:Act) (Q:Exit→Act→World→Prop) (w0 w:World) (b2 o2 len c k By:Nat) (f1 f2 s o:ByteArray) (q:Bool) (hk:k<len) (_hlen:len≤9223372036854775807) (hst:SE w0 w b2 (o2+k*3) By f1 f2 s o) (h1:(f1.toList==s.toList)=true) (h2:(f2.toList==o.toList)=q)
  (hn:a0.tmps.size=109) (h_3:a0.tmps.getD 3 undef=.slice (some ⟨b2,o2,none⟩) len c) (h_5:a0.tmps.getD 5 undef=.pointer (some ⟨By,0,none⟩)) (h_6:a0.tmps.getD 6 undef=.int .i64 (k:Int))
  (hpost:∀ (x:Nat→Value) (w':World),x 83=.bool q→Fr (fun _=>False) w0 w'→Q .normal (Eng.setAll a0 [60,61,62,63,64,65,66,67,68,69,70,71,72,73,74,75,76,77,78,79,80,81,82,83] x) w'):
  (Code.region 9 ops true).wp prog Q a0 w:=by
 simp only [Eng.fnOps,Eng.regOps,Tryz.f13,Option.bind_some,Option.getD_some,Nat.reduceEqDiff,↓reduceIte] at hops
 subst hops
 have q1:(0:Int)≤(k:Int):=by omega
 have q2:(k:Int)<(len:Int):=by omega
 have HSt:=Lib.hid (hst.keep (Fr.drew _ _))
 refine Eng.regionN [(0,true),(1,true),(2,true),(3,true),(4,true),(5,true),(6,true),(7,true),(8,true),(9,true),(10,true),(11,true),(12,true),(13,true),(14,true),(15,true),(16,true),(17,true),(18,true),(19,true),(20,true),(21,true),(22,true),(23,true)] (fun w'=>w'.cell? ⟨b2,o2+k*3,none⟩=some (.string f1)∧w'.cell? ⟨b2,o2+k*3+1,none⟩=some (.string f2)∧w'.cell? ⟨By,4,none⟩=some (.string s)∧w'.cell? ⟨By,5,none⟩=some (.string o)) (by kernel_rfl) 109 hn (by kernel_rfl) rfl (by kernel_rfl) (⟨HSt.out.c1,HSt.out.c2,HSt.out.b4,HSt.out.b5⟩) (fun a b ha hb=>?_)
 subst ha
 have hb3:b 3=.slice (some ⟨b2,o2,none⟩) len c:=(hb 3).symm.trans h_3
 have hb5:b 5=.pointer (some ⟨By,0,none⟩):=(hb 5).symm.trans h_5
 have hb6:b 6=.int .i64 (k:Int):=(hb 6).symm.trans h_6
 clear hb h_3 h_5 h_6
 have HP:=Lib.hid hpost;have HN:=Lib.hid hn
 clear hpost hn
 iterate 24 (refine Eng.Sch.tk ?_)
 refine Eng.Sch.end_ [60,61,62,63,64,65,66,67,68,69,70,71,72,73,74,75,76,77,78,79,80,81,82,83] HN.out (by kernel_rfl) (by kernel_rfl) ?_
 exact HP.out _ _ rfl HSt.out.f
theorem al7 {ops:Array Oper} (hops:Eng.fnOps Tryz.f13 7=ops) (a0:Act) (Q:Exit→Act→World→Prop) (w0 w:World) (b2 o2 len c k By:Nat) (f1 f2 s o:ByteArray) (hk:k<len) (hlen:len≤9223372036854775807) (hst:SE w0 w b2 (o2+k*3) By f1 f2 s o)
  (hn:a0.tmps.size=109) (h_3:a0.tmps.getD 3 undef=.slice (some ⟨b2,o2,none⟩) len c) (h_5:a0.tmps.getD 5 undef=.pointer (some ⟨By,0,none⟩)) (h_6:a0.tmps.getD 6 undef=.int .i64 (k:Int))
  (hpost:∀ (x:Nat→Value) (w':World),x 57=.bool (ltN (f1,f2) (s,o))→Fr (fun _=>False) w0 w'→Q .normal (Eng.setAll a0 [24,25,26,27,28,29,30,31,32,33,34,35,36,37,38,39,40,41,42,43,44,45,46,47,48,49,50,51,52,53,54,55,56,57] x) w'):
  (Code.region 7 ops true).wp prog Q a0 w:=by
 have e0:ltN (f1,f2) (s,o)=(Op.bytesLess f1.toList s.toList||((f1.toList==s.toList)&&Op.bytesLess f2.toList o.toList)):=by
  unfold ltN
  rw [ltStr,ltStr,bl_eq]
 rw [e0] at hpost
 cases h1:Op.bytesLess f1.toList s.toList with
 |true=>
  rw [h1,Bool.true_or] at hpost
  exact al7a hops a0 Q w0 w b2 o2 len c k By f1 f2 s o hk hlen hst h1 hn h_3 h_5 h_6 hpost
 |false=>
  cases h2:(f1.toList==s.toList) with
  |false=>
   rw [h1,h2,Bool.false_or,Bool.false_and] at hpost
   exact al7b hops a0 Q w0 w b2 o2 len c k By f1 f2 s o hk hlen hst h1 h2 hn h_3 h_5 h_6 hpost
  |true=>
   rw [h1,h2,Bool.false_or,Bool.true_and] at hpost
   exact al7c hops a0 Q w0 w b2 o2 len c k By f1 f2 s o _ hk hlen hst h1 h2 rfl hn h_3 h_5 h_6 hpost
theorem al9 {ops:Array Oper} (hops:Eng.fnOps Tryz.f13 9=ops) (a0:Act) (Q:Exit→Act→World→Prop) (w0 w:World) (b2 o2 len c k By:Nat) (f1 f2 s o:ByteArray) (hk:k<len) (hlen:len≤9223372036854775807) (hst:SE w0 w b2 (o2+k*3) By f1 f2 s o)
  (hn:a0.tmps.size=109) (h_3:a0.tmps.getD 3 undef=.slice (some ⟨b2,o2,none⟩) len c) (h_5:a0.tmps.getD 5 undef=.pointer (some ⟨By,0,none⟩)) (h_6:a0.tmps.getD 6 undef=.int .i64 (k:Int))
  (hpost:∀ (x:Nat→Value) (w':World),x 83=.bool (decide ((f1,f2)=(s,o)))→Fr (fun _=>False) w0 w'→Q .normal (Eng.setAll a0 [60,61,62,63,64,65,66,67,68,69,70,71,72,73,74,75,76,77,78,79,80,81,82,83] x) w'):
  (Code.region 9 ops true).wp prog Q a0 w:=by
 have e0:decide ((f1,f2)=(s,o))=((f1.toList==s.toList)&&(f2.toList==o.toList)):=by
  rw [bl_eq,bl_eq]
  simp only [Prod.mk.injEq,Bool.decide_and]
 rw [e0] at hpost
 cases h1:(f1.toList==s.toList) with
 |true=>
  rw [h1,Bool.true_and] at hpost
  exact al9b hops a0 Q w0 w b2 o2 len c k By f1 f2 s o _ hk hlen hst h1 rfl hn h_3 h_5 h_6 hpost
 |false=>
  rw [h1,Bool.false_and] at hpost
  exact al9a hops a0 Q w0 w b2 o2 len c k By f1 f2 s o hk hlen hst h1 hn h_3 h_5 h_6 hpost
structure SR (nb:Nat) (w0 w:World) (h:Nat) (L:List Sn) (R:List Nat) (By:Nat) (y:Sn) (rows:List Value) (m:Nat) (v:Value):Prop where
 d:DR w h L R
 b:Bk w By y.arr TSn
 o:w.ownsRow nb TE 3 v m rows
 f:Below nb w0 w
 n:nb≤w.heap.size
 k:By<nb∧∀b∈R,b<nb
structure SRt (nb:Nat) (w0 w:World) (h:Nat) (L:List Sn) (R:List Nat) (By:Nat) (y:Sn) (rows:List Value) (m:Nat) (v:Value) (e:En):Prop extends SR nb w0 w h L R By y rows m v where
 t:Sl w 1 e.A e.l.length e.c (ints e.l)
 a:∀a,e.A=some a→a.block<w.heap.size∧nb≤a.block∧v.ownBlock≠some a.block
section
variable {nb h By m:Nat} {w0 w w':World} {L:List Sn} {R:List Nat} {y:Sn} {rows:List Value} {v v':Value} {e:En}
theorem SR.keep (H:SR nb w0 w h L R By y rows m v) (hf:Fr (fun _=>False) w w'):SR nb w0 w' h L R By y rows m v:=
 ⟨H.d.keep hf,H.b.fr hf (fun _ _ h=>h),ownsRow_fr H.o hf (fun _ _ h=>h),H.f.trans (hf.below H.n (fun _ _ h=>h)),Nat.le_trans H.n hf.size,H.k⟩
theorem SRt.keep (H:SRt nb w0 w h L R By y rows m v e) (hf:Fr (fun _=>False) w w'):SRt nb w0 w' h L R By y rows m v e:=
 ⟨H.toSR.keep hf,H.t.fr hf (fun _ _ h=>h),fun a ha=>⟨Nat.lt_of_lt_of_le (H.a a ha).1 hf.size,(H.a a ha).2⟩⟩
theorem SR.call {n:Nm} {out:List Int} {A:Option Addr} {c:Nat} (H:SR nb w0 w h L R By y rows m v) (hs:Sl w' 1 A out.length c (ints out)) (ha:∀a,A=some a→w.heap.size≤a.block∧a.block<w'.heap.size) (hb:Below w.heap.size w w'):SRt nb w0 w' h L R By y rows m v ⟨n,out,A,c⟩:=
 ⟨H.keep (Fr.of_below' hb _),hs,fun a h=>⟨(ha a h).2,Nat.le_trans H.n (ha a h).1,fun h'=>by have:=(ownsRow_blk H.o _ h').2.1;have:=(ha a h).1;omega⟩⟩
theorem SRt.app (H:SRt nb w0 w h L R By y rows m v e) {rows':List Value} (hown:w'.ownsRow nb TE 3 v' (m+1) rows') (hg:w.grownBy w' v.ownBlock) (hv:v'.ownBlock=v.ownBlock∨v'.ownBlock=some w.heap.size):SRt nb w0 w' h L R By y rows' (m+1) v' e:=by
 have f1:Fr (fun b=>v.ownBlock=some b) w w':=Fr.grown hg (S:=fun b=>v.ownBlock=some b) (fun k h=>h)
 have hlo:∀b,v.ownBlock=some b→nb≤b:=fun b hb=>(ownsRow_blk H.o b hb).1
 have hk:=H.k
 refine ⟨⟨H.d.fr f1 (fun b hb h=>by have:=hlo _ h;have:=hk.2 b hb;omega),H.b.fr f1 (fun b hb h=>by simp at hb;have:=hlo _ h;omega),hown,H.f.trans (f1.below H.n (fun i hi h=>by have:=hlo _ h;omega)),Nat.le_trans H.n f1.size,H.k⟩,H.t.fr f1 (fun a ha h=>(H.a a ha).2.2 h),fun a ha=>⟨Nat.lt_of_lt_of_le (H.a a ha).1 f1.size,(H.a a ha).2.1,fun h=>?_⟩⟩
 rcases hv with hv|hv
 ·rw [hv] at h;exact (H.a a ha).2.2 h
 ·rw [h] at hv
  have:=Option.some.inj hv;have:=(H.a a ha).1;omega
end
theorem al12 {ops:Array Oper} (hops:Eng.fnOps Tryz.f13 12=ops) (a0:Act) (Q:Exit→Act→World→Prop) (nb:Nat) (w0 w:World) (h:Nat) (L:List Sn) (R:List Nat) (By:Nat) (y:Sn) (rows:List Value) (m:Nat) (v:Value) (hL:L.length≤1000000) (hm:m≤1000000) (hst:SR nb w0 w h L R By y rows m v)
  (hn:a0.tmps.size=109) (h_0:a0.tmps.getD 0 undef=.pointer (some ⟨h,0,none⟩)) (h_5:a0.tmps.getD 5 undef=.pointer (some ⟨By,0,none⟩)) (h_7:a0.tmps.getD 7 undef=v)
  (hpost:∀ (x:Nat→Value) (w':World) (e:En) (v':Value),x 7=v'→e.n=(y.s,y.o)→TrI (y.s,y.o) L e.l→SRt nb w0 w' h L R By y (rows++e.cs) (m+1) v' e→Q .normal (Eng.setAll a0 [7,89,90,91,92,93,94,95,96,97,98,99,100,101,102] x) w'):
  (Code.region 12 ops true).wp prog Q a0 w:=by
 simp only [Eng.fnOps,Eng.regOps,Tryz.f13,Option.bind_some,Option.getD_some,Nat.reduceEqDiff,↓reduceIte] at hops
 subst hops
 obtain ⟨i0,hi,hz0,hz1,hz2⟩:=info_parts infoE
 have HSt:=Lib.hid (hst.keep (Fr.drew _ _))
 refine Eng.regionT (.take 0 (.take 1 (.take 2 (.take 3 (.take 4 (.take 5 (.take 6 (.take 7 (.take 8 (.take 9 (.alt 10 (.take 11 (.alt 12 (.alt 13 (.take 14 (.done)) (.stop)) (.stop))) (.stop)))))))))))) (fun w'=>w'.cell? ⟨By,4,none⟩=some (.string y.s)∧w'.cell? ⟨By,5,none⟩=some (.string y.o)) (by kernel_rfl) 109 hn (by kernel_rfl) (by kernel_rfl) (by kernel_rfl) (⟨HSt.out.b.cell 4,HSt.out.b.cell 5⟩) (fun a b ha hb=>?_)
 subst ha
 have hb0:b 0=.pointer (some ⟨h,0,none⟩):=(hb 0).symm.trans h_0
 have hb5:b 5=.pointer (some ⟨By,0,none⟩):=(hb 5).symm.trans h_5
 have hb7:b 7=v:=(hb 7).symm.trans h_7
 clear hb h_0 h_5 h_7
 have HP:=Lib.hid hpost;have HN:=Lib.hid hn
 clear hpost hn
 iterate 10 (refine Eng.TW.tk ?_)
 refine Eng.TW.call rfl rfl (by decide) (by kernel_rfl) ?_ (Traces h L R y.s y.o _ HSt.out.d hL) ?_
 ·go_simp
 rintro e w2 ⟨out,At,ct,rfl,htr,hol,hsl,hat,hb⟩
 have kb:=fun W:World=>bldE3 y.s y.o At out.length ct W
 have HSt2:=Lib.hid (HSt.out.call (n:=(y.s,y.o)) hsl hat hb)
 have HTr:=Lib.hid htr
 clear htr hol hsl hat hb
 refine ⟨_,rfl,⟨HSt2.out.b.cell 4,HSt2.out.b.cell 5⟩,?_⟩
 refine Eng.TW.tk ?_
 have HSt3:=Lib.hid (HSt2.out.keep (Fr.alloc _ _ (.cells #[.string y.s,.string y.o,.slice At out.length ct] TE)))
 refine Eng.TW.step rfl rfl (by decide) (by kernel_rfl) (by go_simp;first|done|with_reducible rfl|exact ⟨rfl,rfl⟩) (⟨HSt3.out.b.cell 4,HSt3.out.b.cell 5⟩) ?_
 have hSS:(w2.alloc (.cells #[.string y.s,.string y.o,.slice At out.length ct] TE)).cell? ⟨By,4,none⟩=some (.string y.s)∧(w2.alloc (.cells #[.string y.s,.string y.o,.slice At out.length ct] TE)).cell? ⟨By,5,none⟩=some (.string y.o):=⟨HSt3.out.b.cell 4,HSt3.out.b.cell 5⟩
 refine Eng.TW.app rfl rfl (by decide) (by kernel_rfl) (.tmp 89) (.tmp 101) TEs rfl nb TE i0 (.agg #[.string ByteArray.empty,.string ByteArray.empty,.slice none 0 0]) 3 56 underlying38 hi hz0 hz1 hz2 rfl (by decide) v _ _ ⟨w2.heap.size,0,none⟩ 1 1 ([.string y.s,.string y.o,.slice At out.length ct]) (by go_simp;first|done|with_reducible rfl) (by go_simp;first|done|with_reducible rfl) (HSt3.out.o) rfl (new_cells w2 TE ([.string y.s,.string y.o,.slice At out.length ct])) (by simp [Value.oneCell']) (by unfold maxLen;omega) (by omega) (by have:=HSt3.out.n;omega) ?_
 intro v4 w4 hown hg hv
 obtain ⟨A4,c4,rfl,-,-⟩:=Sl.of_own hown
 have HSt4:=Lib.hid (HSt3.out.app hown hg hv)
 have hSS:w4.cell? ⟨By,4,none⟩=some (.string y.s)∧w4.cell? ⟨By,5,none⟩=some (.string y.o):=⟨HSt4.out.b.cell 4,HSt4.out.b.cell 5⟩
 clear hown hg hv
 refine ⟨hSS,?_⟩
 refine Eng.TW.tk ?_
 refine Eng.TW.end_ [7,89,90,91,92,93,94,95,96,97,98,99,100,101,102] HN.out (by kernel_rfl) (by kernel_rfl) ?_
 exact HP.out _ _ ⟨(y.s,y.o),out,At,ct⟩ (.slice A4 (m+1) c4) rfl rfl HTr.out HSt4.out
end Rf28
end Go.Proofs.YtdpngmgaomghoaaGreatDoor
