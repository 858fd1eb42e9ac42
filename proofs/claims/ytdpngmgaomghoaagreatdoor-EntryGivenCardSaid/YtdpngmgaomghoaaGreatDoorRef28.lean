/- The document's entries: one, may, Traces. -/
import Derived.Test.YtdpngmgaomghoaaGreatDoorEntB
import Derived.Test.YtdpngmgaomghoaaGreatDoorEntI
namespace Go.Proofs.YtdpngmgaomghoaaGreatDoor
open Tryz
set_option maxRecDepth 100000
set_option maxHeartbeats 4000000
open Go.RowKit
namespace Rf28
open BagP KeyP EntP OpsP PackP SetP SetW SetF Sli Name Pack Delta
open Ent (bg bg_app bg_one mays apE TI TIs ints infoI TE TEs En EL)
attribute [local go_sem] Eng.ev Eng.getO_cons Eng.getO_nil
abbrev TRv:TypeId:=33
structure DR (w:World) (h:Nat) (L:List Sn) (R:List Nat):Prop where
 s:∃A c,Bk w h #[.slice A L.length c] TRv∧Ls w A c L∧∀a,A=some a→a.block∈R∧a.block≠h
 r:h∈R∧∀b∈R,b<w.heap.size
theorem DR.fr {S:Nat→Prop} {w w':World} {h:Nat} {L:List Sn} {R:List Nat} (H:DR w h L R) (hf:Fr S w w') (hs:∀b∈R,¬S b):DR w' h L R:=by
 obtain ⟨A,c,h1,h2,h3⟩:=H.s
 exact ⟨⟨A,c,h1.fr hf (fun b hb=>by simp at hb;subst hb;exact hs _ H.r.1),h2.fr hf (fun a ha=>hs _ (h3 a ha).1),h3⟩,H.r.1,fun b hb=>Nat.lt_of_lt_of_le (H.r.2 b hb) hf.size⟩
theorem DR.keep {w w':World} {h:Nat} {L:List Sn} {R:List Nat} (H:DR w h L R) (hf:Fr (fun _=>False) w w'):DR w' h L R:=H.fr hf (fun _ _ h=>h)
theorem DR.below {w w':World} {h:Nat} {L:List Sn} {R:List Nat} (H:DR w h L R) (hb:Below w.heap.size w w'):DR w' h L R:=H.keep (Fr.of_below' hb _)
theorem DR.new (w:World):DR (w.alloc (.cells #[.slice none 0 0] TRv)) w.heap.size [] [w.heap.size]:=
 ⟨⟨none,0,Bk.new _ _ _,Ls.nil _,by simp⟩,by simp,by simp⟩
theorem bl_eq (a b:ByteArray):(a.toList==b.toList)=decide (a=b):=Ent.bl_eq a b
theorem one_ (x y:Sn) (w:World):Calls prog 26 #[x.v,y.v] w fun e w'=>e=.returned (.bool (decide (Ent.kk x=Ent.kk y)))∧Fr (fun _=>False) w w':=by
 have f1:=Fr.alloc (fun _=>False) w (.cells x.arr TSn)
 have f2:=f1.trans (Fr.alloc (fun _=>False) (w.alloc (.cells x.arr TSn)) (.cells y.arr TSn)) (T:=fun _=>False) (fun _ _ h=>h) (fun _ _ h=>h)
 have HF:=Lib.hid f2
 have b1:=(Bk.new w x.arr TSn).fr (Fr.alloc (fun _=>False) (w.alloc (.cells x.arr TSn)) (.cells y.arr TSn)) (fun _ _ h=>h)
 have b2:=Bk.new (w.alloc (.cells x.arr TSn)) y.arr TSn
 rw [World.size_alloc] at b2
 have HB1:=Lib.hid b1;have HB2:=Lib.hid b2
 have e1:=bl_eq x.s y.s;have e2:=bl_eq x.o y.o
 obtain ⟨dd,hdd⟩:∃b,decide (Ent.kk x=Ent.kk y)=b:=⟨_,rfl⟩
 have HD:Hid ((x.s=y.s∧x.o=y.o∧x.t=y.t)↔dd=true):=by
  show _↔_
  rw [←hdd,decide_eq_true_iff]
  unfold Ent.kk
  simp only [Prod.mk.injEq,and_assoc]
 rw [hdd]
 clear hdd f1 f2 b1 b2
 go_enter func26,ntmps26
 go_upto_region 1 with (fail)
 generalize ((w.alloc (.cells x.arr TSn)).alloc (.cells y.arr TSn))=W at *
 generalize w.heap.size=Bx at *
 have x4:W.cell? ⟨Bx,4,none⟩=some (.string x.s):=HB1.out.cell 4
 have x5:W.cell? ⟨Bx,5,none⟩=some (.string x.o):=HB1.out.cell 5
 have x0:W.cell? ⟨Bx,0,none⟩=some (.int .i64 x.t):=HB1.out.cell 0
 have y4:W.cell? ⟨Bx+1,4,none⟩=some (.string y.s):=HB2.out.cell 4
 have y5:W.cell? ⟨Bx+1,5,none⟩=some (.string y.o):=HB2.out.cell 5
 have y0:W.cell? ⟨Bx+1,0,none⟩=some (.int .i64 y.t):=HB2.out.cell 0
 by_cases h1:x.s=y.s
 ·rw [decide_eq_true h1] at e1
  by_cases h2:x.o=y.o
  ·rw [decide_eq_true h2] at e2
   by_cases h3:x.t=y.t
   ·have q:(x.t==y.t)=true:=by simp [h3]
    have HT:Hid (dd=true):=HD.out.1 ⟨h1,h2,h3⟩
    clear h1 h2 h3
    go_wp2_with fail
    go_ret
    exact ⟨by rw [HT.out];rfl,HF.out⟩
   ·have q:(x.t==y.t)=false:=by simp [h3]
    have HT:Hid (dd=false):=by
     cases hd:dd with
     |false=>rfl
     |true=>exact absurd (HD.out.2 hd).2.2 h3
    clear h1 h2 h3
    go_wp2_with fail
    go_ret
    exact ⟨by rw [HT.out];rfl,HF.out⟩
  ·rw [decide_eq_false h2] at e2
   have HT:Hid (dd=false):=by
    cases hd:dd with
    |false=>rfl
    |true=>exact absurd (HD.out.2 hd).2.1 h2
   clear h1 h2
   go_wp2_with fail
   go_ret
   exact ⟨by rw [HT.out];rfl,HF.out⟩
 ·rw [decide_eq_false h1] at e1
  have HT:Hid (dd=false):=by
   cases hd:dd with
   |false=>rfl
   |true=>exact absurd (HD.out.2 hd).1 h1
  clear h1 e2
  go_wp2_with fail
  go_ret
  exact ⟨by rw [HT.out];rfl,HF.out⟩
theorem mays_take {L:List Sn} {i:Nat} (hi:i<L.length):mays (L.take (i+1))=(mays (L.take i)&& !(mayN L[i] != 0)):=by
 unfold mays
 rw [List.take_succ_eq_append_getElem hi,List.any_append]
 simp [Bool.not_or]
theorem mays_no {L:List Sn} {i:Nat} (hi:i<L.length) (h:(mayN L[i] != 0)=true):mays L=false:=by
 unfold mays
 have:L.any (fun x=>mayN x != 0)=true:=List.any_eq_true.2 ⟨L[i],List.getElem_mem hi,h⟩
 rw [this];rfl
theorem may_ (A:Option Addr) (c:Nat) (L:List Sn) (w:World) (hL:Ls w A c L):Calls prog 25 #[.slice A L.length c] w fun e w'=>e=.returned (.bool (mays L))∧Fr (fun _=>False) w w':=by
 have HL:=Lib.hid hL
 have h64:L.length≤9223372036854775807:=by have:=hL.s.2.1;have:=hL.s.2.2.1;unfold maxLen at this;omega
 clear hL
 go_enter func25,ntmps25
 go_wp2_with fail
 go_loopg [3] L.length (fun gk i wr=>∃k:Nat,i=.int .i64 k∧k≤L.length∧gk=L.length-k∧Fr (fun _=>False) w wr∧mays (L.take k)=true)
 case atStart=>exact ⟨0,rfl,Nat.zero_le _,rfl,Fr.refl _ _,rfl⟩
 case round=>
  obtain ⟨k,rfl,hk,hg,hf,hm⟩:=hrel
  have HG:=Lib.hid hg;have HF:=Lib.hid hf;have HM:=Lib.hid hm
  clear hg hf hm
  have HLr:=Lib.hid (HL.out.keep HF.out)
  by_cases hlt:k<L.length
  ·obtain ⟨b1,o1,rfl,-,c1'⟩:=HLr.out.s.at hlt (by omega)
   have HRow:=Lib.hid (At.row c1' hlt)
   have HOk:=Lib.hid (HLr.out.ok _ (List.getElem_mem hlt))
   have HTk:=Lib.hid (mays_take hlt)
   have HNo:Hid ((mayN L[k] != 0)=true→mays L=false):=mays_no hlt
   clear c1'
   generalize L[k]=z at *
   have q1:(0:Int)≤(k:Int):=by omega
   have q2:decide ((k:Int)<((L.length:Nat):Int))=true:=by simp;omega
   have q3:(k:Int)<((L.length:Nat):Int):=by omega
   obtain ⟨zc0,zc1,zc2,zc3,zc4,zc5,zc6,zc7,zc8⟩:=SetW.at9 HRow.out
   go_wp2_with fail
   refine (RefMay z HOk.out wr).mono ?_
   rintro e w2 ⟨rfl,hf⟩
   have HF2:=Lib.hid (HF.out.trans hf (T:=fun _=>False) (fun _ _ h=>h) (fun _ _ h=>h))
   clear hf HRow zc0 zc1 zc2 zc3 zc4 zc5 zc6 zc7 zc8
   generalize mayN z=m at *
   cases hm:(m != 0) with
   |true=>
    have HX:=Lib.hid (HNo.out hm)
    go_wp2_with fail
    go_ret
    exact ⟨by rw [HX.out];rfl,HF2.out⟩
   |false=>
    have HX:Hid (mays (L.take (k+1))=true):=by show _=_;rw [HTk.out,HM.out,hm];rfl
    go_wp2_with fail
    go_roundg (L.length-(k+1))
    case rel=>exact ⟨k+1,by go_num,by omega,rfl,HF2.out,HX.out⟩
    case measure=>have:=HG.out;omega
  ·obtain rfl:k=L.length:=by omega
   have hm:=HM.out
   rw [List.take_length] at hm
   have HX:=Lib.hid hm
   clear hm
   have q2:decide (((L.length:Nat):Int)<((L.length:Nat):Int))=false:=by simp
   go_wp2_with fail
   go_ret
   exact ⟨by rw [HX.out];rfl,HF.out⟩
def TrI (n:Nm) (L:List Sn) (out:List Int):Prop:=out.Pairwise (· < ·)∧∀t,t∈out↔(n,t)∈L.map Ent.kk
def ltI (a b:Int):Bool:=decide (a<b)
theorem pw_I {l:List Int}:l.Pairwise (· < ·)↔l.Pairwise (fun a b=>ltI (id a) (id b)=true):=by
 unfold ltI;simp
theorem TrI.nil (n:Nm):TrI n [] []:=⟨List.Pairwise.nil,by simp⟩
theorem TrI.skip {n:Nm} {L:List Sn} {y:Sn} {out:List Int} (h:TrI n L out) (hy:(y.s,y.o)≠n):TrI n (L++ [y]) out:=
 ⟨h.1,fun t=>by
  rw [h.2,List.map_append,List.mem_append]
  refine ⟨.inl,fun h=>h.resolve_right (fun h=>?_)⟩
  simp only [List.map_cons,List.map_nil,List.mem_singleton,Ent.kk,Prod.mk.injEq] at h
  exact hy h.1.symm⟩
theorem TrI.has {n:Nm} {L:List Sn} {y:Sn} {out:List Int} (h:TrI n L out) (_hy:(y.s,y.o)=n) (ht:y.t∈out):TrI n (L++ [y]) out:=
 ⟨h.1,fun t=>by
  rw [h.2,List.map_append,List.mem_append]
  refine ⟨.inl,fun h'=>?_⟩
  rcases h' with h'|h'
  ·exact h'
  ·simp only [List.map_cons,List.map_nil,List.mem_singleton,Ent.kk,Prod.mk.injEq] at h'
   rw [←h.2,h'.2];exact ht⟩
theorem TrI.ins {n:Nm} {L:List Sn} {y:Sn} {out:List Int} (h:TrI n L out) (hy:(y.s,y.o)=n) (ht:y.t∉out):TrI n (L++ [y]) (insK (fun a=>decide (a<y.t)) y.t out):=by
 refine ⟨?_,fun t=>?_⟩
 ·exact pw_I.2 (ins_pw id ltI (fun a b c h1 h2=>by unfold ltI at *;simp at *;omega) (fun a b h1 h2=>by unfold ltI at *;simp at *;omega) y.t (pw_I.1 h.1) (fun a ha e=>ht (by rw [←show a=y.t from e];exact ha)))
 ·rw [mem_insK,h.2,List.map_append,List.mem_append]
  simp only [List.map_cons,List.map_nil,List.mem_singleton,Ent.kk,Prod.mk.injEq]
  constructor
  ·rintro (h|h)
   ·exact .inr ⟨hy.symm,h⟩
   ·exact .inl h
  ·rintro (h|h)
   ·exact .inr h
   ·exact .inl h.2
structure SC (w0 w:World) (b o By:Nat) (a t:Int):Prop where
 c:w.cell? ⟨b,o,none⟩=some (.int .i64 a)
 b:w.cell? ⟨By,0,none⟩=some (.int .i64 t)
 f:Fr (fun _=>False) w0 w
theorem cellK {w w':World} {b o:Nat} {v:Value} (h:w.cell? ⟨b,o,none⟩=some v) (hf:Fr (fun _=>False) w w'):w'.cell? ⟨b,o,none⟩=some v:=
 (World.cell?_of_block (w:=w) (a:=⟨b,o,none⟩) (hf.block b (World.block_lt_of_cell? w ⟨b,o,none⟩ h) (fun h=>h))).trans h
theorem SC.keep {w0 w w':World} {b o By:Nat} {a t:Int} (H:SC w0 w b o By a t) (hf:Fr (fun _=>False) w w'):SC w0 w' b o By a t:=⟨cellK H.c hf,cellK H.b hf,H.f.trans hf (fun _ _ h=>h) (fun _ _ h=>h)⟩
theorem tr8 {ops:Array Oper} (hops:Eng.fnOps Tryz.f19 8=ops) (a0:Act) (Q:Exit→Act→World→Prop) (w0 w:World) (b2 o2 len c k By:Nat) (a t:Int) (hk:k<len) (_hlen:len≤9223372036854775807) (hst:SC w0 w b2 (o2+k) By a t)
  (hn:a0.tmps.size=82) (h_7:a0.tmps.getD 7 undef=.slice (some ⟨b2,o2,none⟩) len c) (h_9:a0.tmps.getD 9 undef=.pointer (some ⟨By,0,none⟩)) (h_10:a0.tmps.getD 10 undef=.int .i64 (k:Int))
  (hpost:∀ (x:Nat→Value) (w':World),x 50=.bool (decide (a<t))→SC w0 w' b2 (o2+k) By a t→Q .normal (Eng.setAll a0 [38,39,40,41,42,43,44,45,46,47,48,49,50] x) w'):
  (Code.region 8 ops true).wp prog Q a0 w:=by
 simp only [Eng.fnOps,Eng.regOps,Tryz.f19,Option.bind_some,Option.getD_some,Nat.reduceEqDiff,↓reduceIte] at hops
 subst hops
 have q1:(0:Int)≤(k:Int):=by omega
 have q2:(k:Int)<(len:Int):=by omega
 have HSt:=Lib.hid (hst.keep (Fr.drew _ _))
 refine Eng.regionN [(0,true),(1,true),(2,true),(3,true),(4,true),(5,true),(6,true),(7,true),(8,true),(9,true),(10,true),(11,true),(12,true)] (fun w'=>w'.cell? ⟨b2,o2+k,none⟩=some (.int .i64 a)∧w'.cell? ⟨By,0,none⟩=some (.int .i64 t)) (by kernel_rfl) 82 hn (by kernel_rfl) rfl (by kernel_rfl) (⟨HSt.out.c,HSt.out.b⟩) (fun a b ha hb=>?_)
 subst ha
 have hb7:b 7=.slice (some ⟨b2,o2,none⟩) len c:=(hb 7).symm.trans h_7
 have hb9:b 9=.pointer (some ⟨By,0,none⟩):=(hb 9).symm.trans h_9
 have hb10:b 10=.int .i64 (k:Int):=(hb 10).symm.trans h_10
 clear hb h_7 h_9 h_10
 have HP:=Lib.hid hpost;have HN:=Lib.hid hn
 clear hpost hn
 iterate 13 (refine Eng.Sch.tk ?_)
 refine Eng.Sch.end_ [38,39,40,41,42,43,44,45,46,47,48,49,50] HN.out (by kernel_rfl) (by kernel_rfl) ?_
 exact HP.out _ _ rfl HSt.out
theorem tr10 {ops:Array Oper} (hops:Eng.fnOps Tryz.f19 10=ops) (a0:Act) (Q:Exit→Act→World→Prop) (w0 w:World) (b2 o2 len c k By:Nat) (a t:Int) (hk:k<len) (_hlen:len≤9223372036854775807) (hst:SC w0 w b2 (o2+k) By a t)
  (hn:a0.tmps.size=82) (h_7:a0.tmps.getD 7 undef=.slice (some ⟨b2,o2,none⟩) len c) (h_9:a0.tmps.getD 9 undef=.pointer (some ⟨By,0,none⟩)) (h_10:a0.tmps.getD 10 undef=.int .i64 (k:Int))
  (hpost:∀ (x:Nat→Value) (w':World),x 65=.bool (a==t)→SC w0 w' b2 (o2+k) By a t→Q .normal (Eng.setAll a0 [53,54,55,56,57,58,59,60,61,62,63,64,65] x) w'):
  (Code.region 10 ops true).wp prog Q a0 w:=by
 simp only [Eng.fnOps,Eng.regOps,Tryz.f19,Option.bind_some,Option.getD_some,Nat.reduceEqDiff,↓reduceIte] at hops
 subst hops
 have q1:(0:Int)≤(k:Int):=by omega
 have q2:(k:Int)<(len:Int):=by omega
 have HSt:=Lib.hid (hst.keep (Fr.drew _ _))
 refine Eng.regionN [(0,true),(1,true),(2,true),(3,true),(4,true),(5,true),(6,true),(7,true),(8,true),(9,true),(10,true),(11,true),(12,true)] (fun w'=>w'.cell? ⟨b2,o2+k,none⟩=some (.int .i64 a)∧w'.cell? ⟨By,0,none⟩=some (.int .i64 t)) (by kernel_rfl) 82 hn (by kernel_rfl) rfl (by kernel_rfl) (⟨HSt.out.c,HSt.out.b⟩) (fun a b ha hb=>?_)
 subst ha
 have hb7:b 7=.slice (some ⟨b2,o2,none⟩) len c:=(hb 7).symm.trans h_7
 have hb9:b 9=.pointer (some ⟨By,0,none⟩):=(hb 9).symm.trans h_9
 have hb10:b 10=.int .i64 (k:Int):=(hb 10).symm.trans h_10
 clear hb h_7 h_9 h_10
 have HP:=Lib.hid hpost;have HN:=Lib.hid hn
 clear hpost hn
 iterate 13 (refine Eng.Sch.tk ?_)
 refine Eng.Sch.end_ [53,54,55,56,57,58,59,60,61,62,63,64,65] HN.out (by kernel_rfl) (by kernel_rfl) ?_
 exact HP.out _ _ rfl HSt.out
theorem ints_one (l:List Int):∀u∈ints l,u.oneCell'=true:=fun u hu=>by
 obtain ⟨a,_,rfl⟩:=List.mem_map.1 hu;rfl
theorem ints_at {l:List Int} {k:Nat} (hk:k<l.length):(ints l)[k]? =some (.int .i64 l[k]):=by simp [hk]
theorem ints_ins (out:List Int) (t:Int) (K:Nat):ints (out.take K++t::out.drop K)=(ints out).take K++ .int .i64 t::(ints out).drop K:=by
 unfold ints
 rw [List.map_append,List.map_cons,List.map_take,List.map_drop]
def TrPost (n:Nm) (L:List Sn) (w:World) (e:Ending) (w':World):Prop:=∃out A c,e=.returned (.slice A out.length c)∧TrI n L out∧out.length≤L.length∧Sl w' 1 A out.length c (ints out)∧(∀a,A=some a→w.heap.size≤a.block∧a.block<w'.heap.size)∧Below w.heap.size w w'
theorem Traces (h:Nat) (L:List Sn) (R:List Nat) (s o:ByteArray) (w:World) (H:DR w h L R) (hl:L.length≤1000000):
  Calls prog 19 #[.pointer (some ⟨h,0,none⟩),.string s,.string o] w (TrPost (s,o) L w):=by
 obtain ⟨i0,hi,hz0,hz1_,hz2⟩:=info_parts infoI
 obtain ⟨A,c,hb,hL,-⟩:=H.s
 have HD:Hid (∀W,Below w.heap.size w W→W.cell? ⟨h,0,none⟩=some (.slice A L.length c)∧Ls W A c L):=fun W hW=>⟨(hb.fr (Fr.of_below' hW (fun _=>False)) (fun _ _ h=>h)).cell 0,hL.below hW⟩
 clear H hb hL
 go_enter func19,ntmps19
 go_wp2_with fail
 go_loopg [7,8] L.length (fun gk v i wr=>∃ (j:Nat) (out:List Int),i=.int .i64 j∧j≤L.length∧gk=L.length-j∧wr.ownsRow w.heap.size TI 1 v out.length (ints out)∧Below w.heap.size w wr∧TrI (s,o) (L.take j) out∧out.length≤j)
 case atStart=>exact ⟨0,[],rfl,Nat.zero_le _,rfl,World.ownsRow_nil _ _ _ _,Below.refl _ _,TrI.nil _,Nat.le_refl _⟩
 case round=>
  obtain ⟨j,out,rfl,hj,hg,hown,hbel,htr,hol⟩:=hrel
  obtain ⟨wo,hwo⟩:∃wo,wo=wr:=⟨_,rfl⟩
  subst hwo
  have HG:=Lib.hid hg;have HOw:=Lib.hid hown;have HBe:=Lib.hid hbel;have HTr:=Lib.hid htr
  have hszw:=hbel.size
  clear hg hown hbel htr
  have cB:=(HD.out _ HBe.out).1
  by_cases hlt:j<L.length
  ·have HLo:=Lib.hid (HD.out _ HBe.out).2
   obtain ⟨b1,o1,rfl,-,c1'⟩:=HLo.out.s.at hlt (by omega)
   have HRow:=Lib.hid (At.row c1' hlt)
   have hcap:=HLo.out.s.2.1
   have HTk:Hid (L.take (j+1)=L.take j++ [L[j]]):=List.take_succ_eq_append_getElem hlt
   clear c1' HLo
   generalize L[j]=y at *
   have q1:(0:Int)≤(j:Int):=by omega
   have q2:decide ((j:Int)<((L.length:Nat):Int))=true:=by simp;omega
   have q3:(j:Int)<((L.length:Nat):Int):=by omega
   obtain ⟨zc0,zc1,zc2,zc3,zc4,zc5,zc6,zc7,zc8⟩:=SetW.at9 HRow.out
   go_upto_region 6 with (fail)
   have HY:=Lib.hid (Bk.new wo y.arr TSn)
   have HOw2:=Lib.hid (HOw.out.alloc (.cells y.arr TSn));have HBe2:=Lib.hid (HBe.out.alloc hszw (.cells y.arr TSn))
   clear HRow HOw HBe cB zc0 zc1 zc2 zc3 zc4 zc5 zc6 zc7 zc8
   have hszb:w.heap.size≤(wo.alloc (.cells y.arr TSn)).heap.size:=by simp;omega
   generalize (wo.alloc (.cells y.arr TSn))=wb at *
   generalize wo.heap.size=By at *
   have y4:wb.cell? ⟨By,4,none⟩=some (.string y.s):=HY.out.cell 4
   have y5:wb.cell? ⟨By,5,none⟩=some (.string y.o):=HY.out.cell 5
   have e1:=bl_eq y.s s;have e2:=bl_eq y.o o
   have HN:Hid ((decide (y.s=s)&&decide (y.o=o))=decide ((y.s,y.o)=(s,o))):=by show _=_;simp only [Prod.mk.injEq,Bool.decide_and]
   generalize hd1:decide (y.s=s)=d1 at *
   generalize hd2:decide (y.o=o)=d2 at *
   clear hd1 hd2
   cases hdd:(d1&&d2) with
   |false=>
    have HSk:Hid (TrI (s,o) (L.take (j+1)) out):=by
     show TrI _ _ _
     rw [HTk.out]
     rw [hdd] at HN
     exact HTr.out.skip (of_decide_eq_false HN.out.symm)
    cases d1 with
    |false=>
     clear hdd HN
     go_wp2_with fail
     go_roundg (L.length-(j+1))
     case rel=>exact ⟨j+1,out,by go_num,by omega,rfl,HOw2.out,HBe2.out,HSk.out,by omega⟩
     case measure=>have:=HG.out;omega
    |true=>
     obtain rfl:d2=false:=by simpa using hdd
     clear hdd HN
     go_wp2_with fail
     go_roundg (L.length-(j+1))
     case rel=>exact ⟨j+1,out,by go_num,by omega,rfl,HOw2.out,HBe2.out,HSk.out,by omega⟩
     case measure=>have:=HG.out;omega
   |true=>
    rw [hdd] at HN
    have HNe:=Lib.hid (show (y.s,y.o)=(s,o) from of_decide_eq_true HN.out.symm)
    obtain ⟨rfl,rfl⟩:d1=true∧d2=true:=by simpa using hdd
    clear hdd HN
    obtain ⟨A1,ca,rfl,hS1,hA1⟩:=Sl.of_own HOw2.out
    have HS1:=Lib.hid hS1;have HA1:=Lib.hid hA1
    have hca:out.length≤ca∧ca≤9223372036854775807:=by have:=hS1.2.1;have:=hS1.2.2.1;unfold maxLen at this;omega
    clear hS1 hA1
    go_upto_block 2 with (fail)
    clear y4 y5 e1 e2
    go_cut [10] (fun s10 wc=>s10=.int .i64 (lowK (fun a=>decide (a<y.t)) out)∧Fr (fun _=>False) wb wc)
    case first=>
     go_wp2_with fail
     go_loopg [10] out.length (fun gk i wq=>∃k:Nat,i=.int .i64 k∧k≤out.length∧gk=out.length-k∧Fr (fun _=>False) wb wq∧∀i (h:i<out.length),i<k→decide (out[i]<y.t)=true)
     case atStart=>exact ⟨0,rfl,Nat.zero_le _,rfl,Fr.refl _ _,fun i h h'=>by omega⟩
     case round=>
      obtain ⟨k,rfl,hk,hg2,hfr,hlow⟩:=hrel
      have HG2:=Lib.hid hg2;have HLow:=Lib.hid hlow;have HFr:=Lib.hid hfr
      clear hg2 hlow hfr
      by_cases hlk:k<out.length
      ·obtain ⟨b2,o2,rfl,-,c2⟩:=HS1.out.at hlk (by omega)
       have HSC:Hid (SC wb wr b2 (o2+k) By out[k] y.t):=⟨cellK (c2 k _ (ints_at hlk)) HFr.out,(HY.out.fr HFr.out (fun _ _ h=>h)).cell 0,HFr.out⟩
       have HQ:Hid (decide (out[k]<y.t)=true→∀i (h:i<out.length),i<k+1→decide (out[i]<y.t)=true):=fun hb i h hi=>by
        rcases Nat.lt_succ_iff_lt_or_eq.1 hi with hi|rfl
        ·exact HLow.out i h hi
        ·exact hb
       have HQ2:Hid (decide (out[k]<y.t)=false→lowK (fun a=>decide (a<y.t)) out=k):=fun hb=>lowK_at _ HLow.out (.inr ⟨hlk,hb⟩)
       clear c2 HLow
       generalize out[k]=q at *
       go_upto_region 8 with (fail)
       refine tr8 (by kernel_rfl) _ _ wb wr b2 o2 out.length ca k By q y.t hlk (by omega) HSC.out rfl rfl rfl rfl ?_
       intro xx w2 hx hsc
       simp only [Eng.setAll,Act.put,List.setIfInBounds_toArray,List.set_cons_succ,List.set_cons_zero]
       rw [hx]
       have H2:=Lib.hid hsc.f
       clear hsc hx HSC
       cases hb:decide (q<y.t) with
       |true=>
        have HX:=Lib.hid (HQ.out hb)
        clear hb
        go_wp2_with fail
        go_roundg (out.length-(k+1))
        case rel=>exact ⟨k+1,by go_num,by omega,rfl,H2.out,HX.out⟩
        case measure=>have:=HG2.out;omega
       |false=>
        have HX:=Lib.hid (HQ2.out hb)
        clear hb
        go_wp2_with fail
        go_meet
        exact ⟨by rw [HX.out],H2.out⟩
      ·obtain rfl:k=out.length:=by omega
       have HX:Hid (lowK (fun a=>decide (a<y.t)) out=out.length):=lowK_at _ HLow.out (.inl rfl)
       have t1:decide ((out.length:Int)<(out.length:Int))=false:=by simp
       go_upto_region 8 with (fail)
       go_quiet (fail)
       go_wp2_with fail
       go_meet
       exact ⟨by rw [HX.out],HFr.out.trans (Fr.drewN (fun _=>False) _ _) (fun _ _ h=>h) (fun _ _ h=>h)⟩
    case rest=>
     obtain ⟨rfl,hfr⟩:=hcut
     have hll:=lowK_le (fun a=>decide (a<y.t)) out
     have HIn:Hid (insK (fun a=>decide (a<y.t)) y.t out=out.take (lowK (fun a=>decide (a<y.t)) out)++y.t::out.drop (lowK (fun a=>decide (a<y.t)) out)):=rfl
     have HHas:Hid (y.t∈out→∃h:lowK (fun a=>decide (a<y.t)) out<out.length,out[lowK (fun a=>decide (a<y.t)) out]=y.t):=fun hm=>
      low_has id ltI (fun a=>by unfold ltI;simp) y.t (pw_I.1 HTr.out.1) ⟨y.t,hm,rfl⟩
     have HIns:Hid (y.t∉out→TrI (s,o) (L.take (j+1)) (insK (fun a=>decide (a<y.t)) y.t out)):=fun hm=>by rw [HTk.out];exact HTr.out.ins HNe.out hm
     have HIl:=Lib.hid (insK_len (fun a=>decide (a<y.t)) y.t out)
     have HHs:Hid (y.t∈out→TrI (s,o) (L.take (j+1)) out):=fun hm=>by rw [HTk.out];exact HTr.out.has HNe.out hm
     generalize hinn:insK (fun a=>decide (a<y.t)) y.t out=inn at *
     clear hinn
     generalize lowK (fun a=>decide (a<y.t)) out=k at *
     rename_i wc
     have HBm:=Lib.hid (HBe2.out.trans (hfr.below hszb (fun _ _ h=>h)))
     have HOm:=Lib.hid (ownsRow_fr HOw2.out hfr (fun _ _ h=>h))
     have HSm:=Lib.hid (HS1.out.fr hfr (fun _ _ h=>h))
     have HYm:=Lib.hid (HY.out.fr hfr (fun _ _ h=>h))
     have hszf:=hfr.size
     have hszm:w.heap.size≤wc.heap.size:=by omega
     clear HBe2 HOw2 HS1 HY hfr HTr HTk HNe
     by_cases hh:k<out.length∧y.t∈out
     ·obtain ⟨hlk,hmem⟩:=hh
      have HE:Hid (out[k]=y.t):=by obtain ⟨_,h2⟩:=HHas.out hmem;exact h2
      have HX:=Lib.hid (HHs.out hmem)
      obtain ⟨b2,o2,rfl,-,c2⟩:=HSm.out.at hlk (by omega)
      have HSC:Hid (SC wc wc b2 (o2+k) By y.t y.t):=⟨by have:=c2 k _ (ints_at hlk);rwa [HE.out] at this,HYm.out.cell 0,Fr.refl _ _⟩
      clear c2 hmem
      go_upto_region 10 with (fail)
      refine tr10 (by kernel_rfl) _ _ wc wc b2 o2 out.length ca k By y.t y.t hlk (by omega) HSC.out rfl rfl rfl rfl ?_
      intro xx w2 hx hsc
      simp only [Eng.setAll,Act.put,List.setIfInBounds_toArray,List.set_cons_succ,List.set_cons_zero]
      rw [hx]
      have H2:=Lib.hid hsc.f
      have qe:(y.t==y.t)=true:=by simp
      clear hsc hx HSC
      go_wp2_with fail
      go_roundg (L.length-(j+1))
      case rel=>exact ⟨j+1,out,by go_num,by omega,rfl,ownsRow_fr HOm.out H2.out (fun _ _ h=>h),HBm.out.trans (H2.out.below hszm (fun _ _ h=>h)),HX.out,by omega⟩
      case measure=>have:=HG.out;omega
     ·have hnm:y.t∉out:=fun hm=>by
       obtain ⟨h1,_⟩:=HHas.out hm
       exact hh ⟨h1,hm⟩
      have HX:=Lib.hid (HIns.out hnm)
      have HNm:=Lib.hid hnm
      clear hh hnm HHas HIns HHs
      by_cases hlk:k<out.length
      ·have HE:Hid ((out[k]==y.t)=false):=by
        show _=_
        rw [beq_eq_false_iff_ne]
        exact fun e=>HNm.out (by rw [←e];exact List.getElem_mem hlk)
       obtain ⟨b2,o2,hAa,-,c2⟩:=HSm.out.at hlk (by omega)
       have HSC:Hid (SC wc wc b2 (o2+k) By out[k] y.t):=⟨c2 k _ (ints_at hlk),HYm.out.cell 0,Fr.refl _ _⟩
       subst hAa
       clear c2
       generalize hq:out[k]=q at *
       clear hq
       go_upto_region 10 with (fail)
       refine tr10 (by kernel_rfl) _ _ wc wc b2 o2 out.length ca k By q y.t hlk (by omega) HSC.out rfl rfl rfl rfl ?_
       intro xx wm hx hsc
       simp only [Eng.setAll,Act.put,List.setIfInBounds_toArray,List.set_cons_succ,List.set_cons_zero]
       rw [hx]
       have H2:=Lib.hid hsc.f
       have qe:=HE.out
       clear hsc hx HSC
       obtain ⟨A1,hA1e⟩:∃A1,A1=some (⟨b2,o2,none⟩:Addr):=⟨_,rfl⟩
       rw [←hA1e] at HSm HA1 ⊢
       clear hA1e
       have hszx:=H2.out.size
       replace HBm:=Lib.hid (HBm.out.trans (H2.out.below hszm (fun _ _ h=>h)));replace HSm:=Lib.hid (HSm.out.fr H2.out (fun _ _ h=>h));replace HYm:=Lib.hid (HYm.out.fr H2.out (fun _ _ h=>h))
       replace hszm:w.heap.size≤wm.heap.size:=by omega
       clear HOm
       have HAm:Hid (∀a,A1=some a→a.block<wm.heap.size):=fun a ha=>by have:=(HA1.out a ha).2.2;omega
       have hS1:Sl wm 1 A1 (k) ca ((ints out).take (k*1)):=HSm.out.take (k:=k) hll
       have y0:wm.cell? ⟨By,0,none⟩=some (.int .i64 y.t):=HYm.out.cell 0
       go_wp2_with (at_builtin;refine wpList_append_sl _ rfl (.tmp 66) (.tmp 69) TIs rfl wm.heap.size TI i0 (.int .i64 0) 1 8 underlying44 hi hz0 hz1_ hz2 rfl (by decide) _ _ _ rfl (World.ownsRow_nil _ _ _ _) _ _ _ _ rfl hS1 (fun u hu=>ints_one out u (List.mem_of_mem_take hu)) ?_ ?_ (Nat.le_refl _) ?_)
       ·unfold maxLen;omega
       ·omega
       intro v1 w1 hown1 hgrow1
       have hb1:Below wm.heap.size wm w1:=(Below.refl _ _).grown hgrow1 (Nat.le_refl _) (fun k e=>by simp [Value.ownBlock] at e)
       have hown1':=hown1.alloc (.cells #[.int .i64 y.t] TI)
       have HB1:=Lib.hid hb1;have HK1:=Lib.hid (ownsRow_blk hown1)
       have hsz1:wm.heap.size≤w1.heap.size:=hb1.size
       have HY1:=Lib.hid (HYm.out.fr (Fr.of_below' hb1 (fun _=>False)) (fun _ _ h=>h))
       have y1:w1.cell? ⟨By,0,none⟩=some (.int .i64 y.t):=HY1.out.cell 0
       clear hb1 hgrow1 hown1 hS1 y0
       go_wp2_with (at_builtin;refine wpList_append_sl _ rfl (.tmp 71) (.tmp 74) TIs rfl wm.heap.size TI i0 (.int .i64 0) 1 8 underlying44 hi hz0 hz1_ hz2 rfl (by decide) _ _ _ rfl hown1' _ _ _ _ rfl (Sl.one w1 TI [.int .i64 y.t] 1 rfl) (by simp [Value.oneCell']) ?_ ?_ ?_ ?_)
       ·unfold maxLen;omega
       ·omega
       ·simp;omega
       intro v2 w2 hown2 hgrow2
       have hb2:Below wm.heap.size wm w2:=(HB1.out.alloc hsz1 _).grown hgrow2 (by simp;omega) (fun k e=>(HK1.out k e).1)
       have hS3:Sl w2 1 (if ca=k then A1 else A1.map (·.add (k*1))) (out.length-k) (ca-k) ((ints out).drop (k*1)):=(HSm.out.below hb2 HAm.out).drop (k:=k) hll
       have HB2:=Lib.hid hb2;have HK2:=Lib.hid (ownsRow_blk hown2)
       have hsz2:wm.heap.size≤w2.heap.size:=hb2.size
       clear hb2 hgrow2 hown1' HB1 HK1 hsz1 y1
       go_wp2_with (at_builtin;refine wpList_append_sl _ rfl (.tmp 76) (.tmp 79) TIs rfl wm.heap.size TI i0 (.int .i64 0) 1 8 underlying44 hi hz0 hz1_ hz2 rfl (by decide) _ _ _ rfl hown2 _ _ _ _ ?_ hS3 (fun u hu=>ints_one out u (List.mem_of_mem_drop hu)) ?_ ?_ ?_ ?_)
       any_goals (unfold maxLen;omega)
       any_goals omega
       all_goals
        intro v3 w3 hown3 hgrow3
        have hb3:Below wm.heap.size wm w3:=HB2.out.grown hgrow3 hsz2 (fun k e=>(HK2.out k e).1)
        have HB3:=Lib.hid (HBm.out.trans (hb3.mono hszm));have HO3:=Lib.hid (ownsRow_base hown3 hszm)
        have HO4:Hid (w3.ownsRow w.heap.size TI 1 v3 inn.length (ints inn)):=by
         show World.ownsRow _ _ _ _ _ _ _
         have h1:k+1+(out.length-k)=out.length+1:=by omega
         rw [HIl.out,HIn.out,ints_ins]
         have:=HO3.out
         (try simp only [Nat.mul_one,List.nil_append] at this)
         (try rw [h1] at this)
         exact this
        clear hb3 hgrow3 hown3 hown2 hS3 HO3
        go_wp2_with fail
        go_roundg (L.length-(j+1))
        case rel=>exact ⟨j+1,inn,by go_num,by omega,rfl,HO4.out,HB3.out,HX.out,by rw [HIl.out];omega⟩
        case measure=>have:=HG.out;omega
      ·obtain rfl:k=out.length:=by omega
       have t1:decide ((out.length:Int)<(out.length:Int))=false:=by simp
       go_upto_region 10 with (fail)
       go_quiet (fail)
       have H2:=Lib.hid (Fr.drewN (fun _=>False) wc nq)
       generalize wc.drewN nq=wm at *
       have hszx:=H2.out.size
       replace HBm:=Lib.hid (HBm.out.trans (H2.out.below hszm (fun _ _ h=>h)));replace HSm:=Lib.hid (HSm.out.fr H2.out (fun _ _ h=>h));replace HYm:=Lib.hid (HYm.out.fr H2.out (fun _ _ h=>h))
       replace hszm:w.heap.size≤wm.heap.size:=by omega
       clear HOm
       have HAm:Hid (∀a,A1=some a→a.block<wm.heap.size):=fun a ha=>by have:=(HA1.out a ha).2.2;omega
       have hS1:Sl wm 1 A1 (out.length) ca ((ints out).take (out.length*1)):=HSm.out.take (k:=out.length) hll
       have y0:wm.cell? ⟨By,0,none⟩=some (.int .i64 y.t):=HYm.out.cell 0
       go_wp2_with (at_builtin;refine wpList_append_sl _ rfl (.tmp 66) (.tmp 69) TIs rfl wm.heap.size TI i0 (.int .i64 0) 1 8 underlying44 hi hz0 hz1_ hz2 rfl (by decide) _ _ _ rfl (World.ownsRow_nil _ _ _ _) _ _ _ _ rfl hS1 (fun u hu=>ints_one out u (List.mem_of_mem_take hu)) ?_ ?_ (Nat.le_refl _) ?_)
       ·unfold maxLen;omega
       ·omega
       intro v1 w1 hown1 hgrow1
       have hb1:Below wm.heap.size wm w1:=(Below.refl _ _).grown hgrow1 (Nat.le_refl _) (fun k e=>by simp [Value.ownBlock] at e)
       have hown1':=hown1.alloc (.cells #[.int .i64 y.t] TI)
       have HB1:=Lib.hid hb1;have HK1:=Lib.hid (ownsRow_blk hown1)
       have hsz1:wm.heap.size≤w1.heap.size:=hb1.size
       have HY1:=Lib.hid (HYm.out.fr (Fr.of_below' hb1 (fun _=>False)) (fun _ _ h=>h))
       have y1:w1.cell? ⟨By,0,none⟩=some (.int .i64 y.t):=HY1.out.cell 0
       clear hb1 hgrow1 hown1 hS1 y0
       go_wp2_with (at_builtin;refine wpList_append_sl _ rfl (.tmp 71) (.tmp 74) TIs rfl wm.heap.size TI i0 (.int .i64 0) 1 8 underlying44 hi hz0 hz1_ hz2 rfl (by decide) _ _ _ rfl hown1' _ _ _ _ rfl (Sl.one w1 TI [.int .i64 y.t] 1 rfl) (by simp [Value.oneCell']) ?_ ?_ ?_ ?_)
       ·unfold maxLen;omega
       ·omega
       ·simp;omega
       intro v2 w2 hown2 hgrow2
       have hb2:Below wm.heap.size wm w2:=(HB1.out.alloc hsz1 _).grown hgrow2 (by simp;omega) (fun k e=>(HK1.out k e).1)
       have hS3:Sl w2 1 (if ca=out.length then A1 else A1.map (·.add (out.length*1))) (out.length-out.length) (ca-out.length) ((ints out).drop (out.length*1)):=(HSm.out.below hb2 HAm.out).drop (k:=out.length) hll
       have HB2:=Lib.hid hb2;have HK2:=Lib.hid (ownsRow_blk hown2)
       have hsz2:wm.heap.size≤w2.heap.size:=hb2.size
       clear hb2 hgrow2 hown1' HB1 HK1 hsz1 y1
       go_wp2_with (at_builtin;refine wpList_append_sl _ rfl (.tmp 76) (.tmp 79) TIs rfl wm.heap.size TI i0 (.int .i64 0) 1 8 underlying44 hi hz0 hz1_ hz2 rfl (by decide) _ _ _ rfl hown2 _ _ _ _ ?_ hS3 (fun u hu=>ints_one out u (List.mem_of_mem_drop hu)) ?_ ?_ ?_ ?_)
       any_goals (unfold maxLen;omega)
       any_goals omega
       all_goals
        intro v3 w3 hown3 hgrow3
        have hb3:Below wm.heap.size wm w3:=HB2.out.grown hgrow3 hsz2 (fun k e=>(HK2.out k e).1)
        have HB3:=Lib.hid (HBm.out.trans (hb3.mono hszm));have HO3:=Lib.hid (ownsRow_base hown3 hszm)
        have HO4:Hid (w3.ownsRow w.heap.size TI 1 v3 inn.length (ints inn)):=by
         show World.ownsRow _ _ _ _ _ _ _
         have h1:out.length+1+(out.length-out.length)=out.length+1:=by omega
         rw [HIl.out,HIn.out,ints_ins]
         have:=HO3.out
         (try simp only [Nat.mul_one,List.nil_append] at this)
         (try rw [h1] at this)
         exact this
        clear hb3 hgrow3 hown3 hown2 hS3 HO3
        go_wp2_with fail
        go_roundg (L.length-(j+1))
        case rel=>exact ⟨j+1,inn,by go_num,by omega,rfl,HO4.out,HB3.out,HX.out,by rw [HIl.out];omega⟩
        case measure=>have:=HG.out;omega
  ·obtain rfl:j=L.length:=by omega
   have htr:=HTr.out
   rw [List.take_length] at htr
   have HX:=Lib.hid htr
   clear htr
   have q2:decide (((L.length:Nat):Int)<((L.length:Nat):Int))=false:=by simp
   obtain ⟨A1,ca,rfl,hS1,hA1⟩:=Sl.of_own HOw.out
   have HS1:=Lib.hid hS1;have HA1:=Lib.hid hA1
   clear hS1 hA1 HOw
   go_wp2_with fail
   go_ret
   exact ⟨out,A1,ca,rfl,HX.out,hol,HS1.out,fun a ha=>⟨(HA1.out a ha).1,(HA1.out a ha).2.2⟩,HBe.out⟩
end Rf28
end Go.Proofs.YtdpngmgaomghoaaGreatDoor
