/- Layer 28's statements: the call's own view; what must come, whatever the arguments are. -/
import Derived.Test.YtdpngmgaomghoaaGreatDoorRef28b
import Derived.Test.YtdpngmgaomghoaaGreatDoorRef28c
import Derived.Test.YtdpngmgaomghoaaGreatDoorEntC
import Derived.Test.YtdpngmgaomghoaaGreatDoorRef01
namespace Go.Proofs.YtdpngmgaomghoaaGreatDoor
open Tryz
set_option maxRecDepth 100000
set_option maxHeartbeats 4000000
open Go.RowKit
namespace Law28
open BagP KeyP EntP OpsP PackP SetP SetW SetF Sli Name Pack Delta ClsW
open Ent (EV TV bg mays apE TI TIs ints infoI TE TEs En EL AllPost)
attribute [local go_sem] Eng.ev Eng.getO_cons Eng.getO_nil
structure VE (w0 w:World) (B:Nat) (q:List Tk) (F:List Nat):Prop where
 v:∃M,EV w B q M∧F=B::M
 g:∀x∈F,w0.heap.size≤x
 b:Below w0.heap.size w0 w
section
variable {w0 w w':World} {B:Nat} {q q2:List Tk} {F:List Nat}
theorem VE.lt (H:VE w0 w B q F):∀x∈F,x<w.heap.size:=by
 obtain ⟨M,h,rfl⟩:=H.v;exact h.lt
theorem VE.fr {S:Nat→Prop} (H:VE w0 w B q F) (hf:Fr S w w') (h0:∀i,i<w0.heap.size→¬S i) (hs:∀x∈F,¬S x):VE w0 w' B q F:=by
 obtain ⟨M,h,rfl⟩:=H.v
 exact ⟨⟨M,h.fr hf hs,rfl⟩,H.g,H.b.trans (hf.below H.b.size h0)⟩
theorem VE.keep (H:VE w0 w B q F) (hf:Fr (fun _=>False) w w'):VE w0 w' B q F:=H.fr hf (fun _ _ h=>h) (fun _ _ h=>h)
theorem VE.new (hb:Below w0.heap.size w0 w):VE w0 (w.alloc (.cells #[.pointer none,.int .i64 0] TV)) w.heap.size [] [w.heap.size]:=
 ⟨⟨[],EV.new w,rfl⟩,fun x hx=>by simp at hx;have:=hb.size;omega,hb.alloc hb.size _⟩
theorem VE.apply (H:VE w0 w B q F) (d:Dl) (hd:RdD w d) (ha1:∀a,d.A1=some a→d.O≠ []→a.block∉F) (ha2:∀a,d.A2=some a→d.I≠ []→a.block∉F) (lq:q.length≤100000) (lO:d.O.length≤100000) (lI:d.I.length≤100000) (b:Bool) (hr:if b then (∃r,apE d.O d.I q=some r∧q2.Perm r) else (apE d.O d.I q=none∧q2=q)):
  Calls prog 9 #[.pointer (some ⟨B,0,none⟩),d.v] w fun e w'=>e=.returned (.bool b)∧∃F',VE w0 w' B q2 F'∧Tn F F' w w':=by
 obtain ⟨M,h,rfl⟩:=H.v
 refine (Ent.Apply B q M d w h hd ha1 ha2 lq lO lI).mono ?_
 rintro e w' ⟨b',q',M',rfl,h1,h2,h3⟩
 have hg:∀x∈B::M',w0.heap.size≤x:=fun x hx=>by
  rcases (h2.sub x hx).1 with h|h
  ·exact H.g x h
  ·exact Nat.le_trans H.b.size h
 have hb:=H.b.trans (h2.fr.below H.b.size (fun i hi hm=>by have:=H.g i hm;omega))
 cases b with
 |true=>
  rw [if_pos rfl] at hr
  obtain ⟨r,hr,hp⟩:=hr
  rcases h3 with ⟨rfl,r',h3,h4⟩| ⟨-,h3,-⟩
  ·rw [hr] at h3
   rw [←Option.some.inj h3] at h4
   exact ⟨rfl,B::M',⟨⟨M',h1.perm (h4.trans hp.symm),rfl⟩,hg,hb⟩,h2⟩
  ·rw [hr] at h3;cases h3
 |false=>
  rw [if_neg Bool.false_ne_true] at hr
  obtain ⟨hr,rfl⟩:=hr
  rcases h3 with ⟨-,r',h3,-⟩| ⟨rfl,-,h4⟩
  ·rw [hr] at h3;cases h3
  ·exact ⟨rfl,B::M',⟨⟨M',h1.perm h4,rfl⟩,hg,hb⟩,h2⟩
theorem VE.all (H:VE w0 w B q F) (lq:q.length≤1000000):Calls prog 12 #[.pointer (some ⟨B,0,none⟩)] w (AllPost q w):=by
 obtain ⟨M,h,rfl⟩:=H.v
 exact Ent.All B q M w h lq
end
abbrev sW:ByteArray:=⟨#[119,101,98]⟩
abbrev sG:ByteArray:=⟨#[103,101,116]⟩
abbrev sP:ByteArray:=⟨#[112,117,116]⟩
abbrev of (t i:Int) (o:ByteArray):Sn:=⟨t,i,0,0,sW,o,0,0,false⟩
abbrev r1:Sn:=of 2 1 sG
abbrev r2:Sn:=of 1 1 sG
abbrev r3:Sn:=of 1 2 sG
abbrev r4:Sn:=of 1 3 sP
abbrev RL:List Sn:= [r1,r2,r3,r4]
instance (n:Int):Decidable (in64 n):=by unfold in64;infer_instance
theorem of_ok (t i:Int) (o:ByteArray) (h:in64 t) (h2:in64 i) (ho:o.size≤1000):(of t i o).ok:=⟨h,h2,by show in64 0;decide,by show in64 0;decide,by show in64 0;decide,by show in64 0;decide,by show sW.size≤maxLen;unfold maxLen;decide,by show o.size≤maxLen;unfold maxLen;omega⟩
theorem of_ (t i:Int) (o:ByteArray) (w:World):Calls prog 22 #[.int .i64 t,.int .i64 i,.string o] w fun e w'=>e=.returned (of t i o).v∧Fr (fun _=>False) w w':=by
 have kb:∀W:World,(Instr.build 48 #[(0,.int .i64 t),(1,.int .i64 i),(4,.string sW),(5,.string o)]).run prog W=.ok (.agg #[.int .i64 t,.int .i64 i,.int .i64 0,.int .i64 0,.string sW,.string o,.int .i64 0,.int .i64 0,.bool false]) W:=fun W=>by kernel_rfl
 go_enter func22,ntmps22
 go_wp2_with fail
 have hh:=heap_new w (.cells (of t i o).arr 48)
 exact bodyPost_ret (results_cell_row rfl _ _ w.heap.size 48 _ (0,0) _ rfl hh underlying48 rfl (by kernel_rfl)) rfl ⟨rfl,Fr.alloc _ _ _⟩
abbrev nG:Nm:=(sW,sG)
abbrev nP:Nm:=(sW,sP)
abbrev q1:List Tk:= [(nG,2),(nG,1),(nG,1),(nP,1)]
abbrev q2:List Tk:= [(nG,2),(nG,1),(nP,1)]
abbrev q3:List Tk:= [(nG,1),(nP,1)]
theorem a_1:apE [] RL []=some q1:=by decide+kernel
theorem a_2:apE [r2] [] q1=some q2:=by decide+kernel
theorem a_3:apE [r1] [] q2=some q3:=by decide+kernel
theorem a_4:apE [r1] [] q3=none:=by decide+kernel
theorem ltGP:ltN nG nP=true:=by
 unfold ltN
 have:Ord.lt sG sP=true:=by
  show Op.bytesLess sG.toList sP.toList=true
  rw [tl_data,tl_data];decide
 rw [this];simp
theorem is_ (l m:List Int) (Q:Nm→Int→Prop) (hl:l≠ []∧l.Pairwise (· < ·)) (hm:m≠ []∧m.Pairwise (· < ·)) (h:∀n t,Q n t↔(n=nG∧t∈l)∨(n=nP∧t∈m)):IsAll Q [(nG,l),(nP,m)]:=by
 refine ⟨?_,fun e he=>?_,fun n t=>?_⟩
 ·refine List.pairwise_cons.2 ⟨fun x hx=>?_,by simp⟩
  rw [List.mem_singleton.1 hx];exact ltGP
 ·rcases List.mem_cons.1 he with rfl|he
  ·exact hl
  ·rw [List.mem_singleton.1 he];exact hm
 ·rw [h]
  constructor
  ·rintro (⟨rfl,ht⟩| ⟨rfl,ht⟩)
   ·exact ⟨_,List.mem_cons_self ..,rfl,ht⟩
   ·exact ⟨_,List.mem_cons_of_mem _ (List.mem_singleton.2 rfl),rfl,ht⟩
  ·rintro ⟨e,he,hn,ht⟩
   rcases List.mem_cons.1 he with rfl|he
   ·exact .inl ⟨hn.symm,ht⟩
   ·rw [List.mem_singleton.1 he] at hn ht
    exact .inr ⟨hn.symm,ht⟩
theorem s_4:bg (spn RL)= [(nG,1),(nG,1),(nP,1),(nG,2)]:=by decide+kernel
theorem is_of:IsAll (fun n t=>(n,t)∈bg (spn RL)) [(nG,[1,2]),(nP,[1])]:=by
 rw [s_4]
 refine is_ _ _ _ (by decide) (by decide) (fun n t=>?_)
 simp only [List.mem_cons,List.not_mem_nil,or_false,Prod.mk.injEq]
 constructor
 ·rintro (⟨h1,h2⟩| ⟨h1,h2⟩| ⟨h1,h2⟩| ⟨h1,h2⟩)<;>first|exact .inl ⟨h1,.inl h2⟩|exact .inl ⟨h1,.inr h2⟩|exact .inr ⟨h1,h2⟩
 ·rintro (⟨rfl,h|h⟩| ⟨rfl,h⟩)
  ·exact .inl ⟨rfl,h⟩
  ·exact .inr (.inr (.inr ⟨rfl,h⟩))
  ·exact .inr (.inr (.inl ⟨rfl,h⟩))
theorem is_q3:IsAll (fun n t=>(n,t)∈q3) [(nG,[1]),(nP,[1])]:=by
 refine is_ _ _ _ (by decide) (by decide) (fun n t=>?_)
 simp only [q3,List.mem_cons,List.not_mem_nil,or_false,Prod.mk.injEq]
structure AW (w0 w:World) (B:Nat) (q:List Tk) (F:List Nat) (B0:Nat):Prop where
 v:VE w0 w B q F
 l:Ls w (some ⟨B0,0,none⟩) 4 RL
 h:B0<w0.heap.size
 n:q.length≤1000
section
variable {w0 w w':World} {B:Nat} {q q':List Tk} {F:List Nat} {B0:Nat}
theorem AW.keep (H:AW w0 w B q F B0) (hf:Fr (fun _=>False) w w'):AW w0 w' B q F B0:=⟨H.v.keep hf,H.l.keep hf,H.h,H.n⟩
theorem AW.apply (H:AW w0 w B q F B0) (d:Dl) (hd:RdD w d) (h1:∀a,d.A1=some a→a.block=B0) (h2:∀a,d.A2=some a→a.block=B0) (lO:d.O.length≤1000) (lI:d.I.length≤1000) (b:Bool) (hr:if b then (∃r,apE d.O d.I q=some r∧q'.Perm r) else (apE d.O d.I q=none∧q'=q)) (l2:q'.length≤1000):
  Calls prog 9 #[.pointer (some ⟨B,0,none⟩),d.v] w fun e w'=>e=.returned (.bool b)∧∃F',AW w0 w' B q' F' B0:=by
 refine (H.v.apply d hd (fun a ha _ hm=>by have:=H.v.g _ hm;have:=h1 a ha;have:=H.h;omega) (fun a ha _ hm=>by have:=H.v.g _ hm;have:=h2 a ha;have:=H.h;omega) (by have:=H.n;omega) (by omega) (by omega) b hr).mono ?_
 rintro e w' ⟨rfl,F',hv,ht⟩
 have hk:Ls w' (some ⟨B0,0,none⟩) 4 RL:=H.l.fr ht.fr (fun a ha hm=>by cases ha;have:=H.v.g _ hm;have:=H.h;dsimp only at *;omega)
 exact ⟨rfl,F',hv,hk,H.h,l2⟩
theorem AW.s2 (H:AW w0 w B q F B0):Ls w (some ⟨B0,9,none⟩) 3 [r2]:=⟨by have:=(H.l.s.drop (k:=1) (by simp)).take (k:=1) (by simp);simpa [Addr.add] using this,fun x hx=>H.l.ok x (by simp at hx;subst hx;simp)⟩
theorem AW.s1 (H:AW w0 w B q F B0):Ls w (some ⟨B0,0,none⟩) 4 [r1]:=⟨by have:=H.l.s.take (k:=1) (by simp);simpa using this,fun x hx=>H.l.ok x (by simp at hx;subst hx;simp)⟩
theorem AW.t1 (H:AW w0 w B [] F B0):Calls prog 9 #[.pointer (some ⟨B,0,none⟩),(Dl.mk none 0 [] (some ⟨B0,0,none⟩) 4 RL).v] w fun e w'=>e=.returned (.bool true)∧∃F',AW w0 w' B q1 F' B0:=H.apply ⟨none,0,[],some ⟨B0,0,none⟩,4,RL⟩ ⟨Ls.nil _,H.l⟩ (by simp) (fun a ha=>by cases ha;rfl) (by simp) (by simp) true ⟨q1,a_1,List.Perm.refl _⟩ (by simp)
theorem AW.t2 (H:AW w0 w B q1 F B0):Calls prog 9 #[.pointer (some ⟨B,0,none⟩),(Dl.mk (some ⟨B0,9,none⟩) 3 [r2] none 0 []).v] w fun e w'=>e=.returned (.bool true)∧∃F',AW w0 w' B q2 F' B0:=H.apply ⟨some ⟨B0,9,none⟩,3,[r2],none,0,[]⟩ ⟨H.s2,Ls.nil _⟩ (fun a ha=>by cases ha;rfl) (by simp) (by simp) (by simp) true ⟨q2,a_2,List.Perm.refl _⟩ (by simp)
theorem AW.t3 (H:AW w0 w B q2 F B0):Calls prog 9 #[.pointer (some ⟨B,0,none⟩),(Dl.mk (some ⟨B0,0,none⟩) 4 [r1] none 0 []).v] w fun e w'=>e=.returned (.bool true)∧∃F',AW w0 w' B q3 F' B0:=H.apply ⟨some ⟨B0,0,none⟩,4,[r1],none,0,[]⟩ ⟨H.s1,Ls.nil _⟩ (fun a ha=>by cases ha;rfl) (by simp) (by simp) (by simp) true ⟨q3,a_3,List.Perm.refl _⟩ (by simp)
theorem AW.t4 (H:AW w0 w B q3 F B0):Calls prog 9 #[.pointer (some ⟨B,0,none⟩),(Dl.mk (some ⟨B0,0,none⟩) 4 [r1] none 0 []).v] w fun e w'=>e=.returned (.bool false)∧∃F',AW w0 w' B q3 F' B0:=H.apply ⟨some ⟨B0,0,none⟩,4,[r1],none,0,[]⟩ ⟨H.s1,Ls.nil _⟩ (fun a ha=>by cases ha;rfl) (by simp) (by simp) (by simp) false ⟨a_4,rfl⟩ (by simp)
end
theorem many (w:World) (t:TypeId) (cs:List Value) (sz n:Nat) (hn:n≤1000000) (hs:cs.length=n*sz):Sl (w.alloc (.cells cs.toArray t)) sz (some ⟨w.heap.size,0,none⟩) n n cs:=by
 refine ⟨by omega,Nat.le_refl _,by unfold maxLen;omega,(by simp),fun _=>⟨_,0,rfl,fun i u hu=>?_⟩⟩
 rw [Nat.zero_add,cell_of_block (heap_new w _)]
 simpa using hu
theorem Ls.lit (w:World) (L:List Sn) (arr:Array Value) (harr:arr=(L.flatMap scs).toArray) (n:Nat) (hn:n=L.length) (hl:L.length≤1000000) (hok:∀x∈L,x.ok):Ls (w.alloc (.cells arr TSn)) (some ⟨w.heap.size,0,none⟩) n L:=by
 subst harr;subst hn
 exact ⟨many w TSn _ 9 _ hl (flat_length scs_len L),hok⟩
theorem rl_ok:∀x∈RL,x.ok:=by
 intro x hx
 simp only [List.mem_cons,List.not_mem_nil,or_false] at hx
 rcases hx with rfl|rfl|rfl|rfl
 ·exact of_ok 2 1 sG (by decide) (by decide) (by decide)
 ·exact of_ok 1 1 sG (by decide) (by decide) (by decide)
 ·exact of_ok 1 2 sG (by decide) (by decide) (by decide)
 ·exact of_ok 1 3 sP (by decide) (by decide) (by decide)
theorem kb1 (B0:Nat) (W:World):(Instr.build TDl #[(1,.slice (some ⟨B0,0,none⟩) 4 4)]).run prog W=.ok (.agg #[.slice none 0 0,.slice (some ⟨B0,0,none⟩) 4 4]) W:=by kernel_rfl
theorem kb2 (B0:Nat) (W:World):(Instr.build TDl #[(0,.slice (some ⟨B0,9,none⟩) 1 3)]).run prog W=.ok (.agg #[.slice (some ⟨B0,9,none⟩) 1 3,.slice none 0 0]) W:=by kernel_rfl
theorem kb3 (B0:Nat) (W:World):(Instr.build TDl #[(0,.slice (some ⟨B0,0,none⟩) 1 4)]).run prog W=.ok (.agg #[.slice (some ⟨B0,0,none⟩) 1 4,.slice none 0 0]) W:=by kernel_rfl
theorem aw4 {ops:Array Oper} (hops:Eng.fnOps Tryz.f7 4=ops) (a0:Act) (Q:Exit→Act→World→Prop) (w0 w:World) (B:Nat) (F:List Nat) (B0:Nat) (hst:AW w0 w B [] F B0)
  (hn:a0.tmps.size=74) (h_1:a0.tmps.getD 1 undef=.slice (some ⟨B0,0,none⟩) 4 4) (h_3:a0.tmps.getD 3 undef=.pointer (some ⟨B,0,none⟩))
  (hpost:∀ (x:Nat→Value) (w':World) (F':List Nat),x 4=.bool true→x 5=.bool true→AW w0 w' B q2 F' B0→Q .normal (Eng.setAll a0 [4,5,15,16,17,18,19,20,21] x) w'):
  (Code.region 4 ops true).wp prog Q a0 w:=by
 simp only [Eng.fnOps,Eng.regOps,Tryz.f7,Option.bind_some,Option.getD_some,Nat.reduceEqDiff,↓reduceIte] at hops
 subst hops
 have k1:=kb1 B0;have k2:=kb2 B0
 have HSt:=Lib.hid (hst.keep (Fr.drew _ _))
 refine Eng.regionN [(0,true),(1,true),(3,true),(4,true),(5,true),(2,false),(6,false),(7,true),(8,true)] (fun w'=>True) (by kernel_rfl) 74 hn (by kernel_rfl) rfl (by kernel_rfl) (trivial) (fun a b ha hb=>?_)
 subst ha
 have hb1:b 1=.slice (some ⟨B0,0,none⟩) 4 4:=(hb 1).symm.trans h_1
 have hb3:b 3=.pointer (some ⟨B,0,none⟩):=(hb 3).symm.trans h_3
 clear hb h_1 h_3
 have HP:=Lib.hid hpost;have HN:=Lib.hid hn
 clear hpost hn
 iterate 5 (refine Eng.Sch.tk ?_)
 refine Eng.Sch.call rfl rfl (by decide) (by kernel_rfl) ?_ (AW.t1 HSt.out) ?_
 ·go_simp
 rintro e w2 ⟨rfl,F1,hv⟩
 have HSt1:=Lib.hid (hv)
 refine ⟨_,rfl,trivial,?_⟩
 refine Eng.Sch.call rfl rfl (by decide) (by kernel_rfl) ?_ (AW.t2 HSt1.out) ?_
 ·go_simp
 rintro e w3 ⟨rfl,F2,hv2⟩
 have HSt2:=Lib.hid (hv2)
 refine ⟨_,rfl,trivial,?_⟩
 refine Eng.Sch.tk ?_
 refine Eng.Sch.tk ?_
 refine Eng.Sch.end_ [4,5,15,16,17,18,19,20,21] HN.out (by kernel_rfl) (by kernel_rfl) ?_
 exact HP.out _ _ _ rfl rfl HSt2.out
theorem awake (w:World):Calls prog 7 #[] w fun e w'=>e=.returned (.bool true)∧Below w.heap.size w w':=by
 have F1:=Lib.hid (of_ 2 1 sG);have F2:=Lib.hid (of_ 1 1 sG);have F3:=Lib.hid (of_ 1 2 sG);have F4:=Lib.hid (of_ 1 3 sP)
 have HB:=Lib.hid (Below.refl w.heap.size w)
 go_enter func7,ntmps7
 go_wp2_with fail
 refine (F1.out w).mono ?_
 rintro e w1 ⟨rfl,hf⟩
 replace HB:=Lib.hid (HB.out.trans (hf.below HB.out.size (fun _ _ h=>h)))
 clear hf
 go_wp2_with fail
 refine (F2.out w1).mono ?_
 rintro e w2 ⟨rfl,hf⟩
 replace HB:=Lib.hid (HB.out.trans (hf.below HB.out.size (fun _ _ h=>h)))
 clear hf
 go_wp2_with fail
 refine (F3.out w2).mono ?_
 rintro e w3 ⟨rfl,hf⟩
 replace HB:=Lib.hid (HB.out.trans (hf.below HB.out.size (fun _ _ h=>h)))
 clear hf
 go_wp2_with fail
 refine (F4.out w3).mono ?_
 rintro e w4 ⟨rfl,hf⟩
 replace HB:=Lib.hid (HB.out.trans (hf.below HB.out.size (fun _ _ h=>h)))
 clear hf
 clear F1 F2 F3 F4
 go_upto_region 2 with (fail)
 have HLs:Hid (Ls (w4.alloc (.cells (RL.flatMap scs).toArray TSn)) (some ⟨w4.heap.size,0,none⟩) 4 RL):=Lib.hid (Ls.lit w4 RL _ rfl 4 rfl (by simp) rl_ok)
 replace HB:=Lib.hid (HB.out.alloc HB.out.size (.cells (RL.flatMap scs).toArray TSn))
 have hsz:w4.heap.size<(w4.alloc (.cells (RL.flatMap scs).toArray TSn)).heap.size:=by simp
 generalize hw5:w4.alloc (.cells (RL.flatMap scs).toArray TSn)=w5 at HLs HB hsz
 have hw5':w4.alloc (.cells #[.int .i64 2,.int .i64 1,.int .i64 0,.int .i64 0,.string sW,.string sG,.int .i64 0,.int .i64 0,.bool false,.int .i64 1,.int .i64 1,.int .i64 0,.int .i64 0,.string sW,.string sG,.int .i64 0,.int .i64 0,.bool false,.int .i64 1,.int .i64 2,.int .i64 0,.int .i64 0,.string sW,.string sG,.int .i64 0,.int .i64 0,.bool false,.int .i64 1,.int .i64 3,.int .i64 0,.int .i64 0,.string sW,.string sP,.int .i64 0,.int .i64 0,.bool false] TSn)=w5:=hw5
 rw [hw5']
 clear hw5 hw5'
 generalize w4.heap.size=B0 at *
 have HOf:=Lib.hid (Ent.Of (some ⟨B0,0,none⟩) 4 RL w5 HLs.out (by simp))
 go_wp2_with fail
 refine HOf.out.mono ?_
 rintro e w6 ⟨T,A,c,rfl,hT,hO,hb⟩
 replace HLs:=Lib.hid (HLs.out.keep (Fr.of_below' hb (fun _=>False)))
 replace HB:=Lib.hid (HB.out.trans (hb.mono HB.out.size))
 have HT:=Lib.hid (hT.ext is_of (fun _ _=>Iff.rfl));have HO:=Lib.hid hO
 have hB0:B0<w6.heap.size:=Nat.lt_of_lt_of_le hsz hb.size
 clear hT hO hb hsz HOf
 go_upto_region 4 with (fail)
 have HV:Hid (AW w6 (w6.alloc (.cells #[.pointer none,.int .i64 0] TV)) w6.heap.size [] [w6.heap.size] B0):=Lib.hid ⟨VE.new (Below.refl _ _),HLs.out.keep (Fr.alloc _ _ _),hB0,by simp⟩
 generalize w6.alloc (.cells #[.pointer none,.int .i64 0] TV)=w7 at *
 generalize hBv:w6.heap.size=Bv at *
 refine aw4 (by kernel_rfl) _ _ w6 w7 Bv _ B0 HV.out rfl rfl rfl ?_
 intro x w8 F' h4 h5 hv
 simp only [Eng.setAll,Act.put,List.setIfInBounds_toArray,List.set_cons_succ,List.set_cons_zero]
 rw [h4,h5]
 have HV8:=Lib.hid hv
 clear hv HV h4 h5 HLs
 have k3:=kb3 B0
 have HA3:=Lib.hid HV8.out.t3
 go_wp2_with fail
 refine HA3.out.mono ?_
 rintro e w9 ⟨rfl,F9,hv⟩
 have HV9:=Lib.hid hv
 clear hv HA3 HV8
 have HAl:=Lib.hid (HV9.out.v.all (by simp))
 go_wp2_with fail
 refine HAl.out.mono ?_
 rintro e w10 ⟨U,A10,c10,rfl,hU,hE,hb⟩
 have HU:=Lib.hid (hU.ext is_q3 (fun _ _=>Iff.rfl));have HE:=Lib.hid hE
 have HV10:=Lib.hid (HV9.out.keep (Fr.of_below' hb _))
 have HO10:=Lib.hid (HO.out.fr (Fr.of_below' (HV10.out.v.b) (fun _=>False)))
 clear hU hE hb HAl HV9
 obtain ⟨A0,c0,A1,c1,rfl⟩:∃A0 c0 A1 c1,T= [⟨nG,[1,2],A0,c0⟩,⟨nP,[1],A1,c1⟩]:=by
  have h:=HT.out
  have hl:=congrArg List.length h
  match T,hl with
  | [⟨n0,x0,A0,c0⟩,⟨n1,x1,A1,c1⟩],_=>
   simp only [List.map_cons,List.map_nil,List.cons.injEq,Prod.mk.injEq,and_true] at h
   obtain ⟨⟨rfl,rfl⟩,rfl,rfl⟩:=h
   exact ⟨A0,c0,A1,c1,rfl⟩
 obtain ⟨B2,d0,B3,d1,rfl⟩:∃A0 c0 A1 c1,U= [⟨nG,[1],A0,c0⟩,⟨nP,[1],A1,c1⟩]:=by
  have h:=HU.out
  have hl:=congrArg List.length h
  match U,hl with
  | [⟨n0,x0,A0,c0⟩,⟨n1,x1,A1,c1⟩],_=>
   simp only [List.map_cons,List.map_nil,List.cons.injEq,Prod.mk.injEq,and_true] at h
   obtain ⟨⟨rfl,rfl⟩,rfl,rfl⟩:=h
   exact ⟨A0,c0,A1,c1,rfl⟩
 clear HT HU
 obtain ⟨b1,o1,rfl,hb1,hc1⟩:=HO10.out.s.at (i:=0) (by simp) (by omega)
 obtain ⟨b2,o2,rfl,hb2,hc2⟩:=HE.out.s.at (i:=0) (by simp) (by omega)
 have z1:w10.cell? ⟨b1,o1+2,none⟩=some (.slice A0 2 c0):=hc1 2 _ rfl
 have HC2:Hid (∀W,Below w10.heap.size w10 W→W.cell? ⟨b2,o2+1,none⟩=some (.string sG)∧W.cell? ⟨b2,o2+2,none⟩=some (.slice B2 1 d0)):=fun W hW=>⟨(hW.cell hb2).trans (hc2 1 _ rfl),(hW.cell hb2).trans (hc2 2 _ rfl)⟩
 have HS1:Hid (Sl w10 1 A0 2 c0 (ints [1,2])):=HO10.out.b _ (List.mem_cons_self ..)
 have HS2:Hid (Sl w10 1 B2 1 d0 (ints [1])):=HE.out.b _ (List.mem_cons_self ..)
 have t1:(sG.toList==sG.toList)=true:=by simp
 clear hc1 hc2 HO10 HO HE
 have fa:=Fr.alloc (fun _=>False) w10 (.cells #[.int .i64 1,.int .i64 2] TI)
 have HSI:=Lib.hid (SameInts' A0 (some ⟨w10.heap.size,0,none⟩) c0 2 [1,2] [1,2] (w10.alloc (.cells #[.int .i64 1,.int .i64 2] TI)) 2 2 rfl rfl (HS1.out.fr fa (fun _ _ h=>h)) (many w10 TI [.int .i64 1,.int .i64 2] 1 2 (by omega) rfl))
 rw [show decide (([1,2]:List Int)= [1,2])=true from by simp] at HSI
 have HV11:=Lib.hid (HV10.out.keep fa)
 have HBa:=Lib.hid (fa.below (Nat.le_refl w10.heap.size) (fun _ _ h=>h))
 have HS22:=Lib.hid (HS2.out.fr fa (fun _ _ h=>h))
 clear fa HS1
 go_wp2_with fail
 refine HSI.out.mono ?_
 rintro e w11 ⟨rfl,hf⟩
 have HV12:=Lib.hid (HV11.out.keep hf)
 have HBb:=Lib.hid (HBa.out.trans (hf.below HBa.out.size (fun _ _ h=>h)))
 obtain ⟨x1,x2⟩:=HC2.out w11 HBb.out
 have fa:=Fr.alloc (fun _=>False) w11 (.cells #[.int .i64 1] TI)
 have HSJ:=Lib.hid (SameInts' B2 (some ⟨w11.heap.size,0,none⟩) d0 1 [1] [1] (w11.alloc (.cells #[.int .i64 1] TI)) 1 1 rfl rfl ((HS22.out.fr hf (fun _ _ h=>h)).fr fa (fun _ _ h=>h)) (many w11 TI [.int .i64 1] 1 1 (by omega) rfl))
 rw [show decide (([1]:List Int)= [1])=true from by simp] at HSJ
 have HV13:=Lib.hid (HV12.out.keep fa)
 clear hf fa HSI HV10 HV11 HV12 HS2 HS22 HBa HC2 z1
 go_wp2_with fail
 refine HSJ.out.mono ?_
 rintro e w12 ⟨rfl,hf⟩
 have HV14:=Lib.hid (HV13.out.keep hf)
 have HA4:=Lib.hid HV14.out.t4
 clear hf HSJ HV13 x1 x2
 go_wp2_with fail
 refine HA4.out.mono ?_
 rintro e w13 ⟨rfl,F13,hv⟩
 have HB13:=Lib.hid (HB.out.trans (hv.v.b.mono HB.out.size))
 clear hv HA4
 go_wp2_with fail
 go_ret
 exact ⟨rfl,HB13.out⟩
end Law28
end Go.Proofs.YtdpngmgaomghoaaGreatDoor
