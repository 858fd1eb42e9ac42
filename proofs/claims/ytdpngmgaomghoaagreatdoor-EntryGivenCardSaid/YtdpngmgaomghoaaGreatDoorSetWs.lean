/- Sets of records, the document's: what is ahead, where a key is, one more, without some. -/
import Derived.Test.YtdpngmgaomghoaaGreatDoorSetP
import Derived.Test.YtdpngmgaomghoaaGreatDoorRngs
import Derived.Deep.CutBlock
namespace Go.Proofs.YtdpngmgaomghoaaGreatDoor
open Tryz
set_option maxRecDepth 100000
set_option maxHeartbeats 400000
open Go.RowKit
namespace SetW
open SetP
attribute [local go_sem] Eng.ev Eng.getO_cons Eng.getO_nil
abbrev TSn:TypeId:=48
abbrev TSs:TypeId:=31
abbrev scs (x:Sn):List Value:=x.cs
theorem scs_len (x:Sn):(scs x).length=9:=rfl
theorem infoS:(prog.info? TSn).map (fun i=>(i.zero,i.size,i.bytes))=some (some (.agg #[.int .i64 0,.int .i64 0,.int .i64 0,.int .i64 0,.string ByteArray.empty,.string ByteArray.empty,.int .i64 0,.int .i64 0,.bool false]),9,88):=by kernel_rfl
def eqS (a b:Sn):Bool:=decide (a=b)
theorem neq_parts (t i p r b d t' i' p' r' b' d':Int) (s o s' o':ByteArray) (g g':Bool) (w:World):(binOp .neq TSn (.agg #[.int .i64 t,.int .i64 i,.int .i64 p,.int .i64 r,.string s,.string o,.int .i64 b,.int .i64 d,.bool g]) (.agg #[.int .i64 t',.int .i64 i',.int .i64 p',.int .i64 r',.string s',.string o',.int .i64 b',.int .i64 d',.bool g'])).run prog w
  = .ok (.bool (!eqS ⟨t,i,p,r,s,o,b,d,g⟩ ⟨t',i',p',r',s',o',b',d',g'⟩)) w:=by
 unfold eqS
 have hS:prog.underlying TSn=some (.struct (prog.fieldsOf TSn)):=by kernel_rfl
 have hp:prog.stoodInHeld TSn=false:=by kernel_rfl
 rw [run_neq_struct,show (10000:Nat)=9999+1 from rfl,run_equalIn_agg w 9999 TSn _ _ hS hp]
 simp only [Program.fieldsOf,underlying48]
 go_simp
 have es:s.toList=s'.toList↔s=s':=⟨str_ext,fun h=>by rw [h]⟩
 have eo:o.toList=o'.toList↔o=o':=⟨str_ext,fun h=>by rw [h]⟩
 simp only [es,eo]
 clear es eo hS hp
 (repeat' split)<;>simp_all
theorem Before (a b:Sn) (w:World):Calls prog 84 #[a.v,b.v] w fun e w'=>e=.returned (.bool (bef a b))∧Fr (fun _=>False) w w':=by
 obtain ⟨t,i,p,r,s,o,u,d,g⟩:=a
 obtain ⟨t',i',p',r',s',o',u',d',g'⟩:=b
 have HF:Hid (Fr (fun _=>False) w ((w.alloc (.cells (Sn.arr ⟨t,i,p,r,s,o,u,d,g⟩) TSn)).alloc (.cells (Sn.arr ⟨t',i',p',r',s',o',u',d',g'⟩) TSn))):=(Fr.alloc _ _ _).trans (Fr.alloc (fun _=>False) _ _) (fun _ _ h=>h) (fun _ _ h=>h)
 unfold bef
 dsimp only
 by_cases h1:t<t'
 ·have q1:decide (t<t')=true:=by simpa using h1
  rw [q1,Bool.true_or]
  clear h1
  go_enter func84,ntmps84
  go_wp2_with fail
  go_ret
  exact ⟨rfl,HF.out⟩
 ·have q1:decide (t<t')=false:=by simpa using h1
  rw [q1,Bool.false_or]
  by_cases h2:t=t'
  ·subst h2
   clear h1
   simp only [decide_true,Bool.true_and]
   go_enter func84,ntmps84
   go_wp2_with fail
   go_ret
   exact ⟨rfl,HF.out⟩
  ·have q2:(t==t')=false:=by simpa using h2
   have e2:decide (t=t')=false:=by simpa using h2
   rw [e2,Bool.false_and]
   clear h1 h2 e2
   go_enter func84,ntmps84
   go_wp2_with fail
   go_ret
   exact ⟨rfl,HF.out⟩
theorem One (a b:Sn) (w:World):Calls prog 81 #[a.v,b.v] w fun e w'=>e=.returned (.bool (one a b))∧Fr (fun _=>False) w w':=by
 obtain ⟨t,i,p,r,s,o,u,d,g⟩:=a
 obtain ⟨t',i',p',r',s',o',u',d',g'⟩:=b
 have HF:Hid (Fr (fun _=>False) w ((w.alloc (.cells (Sn.arr ⟨t,i,p,r,s,o,u,d,g⟩) TSn)).alloc (.cells (Sn.arr ⟨t',i',p',r',s',o',u',d',g'⟩) TSn))):=(Fr.alloc _ _ _).trans (Fr.alloc (fun _=>False) _ _) (fun _ _ h=>h) (fun _ _ h=>h)
 unfold one
 dsimp only
 by_cases h2:t=t'
 ·subst h2
  simp only [decide_true,Bool.true_and]
  by_cases h3:i=i'
  ·subst h3
   simp only [decide_true]
   go_enter func81,ntmps81
   go_wp2_with fail
   go_ret
   exact ⟨rfl,HF.out⟩
  ·have q2:(i==i')=false:=by simpa using h3
   have e2:decide (i=i')=false:=by simpa using h3
   rw [e2]
   clear h3 e2
   go_enter func81,ntmps81
   go_wp2_with fail
   go_ret
   exact ⟨rfl,HF.out⟩
 ·have q2:(t==t')=false:=by simpa using h2
  have e2:decide (t=t')=false:=by simpa using h2
  rw [e2,Bool.false_and]
  clear h2 e2
  go_enter func81,ntmps81
  go_wp2_with fail
  go_ret
  exact ⟨rfl,HF.out⟩
def At (w:World) (b o:Nat) (x:Sn):Prop:=∀j u,x.cs[j]? =some u→w.cell? ⟨b,o+j,none⟩=some u
theorem at9 {w:World} {b o:Nat} {x:Sn} (h:At w b o x):w.cell? ⟨b,o,none⟩=some (.int .i64 x.t)∧w.cell? ⟨b,o+1,none⟩=some (.int .i64 x.i)∧w.cell? ⟨b,o+1+1,none⟩=some (.int .i64 x.p)∧w.cell? ⟨b,o+1+1+1,none⟩=some (.int .i64 x.r)∧w.cell? ⟨b,o+1+1+1+1,none⟩=some (.string x.s)∧w.cell? ⟨b,o+1+1+1+1+1,none⟩=some (.string x.o)∧w.cell? ⟨b,o+1+1+1+1+1+1,none⟩=some (.int .i64 x.b)∧w.cell? ⟨b,o+1+1+1+1+1+1+1,none⟩=some (.int .i64 x.d)∧w.cell? ⟨b,o+1+1+1+1+1+1+1+1,none⟩=some (.bool x.g):=⟨h 0 _ rfl,h 1 _ rfl,h 2 _ rfl,h 3 _ rfl,h 4 _ rfl,h 5 _ rfl,h 6 _ rfl,h 7 _ rfl,h 8 _ rfl⟩
theorem at0 {w:World} {b:Nat} {x:Sn} (h:At w b 0 x):w.cell? ⟨b,0,none⟩=some (.int .i64 x.t)∧w.cell? ⟨b,1,none⟩=some (.int .i64 x.i)∧w.cell? ⟨b,2,none⟩=some (.int .i64 x.p)∧w.cell? ⟨b,3,none⟩=some (.int .i64 x.r)∧w.cell? ⟨b,4,none⟩=some (.string x.s)∧w.cell? ⟨b,5,none⟩=some (.string x.o)∧w.cell? ⟨b,6,none⟩=some (.int .i64 x.b)∧w.cell? ⟨b,7,none⟩=some (.int .i64 x.d)∧w.cell? ⟨b,8,none⟩=some (.bool x.g):=⟨h 0 _ rfl,h 1 _ rfl,h 2 _ rfl,h 3 _ rfl,h 4 _ rfl,h 5 _ rfl,h 6 _ rfl,h 7 _ rfl,h 8 _ rfl⟩
theorem At.lt {w:World} {b o:Nat} {x:Sn} (h:At w b o x):b<w.heap.size:=World.block_lt_of_cell? w ⟨b,o+0,none⟩ (h 0 _ rfl)
theorem At.fr {S:Nat→Prop} {w w':World} {b o:Nat} {x:Sn} (h:At w b o x) (hf:Fr S w w') (hs:¬S b):At w' b o x:=fun j u hu=>(World.cell?_of_block (w:=w) (a:=⟨b,o+j,none⟩) (hf.block b h.lt hs)).trans (h j u hu)
theorem At.row {w:World} {b o:Nat} {L:List Sn} (hc:∀j u,(L.flatMap scs)[j]? =some u→w.cell? ⟨b,o+j,none⟩=some u) {k:Nat} (hk:k<L.length):At w b (o+k*9) L[k]:=fun j u hu=>by
 rw [Nat.add_assoc]
 refine hc _ u ?_
 have hj:j<9:=(List.getElem?_eq_some_iff.1 hu).1
 rw [flat_at scs_len hk hj];exact hu
theorem At.box {w:World} {B:Nat} {x:Sn} (h:Bk w B x.arr TSn):At w B 0 x:=fun j u hu=>by
 rw [h.cell,Nat.zero_add]
 have:x.arr[j]? =x.cs[j]? :=by show x.cs.toArray[j]? =_;simp
 rw [this];exact hu
theorem At.keep {w w':World} {b o:Nat} {x:Sn} (h:At w b o x) (hf:Fr (fun _=>False) w w'):At w' b o x:=h.fr hf (fun h=>h)
structure At2 (w0 w:World) (b o b' o':Nat) (x y:Sn):Prop where
 a:At w b o x
 b:At w b' o' y
 f:Fr (fun _=>False) w0 w
theorem At2.fr {w0 w w':World} {b o b' o':Nat} {x y:Sn} (h:At2 w0 w b o b' o' x y) (hf:Fr (fun _=>False) w w'):At2 w0 w' b o b' o' x y:=⟨h.a.fr hf (fun h=>h),h.b.fr hf (fun h=>h),h.f.trans hf (fun _ _ h=>h) (fun _ _ h=>h)⟩
theorem f4 {ops:Array Oper} (hops:Eng.fnOps Tryz.f54 4=ops) (a0:Act) (Q:Exit→Act→World→Prop) (w0 w:World) (b1 o1 len c k Bx:Nat) (y z:Sn) (hst:At2 w0 w b1 (o1+k*9) Bx 0 y z) (hk:k<len) (_hlen:len≤9223372036854775807)
  (hn:a0.tmps.size=19) (h_0:a0.tmps.getD 0 undef=.slice (some ⟨b1,o1,none⟩) len c) (h_3:a0.tmps.getD 3 undef=.pointer (some ⟨Bx,0,none⟩)) (h_5:a0.tmps.getD 5 undef=.int .i64 (k:Int))
  (hpost:∀ (x:Nat→Value) (w':World),x 17=.bool (one y z)→At2 w0 w' b1 (o1+k*9) Bx 0 y z→Q .normal (Eng.setAll a0 [12,13,14,15,16,17] x) w'):
  (Code.region 4 ops true).wp prog Q a0 w:=by
 simp only [Eng.fnOps,Eng.regOps,Tryz.f54,Option.bind_some,Option.getD_some,Nat.reduceEqDiff,↓reduceIte] at hops
 subst hops
 have q1:(0:Int)≤(k:Int):=by omega
 have q2:(k:Int)<(len:Int):=by omega
 have HSt:=Lib.hid (hst.fr (Fr.drew _ _))
 refine Eng.regionN [(0,true),(1,true),(2,true),(3,true),(4,true),(5,false)] (fun w'=>w'.cell? ⟨b1,o1+k*9,none⟩=some (.int .i64 y.t)∧w'.cell? ⟨b1,o1+k*9+1,none⟩=some (.int .i64 y.i)∧w'.cell? ⟨b1,o1+k*9+1+1,none⟩=some (.int .i64 y.p)∧w'.cell? ⟨b1,o1+k*9+1+1+1,none⟩=some (.int .i64 y.r)∧w'.cell? ⟨b1,o1+k*9+1+1+1+1,none⟩=some (.string y.s)∧w'.cell? ⟨b1,o1+k*9+1+1+1+1+1,none⟩=some (.string y.o)∧w'.cell? ⟨b1,o1+k*9+1+1+1+1+1+1,none⟩=some (.int .i64 y.b)∧w'.cell? ⟨b1,o1+k*9+1+1+1+1+1+1+1,none⟩=some (.int .i64 y.d)∧w'.cell? ⟨b1,o1+k*9+1+1+1+1+1+1+1+1,none⟩=some (.bool y.g)∧w'.cell? ⟨Bx,0,none⟩=some (.int .i64 z.t)∧w'.cell? ⟨Bx,1,none⟩=some (.int .i64 z.i)∧w'.cell? ⟨Bx,2,none⟩=some (.int .i64 z.p)∧w'.cell? ⟨Bx,3,none⟩=some (.int .i64 z.r)∧w'.cell? ⟨Bx,4,none⟩=some (.string z.s)∧w'.cell? ⟨Bx,5,none⟩=some (.string z.o)∧w'.cell? ⟨Bx,6,none⟩=some (.int .i64 z.b)∧w'.cell? ⟨Bx,7,none⟩=some (.int .i64 z.d)∧w'.cell? ⟨Bx,8,none⟩=some (.bool z.g)) (by kernel_rfl) 19 hn (by kernel_rfl) rfl (by kernel_rfl) (⟨HSt.out.a 0 _ rfl,HSt.out.a 1 _ rfl,HSt.out.a 2 _ rfl,HSt.out.a 3 _ rfl,HSt.out.a 4 _ rfl,HSt.out.a 5 _ rfl,HSt.out.a 6 _ rfl,HSt.out.a 7 _ rfl,HSt.out.a 8 _ rfl,HSt.out.b 0 _ rfl,HSt.out.b 1 _ rfl,HSt.out.b 2 _ rfl,HSt.out.b 3 _ rfl,HSt.out.b 4 _ rfl,HSt.out.b 5 _ rfl,HSt.out.b 6 _ rfl,HSt.out.b 7 _ rfl,HSt.out.b 8 _ rfl⟩) (fun a b ha hb=>?_)
 subst ha
 have hb0:b 0=.slice (some ⟨b1,o1,none⟩) len c:=(hb 0).symm.trans h_0
 have hb3:b 3=.pointer (some ⟨Bx,0,none⟩):=(hb 3).symm.trans h_3
 have hb5:b 5=.int .i64 (k:Int):=(hb 5).symm.trans h_5
 clear hb h_0 h_3 h_5
 have HP:=Lib.hid hpost;have HN:=Lib.hid hn
 clear hpost hn
 iterate 5 (refine Eng.Sch.tk ?_)
 refine Eng.Sch.call rfl rfl (by decide) (by kernel_rfl) ?_ (One y z _) ?_
 ·go_simp
 rintro e w2 ⟨rfl,hf⟩
 have HSt1:=Lib.hid (HSt.out.fr hf)
 refine ⟨_,rfl,⟨HSt1.out.a 0 _ rfl,HSt1.out.a 1 _ rfl,HSt1.out.a 2 _ rfl,HSt1.out.a 3 _ rfl,HSt1.out.a 4 _ rfl,HSt1.out.a 5 _ rfl,HSt1.out.a 6 _ rfl,HSt1.out.a 7 _ rfl,HSt1.out.a 8 _ rfl,HSt1.out.b 0 _ rfl,HSt1.out.b 1 _ rfl,HSt1.out.b 2 _ rfl,HSt1.out.b 3 _ rfl,HSt1.out.b 4 _ rfl,HSt1.out.b 5 _ rfl,HSt1.out.b 6 _ rfl,HSt1.out.b 7 _ rfl,HSt1.out.b 8 _ rfl⟩,?_⟩
 refine Eng.Sch.end_ [12,13,14,15,16,17] HN.out (by kernel_rfl) (by kernel_rfl) ?_
 exact HP.out _ _ rfl HSt1.out
def pos (x:Sn) (L:List Sn):Option Nat:=L.findIdx? (fun y=>one y x)
def posI (x:Sn) (L:List Sn):Int:=match pos x L with
 |some k=>k
 |none=> -1
theorem pos_at {x:Sn}:∀ {L:List Sn} {k:Nat},(∀y∈L.take k,one y x=false)→(h:k<L.length)→one L[k] x=true→pos x L=some k
 | [],k,_,h,_=>by simp at h
 |a::L,0,_,_,h1=>by
  have h1':one a x=true:=h1
  unfold pos;rw [List.findIdx?_cons,h1'];rfl
 |a::L,k+1,h0,h,h1=>by
  have ha:=h0 a (by simp)
  have ih:=pos_at (x:=x) (L:=L) (k:=k) (fun y hy=>h0 y (by simp [hy])) (by simpa using h) h1
  unfold pos at ih ⊢
  rw [List.findIdx?_cons,ha,ih];rfl
theorem pos_none {x:Sn} {L:List Sn} (h:∀y∈L,one y x=false):pos x L=none:=by
 unfold pos;rw [List.findIdx?_eq_none_iff];exact h
theorem pos_fnd {x:Sn}:∀ {L:List Sn},(∃k,∃h:k<L.length,pos x L=some k∧fnd x L=some L[k])∨(pos x L=none∧fnd x L=none)
 | []=>.inr ⟨rfl,rfl⟩
 |a::L=>by
  unfold pos fnd
  rw [List.findIdx?_cons,List.find?_cons]
  cases h:one a x with
  |true=>exact .inl ⟨0,by simp,rfl,rfl⟩
  |false=>
   rcases pos_fnd (x:=x) (L:=L) with ⟨k,hk,h1,h2⟩| ⟨h1,h2⟩
   ·unfold pos at h1;unfold fnd at h2
    exact .inl ⟨k+1,by simpa using hk,by rw [h1];rfl,h2⟩
   ·unfold pos at h1;unfold fnd at h2
    exact .inr ⟨by rw [h1];rfl,h2⟩
theorem Find (A:Option Addr) (c:Nat) (L:List Sn) (z:Sn) (w:World) (hS:Sl w 9 A L.length c (L.flatMap scs)):
  Calls prog 54 #[.slice A L.length c,z.v] w fun e w'=>e=.returned (.int .i64 (posI z L))∧Fr (fun _=>False) w w':=by
 have hlen:L.length≤9223372036854775807:=by have:=hS.2.1;have:=hS.2.2.1;unfold maxLen at this;omega
 have HS:=Lib.hid hS
 have HB:=Lib.hid (Bk.new w z.arr TSn)
 clear hS
 go_enter func54,ntmps54
 go_wp2_with fail
 go_loopg [5] L.length (fun gk i wr=>∃k:Nat,i=.int .i64 k∧k≤L.length∧gk=L.length-k∧(∀y∈L.take k,one y z=false)∧Fr (fun _=>False) (w.alloc (.cells z.arr TSn)) wr)
 case atStart=>exact ⟨0,rfl,Nat.zero_le _,rfl,by simp,Fr.refl _ _⟩
 case round=>
  obtain ⟨k,rfl,hk,hg,hno,hf⟩:=hrel
  have HG:=Lib.hid hg;have HNo:=Lib.hid hno;have HF:=Lib.hid hf
  clear hg hno hf
  by_cases hlt:k<L.length
  ·obtain ⟨b1,o1,rfl,hb1,c1⟩:=HS.out.at hlt (by omega)
   have HA:=Lib.hid ((At.row c1 hlt).fr ((Fr.alloc (fun _=>False) w (.cells z.arr TSn)).trans HF.out (T:=fun _=>False) (fun _ _ h=>h) (fun _ _ h=>h)) (fun h=>h))
   have HX:=Lib.hid ((At.box HB.out).keep HF.out)
   clear c1 hb1
   have HP:Hid (one L[k] z=true→posI z L=k):=fun h=>by unfold posI;rw [pos_at HNo.out hlt h]
   have HT:Hid (one L[k] z=false→∀y∈L.take (k+1),one y z=false):=fun h y hy=>by
    rw [List.take_succ_eq_append_getElem hlt,List.mem_append] at hy
    rcases hy with hy|hy
    ·exact HNo.out y hy
    ·simp at hy;rw [hy];exact h
   generalize L[k]=y at *
   go_upto_region 4 with (fail)
   refine f4 (by kernel_rfl) _ _ wr wr b1 o1 _ c k _ y z ⟨HA.out,HX.out,Fr.refl _ _⟩ hlt hlen rfl rfl rfl rfl ?_
   intro x w2 h17 hst
   simp only [Eng.setAll,Act.put,List.setIfInBounds_toArray,List.set_cons_succ,List.set_cons_zero]
   rw [h17]
   have HSt:=Lib.hid hst
   clear h17 hst
   cases h1:one y z with
   |true=>
    have HE:=Lib.hid (HP.out h1)
    clear h1
    go_wp2_with fail
    go_ret
    exact ⟨by rw [HE.out];rfl,(Fr.alloc (fun _=>False) w _).trans (HF.out.trans HSt.out.f (T:=fun _=>False) (fun _ _ h=>h) (fun _ _ h=>h)) (fun _ _ h=>h) (fun _ _ h=>h)⟩
   |false=>
    have HE:=Lib.hid (HT.out h1)
    clear h1
    go_wp2_with fail
    go_roundg (L.length-(k+1))
    case rel=>exact ⟨k+1,by go_num,by omega,rfl,HE.out,HF.out.trans HSt.out.f (fun _ _ h=>h) (fun _ _ h=>h)⟩
    case measure=>have:=HG.out;omega
  ·obtain rfl:k=L.length:=by omega
   have h:=HNo.out
   rw [List.take_length] at h
   have HE:Hid (posI z L= -1):=by show _=_;unfold posI;rw [pos_none h]
   clear h
   go_wp2_with fail
   go_ret
   exact ⟨by rw [HE.out];rfl,(Fr.alloc (fun _=>False) w _).trans HF.out (fun _ _ h=>h) (fun _ _ h=>h)⟩
theorem n3 {ops:Array Oper} (hops:Eng.fnOps Tryz.f56 3=ops) (a0:Act) (Q:Exit→Act→World→Prop) (w0 w:World) (b1 o1 len c k Bx:Nat) (y z:Sn) (hst:At2 w0 w b1 (o1+k*9) Bx 0 y z) (hk:k<len) (_hlen:len≤9223372036854775807)
  (hn:a0.tmps.size=53) (h_0:a0.tmps.getD 0 undef=.slice (some ⟨b1,o1,none⟩) len c) (h_3:a0.tmps.getD 3 undef=.pointer (some ⟨Bx,0,none⟩)) (h_6:a0.tmps.getD 6 undef=.int .i64 (k:Int))
  (hpost:∀ (x:Nat→Value) (w':World),x 19=.bool (bef y z)→At2 w0 w' b1 (o1+k*9) Bx 0 y z→Q .normal (Eng.setAll a0 [8,9,10,11,12,13,14,15,16,17,18,19] x) w'):
  (Code.region 3 ops true).wp prog Q a0 w:=by
 simp only [Eng.fnOps,Eng.regOps,Tryz.f56,Option.bind_some,Option.getD_some,Nat.reduceEqDiff,↓reduceIte] at hops
 subst hops
 have q1:(0:Int)≤(k:Int):=by omega
 have q2:(k:Int)<(len:Int):=by omega
 have q3:decide ((k:Int)<(len:Int))=true:=by simp;omega
 have q4:decide (k<len)=true:=by simp;omega
 have HSt:=Lib.hid (hst.fr (Fr.drew _ _))
 refine Eng.regionN [(0,true),(1,true),(2,true),(3,true),(4,true),(5,true),(6,true),(7,true),(8,true),(9,true),(10,false),(11,true)] (fun w'=>w'.cell? ⟨b1,o1+k*9,none⟩=some (.int .i64 y.t)∧w'.cell? ⟨b1,o1+k*9+1,none⟩=some (.int .i64 y.i)∧w'.cell? ⟨b1,o1+k*9+1+1,none⟩=some (.int .i64 y.p)∧w'.cell? ⟨b1,o1+k*9+1+1+1,none⟩=some (.int .i64 y.r)∧w'.cell? ⟨b1,o1+k*9+1+1+1+1,none⟩=some (.string y.s)∧w'.cell? ⟨b1,o1+k*9+1+1+1+1+1,none⟩=some (.string y.o)∧w'.cell? ⟨b1,o1+k*9+1+1+1+1+1+1,none⟩=some (.int .i64 y.b)∧w'.cell? ⟨b1,o1+k*9+1+1+1+1+1+1+1,none⟩=some (.int .i64 y.d)∧w'.cell? ⟨b1,o1+k*9+1+1+1+1+1+1+1+1,none⟩=some (.bool y.g)∧w'.cell? ⟨Bx,0,none⟩=some (.int .i64 z.t)∧w'.cell? ⟨Bx,1,none⟩=some (.int .i64 z.i)∧w'.cell? ⟨Bx,2,none⟩=some (.int .i64 z.p)∧w'.cell? ⟨Bx,3,none⟩=some (.int .i64 z.r)∧w'.cell? ⟨Bx,4,none⟩=some (.string z.s)∧w'.cell? ⟨Bx,5,none⟩=some (.string z.o)∧w'.cell? ⟨Bx,6,none⟩=some (.int .i64 z.b)∧w'.cell? ⟨Bx,7,none⟩=some (.int .i64 z.d)∧w'.cell? ⟨Bx,8,none⟩=some (.bool z.g)) (by kernel_rfl) 53 hn (by kernel_rfl) rfl (by kernel_rfl) (⟨HSt.out.a 0 _ rfl,HSt.out.a 1 _ rfl,HSt.out.a 2 _ rfl,HSt.out.a 3 _ rfl,HSt.out.a 4 _ rfl,HSt.out.a 5 _ rfl,HSt.out.a 6 _ rfl,HSt.out.a 7 _ rfl,HSt.out.a 8 _ rfl,HSt.out.b 0 _ rfl,HSt.out.b 1 _ rfl,HSt.out.b 2 _ rfl,HSt.out.b 3 _ rfl,HSt.out.b 4 _ rfl,HSt.out.b 5 _ rfl,HSt.out.b 6 _ rfl,HSt.out.b 7 _ rfl,HSt.out.b 8 _ rfl⟩) (fun a b ha hb=>?_)
 subst ha
 have hb0:b 0=.slice (some ⟨b1,o1,none⟩) len c:=(hb 0).symm.trans h_0
 have hb3:b 3=.pointer (some ⟨Bx,0,none⟩):=(hb 3).symm.trans h_3
 have hb6:b 6=.int .i64 (k:Int):=(hb 6).symm.trans h_6
 clear hb h_0 h_3 h_6
 have HP:=Lib.hid hpost;have HN:=Lib.hid hn
 clear hpost hn
 iterate 10 (refine Eng.Sch.tk ?_)
 refine Eng.Sch.call rfl rfl (by decide) (by kernel_rfl) ?_ (Before y z _) ?_
 ·go_simp
 rintro e w2 ⟨rfl,hf⟩
 have HSt1:=Lib.hid (HSt.out.fr hf)
 refine ⟨_,rfl,⟨HSt1.out.a 0 _ rfl,HSt1.out.a 1 _ rfl,HSt1.out.a 2 _ rfl,HSt1.out.a 3 _ rfl,HSt1.out.a 4 _ rfl,HSt1.out.a 5 _ rfl,HSt1.out.a 6 _ rfl,HSt1.out.a 7 _ rfl,HSt1.out.a 8 _ rfl,HSt1.out.b 0 _ rfl,HSt1.out.b 1 _ rfl,HSt1.out.b 2 _ rfl,HSt1.out.b 3 _ rfl,HSt1.out.b 4 _ rfl,HSt1.out.b 5 _ rfl,HSt1.out.b 6 _ rfl,HSt1.out.b 7 _ rfl,HSt1.out.b 8 _ rfl⟩,?_⟩
 refine Eng.Sch.tk ?_
 refine Eng.Sch.end_ [8,9,10,11,12,13,14,15,16,17,18,19] HN.out (by kernel_rfl) (by kernel_rfl) ?_
 exact HP.out _ _ rfl HSt1.out
theorem n3e {ops:Array Oper} (hops:Eng.fnOps Tryz.f56 3=ops) (a0:Act) (Q:Exit→Act→World→Prop) (w0 w:World) (A:Option Addr) (len c:Nat) (hf0:Fr (fun _=>False) w0 w)
  (hn:a0.tmps.size=53) (h_0:a0.tmps.getD 0 undef=.slice A len c) (h_6:a0.tmps.getD 6 undef=.int .i64 (len:Int))
  (hpost:∀ (x:Nat→Value) (w':World),x 19=.bool false→Fr (fun _=>False) w0 w'→Q .normal (Eng.setAll a0 [8,9,10,11,12,13,14,15,16,17,18,19] x) w'):
  (Code.region 3 ops true).wp prog Q a0 w:=by
 simp only [Eng.fnOps,Eng.regOps,Tryz.f56,Option.bind_some,Option.getD_some,Nat.reduceEqDiff,↓reduceIte] at hops
 subst hops
 have q3:decide ((len:Int)<(len:Int))=false:=by simp
 have q4:decide (len<len)=false:=by simp
 have HSt:=Lib.hid (hf0.trans (Fr.drew _ _) (T:=fun _=>False) (fun _ _ h=>h) (fun _ _ h=>h))
 refine Eng.regionN [(0,true),(1,true),(2,true),(3,true),(4,true),(5,true),(6,true),(7,true),(8,true),(9,true),(10,true),(11,true)] (fun w'=>True) (by kernel_rfl) 53 hn (by kernel_rfl) rfl (by kernel_rfl) (trivial) (fun a b ha hb=>?_)
 subst ha
 have hb0:b 0=.slice A len c:=(hb 0).symm.trans h_0
 have hb6:b 6=.int .i64 (len:Int):=(hb 6).symm.trans h_6
 clear hb h_0 h_6
 have HP:=Lib.hid hpost;have HN:=Lib.hid hn
 clear hpost hn
 iterate 5 (refine Eng.Sch.tk ?_)
 iterate 6 (refine Eng.Sch.skip rfl rfl (by decide) (by kernel_rfl) ?_)
 refine Eng.Sch.tk ?_
 refine Eng.Sch.end_ [8,9,10,11,12,13,14,15,16,17,18,19] HN.out (by kernel_rfl) (by kernel_rfl) ?_
 exact HP.out _ _ rfl HSt.out
theorem n10 {ops:Array Oper} (hops:Eng.fnOps Tryz.f56 10=ops) (a0:Act) (Q:Exit→Act→World→Prop) (w0 w:World) (b1 o1 len c k Bx:Nat) (y z:Sn) (hst:At2 w0 w b1 (o1+k*9) Bx 0 y z) (hk:k<len) (_hlen:len≤9223372036854775807)
  (hn:a0.tmps.size=53) (h_0:a0.tmps.getD 0 undef=.slice (some ⟨b1,o1,none⟩) len c) (h_3:a0.tmps.getD 3 undef=.pointer (some ⟨Bx,0,none⟩)) (h_7:a0.tmps.getD 7 undef=.int .i64 (k:Int))
  (hpost:∀ (x:Nat→Value) (w':World),x 44=.bool (bef z y)→At2 w0 w' b1 (o1+k*9) Bx 0 y z→Q .normal (Eng.setAll a0 [39,40,41,42,43,44] x) w'):
  (Code.region 10 ops true).wp prog Q a0 w:=by
 simp only [Eng.fnOps,Eng.regOps,Tryz.f56,Option.bind_some,Option.getD_some,Nat.reduceEqDiff,↓reduceIte] at hops
 subst hops
 have q1:(0:Int)≤(k:Int):=by omega
 have q2:(k:Int)<(len:Int):=by omega
 have HSt:=Lib.hid (hst.fr (Fr.drew _ _))
 refine Eng.regionN [(0,true),(1,true),(2,true),(3,true),(4,true),(5,false)] (fun w'=>w'.cell? ⟨b1,o1+k*9,none⟩=some (.int .i64 y.t)∧w'.cell? ⟨b1,o1+k*9+1,none⟩=some (.int .i64 y.i)∧w'.cell? ⟨b1,o1+k*9+1+1,none⟩=some (.int .i64 y.p)∧w'.cell? ⟨b1,o1+k*9+1+1+1,none⟩=some (.int .i64 y.r)∧w'.cell? ⟨b1,o1+k*9+1+1+1+1,none⟩=some (.string y.s)∧w'.cell? ⟨b1,o1+k*9+1+1+1+1+1,none⟩=some (.string y.o)∧w'.cell? ⟨b1,o1+k*9+1+1+1+1+1+1,none⟩=some (.int .i64 y.b)∧w'.cell? ⟨b1,o1+k*9+1+1+1+1+1+1+1,none⟩=some (.int .i64 y.d)∧w'.cell? ⟨b1,o1+k*9+1+1+1+1+1+1+1+1,none⟩=some (.bool y.g)∧w'.cell? ⟨Bx,0,none⟩=some (.int .i64 z.t)∧w'.cell? ⟨Bx,1,none⟩=some (.int .i64 z.i)∧w'.cell? ⟨Bx,2,none⟩=some (.int .i64 z.p)∧w'.cell? ⟨Bx,3,none⟩=some (.int .i64 z.r)∧w'.cell? ⟨Bx,4,none⟩=some (.string z.s)∧w'.cell? ⟨Bx,5,none⟩=some (.string z.o)∧w'.cell? ⟨Bx,6,none⟩=some (.int .i64 z.b)∧w'.cell? ⟨Bx,7,none⟩=some (.int .i64 z.d)∧w'.cell? ⟨Bx,8,none⟩=some (.bool z.g)) (by kernel_rfl) 53 hn (by kernel_rfl) rfl (by kernel_rfl) (⟨HSt.out.a 0 _ rfl,HSt.out.a 1 _ rfl,HSt.out.a 2 _ rfl,HSt.out.a 3 _ rfl,HSt.out.a 4 _ rfl,HSt.out.a 5 _ rfl,HSt.out.a 6 _ rfl,HSt.out.a 7 _ rfl,HSt.out.a 8 _ rfl,HSt.out.b 0 _ rfl,HSt.out.b 1 _ rfl,HSt.out.b 2 _ rfl,HSt.out.b 3 _ rfl,HSt.out.b 4 _ rfl,HSt.out.b 5 _ rfl,HSt.out.b 6 _ rfl,HSt.out.b 7 _ rfl,HSt.out.b 8 _ rfl⟩) (fun a b ha hb=>?_)
 subst ha
 have hb0:b 0=.slice (some ⟨b1,o1,none⟩) len c:=(hb 0).symm.trans h_0
 have hb3:b 3=.pointer (some ⟨Bx,0,none⟩):=(hb 3).symm.trans h_3
 have hb7:b 7=.int .i64 (k:Int):=(hb 7).symm.trans h_7
 clear hb h_0 h_3 h_7
 have HP:=Lib.hid hpost;have HN:=Lib.hid hn
 clear hpost hn
 iterate 5 (refine Eng.Sch.tk ?_)
 refine Eng.Sch.call rfl rfl (by decide) (by kernel_rfl) ?_ (Before z y _) ?_
 ·go_simp
 rintro e w2 ⟨rfl,hf⟩
 have HSt1:=Lib.hid (HSt.out.fr hf)
 refine ⟨_,rfl,⟨HSt1.out.a 0 _ rfl,HSt1.out.a 1 _ rfl,HSt1.out.a 2 _ rfl,HSt1.out.a 3 _ rfl,HSt1.out.a 4 _ rfl,HSt1.out.a 5 _ rfl,HSt1.out.a 6 _ rfl,HSt1.out.a 7 _ rfl,HSt1.out.a 8 _ rfl,HSt1.out.b 0 _ rfl,HSt1.out.b 1 _ rfl,HSt1.out.b 2 _ rfl,HSt1.out.b 3 _ rfl,HSt1.out.b 4 _ rfl,HSt1.out.b 5 _ rfl,HSt1.out.b 6 _ rfl,HSt1.out.b 7 _ rfl,HSt1.out.b 8 _ rfl⟩,?_⟩
 refine Eng.Sch.end_ [39,40,41,42,43,44] HN.out (by kernel_rfl) (by kernel_rfl) ?_
 exact HP.out _ _ rfl HSt1.out
structure CS (w wr:World) (Bx:Nat) (z:Sn) (v:Value) (P:List Sn):Prop where
 own:wr.ownsRow (Bx+1) TSn 9 v P.length (P.flatMap scs)
 bel:Below w.heap.size w wr
 box:At wr Bx 0 z
 sz:w.heap.size≤wr.heap.size
 bx:w.heap.size≤Bx
theorem CS.fr {w wr w':World} {Bx:Nat} {z:Sn} {v:Value} {P:List Sn} (h:CS w wr Bx z v P) (hf:Fr (fun _=>False) wr w'):CS w w' Bx z v P:=
 ⟨ownsRow_fr h.own hf (fun _ _ h=>h),h.bel.trans (hf.below h.sz (fun _ _ h=>h)),h.box.keep hf,Nat.le_trans h.sz hf.size,h.bx⟩
theorem CS.add {w wr w2:World} {Bx:Nat} {z y:Sn} {v v':Value} {P:List Sn} {o:Obj} (h:CS w wr Bx z v P) (hown:w2.ownsRow (Bx+1) TSn 9 v' (P.length+1) (P.flatMap scs++scs y)) (hg:(wr.alloc o).grownBy w2 v.ownBlock):CS w w2 Bx z v' (P++ [y]):=by
 have f1:Fr (fun b=>v.ownBlock=some b) wr w2:=(Fr.alloc (fun _=>False) wr o).trans (Fr.grown hg (S:=fun b=>v.ownBlock=some b) (fun k h=>h)) (fun _ _ h=>h.elim) (fun _ _ h=>h)
 have hb:=h.bx
 refine ⟨by rw [List.length_append,List.flatMap_append];simpa using hown,h.bel.trans (f1.below h.sz (fun k hk e=>by have:=(ownsRow_blk h.own k e).1;omega)),h.box.fr f1 (fun e=>by have:=(ownsRow_blk h.own Bx e).1;omega),Nat.le_trans h.sz f1.size,hb⟩
end SetW
set_option maxRecDepth 100000
set_option maxHeartbeats 1000000
namespace SetW
open SetP
theorem takeWhile_app' {p:Sn→Bool}:∀ {A B:List Sn},(∀q∈A,p q=true)→(A++B).takeWhile p=A++B.takeWhile p
 | [],_,_=>rfl
 |a::A,B,h=>by
  rw [List.cons_append,List.takeWhile_cons,h a (by simp),takeWhile_app' (fun q hq=>h q (by simp [hq]))];rfl
theorem takeWhile_take' {p:Sn→Bool} {L:List Sn} {j:Nat} (h1:∀y∈L.take j,p y=true) (h2:∀h:j<L.length,p L[j]=false):L.takeWhile p=L.take j:=by
 have h4:(L.drop j).takeWhile p= []:=by
  by_cases hl:j<L.length
  ·rw [List.drop_eq_getElem_cons hl,List.takeWhile_cons,h2 hl];rfl
  ·rw [List.drop_eq_nil_of_le (by omega)];rfl
 have h5:=takeWhile_app' (p:=p) (A:=L.take j) (B:=L.drop j) h1
 rw [List.take_append_drop,h4,List.append_nil] at h5
 exact h5
theorem filter_snoc {p:Sn→Bool} {L:List Sn} {k:Nat} (h:k<L.length):(L.take (k+1)).filter p=(L.take k).filter p++if p L[k] then [L[k]] else []:=by
 rw [List.take_succ_eq_append_getElem h,List.filter_append]
 congr 1
 by_cases hp:p L[k]=true<;>simp [hp]
def OwnPost (M:List Sn) (w:World) (e:Ending) (w':World):Prop:=∃v,e=.returned v∧w'.ownsRow w.heap.size TSn 9 v M.length (M.flatMap scs)∧Below w.heap.size w w'
theorem Insert (A:Option Addr) (c:Nat) (L:List Sn) (z:Sn) (w:World) (hS:Sl w 9 A L.length c (L.flatMap scs)) (hlen:L.length≤1000000):
  Calls prog 56 #[.slice A L.length c,z.v] w (OwnPost (ins z L) w):=by
 obtain ⟨i0,hi,hz0,hz1,hz2⟩:=info_parts infoS
 have HIns:Hid (ins z L=L.takeWhile (bef · z)++z::L.filter (bef z ·)):=rfl
 have HTl:=Lib.hid ((List.takeWhile_sublist (p:=(bef · z)) (l:=L)).length_le)
 have HS:=Lib.hid hS
 have HB:Hid (CS w (w.alloc (.cells z.arr TSn)) w.heap.size z (.slice none 0 0) []):=⟨World.ownsRow_nil _ _ _ _,(Below.refl _ _).alloc (Nat.le_refl _) _,At.box (Bk.new w z.arr TSn),by simp,Nat.le_refl _⟩
 have HQ:Hid (∀e w' M,OwnPost M w e w'→M=ins z L→OwnPost (ins z L) w e w'):=fun e w' M h hm=>hm▸h
 clear hS
 go_enter func56,ntmps56
 go_upto_block 0 with (fail)
 go_cut [5] (fun v wc=>CS w wc w.heap.size z v (L.takeWhile (bef · z)))
 case first=>
  go_wp2_with fail
  go_loopg [5,6] L.length (fun gk v i wr=>∃k:Nat,i=.int .i64 k∧k≤L.length∧gk=L.length-k∧(∀y∈L.take k,bef y z=true)∧CS w wr w.heap.size z v (L.take k))
  case atStart=>exact ⟨0,rfl,Nat.zero_le _,rfl,by simp,HB.out⟩
  case round=>
   obtain ⟨k,rfl,hk,hg,hlo,hst⟩:=hrel
   have HG:=Lib.hid hg;have HLo:=Lib.hid hlo;have HSt:=Lib.hid hst
   clear hg hlo hst
   by_cases hlt:k<L.length
   ·obtain ⟨b1,o1,rfl,hb1,c1⟩:=HS.out.at hlt (by omega)
    have HA:=Lib.hid ((At.row c1 hlt).fr (Fr.of_below' HSt.out.bel (fun _=>False)) (fun h=>h))
    clear c1 hb1
    have HW:Hid (bef L[k] z=false→L.takeWhile (bef · z)=L.take k):=fun h=>takeWhile_take' HLo.out (fun _=>h)
    have HSn:=Lib.hid (List.take_succ_eq_append_getElem hlt)
    generalize hy:L[k]=y at *
    have HY:=Lib.hid hy
    clear hy
    have hlen':L.length≤9223372036854775807:=by omega
    go_upto_region 3 with (fail)
    refine n3 (by kernel_rfl) _ _ wr wr b1 o1 _ c k _ y z ⟨HA.out,HSt.out.box,Fr.refl _ _⟩ hlt hlen' rfl rfl rfl rfl ?_
    intro x w2 h17 hst
    simp only [Eng.setAll,Act.put,List.setIfInBounds_toArray,List.set_cons_succ,List.set_cons_zero]
    rw [h17]
    have HSt2:=Lib.hid (HSt.out.fr hst.f);have HA2:=Lib.hid hst.a
    clear h17 hst
    cases h1:bef y z with
    |true=>
     have hown1':=HSt2.out.own.alloc (.cells y.arr TSn)
     have hsz:=HSt2.out.sz
     rw [show (L.take k).length=k by rw [List.length_take];omega] at hown1'
     have HE:Hid (∀q∈L.take (k+1),bef q z=true):=fun q hq=>by
      rw [HSn.out,List.mem_append] at hq
      rcases hq with hq|hq
      ·exact HLo.out q hq
      ·simp at hq;rw [hq];exact h1
     clear h1
     obtain ⟨yc0,yc1,yc2,yc3,yc4,yc5,yc6,yc7,yc8⟩:=SetW.at9 HA2.out
     go_wp2_with (at_builtin;refine wpList_append_sl _ rfl (.tmp 22) (.tmp 27) TSs rfl (w.heap.size+1) TSn i0 (.agg #[.int .i64 0,.int .i64 0,.int .i64 0,.int .i64 0,.string ByteArray.empty,.string ByteArray.empty,.int .i64 0,.int .i64 0,.bool false]) 9 88 underlying31 hi hz0 hz1 hz2 rfl (by decide) _ _ _ rfl hown1' _ _ _ _ rfl (Sl.one w2 TSn (scs y) 9 rfl) (by simp [Value.oneCell']) ?_ ?_ ?_ ?_)
     ·unfold maxLen;omega
     ·omega
     ·first|omega| (simp;omega)
     intro v1 w1 hown1 hgrow1
     have HC:=Lib.hid (HSt2.out.add (by rw [show (L.take k).length=k by rw [List.length_take];omega];exact hown1) hgrow1)
     clear hown1 hgrow1 hown1' yc0 yc1 yc2 yc3 yc4 yc5 yc6 yc7 yc8
     go_wp2_with fail
     go_roundg (L.length-(k+1))
     case rel=>exact ⟨k+1,by go_num,by omega,rfl,HE.out,by rw [HSn.out];exact HC.out⟩
     case measure=>have:=HG.out;omega
    |false=>
     have HE:=Lib.hid (HW.out h1)
     clear h1
     go_wp2_with fail
     go_meet
     rw [HE.out];exact HSt2.out
   ·obtain rfl:k=L.length:=by omega
    have HE:Hid (L.takeWhile (bef · z)=L.take L.length):=takeWhile_take' HLo.out (fun h=>absurd h (by omega))
    go_upto_region 3 with (fail)
    refine n3e (by kernel_rfl) _ _ wr wr A L.length c (Fr.refl _ _) rfl rfl rfl ?_
    intro x w2 h17 hf
    simp only [Eng.setAll,Act.put,List.setIfInBounds_toArray,List.set_cons_succ,List.set_cons_zero]
    rw [h17]
    have HSt2:=Lib.hid (HSt.out.fr hf)
    clear h17 hf
    go_wp2_with fail
    go_meet
    rw [HE.out];exact HSt2.out
 case rest=>
  have HC:=Lib.hid hcut
  clear hcut HB
  generalize hP:L.takeWhile (bef · z)=P at *
  have hPl:=HTl.out
  clear hP
  have hown1':=HC.out.own.alloc (.cells z.arr TSn)
  have hsz:=HC.out.sz
  have zc0:wc.cell? ⟨w.heap.size,0,none⟩=some (.int .i64 z.t):=HC.out.box 0 _ rfl
  have zc1:wc.cell? ⟨w.heap.size,1,none⟩=some (.int .i64 z.i):=HC.out.box 1 _ rfl
  have zc2:wc.cell? ⟨w.heap.size,2,none⟩=some (.int .i64 z.p):=HC.out.box 2 _ rfl
  have zc3:wc.cell? ⟨w.heap.size,3,none⟩=some (.int .i64 z.r):=HC.out.box 3 _ rfl
  have zc4:wc.cell? ⟨w.heap.size,4,none⟩=some (.string z.s):=HC.out.box 4 _ rfl
  have zc5:wc.cell? ⟨w.heap.size,5,none⟩=some (.string z.o):=HC.out.box 5 _ rfl
  have zc6:wc.cell? ⟨w.heap.size,6,none⟩=some (.int .i64 z.b):=HC.out.box 6 _ rfl
  have zc7:wc.cell? ⟨w.heap.size,7,none⟩=some (.int .i64 z.d):=HC.out.box 7 _ rfl
  have zc8:wc.cell? ⟨w.heap.size,8,none⟩=some (.bool z.g):=HC.out.box 8 _ rfl
  go_wp2_with (at_builtin;refine wpList_append_sl _ rfl (.tmp 29) (.tmp 31) TSs rfl (w.heap.size+1) TSn i0 (.agg #[.int .i64 0,.int .i64 0,.int .i64 0,.int .i64 0,.string ByteArray.empty,.string ByteArray.empty,.int .i64 0,.int .i64 0,.bool false]) 9 88 underlying31 hi hz0 hz1 hz2 rfl (by decide) _ _ _ rfl hown1' _ _ _ _ rfl (Sl.one wc TSn (scs z) 9 rfl) (by simp [Value.oneCell']) ?_ ?_ ?_ ?_)
  ·unfold maxLen;omega
  ·omega
  ·first|omega| (simp;omega)
  intro v1 w1 hown1 hgrow1
  have HC1:=Lib.hid (HC.out.add hown1 hgrow1)
  clear hown1 hgrow1 hown1' HC zc0 zc1 zc2 zc3 zc4 zc5 zc6 zc7 zc8 hsz
  go_wp2_with fail
  go_loopg [5,7] L.length (fun gk v i wr=>∃k:Nat,i=.int .i64 k∧k≤L.length∧gk=L.length-k∧CS w wr w.heap.size z v ((P++ [z])++(L.take k).filter (bef z ·)))
  case atStart=>exact ⟨0,rfl,Nat.zero_le _,rfl,by simpa using HC1.out⟩
  case round=>
   clear HC1
   obtain ⟨k,rfl,hk,hg,hst⟩:=hrel
   have HG:=Lib.hid hg;have HSt:=Lib.hid hst
   clear hg hst
   by_cases hlt:k<L.length
   ·obtain ⟨b1,o1,rfl,hb1,c1⟩:=HS.out.at hlt (by omega)
    have HA:=Lib.hid ((At.row c1 hlt).fr (Fr.of_below' HSt.out.bel (fun _=>False)) (fun h=>h))
    clear c1 hb1
    have HSn:=Lib.hid (filter_snoc (p:=(bef z ·)) hlt)
    have hfl:((L.take k).filter (bef z ·)).length≤k:=Nat.le_trans (List.length_filter_le _ _) (by rw [List.length_take];omega)
    have hlen2:((P++ [z])++(L.take k).filter (bef z ·)).length≤2*L.length+1:=by simp only [List.length_append,List.length_singleton];omega
    clear hfl
    generalize L[k]=y at *
    generalize hM:(P++ [z])++(L.take k).filter (bef z ·)=M at *
    have HM:=Lib.hid hM
    clear hM
    go_upto_region 10 with (fail)
    refine n10 (by kernel_rfl) _ _ wr wr b1 o1 _ c k _ y z ⟨HA.out,HSt.out.box,Fr.refl _ _⟩ hlt (by omega) rfl rfl rfl rfl ?_
    intro x w2 h17 hst
    simp only [Eng.setAll,Act.put,List.setIfInBounds_toArray,List.set_cons_succ,List.set_cons_zero]
    rw [h17]
    have HSt2:=Lib.hid (HSt.out.fr hst.f);have HA2:=Lib.hid hst.a
    clear h17 hst
    cases h1:bef z y with
    |true=>
     have hown1':=HSt2.out.own.alloc (.cells y.arr TSn)
     have hsz:=HSt2.out.sz
     have HE:Hid (P++ [z]++(L.take (k+1)).filter (bef z ·)=M++ [y]):=by show _=_;rw [HSn.out,h1,if_pos rfl,←List.append_assoc,HM.out]
     clear h1
     obtain ⟨yc0,yc1,yc2,yc3,yc4,yc5,yc6,yc7,yc8⟩:=SetW.at9 HA2.out
     go_wp2_with (at_builtin;refine wpList_append_sl _ rfl (.tmp 45) (.tmp 50) TSs rfl (w.heap.size+1) TSn i0 (.agg #[.int .i64 0,.int .i64 0,.int .i64 0,.int .i64 0,.string ByteArray.empty,.string ByteArray.empty,.int .i64 0,.int .i64 0,.bool false]) 9 88 underlying31 hi hz0 hz1 hz2 rfl (by decide) _ _ _ rfl hown1' _ _ _ _ rfl (Sl.one w2 TSn (scs y) 9 rfl) (by simp [Value.oneCell']) ?_ ?_ ?_ ?_)
     ·unfold maxLen;omega
     ·omega
     ·first|omega| (simp;omega)
     intro v1 w1 hown1 hgrow1
     have HC:=Lib.hid (HSt2.out.add hown1 hgrow1)
     clear hown1 hgrow1 hown1' yc0 yc1 yc2 yc3 yc4 yc5 yc6 yc7 yc8
     go_wp2_with fail
     go_roundg (L.length-(k+1))
     case rel=>exact ⟨k+1,by go_num,by omega,rfl,by rw [HE.out];exact HC.out⟩
     case measure=>have:=HG.out;omega
    |false=>
     have HE:Hid (P++ [z]++(L.take (k+1)).filter (bef z ·)=M):=by show _=_;rw [HSn.out,h1,if_neg (by simp),List.append_nil,HM.out]
     clear h1
     go_wp2_with fail
     go_roundg (L.length-(k+1))
     case rel=>exact ⟨k+1,by go_num,by omega,rfl,by rw [HE.out];exact HSt2.out⟩
     case measure=>have:=HG.out;omega
   ·obtain rfl:k=L.length:=by omega
    have HE:Hid (P++ [z]++(L.take L.length).filter (bef z ·)=ins z L):=by show _=_;rw [HIns.out,List.take_length];simp
    have HO:=Lib.hid HSt.out.own
    rw [HE.out] at HO
    obtain ⟨A2,c2,rfl,-,-⟩:=Sl.of_own HO.out
    have HBl:=Lib.hid HSt.out.bel
    clear HE HSt
    go_wp2_with fail
    go_ret
    exact ⟨_,rfl,ownsRow_base HO.out (by omega),HBl.out⟩
def wout (M L:List Sn):List Sn:=L.filter (fun y=> !decide (y∈M))
end SetW
end Go.Proofs.YtdpngmgaomghoaaGreatDoor
