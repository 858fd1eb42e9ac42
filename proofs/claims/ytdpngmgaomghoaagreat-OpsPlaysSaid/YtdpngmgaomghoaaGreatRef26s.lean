/- The document's operations: Find, Hist, set. -/
import Derived.Test.YtdpngmgaomghoaaGreatOpsNO
import Derived.Test.YtdpngmgaomghoaaGreatRef25s
namespace Go.Proofs.YtdpngmgaomghoaaGreat
open Tryz
set_option maxRecDepth 100000
set_option maxHeartbeats 2000000
open Go.RowKit
namespace Rf26
open BagP HistP OpsP KeyP PackP SetP SetW SetF Sli Name Pack Delta
attribute [local go_sem] Eng.ev Eng.getO_cons Eng.getO_nil
abbrev TDv:TypeId:=54
abbrev TIt:TypeId:=167
abbrev TIts:TypeId:=52
abbrev TRh:TypeId:=75
theorem infoI:(prog.info? TIt).map (fun i=>(i.zero,i.size,i.bytes))=some (some (.agg #[.string ByteArray.empty,.string ByteArray.empty,.slice none 0 0,.int .i64 0,.int .i64 0]),5,72):=by kernel_rfl
structure It where
 n:Nm
 x:HS
 A:Option Addr
 c:Nat
abbrev It.cs (e:It):List Value:= [.string e.n.1,.string e.n.2,.slice e.A e.x.1.length e.c,.int .i64 e.x.2.1,.int .i64 e.x.2.2]
abbrev It.v (e:It):Nm × HS:=(e.n,e.x)
theorem It.cs_len (e:It):e.cs.length=5:=rfl
abbrev itV (D:List It):Vw:=D.map (fun e=>(key e.n,e.v))
def HV (w:World) (x:HS) (A:Option Addr) (c:Nat):Prop:=Sl w 2 A x.1.length c (x.1.flatMap Bag.pc)
structure DV (w:World) (h:Nat) (D:List It) (R:List Nat):Prop where
 s:∃A c,Bk w h #[.slice A D.length c] TDv∧Sl w 5 A D.length c (D.flatMap It.cs)∧∀a,A=some a→a.block∈R∧a.block≠h
 e:∀x∈D,HV w x.x x.A x.c∧∀a,x.A=some a→a.block∈R∧a.block≠h
 r:h∈R∧∀b∈R,b<w.heap.size
theorem DV.fr {S:Nat→Prop} {w w':World} {h:Nat} {D:List It} {R:List Nat} (H:DV w h D R) (hf:Fr S w w') (hs:∀b∈R,¬S b):DV w' h D R:=by
 obtain ⟨A,c,h1,h2,h3⟩:=H.s
 exact ⟨⟨A,c,h1.fr hf (fun b hb=>by simp at hb;subst hb;exact hs _ H.r.1),h2.fr hf (fun a ha=>hs _ (h3 a ha).1),h3⟩,fun x hx=>⟨(H.e x hx).1.fr hf (fun a ha=>hs _ ((H.e x hx).2 a ha).1),(H.e x hx).2⟩,H.r.1,fun b hb=>Nat.lt_of_lt_of_le (H.r.2 b hb) hf.size⟩
theorem DV.keep {w w':World} {h:Nat} {D:List It} {R:List Nat} (H:DV w h D R) (hf:Fr (fun _=>False) w w'):DV w' h D R:=H.fr hf (fun _ _ h=>h)
theorem DV.new (w:World):DV (w.alloc (.cells #[.slice none 0 0] TDv)) w.heap.size [] [w.heap.size]:=
 ⟨⟨none,0,Bk.new _ _ _,Sl.empty _ _,by simp⟩,by simp,by simp,by simp⟩
theorem bl_eq (a b:ByteArray):(a.toList==b.toList)=decide (a=b):=by
 by_cases h:a=b
 ·subst h;simp
 ·have:a.toList≠b.toList:=fun e=>h (str_ext e)
  simp [h,this]
def FindPost (k:Nm) (D:List It) (w:World) (e:Ending) (w':World):Prop:=
 ((∃ (i:Nat) (hi:i<D.length),D[i].n=k∧e=.returned (.int .i64 (i:Int)))∨((∀x∈D,x.n≠k)∧e=.returned (.int .i64 (-1))))∧w'=w
theorem Find (h:Nat) (D:List It) (R:List Nat) (s o:ByteArray) (w:World) (H:DV w h D R) (hl:D.length≤1000000):
  Calls prog 34 #[.pointer (some ⟨h,0,none⟩),.string s,.string o] w (FindPost (s,o) D w):=by
 obtain ⟨A,c,hb,hS,-⟩:=H.s
 have c0:w.cell? ⟨h,0,none⟩=some (.slice A D.length c):=hb.cell 0
 have HS:=Lib.hid hS
 clear H hb hS
 go_enter func34,ntmps34
 go_wp2_with fail
 go_loopg [7] D.length (fun gk i wr=>wr=w∧∃k:Nat,i=.int .i64 k∧k≤D.length∧gk=D.length-k∧∀x∈D.take k,x.n≠(s,o))
 case atStart=>exact ⟨rfl,0,rfl,Nat.zero_le _,rfl,by simp⟩
 case round=>
  obtain ⟨rfl,k,rfl,hk,hg,hno⟩:=hrel
  have HG:=Lib.hid hg;have HNo:=Lib.hid hno
  clear hg hno
  by_cases hlt:k<D.length
  ·obtain ⟨b1,o1,rfl,-,c1'⟩:=HS.out.at hlt (by omega)
   have HA:Hid (∀j u,(D[k].cs)[j]? =some u→wr.cell? ⟨b1,o1+k*5+j,none⟩=some u):=fun j u hu=>by
    have hj:j<5:=by have:=(List.getElem?_eq_some_iff.1 hu).1;simpa using this
    have h1:=c1' (k*5+j) u (by rw [flat_at It.cs_len hlt hj];exact hu)
    rw [←Nat.add_assoc] at h1;exact h1
   have HTk:Hid (D.take (k+1)=D.take k++ [D[k]]):=Lib.hid (List.take_succ_eq_append_getElem hlt)
   have HF:Hid (D[k].n=(s,o)→∃ (i:Nat) (hi:i<D.length),D[i].n=(s,o)∧(i:Int)=k):=fun h=>⟨k,hlt,h,rfl⟩
   have hcap:=HS.out.2.1
   clear c1'
   generalize D[k]=y at *
   have q1:(0:Int)≤(k:Int):=by omega
   have q2:decide ((k:Int)<((D.length:Nat):Int))=true:=by simp;omega
   have q3:(k:Int)<((D.length:Nat):Int):=by omega
   have ic0:wr.cell? ⟨b1,o1+k*5,none⟩=some (.string y.n.1):=HA.out 0 _ rfl
   have ic1:wr.cell? ⟨b1,o1+k*5+1,none⟩=some (.string y.n.2):=HA.out 1 _ rfl
   have ic2:wr.cell? ⟨b1,o1+k*5+1+1,none⟩=some (.slice y.A y.x.1.length y.c):=HA.out 2 _ rfl
   have ic3:wr.cell? ⟨b1,o1+k*5+1+1+1,none⟩=some (.int .i64 y.x.2.1):=HA.out 3 _ rfl
   have ic4:wr.cell? ⟨b1,o1+k*5+1+1+1+1,none⟩=some (.int .i64 y.x.2.2):=HA.out 4 _ rfl
   have e1:=bl_eq y.n.1 s;have e2:=bl_eq y.n.2 o
   by_cases h1:y.n.1=s
   ·rw [decide_eq_true h1] at e1
    by_cases h2:y.n.2=o
    ·rw [decide_eq_true h2] at e2
     obtain ⟨i,hi,h3,h4⟩:=HF.out (Prod.ext h1 h2)
     have HE:Hid (FindPost (s,o) D wr (.returned (.int .i64 (k:Int))) wr):=⟨.inl ⟨i,hi,h3,by rw [h4]⟩,rfl⟩
     clear h1 h2 HF HNo HTk h3 h4
     go_wp2_with fail
     go_ret
     exact HE.out
    ·rw [decide_eq_false h2] at e2
     have HN:Hid (∀x∈D.take (k+1),x.n≠(s,o)):=fun x hx=>by
      rw [HTk.out] at hx
      rcases List.mem_append.1 hx with hx|hx
      ·exact HNo.out x hx
      ·simp at hx;subst hx;exact fun e=>h2 (by rw [e])
     clear h1 h2 HF HNo HTk
     go_wp2_with fail
     go_roundg (D.length-(k+1))
     case rel=>exact ⟨rfl,k+1,by go_num,by omega,rfl,HN.out⟩
     case measure=>have:=HG.out;omega
   ·rw [decide_eq_false h1] at e1
    have HN:Hid (∀x∈D.take (k+1),x.n≠(s,o)):=fun x hx=>by
     rw [HTk.out] at hx
     rcases List.mem_append.1 hx with hx|hx
     ·exact HNo.out x hx
     ·simp at hx;subst hx;exact fun e=>h1 (by rw [e])
    clear h1 e2 HF HNo HTk
    go_wp2_with fail
    go_roundg (D.length-(k+1))
    case rel=>exact ⟨rfl,k+1,by go_num,by omega,rfl,HN.out⟩
    case measure=>have:=HG.out;omega
  ·obtain rfl:k=D.length:=by omega
   have q2:decide (((D.length:Nat):Int)<((D.length:Nat):Int))=false:=by simp
   have hno:=HNo.out
   rw [List.take_length] at hno
   have HN:=Lib.hid hno
   clear hno HNo
   go_wp2_with fail
   go_ret
   exact ⟨.inr ⟨HN.out,rfl⟩,rfl⟩
def HistPost (h:Nat) (R:List Nat) (k:Nm) (V:Vw) (w:World) (e:Ending) (w':World):Prop:=
 ∃A c,e=.returned (.agg #[.slice A (hget k V).1.length c,.int .i64 (hget k V).2.1,.int .i64 (hget k V).2.2])∧HV w' (hget k V) A c∧(∀a,A=some a→a.block∈R∧a.block≠h)∧Fr (fun _=>False) w w'
theorem itV_get {D:List It} (hv:OpsP.Vok (itV D)) {k:Nm} {i:Nat} (hi:i<D.length) (hn:D[i].n=k):hget k (itV D)=D[i].x:=by
 have hm:(key k,(D[i].n,D[i].x))∈itV D:=List.mem_map.2 ⟨D[i],List.getElem_mem hi,Prod.ext (congrArg key hn) rfl⟩
 exact hget_some (q:=(D[i].n,D[i].x)) (mem_getL hv.srt hm)
theorem itV_none {D:List It} (hv:OpsP.Vok (itV D)) {k:Nm} (hn:∀x∈D,x.n≠k):getL (key k) (itV D)=none:=by
 cases hg:getL (key k) (itV D) with
 |none=>rfl
 |some p=>
  have h1:=hv.get hg
  obtain ⟨e,he,h2⟩:=List.mem_map.1 (getL_mem hg)
  have h3:e.v=p:=congrArg Prod.snd h2
  exact absurd (by rw [←h1,←h3]) (hn e he)
abbrev set3 (w:World) (b:Nat) (v0 v1 v2:Value):World:=((w.setCell ⟨b,0,none⟩ v0).setCell ⟨b,1,none⟩ v1).setCell ⟨b,2,none⟩ v2
theorem set3_bk {w:World} {b:Nat} {u0 u1 u2:Value} {T:TypeId} (h:Bk w b #[u0,u1,u2] T) (v0 v1 v2:Value):Bk (set3 w b v0 v1 v2) b #[v0,v1,v2] T:=by
 have:=((h.set 0 v0).set 1 v1).set 2 v2
 simpa using this
theorem set3_fr (w:World) (b:Nat) (v0 v1 v2:Value):Fr (· =b) w (set3 w b v0 v1 v2):=by
 have s:∀ (W:World) (o:Nat) (v:Value),Fr (· =b) w W→Fr (· =b) w (W.setCell ⟨b,o,none⟩ v):=fun W o v h=>h.trans (Fr.setCell W ⟨b,o,none⟩ v (S:=(· =b)) rfl) (fun _ _ h=>h) (fun _ _ h=>h)
 exact s _ 2 _ (s _ 1 _ (s _ 0 _ (Fr.refl _ _)))
theorem Hist (h:Nat) (D:List It) (R:List Nat) (s o:ByteArray) (w:World) (H:DV w h D R) (hv:OpsP.Vok (itV D)) (hl:D.length≤1000000):
  Calls prog 36 #[.pointer (some ⟨h,0,none⟩),.string s,.string o] w (HistPost h R (s,o) (itV D) w):=by
 have f1:=Fr.alloc (fun _=>False) w (.cells #[.slice none 0 0,.int .i64 0,.int .i64 0] TRh)
 have HD:=Lib.hid (H.keep f1)
 have HZ:=Lib.hid (Bk.new w #[.slice none 0 0,.int .i64 0,.int .i64 0] TRh)
 have HF:=Lib.hid f1;have HVk:=Lib.hid hv;have HLt:=Lib.hid H.r.2
 have HFi:=Lib.hid (Find h D R s o _ HD.out hl)
 have z0:=HZ.out.cell 0;have z1:=HZ.out.cell 1;have z2:=HZ.out.cell 2;have y0:=HZ.out.free 0;have y1:=HZ.out.free 1;have y2:=HZ.out.free 2
 simp only [List.getElem?_toArray,List.getElem?_cons_zero,List.getElem?_cons_succ] at z0 z1 z2
 clear H f1 hv
 go_enter func36,ntmps36
 go_wp2_with fail
 generalize w.alloc (.cells #[.slice none 0 0,.int .i64 0,.int .i64 0] TRh)=w1 at *
 refine HFi.out.mono ?_
 rintro e w2 ⟨hr,rfl⟩
 rcases hr with ⟨i,hi,hn,rfl⟩| ⟨hno,rfl⟩
 ·obtain ⟨A,c,hb,hS,hA⟩:=HD.out.s
  have HE:=Lib.hid (HD.out.e D[i] (List.getElem_mem hi))
  have c0:w2.cell? ⟨h,0,none⟩=some (.slice A D.length c):=hb.cell 0
  have HG:=Lib.hid (itV_get HVk.out hi hn)
  obtain ⟨b1,o1,rfl,hb1,c1'⟩:=hS.at hi (by omega)
  have HA:Hid (∀j u,(D[i].cs)[j]? =some u→w2.cell? ⟨b1,o1+i*5+j,none⟩=some u):=fun j u hu=>by
   have hj:j<5:=by have:=(List.getElem?_eq_some_iff.1 hu).1;simpa using this
   have h1:=c1' (i*5+j) u (by rw [flat_at It.cs_len hi hj];exact hu)
   rw [←Nat.add_assoc] at h1;exact h1
  have hcap:=hS.2.1
  clear c1' hb hS hA hn HFi
  generalize D[i]=y at *
  have q0:decide ((i:Int)<0)=false:=by simp
  have q1:(0:Int)≤(i:Int):=by omega
  have q3:(i:Int)<((D.length:Nat):Int):=by omega
  have ic0:w2.cell? ⟨b1,o1+i*5,none⟩=some (.string y.n.1):=HA.out 0 _ rfl
  have ic1:w2.cell? ⟨b1,o1+i*5+1,none⟩=some (.string y.n.2):=HA.out 1 _ rfl
  have ic2:w2.cell? ⟨b1,o1+i*5+1+1,none⟩=some (.slice y.A y.x.1.length y.c):=HA.out 2 _ rfl
  have ic3:w2.cell? ⟨b1,o1+i*5+1+1+1,none⟩=some (.int .i64 y.x.2.1):=HA.out 3 _ rfl
  have ic4:w2.cell? ⟨b1,o1+i*5+1+1+1+1,none⟩=some (.int .i64 y.x.2.2):=HA.out 4 _ rfl
  go_wp2_with fail
  refine bodyPost_ret (results_cell_row rfl _ _ w.heap.size TRh _ (0,0) _ rfl (set3_bk HZ.out _ _ _) underlying75 rfl (by kernel_rfl)) rfl ⟨y.A,y.c,by rw [HG.out],?_,HE.out.2,HF.out.trans (set3_fr _ _ _ _ _) (fun _ _ h=>h) (fun _ hi' e=>by rw [e] at hi';exact absurd hi' (Nat.lt_irrefl _))⟩
  rw [HG.out]
  have hne:∀a,y.A=some a→¬a.block=w.heap.size:=fun a ha e=>by
   have:=HLt.out _ (HE.out.2 a ha).1;omega
  exact HE.out.1.fr (set3_fr _ _ _ _ _) hne
 ·have HG:=Lib.hid (hget_none (itV_none HVk.out hno))
  have q0:decide ((-1:Int)<0)=true:=by decide
  clear hno HFi
  go_wp2_with fail
  exact bodyPost_ret (results_cell_row rfl _ _ w.heap.size TRh _ (0,0) _ rfl (set3_bk HZ.out _ _ _) underlying75 rfl (by kernel_rfl)) rfl ⟨none,0,by rw [HG.out];rfl,by rw [HG.out];exact Sl.empty _ _,by simp,HF.out.trans (set3_fr _ _ _ _ _) (fun _ _ h=>h) (fun _ hi' e=>by rw [e] at hi';exact absurd hi' (Nat.lt_irrefl _))⟩
theorem lt_of_not {a b:ByteArray} (h1:Op.bytesLess a.toList b.toList=false) (h2:a≠b):Op.bytesLess b.toList a.toList=true:=by
 cases h:Op.bytesLess b.toList a.toList with
 |true=>rfl
 |false=>exact absurd (str_ext (Bl.tri _ _ h1 h)) h2
def SetPost (h:Nat) (R:List Nat) (k:Nm) (x:HS) (A:Option Addr) (V:Vw) (w:World) (e:Ending) (w':World):Prop:=
 e=.returned (.tuple #[])∧∃D' R',DV w' h D' R'∧itV D'=setF k x (decide (sumL x.1=0)) V∧(∀b∈R',b∈R∨(∃a,A=some a∧a.block=b)∨w.heap.size≤b)∧Fr (· =h) w w'
structure SI (base:Nat) (w1 w:World) (P:List It) (v:Value):Prop where
 o:w.ownsRow base TIt 5 v P.length (P.flatMap It.cs)
 b:Below w1.heap.size w1 w
theorem SI.alloc {base:Nat} {w1 w:World} {P:List It} {v:Value} (H:SI base w1 w P v) (o:Obj):SI base w1 (w.alloc o) P v:=
 ⟨H.o.alloc o,H.b.alloc H.b.size o⟩
theorem SI.app {w1 w w':World} {P:List It} {v v':Value} (H:SI w1.heap.size w1 w P v) {e:It} {o:Obj} (hown:w'.ownsRow w1.heap.size TIt 5 v' (P.length+1) (P.flatMap It.cs++e.cs)) (hg:(w.alloc o).grownBy w' v.ownBlock):SI w1.heap.size w1 w' (P++ [e]) v':=by
 have h1:=(Fr.alloc (fun _=>False) w o).trans (Fr.grown hg (S:=fun b=>w1.heap.size≤b) (fun b h=>(ownsRow_blk H.o b h).1)) (T:=fun b=>w1.heap.size≤b) (fun _ _ h=>h.elim) (fun _ _ h=>h)
 refine ⟨?_,H.b.trans (h1.below H.b.size (fun i hi h=>by omega))⟩
 rw [List.length_append,List.length_singleton,List.flatMap_append]
 simpa using hown
section
variable {k:Nm} {x:HS} {P:List It} {put:Bool} {y:It} {t G:Vw}
theorem E_eq (hE:itV P++setF k x put ((key y.n,y.v)::t)=G) (h:y.n=k):itV P++setF k x put t=G:=by
 unfold setF at hE;dsimp only [It.v] at hE;rwa [if_pos h] at hE
theorem E_two {put:Bool} (hE:itV P++setF k x put ((key y.n,y.v)::t)=G) (h:y.n≠k) (hp:(!put&&ltN k y.n)=true) (A:Option Addr) (c:Nat):itV (P++ [⟨k,x,A,c⟩]++ [y])++setF k x true t=G:=by
 unfold setF at hE;dsimp only [It.v] at hE;rw [if_neg h,if_pos hp] at hE
 rw [←hE];simp [itV,It.v]
theorem E_one {put:Bool} (hE:itV P++setF k x put ((key y.n,y.v)::t)=G) (h:y.n≠k) (hp:(!put&&ltN k y.n)=false):itV (P++ [y])++setF k x put t=G:=by
 unfold setF at hE;dsimp only [It.v] at hE;rw [if_neg h,if_neg (by rw [hp];exact Bool.false_ne_true)] at hE
 rw [←hE];simp [itV,It.v]
end
theorem SI.fin {w w1 W:World} {h:Nat} {D P:List It} {R:List Nat} {v:Value} {k:Nm} {x:HS} {A:Option Addr} {c:Nat} {V:Vw} (H:SI w1.heap.size w1 W P v) (hd:DV w h D R) (hx:HV w x A c) (hA:∀a,A=some a→a.block≠h∧a.block<w.heap.size) (hf:Fr (fun _=>False) w w1) (hP:∀e∈P,e∈D∨e=⟨k,x,A,c⟩) (hE:itV P=setF k x (decide (sumL x.1=0)) V):
  SetPost h R k x A V w (.returned (.tuple #[])) (W.setCell ⟨h,0,none⟩ v):=by
 obtain ⟨A',c',rfl,hs,ha⟩:=Sl.of_own H.o
 have f2:=Fr.setCell W ⟨h,0,none⟩ (.slice A' P.length c') (S:=(· =h)) rfl
 have hhl:=hd.r.2 _ hd.r.1
 have hwl:=hf.size
 have hF:Fr (· =h) w (W.setCell ⟨h,0,none⟩ (.slice A' P.length c')):=(hf.to (Fr.of_below' H.b (fun _=>False))).trans f2 (fun _ _ h=>h.elim) (fun _ _ h=>h)
 obtain ⟨A0,c0,hb,-,-⟩:=hd.s
 refine ⟨rfl,P,R++ablk A++ablk A',⟨⟨A',c',?_,hs.fr f2 (fun a h1 e=>by have:=(ha a h1).1;omega),fun a h1=>⟨by simp [mem_ablk];exact .inr (.inr ⟨a,h1,rfl⟩),by have:=(ha a h1).1;omega⟩⟩,fun e he=>?_,List.mem_append_left _ (List.mem_append_left _ hd.r.1),fun b hb=>?_⟩,hE,fun b hb=>?_,hF⟩
 ·have h1:Bk W h #[.slice A0 D.length c0] TDv:=hb.fr (hf.to (Fr.of_below' H.b (fun _=>False))) (fun _ _ h=>h)
  exact h1.set 0 _
 ·rcases hP e he with he|rfl
  ·exact ⟨(hd.e e he).1.fr hF (fun a h1=>((hd.e e he).2 a h1).2),fun a h1=>⟨List.mem_append_left _ (List.mem_append_left _ ((hd.e e he).2 a h1).1),((hd.e e he).2 a h1).2⟩⟩
  ·exact ⟨hx.fr hF (fun a h1=>(hA a h1).1),fun a h1=>⟨List.mem_append_left _ (List.mem_append_right _ (mem_ablk.2 ⟨a,h1,rfl⟩)),(hA a h1).1⟩⟩
 ·have:=hF.size
  rcases List.mem_append.1 hb with hb|hb
  ·rcases List.mem_append.1 hb with hb|hb
   ·have:=hd.r.2 b hb;omega
   ·obtain ⟨a,h1,rfl⟩:=mem_ablk.1 hb
    have:=(hA a h1).2;omega
  ·obtain ⟨a,h1,rfl⟩:=mem_ablk.1 hb
   have h2:=(ha a h1).2.2;have:=f2.size;omega
 ·rcases List.mem_append.1 hb with hb|hb
  ·rcases List.mem_append.1 hb with hb|hb
   ·exact .inl hb
   ·exact .inr (.inl (mem_ablk.1 hb))
  ·obtain ⟨a,h1,rfl⟩:=mem_ablk.1 hb
   have:=(ha a h1).1;exact .inr (.inr (by omega))
theorem set (h:Nat) (D:List It) (R:List Nat) (s o:ByteArray) (x:HS) (A:Option Addr) (c:Nat) (w:World) (H:DV w h D R) (hx:HV w x A c) (hA:∀a,A=some a→a.block≠h∧a.block<w.heap.size) (hok:Ok x.1) (hl:D.length≤1000000):
  Calls prog 92 #[.pointer (some ⟨h,0,none⟩),.string s,.string o,.agg #[.slice A x.1.length c,.int .i64 x.2.1,.int .i64 x.2.2]] w (SetPost h R (s,o) x A (itV D) w):=by
 obtain ⟨i0,hi,hz0,hz1,hz2⟩:=info_parts infoI
 have f1:=Fr.alloc (fun _=>False) w (.cells #[.slice A x.1.length c,.int .i64 x.2.1,.int .i64 x.2.2] TRh)
 have HD:=Lib.hid (H.keep f1);have HDw:=Lib.hid H
 have HX:=Lib.hid (hx.fr f1 (fun _ _ h=>h))
 have HZ:=Lib.hid (Bk.new w #[.slice A x.1.length c,.int .i64 x.2.1,.int .i64 x.2.2] TRh)
 have HF:=Lib.hid f1;have HA:=Lib.hid hA;have HX0:=Lib.hid hx
 have HRB:Hid (Ref13h.RB TRh [.int .i64 x.2.1,.int .i64 x.2.2] (w.alloc (.cells #[.slice A x.1.length c,.int .i64 x.2.1,.int .i64 x.2.2] TRh)) w.heap.size x.1 (w.heap.size::ablk A)):=
  Lib.hid ⟨A,c,HZ.out,HX.out,rfl,fun a ha=>⟨by have:=(hA a ha).2;omega,Nat.lt_of_lt_of_le (hA a ha).2 f1.size⟩⟩
 have HLn:=Lib.hid (Ref13h.Len w.heap.size x.1 _ _ HRB.out hok)
 have hne:w.heap.size≠h:=fun e=>by have:=H.r.2 _ H.r.1;omega
 clear H hx f1 hA HRB
 go_enter func92,ntmps92
 go_wp2_with fail
 generalize hw1:w.alloc (.cells #[.slice A x.1.length c,.int .i64 x.2.1,.int .i64 x.2.2] TRh)=w1 at *
 have hs1:w1.heap.size=w.heap.size+1:=by rw [←hw1];simp
 have HS1:=Lib.hid hs1
 clear hw1 hs1
 refine HLn.out.mono ?_
 rintro e w2 ⟨rfl,rfl⟩
 obtain ⟨p0,hp0⟩:∃p0,(sumL x.1==0)=p0:=⟨_,rfl⟩
 have HP0:Hid (decide (sumL x.1=0)=p0):=by
  show _=_
  rw [←hp0]
  by_cases h:sumL x.1=0
  ·simp [h]
  ·simp [h]
 obtain ⟨Ad,cd,hbd,hSd,hAd⟩:=HD.out.s
 have HBd:=Lib.hid hbd;have HSd:=Lib.hid hSd;have HAd:=Lib.hid hAd
 have d0:w1.cell? ⟨h,0,none⟩=some (.slice Ad D.length cd):=hbd.cell 0
 clear hbd hSd hAd HLn
 obtain ⟨G,hG⟩:∃G,setF (s,o) x p0 (itV D)=G:=⟨_,rfl⟩
 go_wp2_with fail
 go_loopg [8,9,10] D.length (fun gk v pv i wr=>∃ (k:Nat) (P:List It) (put:Bool),i=.int .i64 k∧k≤D.length∧gk=D.length-k∧pv=.bool put∧SI w1.heap.size w1 wr P v∧(∀e∈P,e∈D∨e=⟨(s,o),x,A,c⟩)∧P.length≤2*k∧itV P++setF (s,o) x put (itV (D.drop k))=G)
 case atStart=>exact ⟨0,[],p0,rfl,Nat.zero_le _,rfl,rfl,⟨World.ownsRow_nil _ _ _ _,Below.refl _ _⟩,by simp,by simp,by rw [List.drop_zero];exact hG⟩
 case round=>
  obtain ⟨k,P,put,rfl,hk,hg,rfl,hI,hP,hPl,hE⟩:=hrel
  have HG:=Lib.hid hg;have HI:=Lib.hid hI;have HP:=Lib.hid hP;have HE:=Lib.hid hE;have HGd:=Lib.hid hG
  clear hg hI hP hE hG hp0
  by_cases hlt:k<D.length
  ·have HFb:Hid (Below w1.heap.size w1 wr):=Lib.hid HI.out.b
   obtain ⟨b1,o1,rfl,hb1,c1'⟩:=HSd.out.at hlt (by omega)
   have HA5:Hid (∀j u,(D[k].cs)[j]? =some u→wr.cell? ⟨b1,o1+k*5+j,none⟩=some u):=fun j u hu=>by
    have hj:j<5:=by have:=(List.getElem?_eq_some_iff.1 hu).1;simpa using this
    have h1:=c1' (k*5+j) u (by rw [flat_at It.cs_len hlt hj];exact hu)
    rw [←Nat.add_assoc] at h1;exact (HFb.out.cell (by omega)).trans h1
   have HTk:Hid (itV (D.drop k)=(key D[k].n,D[k].v)::itV (D.drop (k+1))):=by
    show _=_
    rw [List.drop_eq_getElem_cons hlt];rfl
   have HM:Hid (D[k]∈D):=Lib.hid (List.getElem_mem hlt)
   have hcap:=HSd.out.2.1
   have d1:wr.cell? ⟨h,0,none⟩=some (.slice (some ⟨b1,o1,none⟩) D.length cd):=(HFb.out.cell (by have:=HDw.out.r.2 _ HDw.out.r.1;have:=HS1.out;dsimp only;omega)).trans d0
   clear c1'
   generalize D[k]=y at *
   have q1:(0:Int)≤(k:Int):=by omega
   have q2:decide ((k:Int)<((D.length:Nat):Int))=true:=by simp;omega
   have q3:(k:Int)<((D.length:Nat):Int):=by omega
   have ic0:wr.cell? ⟨b1,o1+k*5,none⟩=some (.string y.n.1):=HA5.out 0 _ rfl
   have ic1:wr.cell? ⟨b1,o1+k*5+1,none⟩=some (.string y.n.2):=HA5.out 1 _ rfl
   have ic2:wr.cell? ⟨b1,o1+k*5+1+1,none⟩=some (.slice y.A y.x.1.length y.c):=HA5.out 2 _ rfl
   have ic3:wr.cell? ⟨b1,o1+k*5+1+1+1,none⟩=some (.int .i64 y.x.2.1):=HA5.out 3 _ rfl
   have ic4:wr.cell? ⟨b1,o1+k*5+1+1+1+1,none⟩=some (.int .i64 y.x.2.2):=HA5.out 4 _ rfl
   go_upto_region 7 with (fail)
   have HI2:=Lib.hid (HI.out.alloc (.cells #[.string y.n.1,.string y.n.2,.slice y.A y.x.1.length y.c,.int .i64 y.x.2.1,.int .i64 y.x.2.2] TIt))
   have HBx:=Lib.hid (Bk.new wr #[.string y.n.1,.string y.n.2,.slice y.A y.x.1.length y.c,.int .i64 y.x.2.1,.int .i64 y.x.2.2] TIt)
   have HVb:Hid (∀b,u8.ownBlock=some b→b≠wr.heap.size):=fun b hb=>by have:=(ownsRow_blk HI.out.o b hb).2.1;omega
   generalize wr.alloc (.cells #[.string y.n.1,.string y.n.2,.slice y.A y.x.1.length y.c,.int .i64 y.x.2.1,.int .i64 y.x.2.2] TIt)=w2 at *
   generalize wr.heap.size=bx at *
   have HZ2:Hid (Bk w2 w.heap.size #[.slice A x.1.length c,.int .i64 x.2.1,.int .i64 x.2.2] TRh):=Lib.hid (HZ.out.fr (Fr.of_below HI2.out.b) (fun b hb h=>by simp at hb;subst hb;have:=HS1.out;omega))
   have z0:=HZ2.out.cell 0;have z1:=HZ2.out.cell 1;have z2:=HZ2.out.cell 2
   have x0:=HBx.out.cell 0;have x1:=HBx.out.cell 1;have x2:=HBx.out.cell 2;have x3:=HBx.out.cell 3;have x4:=HBx.out.cell 4
   simp only [List.getElem?_toArray,List.getElem?_cons_zero,List.getElem?_cons_succ] at z0 z1 z2 x0 x1 x2 x3 x4
   have kb:∀W:World,(Instr.build TIt #[(0,.string s),(1,.string o),(2,.agg #[.slice A x.1.length c,.int .i64 x.2.1,.int .i64 x.2.2])]).run prog W=.ok (.agg #[.string s,.string o,.slice A x.1.length c,.int .i64 x.2.1,.int .i64 x.2.2]) W:=fun W=>by kernel_rfl
   have e1:=bl_eq y.n.1 s;have e2:=bl_eq y.n.2 o
   clear ic0 ic1 ic2 ic3 ic4 HI HFb d0 d1 HA5
   have HE1:Hid (itV P++setF (s,o) x put ((key y.n,y.v)::itV (D.drop (k+1)))=G):=by rw [←HTk.out];exact HE
   have hP1:∀e∈P++ [y],e∈D∨e=⟨(s,o),x,A,c⟩:=fun e he=>by
    rcases List.mem_append.1 he with he|he
    ·exact HP.out e he
    ·simp at he;subst he;exact .inl HM.out
   have hP2:∀e∈P++ [⟨(s,o),x,A,c⟩]++ [y],e∈D∨e=⟨(s,o),x,A,c⟩:=fun e he=>by
    rcases List.mem_append.1 he with he|he
    ·rcases List.mem_append.1 he with he|he
     ·exact HP.out e he
     ·simp at he;exact .inr he
    ·simp at he;subst he;exact .inl HM.out
   clear HE HTk
   have hb2:w1.heap.size≤w2.heap.size:=HI2.out.b.size
   by_cases h1:y.n.1=s
   ·rw [decide_eq_true h1] at e1
    by_cases h2:y.n.2=o
    ·rw [decide_eq_true h2] at e2
     have HE2:=Lib.hid (E_eq HE1.out (Prod.ext h1 h2))
     go_wp2_with fail
     go_roundg (D.length-(k+1))
     case rel=>exact ⟨k+1,P,put,by go_num,by omega,rfl,rfl,⟨HI2.out.o,HI2.out.b⟩,HP.out,by omega,HE2.out⟩
     case measure=>have:=HG.out;omega
    ·rw [decide_eq_false h2] at e2
     have hne:y.n≠(s,o):=fun e=>h2 (by rw [e])
     have H1:=Lib.hid h1
     clear h1
     cases put with
     |true=>
      have hlt2:(!true&&ltN (s,o) y.n)=false:=by
       unfold ltN
       simp [Ord.lt]
      have HE2:=Lib.hid (E_one HE1.out hne hlt2)
      clear hlt2 HE1 hne
      go_wp2_with (at_builtin;refine wpList_append_sl _ rfl (.tmp 68) (.tmp 70) TIts rfl w1.heap.size TIt i0 (.agg #[.string ByteArray.empty,.string ByteArray.empty,.slice none 0 0,.int .i64 0,.int .i64 0]) 5 72 underlying52 hi hz0 hz1 hz2 rfl (by decide) _ _ _ rfl (HI2.out.alloc (.cells (It.cs y).toArray TIt)).o _ _ _ _ rfl (Sl.one w2 TIt (It.cs y) 5 rfl) (by simp [Value.oneCell']) ?_ ?_ ?_ ?_)
      ·unfold maxLen;omega
      ·omega
      ·simp;omega
      intro v1 w4 hown1 hgrow1
      have hI4:=HI2.out.app (e:=y) hown1 hgrow1
      have HI4:=Lib.hid hI4
      clear hown1 hgrow1 hI4
      go_wp2_with fail
      go_roundg (D.length-(k+1))
      case rel=>exact ⟨k+1,P++ [y],true,by go_num,by omega,rfl,rfl,HI4.out,hP1,by simp;omega,HE2.out⟩
      case measure=>have:=HG.out;omega
     |false=>
      have k1:Op.bytesLess y.n.1.toList s.toList=false:=by rw [H1.out];exact Ord.irr s
      cases l2:Op.bytesLess o.toList y.n.2.toList with
      |true=>
       have k2:Op.bytesLess y.n.2.toList o.toList=false:=Ord.asymm (show Ord.lt o y.n.2=true from l2)
       have hlt2:(!false&&ltN (s,o) y.n)=true:=by
        rw [Bool.not_false,Bool.true_and];unfold ltN
        simp [Ord.lt,H1.out,l2]
       have HE2:=Lib.hid (E_two (A:=A) (c:=c) HE1.out hne hlt2)
       clear hlt2 HE1 hne
       go_wp2_with (at_builtin;refine wpList_append_sl _ rfl (.tmp 61) (.tmp 66) TIts rfl w1.heap.size TIt i0 (.agg #[.string ByteArray.empty,.string ByteArray.empty,.slice none 0 0,.int .i64 0,.int .i64 0]) 5 72 underlying52 hi hz0 hz1 hz2 rfl (by decide) _ _ _ rfl (HI2.out.alloc (.cells (It.cs ⟨(s,o),x,A,c⟩).toArray TIt)).o _ _ _ _ rfl (Sl.one w2 TIt (It.cs ⟨(s,o),x,A,c⟩) 5 rfl) (by simp [Value.oneCell']) ?_ ?_ ?_ ?_)
       ·unfold maxLen;omega
       ·omega
       ·simp;omega
       intro v1 w4 hown1 hgrow1
       have hI4:=HI2.out.app (e:=⟨(s,o),x,A,c⟩) hown1 hgrow1
       have HB4:=Lib.hid (HBx.out.fr (((Fr.alloc (fun _=>False) w2 (.cells (It.cs ⟨(s,o),x,A,c⟩).toArray TIt))).trans (Fr.grown hgrow1 (S:=fun b=>u8.ownBlock=some b) (fun _ h=>h)) (T:=fun b=>u8.ownBlock=some b) (fun _ _ h=>h.elim) (fun _ _ h=>h)) (fun b hb h=>by simp at hb;subst hb;exact HVb.out _ h rfl))
       have HI4:=Lib.hid hI4
       clear hown1 hgrow1 hI4 x0 x1 x2 x3 x4 z0 z1 z2 HZ2
       have x0:=HB4.out.cell 0;have x1:=HB4.out.cell 1;have x2:=HB4.out.cell 2;have x3:=HB4.out.cell 3;have x4:=HB4.out.cell 4
       simp only [List.getElem?_toArray,List.getElem?_cons_zero,List.getElem?_cons_succ] at x0 x1 x2 x3 x4
       have hown4:=(HI4.out.alloc (.cells (It.cs y).toArray TIt)).o
       rw [List.length_append,List.length_singleton] at hown4
       go_wp2_with (at_builtin;refine wpList_append_sl _ rfl (.tmp 68) (.tmp 70) TIts rfl w1.heap.size TIt i0 (.agg #[.string ByteArray.empty,.string ByteArray.empty,.slice none 0 0,.int .i64 0,.int .i64 0]) 5 72 underlying52 hi hz0 hz1 hz2 rfl (by decide) _ _ _ rfl hown4 _ _ _ _ rfl (Sl.one w4 TIt (It.cs y) 5 rfl) (by simp [Value.oneCell']) ?_ ?_ ?_ ?_)
       ·unfold maxLen;omega
       ·omega
       ·have:=HI4.out.b.size;simp;omega
       intro v2 w5 hown2 hgrow2
       have hI5:=HI4.out.app (e:=y) (by rw [List.length_append,List.length_singleton];simpa using hown2) hgrow2
       have HI5:=Lib.hid hI5
       clear hown2 hgrow2 hI5 hown4
       go_wp2_with fail
       go_roundg (D.length-(k+1))
       case rel=>exact ⟨k+1,P++ [⟨(s,o),x,A,c⟩]++ [y],true,by go_num,by omega,rfl,rfl,HI5.out,hP2,by simp;omega,HE2.out⟩
       case measure=>have:=HG.out;omega
      |false=>
       have k2:=lt_of_not l2 (fun e=>h2 e.symm)
       have hlt2:(!false&&ltN (s,o) y.n)=false:=by
        unfold ltN
        simp [Ord.lt,H1.out,l2,Bl.irr]
       have HE2:=Lib.hid (E_one HE1.out hne hlt2)
       clear hlt2 HE1 hne
       go_wp2_with (at_builtin;refine wpList_append_sl _ rfl (.tmp 68) (.tmp 70) TIts rfl w1.heap.size TIt i0 (.agg #[.string ByteArray.empty,.string ByteArray.empty,.slice none 0 0,.int .i64 0,.int .i64 0]) 5 72 underlying52 hi hz0 hz1 hz2 rfl (by decide) _ _ _ rfl (HI2.out.alloc (.cells (It.cs y).toArray TIt)).o _ _ _ _ rfl (Sl.one w2 TIt (It.cs y) 5 rfl) (by simp [Value.oneCell']) ?_ ?_ ?_ ?_)
       ·unfold maxLen;omega
       ·omega
       ·simp;omega
       intro v1 w4 hown1 hgrow1
       have hI4:=HI2.out.app (e:=y) hown1 hgrow1
       have HI4:=Lib.hid hI4
       clear hown1 hgrow1 hI4
       go_wp2_with fail
       go_roundg (D.length-(k+1))
       case rel=>exact ⟨k+1,P++ [y],false,by go_num,by omega,rfl,rfl,HI4.out,hP1,by simp;omega,HE2.out⟩
       case measure=>have:=HG.out;omega
   ·rw [decide_eq_false h1] at e1
    have hne:y.n≠(s,o):=fun e=>h1 (by rw [e])
    cases put with
    |true=>
     have hlt2:(!true&&ltN (s,o) y.n)=false:=by
      unfold ltN
      simp [Ord.lt]
     have HE2:=Lib.hid (E_one HE1.out hne hlt2)
     clear hlt2 HE1 hne
     go_wp2_with (at_builtin;refine wpList_append_sl _ rfl (.tmp 68) (.tmp 70) TIts rfl w1.heap.size TIt i0 (.agg #[.string ByteArray.empty,.string ByteArray.empty,.slice none 0 0,.int .i64 0,.int .i64 0]) 5 72 underlying52 hi hz0 hz1 hz2 rfl (by decide) _ _ _ rfl (HI2.out.alloc (.cells (It.cs y).toArray TIt)).o _ _ _ _ rfl (Sl.one w2 TIt (It.cs y) 5 rfl) (by simp [Value.oneCell']) ?_ ?_ ?_ ?_)
     ·unfold maxLen;omega
     ·omega
     ·simp;omega
     intro v1 w4 hown1 hgrow1
     have hI4:=HI2.out.app (e:=y) hown1 hgrow1
     have HI4:=Lib.hid hI4
     clear hown1 hgrow1 hI4
     go_wp2_with fail
     go_roundg (D.length-(k+1))
     case rel=>exact ⟨k+1,P++ [y],true,by go_num,by omega,rfl,rfl,HI4.out,hP1,by simp;omega,HE2.out⟩
     case measure=>have:=HG.out;omega
    |false=>
     cases l1:Op.bytesLess s.toList y.n.1.toList with
     |true=>
      have k1:Op.bytesLess y.n.1.toList s.toList=false:=Ord.asymm (show Ord.lt s y.n.1=true from l1)
      have hlt2:(!false&&ltN (s,o) y.n)=true:=by
       rw [Bool.not_false,Bool.true_and];unfold ltN
       simp [Ord.lt,l1]
      have HE2:=Lib.hid (E_two (A:=A) (c:=c) HE1.out hne hlt2)
      clear hlt2 HE1 hne
      go_wp2_with (at_builtin;refine wpList_append_sl _ rfl (.tmp 61) (.tmp 66) TIts rfl w1.heap.size TIt i0 (.agg #[.string ByteArray.empty,.string ByteArray.empty,.slice none 0 0,.int .i64 0,.int .i64 0]) 5 72 underlying52 hi hz0 hz1 hz2 rfl (by decide) _ _ _ rfl (HI2.out.alloc (.cells (It.cs ⟨(s,o),x,A,c⟩).toArray TIt)).o _ _ _ _ rfl (Sl.one w2 TIt (It.cs ⟨(s,o),x,A,c⟩) 5 rfl) (by simp [Value.oneCell']) ?_ ?_ ?_ ?_)
      ·unfold maxLen;omega
      ·omega
      ·simp;omega
      intro v1 w4 hown1 hgrow1
      have hI4:=HI2.out.app (e:=⟨(s,o),x,A,c⟩) hown1 hgrow1
      have HB4:=Lib.hid (HBx.out.fr (((Fr.alloc (fun _=>False) w2 (.cells (It.cs ⟨(s,o),x,A,c⟩).toArray TIt))).trans (Fr.grown hgrow1 (S:=fun b=>u8.ownBlock=some b) (fun _ h=>h)) (T:=fun b=>u8.ownBlock=some b) (fun _ _ h=>h.elim) (fun _ _ h=>h)) (fun b hb h=>by simp at hb;subst hb;exact HVb.out _ h rfl))
      have HI4:=Lib.hid hI4
      clear hown1 hgrow1 hI4 x0 x1 x2 x3 x4 z0 z1 z2 HZ2
      have x0:=HB4.out.cell 0;have x1:=HB4.out.cell 1;have x2:=HB4.out.cell 2;have x3:=HB4.out.cell 3;have x4:=HB4.out.cell 4
      simp only [List.getElem?_toArray,List.getElem?_cons_zero,List.getElem?_cons_succ] at x0 x1 x2 x3 x4
      have hown4:=(HI4.out.alloc (.cells (It.cs y).toArray TIt)).o
      rw [List.length_append,List.length_singleton] at hown4
      go_wp2_with (at_builtin;refine wpList_append_sl _ rfl (.tmp 68) (.tmp 70) TIts rfl w1.heap.size TIt i0 (.agg #[.string ByteArray.empty,.string ByteArray.empty,.slice none 0 0,.int .i64 0,.int .i64 0]) 5 72 underlying52 hi hz0 hz1 hz2 rfl (by decide) _ _ _ rfl hown4 _ _ _ _ rfl (Sl.one w4 TIt (It.cs y) 5 rfl) (by simp [Value.oneCell']) ?_ ?_ ?_ ?_)
      ·unfold maxLen;omega
      ·omega
      ·have:=HI4.out.b.size;simp;omega
      intro v2 w5 hown2 hgrow2
      have hI5:=HI4.out.app (e:=y) (by rw [List.length_append,List.length_singleton];simpa using hown2) hgrow2
      have HI5:=Lib.hid hI5
      clear hown2 hgrow2 hI5 hown4
      go_wp2_with fail
      go_roundg (D.length-(k+1))
      case rel=>exact ⟨k+1,P++ [⟨(s,o),x,A,c⟩]++ [y],true,by go_num,by omega,rfl,rfl,HI5.out,hP2,by simp;omega,HE2.out⟩
      case measure=>have:=HG.out;omega
     |false=>
      have k1:=lt_of_not l1 (fun e=>h1 e.symm)
      have hlt2:(!false&&ltN (s,o) y.n)=false:=by
       unfold ltN
       simp [Ord.lt,Ne.symm h1,l1]
      have HE2:=Lib.hid (E_one HE1.out hne hlt2)
      clear hlt2 HE1 hne
      go_wp2_with (at_builtin;refine wpList_append_sl _ rfl (.tmp 68) (.tmp 70) TIts rfl w1.heap.size TIt i0 (.agg #[.string ByteArray.empty,.string ByteArray.empty,.slice none 0 0,.int .i64 0,.int .i64 0]) 5 72 underlying52 hi hz0 hz1 hz2 rfl (by decide) _ _ _ rfl (HI2.out.alloc (.cells (It.cs y).toArray TIt)).o _ _ _ _ rfl (Sl.one w2 TIt (It.cs y) 5 rfl) (by simp [Value.oneCell']) ?_ ?_ ?_ ?_)
      ·unfold maxLen;omega
      ·omega
      ·simp;omega
      intro v1 w4 hown1 hgrow1
      have hI4:=HI2.out.app (e:=y) hown1 hgrow1
      have HI4:=Lib.hid hI4
      clear hown1 hgrow1 hI4
      go_wp2_with fail
      go_roundg (D.length-(k+1))
      case rel=>exact ⟨k+1,P++ [y],false,by go_num,by omega,rfl,rfl,HI4.out,hP1,by simp;omega,HE2.out⟩
      case measure=>have:=HG.out;omega
  ·obtain rfl:k=D.length:=by omega
   rw [List.drop_length] at HE
   have q2:decide (((D.length:Nat):Int)<((D.length:Nat):Int))=false:=by simp
   have HFb:Hid (Below w1.heap.size w1 wr):=Lib.hid HI.out.b
   have d1:wr.cell? ⟨h,0,none⟩=some (.slice Ad D.length cd):=(HFb.out.cell (by have:=HDw.out.r.2 _ HDw.out.r.1;have:=HS1.out;dsimp only;omega)).trans d0
   have HZ2:Hid (Bk wr w.heap.size #[.slice A x.1.length c,.int .i64 x.2.1,.int .i64 x.2.2] TRh):=Lib.hid (HZ.out.fr (Fr.of_below HFb.out) (fun b hb h=>by simp at hb;subst hb;have:=HS1.out;omega))
   have z0:=HZ2.out.cell 0;have z1:=HZ2.out.cell 1;have z2:=HZ2.out.cell 2
   simp only [List.getElem?_toArray,List.getElem?_cons_zero,List.getElem?_cons_succ] at z0 z1 z2
   have kb:∀W:World,(Instr.build TIt #[(0,.string s),(1,.string o),(2,.agg #[.slice A x.1.length c,.int .i64 x.2.1,.int .i64 x.2.2])]).run prog W=.ok (.agg #[.string s,.string o,.slice A x.1.length c,.int .i64 x.2.1,.int .i64 x.2.2]) W:=fun W=>by kernel_rfl
   have hbk:Bk wr h #[.slice Ad D.length cd] TDv:=HBd.out.fr (Fr.of_below HFb.out) (fun b hb e=>by simp at hb;subst hb;have:=HDw.out.r.2 _ HDw.out.r.1;have:=HS1.out;omega)
   have f0:wr.frozen? ⟨h,0,none⟩=false:=hbk.free 0
   have HBk:=Lib.hid hbk
   have hb1:w1.heap.size≤wr.heap.size:=HFb.out.size
   clear hbk d0
   cases put with
   |true=>
    have hE:itV P=setF (s,o) x (decide (sumL x.1=0)) (itV D):=by
     have h1:=HE.out
     rw [HP0.out,HGd.out,←h1];simp [setF]
    have HX2:=Lib.hid (HI.out.fin (k:=(s,o)) (c:=c) HDw.out HX0.out HA.out HF.out HP.out hE)
    clear hE
    obtain ⟨A9,c9,rfl,-,-⟩:=Sl.of_own HI.out.o
    go_wp2_with fail
    go_end0
    exact HX2.out
   |false=>
    have hE:itV (P++ [⟨(s,o),x,A,c⟩])=setF (s,o) x (decide (sumL x.1=0)) (itV D):=by
     have h1:=HE.out
     rw [HP0.out,HGd.out,←h1];simp [setF,itV,It.v]
    have hP2:∀e∈P++ [⟨(s,o),x,A,c⟩],e∈D∨e=⟨(s,o),x,A,c⟩:=fun e he=>by
     rcases List.mem_append.1 he with he|he
     ·exact HP.out e he
     ·simp at he;exact .inr he
    have HE2:=Lib.hid hE;have HI2:=Lib.hid HI.out
    clear hE
    go_wp2_with (at_builtin;refine wpList_append_sl _ rfl (.tmp 74) (.tmp 79) TIts rfl w1.heap.size TIt i0 (.agg #[.string ByteArray.empty,.string ByteArray.empty,.slice none 0 0,.int .i64 0,.int .i64 0]) 5 72 underlying52 hi hz0 hz1 hz2 rfl (by decide) _ _ _ rfl (HI2.out.alloc (.cells (It.cs ⟨(s,o),x,A,c⟩).toArray TIt)).o _ _ _ _ rfl (Sl.one wr TIt (It.cs ⟨(s,o),x,A,c⟩) 5 rfl) (by simp [Value.oneCell']) ?_ ?_ ?_ ?_)
    ·unfold maxLen;omega
    ·omega
    ·simp;omega
    intro v1 w4 hown1 hgrow1
    have hI4:=HI2.out.app (e:=⟨(s,o),x,A,c⟩) hown1 hgrow1
    have HX2:=Lib.hid (hI4.fin (k:=(s,o)) (c:=c) HDw.out HX0.out HA.out HF.out hP2 HE2.out)
    have hbk:Bk w4 h #[.slice Ad D.length cd] TDv:=HBd.out.fr (Fr.of_below hI4.b) (fun b hb e=>by simp at hb;subst hb;have:=HDw.out.r.2 _ HDw.out.r.1;have:=HS1.out;omega)
    have d2:w4.cell? ⟨h,0,none⟩=some (.slice Ad D.length cd):=hbk.cell 0
    have f2:w4.frozen? ⟨h,0,none⟩=false:=hbk.free 0
    obtain ⟨A9,c9,rfl,-,-⟩:=Sl.of_own hI4.o
    clear hown1 hgrow1 hI4 hbk d1 f0
    go_wp2_with fail
    go_end0
    have h9:=HX2.out
    rw [List.length_append,List.length_singleton] at h9
    exact h9
end Rf26
set_option maxRecDepth 100000
set_option maxHeartbeats 4000000
namespace Rf26
open BagP HistP OpsP KeyP PackP SetP SetW SetF Sli Name Pack Delta
open Ops (mays)
attribute [local go_sem] Eng.ev Eng.getO_cons Eng.getO_nil
theorem mays_take {L:List Sn} {i:Nat} (hi:i<L.length):mays (L.take (i+1))=(mays (L.take i)&& !(mayN L[i] != 0)):=by
 unfold mays
 rw [List.take_succ_eq_append_getElem hi,List.any_append]
 simp [Bool.not_or]
theorem mays_no {L:List Sn} {i:Nat} (hi:i<L.length) (h:(mayN L[i] != 0)=true):mays L=false:=by
 unfold mays
 have:L.any (fun x=>mayN x != 0)=true:=List.any_eq_true.2 ⟨L[i],List.getElem_mem hi,h⟩
 rw [this];rfl
structure DA (w0 w:World) (h:Nat) (R0:List Nat) (D:List It) (R:List Nat):Prop where
 v:DV w h D R
 f:Fr (· =h) w0 w
 r:∀b∈R,b∈R0∨w0.heap.size≤b
section
variable {w0 w w':World} {h B:Nat} {R0 R:List Nat} {D D0:List It}
theorem DA.start (H:DV w h D R):DA w w h R D R:=⟨H,Fr.refl _ _,fun _ h=>.inl h⟩
theorem DA.keep (H:DA w0 w h R0 D R) (hf:Fr (fun _=>False) w w'):DA w0 w' h R0 D R:=⟨H.v.keep hf,H.f.trans hf (fun _ _ h=>h) (fun _ _ h=>h.elim),H.r⟩
theorem DA.box (H:DA w0 w h R0 D R) (hB:w0.heap.size≤B) (hn:B∉R) (hf:Fr (· =B) w w'):DA w0 w' h R0 D R:=
 ⟨H.v.fr hf (fun b hb e=>hn (e▸hb)),H.f.trans hf (fun _ _ h=>h) (fun i hi e=>by subst e;omega),H.r⟩
theorem DA.pre (hf:Fr (fun _=>False) w0 w) (H:DA w w' h R0 D R):DA w0 w' h R0 D R:=
 ⟨H.v,hf.trans H.f (fun _ _ h=>h.elim) (fun _ _ h=>h),fun b hb=>(H.r b hb).imp id (fun h=>Nat.le_trans hf.size h)⟩
theorem DA.back (H:DA w0 w h R0 D R) (H0:DV w0 h D0 R0) {A0:Option Addr} {c0:Nat} (hb:Bk w0 h #[.slice A0 D0.length c0] TDv):DA w0 (w.setCell ⟨h,0,none⟩ (.slice A0 D0.length c0)) h R0 D0 R0:=by
 have f2:=Fr.setCell w ⟨h,0,none⟩ (.slice A0 D0.length c0) (S:=(· =h)) rfl
 have hF:Fr (· =h) w0 (w.setCell ⟨h,0,none⟩ (.slice A0 D0.length c0)):=H.f.trans f2 (fun _ _ h=>h) (fun _ _ h=>h)
 obtain ⟨A1,c1,h1,h2,h3⟩:=H0.s
 have e:(Value.slice A1 D0.length c1)=.slice A0 D0.length c0:=by
  have:=(h1.cell 0).symm.trans (hb.cell 0);simpa using this
 cases e
 obtain ⟨A2,c2,k1,-,-⟩:=H.v.s
 refine ⟨⟨⟨A0,c0,k1.set 0 _,h2.fr hF (fun a ha=>(h3 a ha).2),h3⟩,fun x hx=>⟨(H0.e x hx).1.fr hF (fun a ha=>((H0.e x hx).2 a ha).2),(H0.e x hx).2⟩,H0.r.1,fun b hb=>Nat.lt_of_lt_of_le (H0.r.2 b hb) hF.size⟩,hF,fun _ h=>.inl h⟩
theorem apH {v:Value} (hb:Bk w h #[v] TDv) {A:Option Addr} {c:Nat} {L:List Sn} (hL:Ls w A c L):∀a,A=some a→L≠ []→¬a.block=h:=by
 intro a ha hne hm
 have hlt:0<L.length:=List.length_pos_iff.2 hne
 obtain ⟨b,o,rfl,-,hc⟩:=hL.s.at hlt (by omega)
 cases ha
 have h4:=At.row (k:=0) hc hlt 4 _ rfl
 subst hm
 rw [hb.cell] at h4
 have:=(Array.getElem?_eq_some_iff.1 h4).1
 simp at this
theorem DV.ls (H:DV w h D R) (hf:Fr (· =h) w w') {A:Option Addr} {c:Nat} {L:List Sn} (hL:Ls w A c L):Ls w' A c L:=by
 obtain ⟨A1,c1,hb,-⟩:=H.s
 exact Ops.keepV hL hf (fun a ha hne e=>apH hb hL a ha hne e)
theorem DV.rd (H:DV w h D R) (hf:Fr (· =h) w w') {d:Dl} (hd:RdD w d):RdD w' d:=⟨H.ls hf hd.o,H.ls hf hd.i⟩
theorem boxed {x:HS} {A:Option Addr} {c:Nat} (hx:HV w x A c) (wf:Wf x) (hA:∀a,A=some a→a.block∈R∧a.block≠h) (hv:DV w h D R):
  Ref25.RH (w.alloc (.cells #[.slice A x.1.length c,.int .i64 x.2.1,.int .i64 x.2.2] TRh)) w.heap.size x (w.heap.size::ablk A):=by
 have f1:=Fr.alloc (fun _=>False) w (.cells #[.slice A x.1.length c,.int .i64 x.2.1,.int .i64 x.2.2] TRh)
 refine ⟨⟨A,c,Bk.new _ _ _,hx.fr f1 (fun _ _ h=>h),rfl,fun a ha=>?_⟩,wf.ok,wf.may⟩
 have:=hv.r.2 _ (hA a ha).1
 exact ⟨by omega,Nat.lt_of_lt_of_le this f1.size⟩
structure Put (w0 w:World) (h B:Nat) (R:List Nat) (y:HS) (A:Option Addr) (c:Nat):Prop where
 b:Bk w B #[.slice A y.1.length c,.int .i64 y.2.1,.int .i64 y.2.2] TRh
 s:HV w y A c
 a:∀a,A=some a→a.block≠h∧a.block<w.heap.size
 r:∀a,A=some a→a.block∈R∨w0.heap.size≤a.block
 k:Ok y.1
theorem toPut {w3:World} {_x y:HS} {A:Option Addr} {F:List Nat} (H:DA w0 w3 h R0 D R) (hA:∀a,A=some a→a.block∈R∧a.block≠h) (_hB:w0.heap.size≤B) (hy:Ref25.RH w B y F) (ht:Tn (B::ablk A) F w3 w):∃A' c',Put w0 w h B R y A' c':=by
 obtain ⟨⟨A',c',h1,h2,rfl,h4⟩,h5,-⟩:=hy
 have hh:=H.v.r.2 _ H.v.r.1
 refine ⟨A',c',h1,h2,fun a ha=>⟨?_,(h4 a ha).2⟩,fun a ha=>?_,h5⟩<;>
 ·have hm:=(ht.sub a.block (List.mem_cons_of_mem _ (mem_ablk.2 ⟨a,ha,rfl⟩))).1
  rcases hm with hm|hm
  ·rcases List.mem_cons.1 hm with e|hm
   ·exact absurd e (h4 a ha).1
   ·obtain ⟨a',h6,h7⟩:=mem_ablk.1 hm
    first| (rw [←h7];exact (hA a' h6).2)| (rw [←h7];exact .inl (hA a' h6).1)
  ·first|omega| (exact .inr (Nat.le_trans H.f.size hm))
theorem DA.put {k:Nm} {y:HS} {A:Option Addr} {c:Nat} {e:Ending} (H:DA w0 w h R0 D R) (hp:Put w0 w h B R y A c) (hv:OpsP.Vok (itV D)) (hk:nzN k) (hs:SetPost h R k y A (itV D) w e w'):
  e=.returned (.tuple #[])∧∃D' R',DA w0 w' h R0 D' R'∧itV D'=setV k y (itV D):=by
 obtain ⟨rfl,D',R',h1,h2,h3,h4⟩:=hs
 refine ⟨rfl,D',R',⟨h1,H.f.trans h4 (fun _ _ h=>h) (fun _ _ h=>h),fun b hb=>?_⟩,h2.trans (setF_set hv hk)⟩
 rcases h3 b hb with h5| ⟨a,h5,rfl⟩|h5
 ·exact H.r b h5
 ·rcases hp.r a h5 with h6|h6
  ·exact H.r _ h6
  ·exact .inr h6
 ·exact .inr (Nat.le_trans H.f.size h5)
end
theorem itlen (D:List It):(itV D).length=D.length:=by simp
def ApPost (h:Nat) (D:List It) (R:List Nat) (O I:List Sn) (w:World) (e:Ending) (w':World):Prop:=
 ∃b D' R',e=.returned (.bool b)∧DA w w' h R D' R'∧((b=true∧Ops.applyR O I (itV D)=some (itV D'))∨(b=false∧Ops.applyR O I (itV D)=none∧D'=D))
theorem Apply (h:Nat) (D:List It) (R:List Nat) (d:Dl) (w:World) (H:DV w h D R) (hv:OpsP.Vok (itV D)) (hd:RdD w d) (lD:D.length≤900000) (lO:d.O.length≤100000) (lI:d.I.length≤100000):
  Calls prog 26 #[.pointer (some ⟨h,0,none⟩),d.v] w (ApPost h D R d.O d.I w):=by
 have hf:=Fr.alloc (fun _=>False) w (.cells d.arr TDl)
 have HV:=Lib.hid (H.keep hf)
 have HD:=Lib.hid (hd.keep hf)
 have hbk:=Bk.new w d.arr TDl
 have HBk:=Lib.hid hbk
 have HF:=Lib.hid hf
 have HVd:=Lib.hid hv
 have HBh:Hid (w.heap.size≠h):=fun e=>by have:=H.r.2 _ H.r.1;omega
 obtain ⟨A1,c1,O,A2,c2,I⟩:=d
 dsimp only at lO lI HD
 clear hf H hd hbk hv
 go_enter func26,ntmps26
 go_upto_region 1 with (fail)
 generalize (w.alloc (.cells #[.slice A1 O.length c1,.slice A2 I.length c2] TDl))=w1 at *
 generalize hBd:w.heap.size=Bd at HBk HBh ⊢
 go_wp2_with fail
 go_loopg [5] O.length (fun gk n wr=>∃i:Nat,n=.int .i64 i∧i≤O.length∧gk=O.length-i∧mays (O.take i)=true∧Fr (fun _=>False) w1 wr)
 case atStart=>exact ⟨0,rfl,Nat.zero_le _,rfl,by simp [mays],Fr.refl _ _⟩
 case round=>
  obtain ⟨i,rfl,hil,hg,hmy,hf⟩:=hrel
  have HG:=Lib.hid hg;have HF1:=Lib.hid hf;have HMy:=Lib.hid hmy
  clear hg hf hmy
  have HBk1:=Lib.hid (HBk.out.fr HF1.out (fun _ _ h=>h))
  have HD1:=Lib.hid (HD.out.keep HF1.out)
  have e0:wr.cell? ⟨Bd,0,none⟩=some (.slice A1 O.length c1):=HBk1.out.cell 0
  by_cases hlt:i<O.length
  ·obtain ⟨b1,o1,hAe,hb1,c1'⟩:=HD1.out.o.s.at hlt (by omega)
   have HA:=Lib.hid (At.row c1' hlt)
   have HY:=Lib.hid (HD1.out.o.ok _ (List.getElem_mem hlt))
   have HTk:=Lib.hid (mays_take hlt)
   have HNo:=Lib.hid (mays_no hlt)
   clear c1' hb1
   generalize O[i]=y at *
   obtain rfl:=hAe
   have q1:(0:Int)≤(i:Int):=by omega
   have q2:decide ((i:Int)<(O.length:Int))=true:=by simp;omega
   have q3:(i:Int)<(O.length:Int):=by omega
   obtain ⟨yc0,yc1,yc2,yc3,yc4,yc5,yc6,yc7,yc8⟩:=SetW.at9 HA.out
   go_wp2_with fail
   refine (RefMay y HY.out wr).mono ?_
   rintro e w3 ⟨rfl,hf⟩
   have HF3:=Lib.hid (HF1.out.trans hf (fun _ _ h=>h) (fun _ _ h=>h))
   clear hf HA HY e0 yc0 yc1 yc2 yc3 yc4 yc5 yc6 yc7 yc8
   cases hmy:(mayN y != 0) with
   |true=>
    have HNo2:=Lib.hid (HNo.out hmy)
    go_wp2_with fail
    go_ret
    exact ⟨false,D,R,rfl,DA.pre (HF.out.trans HF3.out (fun _ _ h=>h) (fun _ _ h=>h)) (DA.start (HV.out.keep HF3.out)),.inr ⟨rfl,by unfold Ops.applyR;rw [HNo2.out];rfl,rfl⟩⟩
   |false=>
    go_wp2_with fail
    go_roundg (O.length-(i+1))
    case rel=>exact ⟨i+1,by go_num,by omega,rfl,by rw [HTk.out,HMy.out,hmy];rfl,HF3.out⟩
    case measure=>have:=HG.out;omega
  ·obtain rfl:i=O.length:=by omega
   rw [List.take_length] at HMy
   have q2:decide ((O.length:Int)<(O.length:Int))=false:=by simp
   have HMO:=Lib.hid HMy.out
   have HV2:=Lib.hid (HV.out.keep HF1.out)
   have HF2:=Lib.hid (HF.out.trans HF1.out (T:=fun _=>False) (fun _ _ h=>h) (fun _ _ h=>h))
   clear HV HD HBk HF HF1 HMy HG
   obtain ⟨w2,hw2⟩:∃w2,w2=wr:=⟨_,rfl⟩
   subst hw2
   have HV:=HV2;have HD:=HD1;have HBk:=HBk1;have HF:=HF2
   clear HV2 HD1 HBk1 HF2
   go_wp2_with fail
   clear e0
   go_loopg [6] I.length (fun gk n wr=>∃i:Nat,n=.int .i64 i∧i≤I.length∧gk=I.length-i∧mays (I.take i)=true∧Fr (fun _=>False) w2 wr)
   case atStart=>exact ⟨0,rfl,Nat.zero_le _,rfl,by simp [mays],Fr.refl _ _⟩
   case round=>
    obtain ⟨i,rfl,hil,hg,hmy,hf⟩:=hrel
    have HG:=Lib.hid hg;have HF1:=Lib.hid hf;have HMy:=Lib.hid hmy
    clear hg hf hmy
    have HBk1:=Lib.hid (HBk.out.fr HF1.out (fun _ _ h=>h))
    have HD1:=Lib.hid (HD.out.keep HF1.out)
    have e0:wr.cell? ⟨Bd,1,none⟩=some (.slice A2 I.length c2):=HBk1.out.cell 1
    by_cases hlt:i<I.length
    ·obtain ⟨b1,o1,hAe,hb1,c1'⟩:=HD1.out.i.s.at hlt (by omega)
     have HA:=Lib.hid (At.row c1' hlt)
     have HY:=Lib.hid (HD1.out.i.ok _ (List.getElem_mem hlt))
     have HTk:=Lib.hid (mays_take hlt)
     have HNo:=Lib.hid (mays_no hlt)
     clear c1' hb1
     generalize I[i]=y at *
     obtain rfl:=hAe
     have q1:(0:Int)≤(i:Int):=by omega
     have q2:decide ((i:Int)<(I.length:Int))=true:=by simp;omega
     have q3:(i:Int)<(I.length:Int):=by omega
     obtain ⟨yc0,yc1,yc2,yc3,yc4,yc5,yc6,yc7,yc8⟩:=SetW.at9 HA.out
     go_wp2_with fail
     refine (RefMay y HY.out wr).mono ?_
     rintro e w3 ⟨rfl,hf⟩
     have HF3:=Lib.hid (HF1.out.trans hf (fun _ _ h=>h) (fun _ _ h=>h))
     clear hf HA HY e0 yc0 yc1 yc2 yc3 yc4 yc5 yc6 yc7 yc8
     cases hmy:(mayN y != 0) with
     |true=>
      have HNo2:=Lib.hid (HNo.out hmy)
      go_wp2_with fail
      go_ret
      exact ⟨false,D,R,rfl,DA.pre (HF.out.trans HF3.out (fun _ _ h=>h) (fun _ _ h=>h)) (DA.start (HV.out.keep HF3.out)),.inr ⟨rfl,by unfold Ops.applyR;rw [HMO.out,HNo2.out];rfl,rfl⟩⟩
     |false=>
      go_wp2_with fail
      go_roundg (I.length-(i+1))
      case rel=>exact ⟨i+1,by go_num,by omega,rfl,by rw [HTk.out,HMy.out,hmy];rfl,HF3.out⟩
      case measure=>have:=HG.out;omega
    ·obtain rfl:i=I.length:=by omega
     rw [List.take_length] at HMy
     have q2:decide ((I.length:Int)<(I.length:Int))=false:=by simp
     have HMI:=Lib.hid HMy.out
     have HV3:=Lib.hid (HV.out.keep HF1.out)
     have HF3:=Lib.hid (HF.out.trans HF1.out (T:=fun _=>False) (fun _ _ h=>h) (fun _ _ h=>h))
     clear HV HD HBk HF HF1 HMy HG
     obtain ⟨w3,hw3⟩:∃w3,w3=wr:=⟨_,rfl⟩
     subst hw3
     have HD:=HD1;have HBk:=HBk1
     clear HD1 HBk1
     have HApp:Hid (Ops.applyR O I (itV D)=applyV (O.map Ops.rc) (I.map Ops.rc) (itV D)):=by show _=_;unfold Ops.applyR;rw [HMO.out,HMI.out];rfl
     have HnO:=Lib.hid (Ops.mays_nm HMO.out);have HnI:=Lib.hid (Ops.mays_nm HMI.out)
     have HnO2:Hid (∀r∈O.map Ops.rc,nzN r.1):=fun r hr=>by obtain ⟨x,hx,rfl⟩:=List.mem_map.1 hr;exact (HnO.out x hx).2
     have HnI2:Hid (∀r∈I.map Ops.rc,nzN r.1):=fun r hr=>by obtain ⟨x,hx,rfl⟩:=List.mem_map.1 hr;exact (HnI.out x hx).2
     obtain ⟨A0,c0,hb0,-,-⟩:=HV3.out.s
     have HB0:=Lib.hid hb0
     have d0:w3.cell? ⟨h,0,none⟩=some (.slice A0 D.length c0):=hb0.cell 0
     clear hb0 HMO HMI
     go_wp2_with fail
     clear d0
     go_loopg [8] O.length (fun gk n wr=>∃ (k:Nat) (D':List It) (R':List Nat),n=.int .i64 k∧k≤O.length∧gk=O.length-k∧DA w3 wr h R D' R'∧leaveV ((O.map Ops.rc).take k) (itV D)=some (itV D')∧D'.length≤D.length)
     case atStart=>exact ⟨0,D,R,rfl,Nat.zero_le _,rfl,DA.start HV3.out,by rw [List.take_zero];rfl,Nat.le_refl _⟩
     case round=>
      obtain ⟨k,D',R',rfl,hk,hg,hda,hlv,hdl⟩:=hrel
      have HG:=Lib.hid hg;have HA:=Lib.hid hda;have HLv:=Lib.hid hlv
      have HVk:=Lib.hid (HVd.out.leave (fun r hr=>HnO2.out r (List.mem_of_mem_take hr)) hlv)
      clear hg hda hlv
      have HBkr:=Lib.hid (HBk.out.fr HA.out.f (fun b hb e=>by simp at hb;subst hb;exact HBh.out e))
      have HDr:=Lib.hid ((HV3.out).rd HA.out.f HD.out)
      have e0:wr.cell? ⟨Bd,0,none⟩=some (.slice A1 O.length c1):=HBkr.out.cell 0
      by_cases hlt:k<O.length
      ·obtain ⟨b1,o1,hAe,hb1,c1'⟩:=HDr.out.o.s.at hlt (by omega)
       have HRw:=Lib.hid (At.row c1' hlt)
       have HNz:=Lib.hid (HnO.out _ (List.getElem_mem hlt))
       have hltm:k<(O.map Ops.rc).length:=by simpa using hlt
       have HNo:Hid (okD O[k].d (hget (O[k].s,O[k].o) (itV D'))=false→leaveV (O.map Ops.rc) (itV D)=none):=fun e=>leaveV_no (k:=k) hltm HLv.out (by simpa [Ops.rc] using e)
       have HTk:Hid (leaveV ((O.map Ops.rc).take (k+1)) (itV D)=if okD O[k].d (hget (O[k].s,O[k].o) (itV D')) then some (dropV (itV D') (Ops.rc O[k])) else none):=by
        have h1:=leaveV_snoc (k:=k) hltm HLv.out
        show _=_
        simpa [Ops.rc] using h1
       clear c1' hb1 hltm
       generalize O[k]=z at *
       obtain rfl:=hAe
       have q1:(0:Int)≤(k:Int):=by omega
       have q2:decide ((k:Int)<((O.length:Nat):Int))=true:=by simp;omega
       have q3:(k:Int)<((O.length:Nat):Int):=by omega
       obtain ⟨zc0,zc1,zc2,zc3,zc4,zc5,zc6,zc7,zc8⟩:=SetW.at9 HRw.out
       go_upto_region 16 with (fail)
       have hfa:=Fr.alloc (fun _=>False) wr (.cells z.arr TSn)
       have HX:=Lib.hid (Bk.new wr z.arr TSn)
       have HA4:=Lib.hid (HA.out.keep hfa)
       have HB4:=Lib.hid (HBkr.out.fr hfa (fun _ _ h=>h))
       clear hfa HRw e0 zc0 zc1 zc2 zc3 zc4 zc5 zc6 zc7 zc8
       generalize (wr.alloc (.cells z.arr TSn))=w4 at *
       generalize wr.heap.size=Bz at *
       have zc0:w4.cell? ⟨Bz,0,none⟩=some (.int .i64 z.t):=HX.out.cell 0
       have zc1:w4.cell? ⟨Bz,1,none⟩=some (.int .i64 z.i):=HX.out.cell 1
       have zc2:w4.cell? ⟨Bz,2,none⟩=some (.int .i64 z.p):=HX.out.cell 2
       have zc3:w4.cell? ⟨Bz,3,none⟩=some (.int .i64 z.r):=HX.out.cell 3
       have zc4:w4.cell? ⟨Bz,4,none⟩=some (.string z.s):=HX.out.cell 4
       have zc5:w4.cell? ⟨Bz,5,none⟩=some (.string z.o):=HX.out.cell 5
       have zc6:w4.cell? ⟨Bz,6,none⟩=some (.int .i64 z.b):=HX.out.cell 6
       have zc7:w4.cell? ⟨Bz,7,none⟩=some (.int .i64 z.d):=HX.out.cell 7
       have zc8:w4.cell? ⟨Bz,8,none⟩=some (.bool z.g):=HX.out.cell 8
       go_wp2_with fail
       refine (Hist h D' R' z.s z.o w4 HA4.out.v HVk.out (by omega)).mono ?_
       rintro e w5 ⟨A5,c5,rfl,hv5,hA5,hf5⟩
       have HA5:=Lib.hid (HA4.out.keep hf5)
       have HX5:=Lib.hid (HX.out.fr hf5 (fun _ _ h=>h))
       have HWf:=Lib.hid (HVk.out.wfget (z.s,z.o))
       have HRb:=Lib.hid hA5
       have HRH:=Lib.hid (boxed hv5 HWf.out hA5 HA5.out.v)
       have hfb:=Fr.alloc (fun _=>False) w5 (.cells #[.slice A5 (hget (z.s,z.o) (itV D')).1.length c5,.int .i64 (hget (z.s,z.o) (itV D')).2.1,.int .i64 (hget (z.s,z.o) (itV D')).2.2] TRh)
       have HA6:=Lib.hid (HA5.out.keep hfb)
       have HX6:=Lib.hid (HX5.out.fr hfb (fun _ _ h=>h))
       have HNb:Hid (w3.heap.size≤w5.heap.size∧w5.heap.size∉R'):=⟨HA5.out.f.size,fun hm=>by have:=HA5.out.v.r.2 _ hm;omega⟩
       have HBz:Hid (Bz<w5.heap.size):=lt_of_heap HX5.out
       have hxl:=HWf.out.len
       clear hv5 hA5 hf5 hfb HA4 HA5 HX HX5 zc0 zc1 zc2 zc3 zc4 zc5 zc6 zc7 zc8
       generalize hgx:hget (z.s,z.o) (itV D')=x at *
       go_upto_region 17 with (fail)
       generalize (w5.alloc (.cells #[.slice A5 x.1.length c5,.int .i64 x.2.1,.int .i64 x.2.2] TRh))=w6 at *
       generalize w5.heap.size=Bx at *
       have zc0:w6.cell? ⟨Bz,0,none⟩=some (.int .i64 z.t):=HX6.out.cell 0
       have zc1:w6.cell? ⟨Bz,1,none⟩=some (.int .i64 z.i):=HX6.out.cell 1
       have zc2:w6.cell? ⟨Bz,2,none⟩=some (.int .i64 z.p):=HX6.out.cell 2
       have zc3:w6.cell? ⟨Bz,3,none⟩=some (.int .i64 z.r):=HX6.out.cell 3
       have zc4:w6.cell? ⟨Bz,4,none⟩=some (.string z.s):=HX6.out.cell 4
       have zc5:w6.cell? ⟨Bz,5,none⟩=some (.string z.o):=HX6.out.cell 5
       have zc6:w6.cell? ⟨Bz,6,none⟩=some (.int .i64 z.b):=HX6.out.cell 6
       have zc7:w6.cell? ⟨Bz,7,none⟩=some (.int .i64 z.d):=HX6.out.cell 7
       have zc8:w6.cell? ⟨Bz,8,none⟩=some (.bool z.g):=HX6.out.cell 8
       go_wp2_with fail
       refine (Ref25.DropF Bx z.d x _ w6 HRH.out (by omega)).mono ?_
       rintro e w7 ⟨rfl,F7,hrh7,ht7,hf7⟩
       obtain ⟨A7,c7,hput⟩:=toPut (_x:=x) HA6.out HRb.out HNb.out.1 hrh7 ht7
       have HP7:=Lib.hid hput
       have HA7:=Lib.hid (HA6.out.box HNb.out.1 HNb.out.2 hf7)
       have HX7:=Lib.hid (HX6.out.fr hf7 (fun b hb e=>by simp at hb;subst hb;have:=HBz.out;omega))
       clear hput hrh7 ht7 hf7 HA6 HX6 HRH HRb HBz zc0 zc1 zc2 zc3 zc4 zc5 zc6 zc7 zc8
       cases hok:okD z.d x with
       |false=>
        have HNo2:=Lib.hid (HNo.out hok)
        obtain ⟨A9,c9,hb9,-,-⟩:=HA7.out.v.s
        have d1:w7.cell? ⟨h,0,none⟩=some (.slice A9 D'.length c9):=hb9.cell 0
        have d2:w7.frozen? ⟨h,0,none⟩=false:=hb9.free 0
        have HAb:=Lib.hid (HA7.out.back HV3.out HB0.out)
        clear hb9
        go_wp2_with fail
        go_ret
        exact ⟨false,D,R,rfl,DA.pre HF3.out HAb.out,.inr ⟨rfl,by rw [HApp.out];unfold applyV;rw [HNo2.out];rfl,rfl⟩⟩
       |true=>
        have p0:=HP7.out.b.cell 0;have p1:=HP7.out.b.cell 1;have p2:=HP7.out.b.cell 2
        simp only [List.getElem?_toArray,List.getElem?_cons_zero,List.getElem?_cons_succ] at p0 p1 p2
        have zc0:w7.cell? ⟨Bz,0,none⟩=some (.int .i64 z.t):=HX7.out.cell 0
        have zc1:w7.cell? ⟨Bz,1,none⟩=some (.int .i64 z.i):=HX7.out.cell 1
        have zc2:w7.cell? ⟨Bz,2,none⟩=some (.int .i64 z.p):=HX7.out.cell 2
        have zc3:w7.cell? ⟨Bz,3,none⟩=some (.int .i64 z.r):=HX7.out.cell 3
        have zc4:w7.cell? ⟨Bz,4,none⟩=some (.string z.s):=HX7.out.cell 4
        have zc5:w7.cell? ⟨Bz,5,none⟩=some (.string z.o):=HX7.out.cell 5
        have zc6:w7.cell? ⟨Bz,6,none⟩=some (.int .i64 z.b):=HX7.out.cell 6
        have zc7:w7.cell? ⟨Bz,7,none⟩=some (.int .i64 z.d):=HX7.out.cell 7
        have zc8:w7.cell? ⟨Bz,8,none⟩=some (.bool z.g):=HX7.out.cell 8
        go_wp2_with fail
        refine (set h D' R' z.s z.o _ A7 c7 w7 HA7.out.v HP7.out.s HP7.out.a HP7.out.k (by omega)).mono ?_
        rintro e w8 hset
        obtain ⟨rfl,D8,R8,hA8,hv8⟩:=HA7.out.put HP7.out HVk.out HNz.out.2 hset
        have HA8:=Lib.hid hA8
        have HR8:Hid (leaveV ((O.map Ops.rc).take (k+1)) (itV D)=some (itV D8)∧D8.length≤D.length):=by
         have e8:itV D8=dropV (itV D') (Ops.rc z):=by rw [hv8];unfold dropV;rw [←hgx];rfl
         refine ⟨by rw [HTk.out,hok,e8];rfl,?_⟩
         have h9:=dropV_len HVk.out (r:=Ops.rc z) (by rw [show hget (Ops.rc z).1 (itV D')=x from hgx];exact hok)
         rw [←e8,itlen,itlen] at h9;omega
        clear hset hA8 hv8 p0 p1 p2 HP7 HA7 HX7 zc0 zc1 zc2 zc3 zc4 zc5 zc6 zc7 zc8
        go_wp2_with fail
        go_roundg (O.length-(k+1))
        case rel=>exact ⟨k+1,D8,R8,by go_num,by omega,rfl,HA8.out,HR8.out.1,HR8.out.2⟩
        case measure=>have:=HG.out;omega
      ·obtain rfl:k=O.length:=by omega
       have q2:decide (((O.length:Nat):Int)<((O.length:Nat):Int))=false:=by simp
       rw [List.take_of_length_le (by simp)] at HLv
       have HV4:=Lib.hid (HVd.out.leave HnO2.out HLv.out)
       have HLv4:=Lib.hid HLv.out
       have HA3:=Lib.hid HA.out
       clear HA HLv HVk HG HBkr HDr
       obtain ⟨w4,hw4⟩:∃w4,w4=wr:=⟨_,rfl⟩
       subst hw4
       obtain ⟨D4,hD4⟩:∃D4,D4=D':=⟨_,rfl⟩
       subst hD4
       have e1:w4.cell? ⟨Bd,1,none⟩=some (.slice A2 I.length c2):=(HBk.out.fr HA3.out.f (fun b hb e=>by simp at hb;subst hb;exact HBh.out e)).cell 1
       go_wp2_with fail
       clear e0 e1
       go_loopg [11] I.length (fun gk n wr=>∃ (k:Nat) (D':List It) (R':List Nat),n=.int .i64 k∧k≤I.length∧gk=I.length-k∧DA w3 wr h R D' R'∧itV D'=((I.map Ops.rc).take k).foldl addV (itV D4)∧D'.length≤D4.length+k)
       case atStart=>exact ⟨0,D4,_,rfl,Nat.zero_le _,rfl,HA3.out,by rw [List.take_zero];rfl,Nat.le_refl _⟩
       case round=>
        obtain ⟨k,D',R',rfl,hk,hg,hda,hlv,hdl2⟩:=hrel
        have HG:=Lib.hid hg;have HA:=Lib.hid hda;have HLv:=Lib.hid hlv
        have HVk:Hid (OpsP.Vok (itV D')):=by show OpsP.Vok _;rw [hlv];exact HV4.out.adds (fun r hr=>HnI2.out r (List.mem_of_mem_take hr))
        clear hg hda hlv
        have HBkr:=Lib.hid (HBk.out.fr HA.out.f (fun b hb e=>by simp at hb;subst hb;exact HBh.out e))
        have HDr:=Lib.hid ((HV3.out).rd HA.out.f HD.out)
        have e0:wr.cell? ⟨Bd,1,none⟩=some (.slice A2 I.length c2):=HBkr.out.cell 1
        by_cases hlt:k<I.length
        ·obtain ⟨b1,o1,hAe,hb1,c1'⟩:=HDr.out.i.s.at hlt (by omega)
         have HRw:=Lib.hid (At.row c1' hlt)
         have HNz:=Lib.hid (HnI.out _ (List.getElem_mem hlt))
         have hltm:k<(I.map Ops.rc).length:=by simpa using hlt
         have HTk:Hid (((I.map Ops.rc).take (k+1)).foldl addV (itV D4)=addV (itV D') (Ops.rc I[k])):=by
          show _=_
          rw [Ops.foldl_take hltm,HLv.out];simp
         clear c1' hb1 hltm
         generalize I[k]=z at *
         obtain rfl:=hAe
         have q1:(0:Int)≤(k:Int):=by omega
         have q2:decide ((k:Int)<((I.length:Nat):Int))=true:=by simp;omega
         have q3:(k:Int)<((I.length:Nat):Int):=by omega
         obtain ⟨zc0,zc1,zc2,zc3,zc4,zc5,zc6,zc7,zc8⟩:=SetW.at9 HRw.out
         go_upto_region 25 with (fail)
         have hfa:=Fr.alloc (fun _=>False) wr (.cells z.arr TSn)
         have HX:=Lib.hid (Bk.new wr z.arr TSn)
         have HA4:=Lib.hid (HA.out.keep hfa)
         have HB4:=Lib.hid (HBkr.out.fr hfa (fun _ _ h=>h))
         clear hfa HRw e0 zc0 zc1 zc2 zc3 zc4 zc5 zc6 zc7 zc8
         generalize (wr.alloc (.cells z.arr TSn))=w4 at *
         generalize wr.heap.size=Bz at *
         have zc0:w4.cell? ⟨Bz,0,none⟩=some (.int .i64 z.t):=HX.out.cell 0
         have zc1:w4.cell? ⟨Bz,1,none⟩=some (.int .i64 z.i):=HX.out.cell 1
         have zc2:w4.cell? ⟨Bz,2,none⟩=some (.int .i64 z.p):=HX.out.cell 2
         have zc3:w4.cell? ⟨Bz,3,none⟩=some (.int .i64 z.r):=HX.out.cell 3
         have zc4:w4.cell? ⟨Bz,4,none⟩=some (.string z.s):=HX.out.cell 4
         have zc5:w4.cell? ⟨Bz,5,none⟩=some (.string z.o):=HX.out.cell 5
         have zc6:w4.cell? ⟨Bz,6,none⟩=some (.int .i64 z.b):=HX.out.cell 6
         have zc7:w4.cell? ⟨Bz,7,none⟩=some (.int .i64 z.d):=HX.out.cell 7
         have zc8:w4.cell? ⟨Bz,8,none⟩=some (.bool z.g):=HX.out.cell 8
         go_wp2_with fail
         refine (Hist h D' R' z.s z.o w4 HA4.out.v HVk.out (by omega)).mono ?_
         rintro e w5 ⟨A5,c5,rfl,hv5,hA5,hf5⟩
         have HA5:=Lib.hid (HA4.out.keep hf5)
         have HX5:=Lib.hid (HX.out.fr hf5 (fun _ _ h=>h))
         have HWf:=Lib.hid (HVk.out.wfget (z.s,z.o))
         have HRb:=Lib.hid hA5
         have HRH:=Lib.hid (boxed hv5 HWf.out hA5 HA5.out.v)
         have hfb:=Fr.alloc (fun _=>False) w5 (.cells #[.slice A5 (hget (z.s,z.o) (itV D')).1.length c5,.int .i64 (hget (z.s,z.o) (itV D')).2.1,.int .i64 (hget (z.s,z.o) (itV D')).2.2] TRh)
         have HA6:=Lib.hid (HA5.out.keep hfb)
         have HX6:=Lib.hid (HX5.out.fr hfb (fun _ _ h=>h))
         have HNb:Hid (w3.heap.size≤w5.heap.size∧w5.heap.size∉R'):=⟨HA5.out.f.size,fun hm=>by have:=HA5.out.v.r.2 _ hm;omega⟩
         have HBz:Hid (Bz<w5.heap.size):=lt_of_heap HX5.out
         have hxl:=HWf.out.len
         clear hv5 hA5 hf5 hfb HA4 HA5 HX HX5 zc0 zc1 zc2 zc3 zc4 zc5 zc6 zc7 zc8
         generalize hgx:hget (z.s,z.o) (itV D')=x at *
         go_upto_region 26 with (fail)
         generalize (w5.alloc (.cells #[.slice A5 x.1.length c5,.int .i64 x.2.1,.int .i64 x.2.2] TRh))=w6 at *
         generalize w5.heap.size=Bx at *
         have zc0:w6.cell? ⟨Bz,0,none⟩=some (.int .i64 z.t):=HX6.out.cell 0
         have zc1:w6.cell? ⟨Bz,1,none⟩=some (.int .i64 z.i):=HX6.out.cell 1
         have zc2:w6.cell? ⟨Bz,2,none⟩=some (.int .i64 z.p):=HX6.out.cell 2
         have zc3:w6.cell? ⟨Bz,3,none⟩=some (.int .i64 z.r):=HX6.out.cell 3
         have zc4:w6.cell? ⟨Bz,4,none⟩=some (.string z.s):=HX6.out.cell 4
         have zc5:w6.cell? ⟨Bz,5,none⟩=some (.string z.o):=HX6.out.cell 5
         have zc6:w6.cell? ⟨Bz,6,none⟩=some (.int .i64 z.b):=HX6.out.cell 6
         have zc7:w6.cell? ⟨Bz,7,none⟩=some (.int .i64 z.d):=HX6.out.cell 7
         have zc8:w6.cell? ⟨Bz,8,none⟩=some (.bool z.g):=HX6.out.cell 8
         go_wp2_with fail
         refine (Ref25.AddF Bx z.d x _ w6 HRH.out (by omega)).mono ?_
         rintro e w7 ⟨rfl,F7,hrh7,ht7,hf7⟩
         obtain ⟨A7,c7,hput⟩:=toPut (_x:=x) HA6.out HRb.out HNb.out.1 hrh7 ht7
         have HP7:=Lib.hid hput
         have HA7:=Lib.hid (HA6.out.box HNb.out.1 HNb.out.2 hf7)
         have HX7:=Lib.hid (HX6.out.fr hf7 (fun b hb e=>by simp at hb;subst hb;have:=HBz.out;omega))
         clear hput hrh7 ht7 hf7 HA6 HX6 HRH HRb HBz zc0 zc1 zc2 zc3 zc4 zc5 zc6 zc7 zc8
         have p0:=HP7.out.b.cell 0;have p1:=HP7.out.b.cell 1;have p2:=HP7.out.b.cell 2
         simp only [List.getElem?_toArray,List.getElem?_cons_zero,List.getElem?_cons_succ] at p0 p1 p2
         have zc0:w7.cell? ⟨Bz,0,none⟩=some (.int .i64 z.t):=HX7.out.cell 0
         have zc1:w7.cell? ⟨Bz,1,none⟩=some (.int .i64 z.i):=HX7.out.cell 1
         have zc2:w7.cell? ⟨Bz,2,none⟩=some (.int .i64 z.p):=HX7.out.cell 2
         have zc3:w7.cell? ⟨Bz,3,none⟩=some (.int .i64 z.r):=HX7.out.cell 3
         have zc4:w7.cell? ⟨Bz,4,none⟩=some (.string z.s):=HX7.out.cell 4
         have zc5:w7.cell? ⟨Bz,5,none⟩=some (.string z.o):=HX7.out.cell 5
         have zc6:w7.cell? ⟨Bz,6,none⟩=some (.int .i64 z.b):=HX7.out.cell 6
         have zc7:w7.cell? ⟨Bz,7,none⟩=some (.int .i64 z.d):=HX7.out.cell 7
         have zc8:w7.cell? ⟨Bz,8,none⟩=some (.bool z.g):=HX7.out.cell 8
         go_wp2_with fail
         refine (set h D' R' z.s z.o _ A7 c7 w7 HA7.out.v HP7.out.s HP7.out.a HP7.out.k (by omega)).mono ?_
         rintro e w8 hset
         obtain ⟨rfl,D8,R8,hA8,hv8⟩:=HA7.out.put HP7.out HVk.out HNz.out.2 hset
         have HA8:=Lib.hid hA8
         have HR8:Hid (itV D8=((I.map Ops.rc).take (k+1)).foldl addV (itV D4)∧D8.length≤D4.length+(k+1)):=by
          have e8:itV D8=addV (itV D') (Ops.rc z):=by rw [hv8,addV_set HVk.out];rw [show hget (Ops.rc z).1 (itV D')=x from hgx];rfl
          refine ⟨by rw [HTk.out,e8],?_⟩
          have h9:=insL_lenV (itV D') (Ops.rc z)
          rw [←e8,itlen,itlen] at h9;omega
         clear hset hA8 hv8 p0 p1 p2 HP7 HA7 HX7 zc0 zc1 zc2 zc3 zc4 zc5 zc6 zc7 zc8
         go_wp2_with fail
         go_roundg (I.length-(k+1))
         case rel=>exact ⟨k+1,D8,R8,by go_num,by omega,rfl,HA8.out,HR8.out.1,HR8.out.2⟩
         case measure=>have:=HG.out;omega
        ·obtain rfl:k=I.length:=by omega
         have q2:decide (((I.length:Nat):Int)<((I.length:Nat):Int))=false:=by simp
         rw [List.take_of_length_le (by simp)] at HLv
         go_wp2_with fail
         go_ret
         exact ⟨true,D',R',rfl,DA.pre HF3.out HA.out,.inl ⟨rfl,by rw [HApp.out];unfold applyV;rw [HLv4.out,HLv.out];rfl⟩⟩
end Rf26
set_option maxRecDepth 100000
set_option maxHeartbeats 1000000
namespace Rf26
open BagP HistP OpsP KeyP PackP SetP SetW SetF Sli Name Pack Delta
open Ops (TO TOs infoO Tl OL opc)
attribute [local go_sem] Eng.ev Eng.getO_cons Eng.getO_nil
theorem LenAt (B o:Nat) (L:List (Int × Int)) (A:Option Addr) (c:Nat) (w:World) (cB:w.cell? ⟨B,o,none⟩=some (.slice A L.length c)) (hS:Sl w 2 A L.length c (L.flatMap Bag.pc)) (hok:Ok L):
  Calls prog 96 #[.pointer (some ⟨B,o,none⟩)] w fun e w'=>e=.returned (.int .i64 (sumL L))∧Fr (fun _=>False) w w':=by
 have hlen:L.length≤9223372036854775807:=by have:=hS.2.1;have:=hS.2.2.1;unfold maxLen at this;omega
 have HOk:=Lib.hid hok
 clear hok
 go_enter func96,ntmps96
 go_wp2_with fail
 go_loopg [3,4] L.length (fun gk n i wr=>w=wr∧∃j:Nat,i=.int .i64 j∧j≤L.length∧gk=L.length-j∧n=.int .i64 (sumL (L.take j)))
 case atStart=>exact ⟨rfl,0,rfl,Nat.zero_le _,rfl,rfl⟩
 case round=>
  obtain ⟨rfl,j,rfl,hj,hg,rfl⟩:=hrel
  have HG:=Lib.hid hg
  clear hg
  by_cases hlt:j<L.length
  ·obtain ⟨b1,o1,rfl,-,c1⟩:=hS.at hlt (by omega)
   have d2:w.cell? ⟨b1,o1+j*2+1,none⟩=some (.int .i64 L[j].2):=c1 (j*2+1) _ (by rw [flat_at Bag.pc_len hlt (by omega)];rfl)
   have hs1:sumL (L.take (j+1))=sumL (L.take j)+L[j].2:=by rw [List.take_succ_eq_append_getElem hlt,sumL_append];simp [sumL]
   have hb:0≤sumL (L.take j)∧0≤L[j].2∧sumL (L.take j)+L[j].2≤4611686018427387904:=by
    have e:sumL L=sumL (L.take (j+1))+sumL (L.drop (j+1)):=by rw [←sumL_append,List.take_append_drop]
    have p1:Pos (L.take j):=fun p hp=>HOk.out.pos p (List.mem_of_mem_take hp)
    have p2:Pos (L.drop (j+1)):=fun p hp=>HOk.out.pos p (List.mem_of_mem_drop hp)
    have h1:=(p1.cnt 0).2.2
    have h2:=(p2.cnt 0).2.2
    have h3:=HOk.out.pos _ (List.getElem_mem hlt)
    have h4:=HOk.out.most
    omega
   have HS1:=Lib.hid hs1
   clear c1 hS hs1
   generalize L[j].2=y at *
   generalize sumL (L.take j)=s at *
   go_wp2_with fail
   go_roundg (L.length-(j+1))
   case rel=>exact ⟨rfl,j+1,by go_num,by omega,rfl,by rw [HS1.out]⟩
   case measure=>have:=HG.out;omega
  ·obtain rfl:j=L.length:=by omega
   rw [List.take_length]
   clear hS
   go_wp2_with fail
   go_ret
   exact ⟨rfl,Fr.refl _ _⟩
abbrev tl (e:It):Tl:=⟨e.n,e.x,e.A,e.c⟩
structure SA (w1 w:World) (T:List Tl) (v:Value):Prop where
 o:w.ownsRow w1.heap.size TO 6 v T.length (T.flatMap Tl.cs)
 b:Below w1.heap.size w1 w
structure RA (w1 w:World) (T:List Tl) (v:Value) (y:It) (Bx:Nat):Prop where
 a:SA w1 w T v
 b:Bk w Bx #[.string y.n.1,.string y.n.2,.slice y.A y.x.1.length y.c,.int .i64 y.x.2.1,.int .i64 y.x.2.2] TIt
 n:v.ownBlock≠some Bx
 s:HV w y.x y.A y.c
 l:∀a,y.A=some a→a.block<w1.heap.size
section
variable {w1 w w':World} {T:List Tl} {v v':Value} {y:It} {Bx:Nat}
theorem SA.keep (H:SA w1 w T v) (hf:Fr (fun _=>False) w w'):SA w1 w' T v:=⟨ownsRow_fr H.o hf (fun _ _ h=>h),H.b.trans (hf.below H.b.size (fun _ _ h=>h))⟩
theorem RA.keep (H:RA w1 w T v y Bx) (hf:Fr (fun _=>False) w w'):RA w1 w' T v y Bx:=⟨H.a.keep hf,H.b.fr hf (fun _ _ h=>h),H.n,H.s.fr hf (fun _ _ h=>h),H.l⟩
theorem RA.app (H:RA w1 w T v y Bx) (hown:w'.ownsRow w1.heap.size TO 6 v' (T.length+1) (T.flatMap Tl.cs++(tl y).cs)) (hg:w.grownBy w' v.ownBlock) (hv:v'.ownBlock=v.ownBlock∨v'.ownBlock=some w.heap.size):RA w1 w' (T++ [tl y]) v' y Bx:=by
 have f1:Fr (fun b=>v.ownBlock=some b) w w':=Fr.grown hg (S:=fun b=>v.ownBlock=some b) (fun k h=>h)
 have hb:=lt_of_heap H.b
 refine ⟨⟨?_,H.a.b.trans (f1.below H.a.b.size (fun i hi h=>by have:=(ownsRow_blk H.a.o i h).1;omega))⟩,H.b.fr f1 (fun b hb h=>by simp at hb;subst hb;exact H.n h),?_,H.s.fr f1 (fun a ha h=>by have:=(ownsRow_blk H.a.o _ h).1;have:=H.l a ha;omega),H.l⟩
 ·rw [List.length_append,List.length_singleton,List.flatMap_append]
  simpa using hown
 ·rcases hv with hv|hv
  ·rw [hv];exact H.n
  ·rw [hv];intro e;have:=Option.some.inj e;omega
end
theorem bldO (s o:ByteArray) (n a b:Int) (A:Option Addr) (m c:Nat) (W:World):(Instr.build TO #[(0,.string s),(1,.string o),(2,.int .i64 n),(3,.agg #[.int .i64 a,.int .i64 b]),(4,.slice A m c)]).run prog W=.ok (.agg #[.string s,.string o,.int .i64 n,.int .i64 a,.int .i64 b,.slice A m c]) W:=by kernel_rfl
theorem ra6 {ops:Array Oper} (hops:Eng.fnOps Tryz.f29 6=ops) (a0:Act) (Q:Exit→Act→World→Prop) (w1 w:World) (T:List Tl) (v:Value) (y:It) (Bx:Nat) (hok:Ok y.x.1) (hT:T.length≤1000000000) (hst:RA w1 w T v y Bx)
  (hn:a0.tmps.size=41) (h_3:a0.tmps.getD 3 undef=v) (h_5:a0.tmps.getD 5 undef=.pointer (some ⟨Bx,0,none⟩))
  (hpost:∀ (x:Nat→Value) (w':World) (v':Value),x 3=v'→SA w1 w' (T++ [tl y]) v'→Q .normal (Eng.setAll a0 [3,22,23,24,25,26,27,28,29,30,31,32,33,34,35,36,37,38,39] x) w'):
  (Code.region 6 ops true).wp prog Q a0 w:=by
 simp only [Eng.fnOps,Eng.regOps,Tryz.f29,Option.bind_some,Option.getD_some,Nat.reduceEqDiff,↓reduceIte] at hops
 subst hops
 obtain ⟨i0,hi,hz0,hz1,hz2⟩:=info_parts infoO
 have kb:=fun W:World=>bldO y.n.1 y.n.2 (sumL y.x.1) y.x.2.1 y.x.2.2 y.A y.x.1.length y.c W
 have HSt:=Lib.hid (hst.keep (Fr.drew _ _))
 refine Eng.regionT (.take 0 (.take 1 (.take 2 (.take 3 (.take 4 (.take 5 (.take 6 (.take 8 (.take 9 (.take 10 (.take 11 (.take 12 (.take 13 (.take 14 (.alt 7 (.take 15 (.alt 16 (.alt 17 (.take 18 (.done)) (.stop)) (.stop))) (.stop)))))))))))))))) (fun w'=>w'.cell? ⟨Bx,0,none⟩=some (.string y.n.1)∧w'.cell? ⟨Bx,1,none⟩=some (.string y.n.2)∧w'.cell? ⟨Bx,2,none⟩=some (.slice y.A y.x.1.length y.c)∧w'.cell? ⟨Bx,3,none⟩=some (.int .i64 y.x.2.1)∧w'.cell? ⟨Bx,4,none⟩=some (.int .i64 y.x.2.2)) (by kernel_rfl) 41 hn (by kernel_rfl) (by kernel_rfl) (by kernel_rfl) (⟨HSt.out.b.cell 0,HSt.out.b.cell 1,HSt.out.b.cell 2,HSt.out.b.cell 3,HSt.out.b.cell 4⟩) (fun a b ha hb=>?_)
 subst ha
 have hb3:b 3=v:=(hb 3).symm.trans h_3
 have hb5:b 5=.pointer (some ⟨Bx,0,none⟩):=(hb 5).symm.trans h_5
 clear hb h_3 h_5
 have HP:=Lib.hid hpost;have HN:=Lib.hid hn
 clear hpost hn
 iterate 14 (refine Eng.TW.tk ?_)
 refine Eng.TW.call rfl rfl (by decide) (by kernel_rfl) ?_ (LenAt Bx 2 y.x.1 y.A y.c _ (HSt.out.b.cell 2) HSt.out.s hok) ?_
 ·go_simp
 rintro e w2 ⟨rfl,hf⟩
 have HSt2:=Lib.hid (HSt.out.keep hf)
 have hSS:w2.cell? ⟨Bx,0,none⟩=some (.string y.n.1)∧w2.cell? ⟨Bx,1,none⟩=some (.string y.n.2)∧w2.cell? ⟨Bx,2,none⟩=some (.slice y.A y.x.1.length y.c)∧w2.cell? ⟨Bx,3,none⟩=some (.int .i64 y.x.2.1)∧w2.cell? ⟨Bx,4,none⟩=some (.int .i64 y.x.2.2):=⟨HSt2.out.b.cell 0,HSt2.out.b.cell 1,HSt2.out.b.cell 2,HSt2.out.b.cell 3,HSt2.out.b.cell 4⟩
 clear hf
 refine ⟨_,rfl,hSS,?_⟩
 refine Eng.TW.tk ?_
 have HSt3:=Lib.hid (HSt2.out.keep (Fr.alloc _ _ (.cells #[.string y.n.1,.string y.n.2,.int .i64 (sumL y.x.1),.int .i64 y.x.2.1,.int .i64 y.x.2.2,.slice y.A y.x.1.length y.c] TO)))
 refine Eng.TW.step rfl rfl (by decide) (by kernel_rfl) (by go_simp;first|done|with_reducible rfl|exact ⟨rfl,rfl⟩) (⟨HSt3.out.b.cell 0,HSt3.out.b.cell 1,HSt3.out.b.cell 2,HSt3.out.b.cell 3,HSt3.out.b.cell 4⟩) ?_
 have hSS:(w2.alloc (.cells #[.string y.n.1,.string y.n.2,.int .i64 (sumL y.x.1),.int .i64 y.x.2.1,.int .i64 y.x.2.2,.slice y.A y.x.1.length y.c] TO)).cell? ⟨Bx,0,none⟩=some (.string y.n.1)∧(w2.alloc (.cells #[.string y.n.1,.string y.n.2,.int .i64 (sumL y.x.1),.int .i64 y.x.2.1,.int .i64 y.x.2.2,.slice y.A y.x.1.length y.c] TO)).cell? ⟨Bx,1,none⟩=some (.string y.n.2)∧(w2.alloc (.cells #[.string y.n.1,.string y.n.2,.int .i64 (sumL y.x.1),.int .i64 y.x.2.1,.int .i64 y.x.2.2,.slice y.A y.x.1.length y.c] TO)).cell? ⟨Bx,2,none⟩=some (.slice y.A y.x.1.length y.c)∧(w2.alloc (.cells #[.string y.n.1,.string y.n.2,.int .i64 (sumL y.x.1),.int .i64 y.x.2.1,.int .i64 y.x.2.2,.slice y.A y.x.1.length y.c] TO)).cell? ⟨Bx,3,none⟩=some (.int .i64 y.x.2.1)∧(w2.alloc (.cells #[.string y.n.1,.string y.n.2,.int .i64 (sumL y.x.1),.int .i64 y.x.2.1,.int .i64 y.x.2.2,.slice y.A y.x.1.length y.c] TO)).cell? ⟨Bx,4,none⟩=some (.int .i64 y.x.2.2):=⟨HSt3.out.b.cell 0,HSt3.out.b.cell 1,HSt3.out.b.cell 2,HSt3.out.b.cell 3,HSt3.out.b.cell 4⟩
 refine Eng.TW.app rfl rfl (by decide) (by kernel_rfl) (.tmp 22) (.tmp 38) TOs rfl w1.heap.size TO i0 (.agg #[.string ByteArray.empty,.string ByteArray.empty,.int .i64 0,.int .i64 0,.int .i64 0,.slice none 0 0]) 6 80 underlying57 hi hz0 hz1 hz2 rfl (by decide) v _ _ ⟨w2.heap.size,0,none⟩ 1 1 ([.string y.n.1,.string y.n.2,.int .i64 (sumL y.x.1),.int .i64 y.x.2.1,.int .i64 y.x.2.2,.slice y.A y.x.1.length y.c]) (by go_simp;first|done|with_reducible rfl) (by go_simp;first|done|with_reducible rfl) (HSt3.out.a.o) rfl (new_cells w2 TO ([.string y.n.1,.string y.n.2,.int .i64 (sumL y.x.1),.int .i64 y.x.2.1,.int .i64 y.x.2.2,.slice y.A y.x.1.length y.c])) (by simp [Value.oneCell']) (by unfold maxLen;omega) (by omega) (HSt3.out.a.b.size) ?_
 intro v4 w4 hown hg hv
 obtain ⟨A4,c4,rfl,-,-⟩:=Sl.of_own hown
 have HSt4:=Lib.hid (HSt3.out.app hown hg hv)
 have hSS:w4.cell? ⟨Bx,0,none⟩=some (.string y.n.1)∧w4.cell? ⟨Bx,1,none⟩=some (.string y.n.2)∧w4.cell? ⟨Bx,2,none⟩=some (.slice y.A y.x.1.length y.c)∧w4.cell? ⟨Bx,3,none⟩=some (.int .i64 y.x.2.1)∧w4.cell? ⟨Bx,4,none⟩=some (.int .i64 y.x.2.2):=⟨HSt4.out.b.cell 0,HSt4.out.b.cell 1,HSt4.out.b.cell 2,HSt4.out.b.cell 3,HSt4.out.b.cell 4⟩
 clear hown hg hv
 refine ⟨hSS,?_⟩
 refine Eng.TW.tk ?_
 refine Eng.TW.end_ [3,22,23,24,25,26,27,28,29,30,31,32,33,34,35,36,37,38,39] HN.out (by kernel_rfl) (by kernel_rfl) ?_
 exact HP.out _ _ _ rfl HSt4.out.a
def AllP (h:Nat) (D:List It) (R:List Nat) (w:World) (e:Ending) (w':World):Prop:=∃A c,e=.returned (.slice A (D.map tl).length c)∧OL (fun b=>w.heap.size≤b∨(b∈R∧b≠h)) w' A c (D.map tl)∧Below w.heap.size w w'
theorem take_tl {D:List It} {k:Nat} (hk:k<D.length):(D.take (k+1)).map tl=(D.take k).map tl++ [tl D[k]]:=by
 rw [List.take_succ_eq_append_getElem hk,List.map_append,List.map_singleton]
theorem All (h:Nat) (D:List It) (R:List Nat) (w:World) (H:DV w h D R) (hv:OpsP.Vok (itV D)) (hl:D.length≤1000000):
  Calls prog 29 #[.pointer (some ⟨h,0,none⟩)] w (AllP h D R w):=by
 obtain ⟨A,c,hb,hS,hA⟩:=H.s
 have c0:w.cell? ⟨h,0,none⟩=some (.slice A D.length c):=hb.cell 0
 have HB:=Lib.hid hb;have HS:=Lib.hid hS;have HA:=Lib.hid hA;have HH:=Lib.hid H
 have HOk:Hid (∀e∈D,Ok e.x.1):=fun e he=>(hv.wf (key e.n,e.v) (List.mem_map.2 ⟨e,he,rfl⟩)).1.ok
 have hhl:=H.r.2 _ H.r.1
 clear H hb hS hA hv
 go_enter func29,ntmps29
 go_wp2_with fail
 clear c0
 go_loopg [3,4] D.length (fun gk v i wr=>∃k:Nat,i=.int .i64 k∧k≤D.length∧gk=D.length-k∧SA w wr ((D.take k).map tl) v)
 case atStart=>exact ⟨0,rfl,Nat.zero_le _,rfl,World.ownsRow_nil _ _ _ _,Below.refl _ _⟩
 case round=>
  obtain ⟨k,rfl,hk,hg,hI⟩:=hrel
  have HG:=Lib.hid hg;have HI:=Lib.hid hI
  clear hg hI
  have HFb:Hid (Below w.heap.size w wr):=Lib.hid HI.out.b
  have c0:wr.cell? ⟨h,0,none⟩=some (.slice A D.length c):=(HFb.out.cell hhl).trans (HB.out.cell 0)
  by_cases hlt:k<D.length
  ·obtain ⟨b1,o1,rfl,hb1,c1'⟩:=HS.out.at hlt (by omega)
   have HA5:Hid (∀j u,(D[k].cs)[j]? =some u→wr.cell? ⟨b1,o1+k*5+j,none⟩=some u):=fun j u hu=>by
    have hj:j<5:=by have:=(List.getElem?_eq_some_iff.1 hu).1;simpa using this
    have h1:=c1' (k*5+j) u (by rw [flat_at It.cs_len hlt hj];exact hu)
    rw [←Nat.add_assoc] at h1;exact (HFb.out.cell (by omega)).trans h1
   have HM:=Lib.hid (HH.out.e _ (List.getElem_mem hlt))
   have HOky:=Lib.hid (HOk.out _ (List.getElem_mem hlt))
   have HTk:=Lib.hid (take_tl hlt)
   have hcap:=HS.out.2.1
   clear c1'
   generalize D[k]=y at *
   have q1:(0:Int)≤(k:Int):=by omega
   have q2:decide ((k:Int)<((D.length:Nat):Int))=true:=by simp;omega
   have q3:(k:Int)<((D.length:Nat):Int):=by omega
   have ic0:wr.cell? ⟨b1,o1+k*5,none⟩=some (.string y.n.1):=HA5.out 0 _ rfl
   have ic1:wr.cell? ⟨b1,o1+k*5+1,none⟩=some (.string y.n.2):=HA5.out 1 _ rfl
   have ic2:wr.cell? ⟨b1,o1+k*5+1+1,none⟩=some (.slice y.A y.x.1.length y.c):=HA5.out 2 _ rfl
   have ic3:wr.cell? ⟨b1,o1+k*5+1+1+1,none⟩=some (.int .i64 y.x.2.1):=HA5.out 3 _ rfl
   have ic4:wr.cell? ⟨b1,o1+k*5+1+1+1+1,none⟩=some (.int .i64 y.x.2.2):=HA5.out 4 _ rfl
   go_upto_region 6 with (fail)
   have HRA:Hid (RA w (wr.alloc (.cells #[.string y.n.1,.string y.n.2,.slice y.A y.x.1.length y.c,.int .i64 y.x.2.1,.int .i64 y.x.2.2] TIt)) ((D.take k).map tl) u3 y wr.heap.size):=Lib.hid ⟨HI.out.keep (Fr.alloc _ _ _),Bk.new _ _ _,fun e=>by have:=(ownsRow_blk HI.out.o _ e).2.1;omega,(HM.out.1.fr (Fr.of_below' HFb.out (fun _=>False)) (fun _ _ h=>h)).fr (Fr.alloc (fun _=>False) wr _) (fun _ _ h=>h),fun a ha=>HH.out.r.2 _ (HM.out.2 a ha).1⟩
   have hTl:((D.take k).map tl).length≤1000000000:=by simp;omega
   clear ic0 ic1 ic2 ic3 ic4 HA5 c0
   refine ra6 (by kernel_rfl) _ _ w _ ((D.take k).map tl) u3 y wr.heap.size HOky.out hTl HRA.out rfl rfl rfl ?_
   intro xx w2 v' hx hI2
   simp only [Eng.setAll,Act.put,List.setIfInBounds_toArray,List.set_cons_succ,List.set_cons_zero]
   have HI2:Hid (SA w w2 ((D.take (k+1)).map tl) v'):=by show SA _ _ _ _;rw [HTk.out];exact hI2
   rw [hx]
   clear hI2 HRA
   go_wp2_with fail
   go_roundg (D.length-(k+1))
   case rel=>exact ⟨k+1,by go_num,by omega,rfl,HI2.out⟩
   case measure=>have:=HG.out;omega
  ·obtain rfl:k=D.length:=by omega
   have q2:decide (((D.length:Nat):Int)<((D.length:Nat):Int))=false:=by simp
   have hI:=HI.out
   rw [List.take_length] at hI
   obtain ⟨A',c',rfl,hs,ha⟩:=Sl.of_own hI.o
   have HP:Hid (AllP h D R w (.returned (.slice A' (D.map tl).length c')) wr):=⟨A',c',rfl,⟨hs,fun e he=>?_,fun a h1=>⟨.inl (ha a h1).1,(ha a h1).2.2⟩,fun e he a h1=>?_⟩,HFb.out⟩
   ·clear hI hs ha HI
    go_wp2_with fail
    go_ret
    exact HP.out
   ·obtain ⟨x,hx,rfl⟩:=List.mem_map.1 he
    exact (HH.out.e x hx).1.fr (Fr.of_below' HFb.out (fun _=>False)) (fun _ _ h=>h)
   ·obtain ⟨x,hx,rfl⟩:=List.mem_map.1 he
    have h2:=(HH.out.e x hx).2 a h1
    exact ⟨.inr h2,Nat.lt_of_lt_of_le (HH.out.r.2 _ h2.1) HFb.out.size⟩
end Rf26
end Go.Proofs.YtdpngmgaomghoaaGreat
