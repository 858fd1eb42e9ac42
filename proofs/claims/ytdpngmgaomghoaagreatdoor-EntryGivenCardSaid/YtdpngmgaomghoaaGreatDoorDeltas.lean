/- What becomes of sets of records: the program's: is it a set, may it be, what is between. -/
import Derived.Test.YtdpngmgaomghoaaGreatDoorSli
import Derived.Sort.CutIn
namespace Go.Proofs.YtdpngmgaomghoaaGreatDoor
open Tryz
set_option maxRecDepth 100000
set_option maxHeartbeats 400000
open Go.RowKit Go.Shelf
namespace Delta
open KeyP PackP SetP SetW SetF Sli
attribute [local go_sem] Eng.ev Eng.getO_cons Eng.getO_nil
abbrev TDl:TypeId:=36
theorem Clone (A:Option Addr) (c:Nat) (L:List Sn) (w:World) (hS:Ls w A c L) (hlen:L.length≤1000000):
  Calls prog 78 #[.slice A L.length c] w (LsPost L w):=by
 obtain ⟨i0,hi,hz0,hz1,hz2⟩:=info_parts infoS
 have HOk:=Lib.hid hS.ok
 cases A with
 |none=>
  obtain rfl:c=0:=hS.s.2.2.2.1 rfl
  have hl:L.length=0:=by have:=hS.s.2.1;omega
  obtain rfl:L= []:=List.length_eq_zero_iff.1 hl
  clear hS hl
  have kn:∀W:World,(binOp .eql TSs (.slice none 0 0) (.slice none 0 0)).run prog W=.ok (.bool true) W:=fun W=>Lib.run_eql_slice_nil W TSs TSn none 0 0 0 0 underlying31
  go_enter func78,ntmps78
  go_wp2_with fail
  go_ret
  exact ⟨none,0,rfl,Ls.nil _,World.ownsRow_nil _ _ _ _,Below.refl _ _⟩
 |some a=>
  obtain ⟨b,o,s⟩:=a
  have HS:=Lib.hid (hS.keep (Fr.alloc (fun _=>False) w (.cells #[] TSn)))
  have hown:(w.alloc (.cells #[] TSn)).ownsRow w.heap.size TSn 9 (.slice (some ⟨w.heap.size,0,none⟩) 0 0) 0 []:=
   ⟨rfl,.inr ⟨_,0,#[],rfl,Nat.le_refl _,heap_new _ _,Nat.le_refl _,by simp [maxLen],rfl,rfl⟩⟩
  have HO:=Lib.hid hown
  have kn:∀W:World,(binOp .eql TSs (.slice (some ⟨b,o,s⟩) L.length c) (.slice none 0 0)).run prog W=.ok (.bool false) W:=fun W=>Lib.run_eql_slice_nil W TSs TSn (some ⟨b,o,s⟩) L.length c 0 0 underlying31
  clear hS hown
  go_enter func78,ntmps78
  go_wp2_with (at_builtin;refine wpList_append_sl _ rfl (.tmp 5) (.tmp 6) TSs rfl w.heap.size TSn i0 (.agg #[.int .i64 0,.int .i64 0,.int .i64 0,.int .i64 0,.string ByteArray.empty,.string ByteArray.empty,.int .i64 0,.int .i64 0,.bool false]) 9 88 underlying31 hi hz0 hz1 hz2 rfl (by decide) _ _ _ rfl HO.out _ _ _ _ rfl HS.out.s (cells_one _) ?_ ?_ ?_ ?_)
  ·unfold maxLen;omega
  ·omega
  ·simp
  intro v1 w3 hown1 hgrow1
  obtain ⟨A2,c2,rfl,hs2,-⟩:=Sl.of_own hown1
  have HO1:=Lib.hid hown1;have HS2:=Lib.hid hs2
  have HB:=Lib.hid (((Below.refl w.heap.size w).alloc (Nat.le_refl _) (.cells #[] TSn)).grown hgrow1 (by simp) (fun k e=>by cases e;exact Nat.le_refl _))
  clear hown1 hgrow1 hs2
  go_wp2_with fail
  go_ret
  exact ⟨A2,c2,rfl,⟨HS2.out,HOk.out⟩,HO1.out,HB.out⟩
structure Dl where
 A1:Option Addr
 c1:Nat
 O:List Sn
 A2:Option Addr
 c2:Nat
 I:List Sn
abbrev Dl.arr (d:Dl):Array Value:= #[.slice d.A1 d.O.length d.c1,.slice d.A2 d.I.length d.c2]
abbrev Dl.v (d:Dl):Value:=.agg d.arr
structure RdD (w:World) (d:Dl):Prop where
 o:Ls w d.A1 d.c1 d.O
 i:Ls w d.A2 d.c2 d.I
theorem RdD.keep {w w':World} {d:Dl} (h:RdD w d) (hf:Fr (fun _=>False) w w'):RdD w' d:=⟨h.o.keep hf,h.i.keep hf⟩
theorem RdD.below {w w':World} {d:Dl} (h:RdD w d) (hb:Below w.heap.size w w'):RdD w' d:=h.keep (Fr.of_below' hb _)
end Delta
set_option maxRecDepth 100000
set_option maxHeartbeats 2000000
namespace Delta
open KeyP PackP SetP SetW SetF Sli
attribute [local go_sem] Oper.semAt_some
theorem mem_fnd {Y:List Sn} (hs:Srs Y) (x:Sn):decide (x∈Y)=match fnd x Y with|none=>false|some z=>eqS x z:=by
 cases h:fnd x Y with
 |none=>
  show _=false
  rw [decide_eq_false_iff_not]
  intro hx
  have:=fnd_none h x hx
  rw [one_refl] at this;cases this
 |some z=>
  obtain ⟨h1,h2⟩:=fnd_some h
  show _=eqS x z
  unfold eqS
  rw [decide_eq_decide]
  exact ⟨fun hx=>srs_uni hs hx h1 (by rw [one_comm];exact h2),fun e=>e▸h1⟩
theorem without (B1 B2:Nat) (X Y:List Sn) (F1 F2:List Nat) (w:World) (h1:AvlSS.MapB w B1 (mp id X) F1) (h2:AvlSS.MapB w B2 (mp id Y) F2) (sz:X.length≤1000000) (hX:∀x∈X,gk x) (hY:∀y∈Y,gk y) (hs:Srs Y):
  Calls prog 36 #[.pointer (some ⟨B1,0,none⟩),.pointer (some ⟨B2,0,none⟩)] w (OwnPost (wout Y X) w):=by
 obtain ⟨i0,hi,hz0,hz1_,hz2⟩:=info_parts infoS
 have hFlt:=h1.lt
 have hMP:=h1.mapP
 have HM2:=Lib.hid h2
 have HGx:=Lib.hid hX;have HGy:=Lib.hid hY;have HSy:=Lib.hid hs
 have HAll:=fun w=>Lib.hid (Values.All_any B1 0 w)
 clear h1 h2 hX hY hs
 refine (callsIn_wide (n:=3)).1 ?_
 refine callsIn_of_wp_marks func36 rfl trivial ?_ rfl
 simp only [ntmps36,List.size_toArray,List.length_cons,List.length_nil,Nat.reduceAdd,Nat.reduceSub,Array.replicate_succ,Array.replicate_zero,List.push_toArray,List.append_toArray,List.nil_append,List.cons_append]
 refine wpIn_wide.2 ?_
 go_wp2_with fail
 refine (HAll _).out.mono ?_
 rintro e w1 ⟨rfl,rfl⟩
 go_wp2_with fail
 have fa:=fun (w:World) (o:Obj)=>Fr.alloc (fun _=>False) w o
 have nn:∀G:List Nat,∀b∈G,¬False:=fun _ _ _ h=>h
 have hs0:(((w.alloc (.cells #[.pointer (some ⟨B2,0,none⟩)] 75)).alloc (.cells #[.slice none 0 0] TSs)).alloc (.cells #[.pointer (some ⟨B1,0,none⟩)] 75)).heap.size=w.heap.size+3:=by simp
 have bb:Bk (((w.alloc (.cells #[.pointer (some ⟨B2,0,none⟩)] 75)).alloc (.cells #[.slice none 0 0] TSs)).alloc (.cells #[.pointer (some ⟨B1,0,none⟩)] 75)) w.heap.size #[.pointer (some ⟨B2,0,none⟩)] 75:=((Bk.new w _ _).fr (fa _ _) (nn _)).fr (fa _ _) (nn _)
 have bo:Bk (((w.alloc (.cells #[.pointer (some ⟨B2,0,none⟩)] 75)).alloc (.cells #[.slice none 0 0] TSs)).alloc (.cells #[.pointer (some ⟨B1,0,none⟩)] 75)) (w.heap.size+1) #[.slice none 0 0] TSs:=by
  have:=(Bk.new (w.alloc (.cells #[.pointer (some ⟨B2,0,none⟩)] 75)) #[.slice none 0 0] TSs).fr (fa _ (.cells #[.pointer (some ⟨B1,0,none⟩)] 75)) (nn _)
  simpa using this
 have hcc:(((w.alloc (.cells #[.pointer (some ⟨B2,0,none⟩)] 75)).alloc (.cells #[.slice none 0 0] TSs)).alloc (.cells #[.pointer (some ⟨B1,0,none⟩)] 75)).cell? ⟨w.heap.size+2,0,none⟩=some (.pointer (some ⟨B1,0,none⟩)):=by
  have:=(Bk.new ((w.alloc (.cells #[.pointer (some ⟨B2,0,none⟩)] 75)).alloc (.cells #[.slice none 0 0] TSs)) #[.pointer (some ⟨B1,0,none⟩)] 75).cell 0
  simpa using this
 have hb0:Below w.heap.size w (((w.alloc (.cells #[.pointer (some ⟨B2,0,none⟩)] 75)).alloc (.cells #[.slice none 0 0] TSs)).alloc (.cells #[.pointer (some ⟨B1,0,none⟩)] 75)):=(((Below.refl _ w).alloc (Nat.le_refl _) _).alloc (by simp) _).alloc (by simp;omega) _
 have hM0:=hMP.below hb0
 generalize (((w.alloc (.cells #[.pointer (some ⟨B2,0,none⟩)] 75)).alloc (.cells #[.slice none 0 0] TSs)).alloc (.cells #[.pointer (some ⟨B1,0,none⟩)] 75))=W0 at *
 have HS0:=Lib.hid hs0
 have HB0:=Lib.hid hb0
 have HBb:=Lib.hid bb
 have n0:w.heap.size+2<W0.heap.size:=by omega
 clear hs0 fa hMP HAll hb0 bb
 refine (wpIn_wide (n:=3)).1 ?_
 refine range_B (n:=3) (a₁:=?fr) (gf:=89) (lb:= #[.pointer (some ⟨w.heap.size+2,0,none⟩)]) rfl (enters_of func89 (by kernel_rfl) rfl)
  (AvlSS.All_seq F1 (w.heap.size+2) (some ⟨B1,0,none⟩) (mp id X) F1 W0 hcc n0 hM0 (fun _ h=>h)) (fun b hb=>by have:=hFlt.2 b hb;have:=HS0.out;omega) (fun _=>rfl)
  (fun (pre:List (ByteArray × Sn)) (W:World)=>(Coll w.heap.size W0.heap.size (W0.heap.size+2+0) (w.heap.size+1) TSs TSn 9 w W (wout Y (X.take pre.length)).length ((wout Y (X.take pre.length)).flatMap scs)∧Bk W w.heap.size #[.pointer (some ⟨B2,0,none⟩)] 75)∧W0.heap.size≤W.heap.size)
  (fun k (pre:List (ByteArray × Sn)) (W:World)=>False)
  (fun pre A C h hf=>⟨⟨h.1.1.abide hf (by omega) (fun h=>by have:=h.1;omega) (by have:=h.2;omega),h.1.2.fr hf (fun b hb h=>by simp at hb;have:=h.1;omega)⟩,Nat.le_trans h.2 hf.size⟩)
  (fun k pre A C h hf=>h)
  ⟨⟨Coll.start bo HB0.out,HBb.out⟩,Nat.le_refl _⟩ (fun x=>x.2.arr) TSn (fun pre W o h hsz=>⟨⟨h.1.1.alloc o (by have:=h.2;omega),h.1.2.fr (Fr.alloc (fun _=>False) W o) (fun _ _ h=>h)⟩,by simp;omega⟩) ?assign ?body ?done ?stop
 case assign=>
  intro l m x W b K hb hK
  gi_wp2_with fail
  exact hK
 case body=>
  rintro l m pre x b W ⟨⟨hI,hbb⟩,hsz0⟩ hbk hbl hsz hpre rfl ⟨r,hl⟩ hd
  (try dsimp only)
  have hlt:pre.length<X.length:=by have:=hpre.length_le;rw [List.length_append,List.length_singleton,List.length_map] at this;omega
  have hx:x=(kk X[pre.length],X[pre.length]):=by
   obtain ⟨t,ht⟩:=hpre
   have h1:(mp id X)[pre.length]? =some x:=by rw [←ht];simp
   rw [List.getElem?_map,List.getElem?_eq_getElem hlt] at h1
   simpa using h1.symm
  subst hx
  have HSn:Hid (wout Y (X.take (pre.length+1))=wout Y (X.take pre.length)++if decide (X[pre.length]∈Y) then [] else [X[pre.length]]):=by
   show _=_
   rw [show wout Y (X.take (pre.length+1))=_ from filter_snoc (p:=fun y=> !decide (y∈Y)) hlt]
   unfold wout
   cases decide (X[pre.length]∈Y)<;>rfl
  have hml:(wout Y (X.take pre.length)).length≤pre.length:=Nat.le_trans (List.length_filter_le _ _) (by rw [List.length_take];omega)
  have hgy:=HGx.out _ (List.getElem_mem hlt)
  generalize X[pre.length]=y at *
  generalize wout Y (X.take pre.length)=M at *
  rw [mem_fnd HSy.out] at HSn
  have HMl:=Lib.hid hml
  obtain ⟨v,hv,hown,hbel,hout⟩:=hI
  have HV:=Lib.hid hv;have HO:=Lib.hid hown;have HBe:=Lib.hid hbel;have HOut:=Lib.hid hout
  have HL:=Lib.hid hl;have HD:=Lib.hid hd;have HSz:=Lib.hid hsz;have HSz0:=Lib.hid hsz0
  have HBk:=Lib.hid hbk;have HBb1:=Lib.hid hbb;have HBl:=Lib.hid hbl;have HLt:=Lib.hid hlt
  have hn1:w.heap.size≤W.heap.size:=by have:=HS0.out;omega
  have HGet:=Lib.hid (AvlSS.GetB B2 (kk y) (mp id Y) F2 W (HM2.out.fr (Fr.of_below' hbel (fun _=>False)) (fun h=>h) (fun _ _ h=>h)))
  have cb:W.cell? ⟨w.heap.size,0,none⟩=some (.pointer (some ⟨B2,0,none⟩)):=hbb.cell 0
  have hget:getL (kk y) (mp id Y)=(fnd y Y).map id:=get_mp (f:=id) hgy (fun y hy=>HGy.out y hy)
  have HKk:=Lib.hid hget
  generalize hkk:kk y=ky at *
  clear hv hown hbel hout hl hd hpre hbk hbb hget hgy hkk hml hsz hsz0 hlt
  gi_wp2_with fail
  refine ⟨trivial,fun h=>(by cases h),CallsIn.inRound _ (callsIn_wide.2 ?_)⟩
  refine HGet.out.mono ?_
  rintro e w1 ⟨rfl,hf⟩
  clear HGet cb
  rw [HKk.out]
  cases hfn:fnd y Y with
  |none=>
   have HE:Hid (wout Y (X.take (pre.length+1))=M++ [y]):=by show _=_;rw [HSn.out,hfn];rfl
   clear hfn
   have HZ:Hid (Fr (fun _=>False) W (w1.alloc (.cells (AvlSS.varr (⟨0,0,0,0,ByteArray.empty,ByteArray.empty,0,0,false⟩:Sn)) TSn))):=hf.trans (Fr.alloc (fun _=>False) _ _) (fun _ _ h=>h) (fun _ _ h=>h)
   clear hf
   gi_upto_region 7 with (fail)
   generalize (w1.alloc (.cells (AvlSS.varr (⟨0,0,0,0,ByteArray.empty,ByteArray.empty,0,0,false⟩:Sn)) TSn))=w2 at *
   have hFw:Fr (fun _=>False) W w2:=HZ.out
   have HV2:=Lib.hid (HV.out.fr hFw (fun _ _ h=>h));have HO2:=Lib.hid (ownsRow_fr HO.out hFw (fun _ _ h=>h));have HBe2:=Lib.hid (HBe.out.trans (hFw.below hn1 (fun _ _ h=>h)))
   have HL2:=Lib.hid ((hFw.block (W0.heap.size+1) (by have:=HSz.out;omega) (fun h=>h)).trans HL.out)
   have HD2:=Lib.hid ((hFw.block W0.heap.size (by have:=HSz.out;omega) (fun h=>h)).trans HD.out)
   have hbk2:=HBk.out.fr hFw (fun _ _ h=>h)
   have HBb2:=Lib.hid (HBb1.out.fr hFw (fun _ _ h=>h))
   have cv:w2.cell? ⟨w.heap.size+1,0,none⟩=some v:=HV2.out.cell 0
   have fv:=HV2.out.free 0
   have hn2:w.heap.size≤w2.heap.size:=Nat.le_trans hn1 hFw.size
   have hown':=HO2.out.alloc (.cells y.arr TSn)
   have hml:=HMl.out
   have hlt:=HLt.out
   have yc0:w2.cell? ⟨b,0,none⟩=some (.int .i64 y.t):=hbk2.cell 0
   have yc1:w2.cell? ⟨b,1,none⟩=some (.int .i64 y.i):=hbk2.cell 1
   have yc2:w2.cell? ⟨b,2,none⟩=some (.int .i64 y.p):=hbk2.cell 2
   have yc3:w2.cell? ⟨b,3,none⟩=some (.int .i64 y.r):=hbk2.cell 3
   have yc4:w2.cell? ⟨b,4,none⟩=some (.string y.s):=hbk2.cell 4
   have yc5:w2.cell? ⟨b,5,none⟩=some (.string y.o):=hbk2.cell 5
   have yc6:w2.cell? ⟨b,6,none⟩=some (.int .i64 y.b):=hbk2.cell 6
   have yc7:w2.cell? ⟨b,7,none⟩=some (.int .i64 y.d):=hbk2.cell 7
   have yc8:w2.cell? ⟨b,8,none⟩=some (.bool y.g):=hbk2.cell 8
   clear hbk2 hFw
   gi_wp2_with (gi_at_builtin;refine wpListIn_append_own _ rfl (.tmp 27) (.tmp 29) TSs rfl w.heap.size TSn i0 (.agg #[.int .i64 0,.int .i64 0,.int .i64 0,.int .i64 0,.string ByteArray.empty,.string ByteArray.empty,.int .i64 0,.int .i64 0,.bool false]) 9 88 underlying31 hi hz0 hz1_ hz2 rfl (by decide) _ _ _ rfl hown' ⟨w2.heap.size,0,none⟩ 1 1 y.cs rfl rfl (new_cells w2 TSn y.cs) (by simp [Value.oneCell']) (by unfold maxLen;omega) (by omega) (by simp;omega) ?_)
   intro v' w3 hown1 hgrow _
   obtain ⟨g',cap',rfl⟩:=ownsRow_succ hown1
   have hb:¬Rg W0.heap.size (W0.heap.size+2+0) (w.heap.size+1):=fun h=>by have:=h.1;have:=HS0.out;omega
   obtain ⟨k1,k2,k3⟩:=Coll.step HV2.out HO2.out HBe2.out HOut.out (by decide) hn2 (by omega) hb HL2.out HD2.out hown1 hgrow
   have cv1:w3.cell? ⟨w.heap.size+1,0,none⟩=some v:=k1.cell 0
   have fv1:=k1.free 0
   have K2:=Lib.hid k2;have K3:=Lib.hid k3;have KO:=Lib.hid (ownsRow_blk HO2.out)
   have HNb:Hid (∀b,v.ownBlock=some b→b≠w.heap.size):=fun b hb e=>by
    obtain ⟨_,_,c,hc⟩:=ownsRow_blk HO2.out b hb
    rw [e,show w2.heap[w.heap.size]? =_ from HBb2.out] at hc
    cases hc
   clear k1 k2 k3 hown1 hgrow hown' cv fv yc0 yc1 yc2 yc3 yc4 yc5 yc6 yc7 yc8
   gi_wp2_with fail
   have hs1:=HS0.out
   have hF3:Fr (fun b=>b=w.heap.size+1∨v.ownBlock=some b) W _:=HZ.out.trans K3.out (fun _ _ h=>h.elim) (fun _ _ h=>h)
   refine ⟨KeptR.of_fr hF3 HSz.out ?_,hF3.size,KeptL.of_fr hF3 (fun b hb=>⟨by have:=hFlt.2 b hb;have:=HSz.out;omega,?_⟩),⟨⟨?_,HBb2.out.fr K3.out (fun b hb e=>?_)⟩,by have:=hF3.size;have:=HSz0.out;omega⟩⟩
   ·rintro b hr (e|e)
    ·exact hb (e▸hr)
    ·exact HOut.out b e hr
   ·rintro (e|e)
    ·have:=hFlt.2 b hb;omega
    ·have:=(KO.out b e).1;have:=hFlt.2 b hb;omega
   ·rw [List.length_append,List.length_singleton,HE.out]
    simpa using K2.out
   ·simp at hb;subst hb
    rcases e with e|e
    ·omega
    ·exact HNb.out _ e rfl
  |some z=>
   have HZ:Hid (Fr (fun _=>False) W (w1.alloc (.cells z.arr TSn))):=hf.trans (Fr.alloc (fun _=>False) _ _) (fun _ _ h=>h) (fun _ _ h=>h)
   have hq0:=fun V:World=>neq_parts y.t y.i y.p y.r y.b y.d z.t z.i z.p z.r z.b z.d y.s y.o z.s z.o y.g z.g V
   have hby:=HBk.out.fr HZ.out (fun _ _ h=>h)
   have yc0:(w1.alloc (.cells z.arr TSn)).cell? ⟨b,0,none⟩=some (.int .i64 y.t):=hby.cell 0
   have yc1:(w1.alloc (.cells z.arr TSn)).cell? ⟨b,1,none⟩=some (.int .i64 y.i):=hby.cell 1
   have yc2:(w1.alloc (.cells z.arr TSn)).cell? ⟨b,2,none⟩=some (.int .i64 y.p):=hby.cell 2
   have yc3:(w1.alloc (.cells z.arr TSn)).cell? ⟨b,3,none⟩=some (.int .i64 y.r):=hby.cell 3
   have yc4:(w1.alloc (.cells z.arr TSn)).cell? ⟨b,4,none⟩=some (.string y.s):=hby.cell 4
   have yc5:(w1.alloc (.cells z.arr TSn)).cell? ⟨b,5,none⟩=some (.string y.o):=hby.cell 5
   have yc6:(w1.alloc (.cells z.arr TSn)).cell? ⟨b,6,none⟩=some (.int .i64 y.b):=hby.cell 6
   have yc7:(w1.alloc (.cells z.arr TSn)).cell? ⟨b,7,none⟩=some (.int .i64 y.d):=hby.cell 7
   have yc8:(w1.alloc (.cells z.arr TSn)).cell? ⟨b,8,none⟩=some (.bool y.g):=hby.cell 8
   clear hby hf
   cases h1:eqS y z with
   |true=>
    have HE:Hid (wout Y (X.take (pre.length+1))=M):=by show _=_;rw [HSn.out,hfn];show (M++if eqS y z=true then [] else [y])=M;rw [h1];simp
    have hq:∀V:World,(binOp .neq TSn (.agg y.arr) (.agg z.arr)).run prog V=.ok (.bool false) V:=fun V=>by have:=hq0 V;rw [this];show _=_;rw [show eqS _ _=eqS y z from rfl,h1];rfl
    clear hfn h1 hq0
    gi_wp2_with fail
    have hs1:=HS0.out
    have hF3:=HZ.out
    refine ⟨KeptR.of_fr hF3 HSz.out (fun _ _ h=>h),hF3.size,KeptL.of_fr hF3 (fun b hb=>⟨by have:=hFlt.2 b hb;have:=HSz.out;omega,fun h=>h⟩),⟨⟨⟨v,?_,?_,?_,HOut.out⟩,HBb1.out.fr hF3 (fun _ _ h=>h)⟩,Nat.le_trans HSz0.out hF3.size⟩⟩
    ·exact HV.out.fr hF3 (fun _ _ h=>h)
    ·rw [List.length_append,List.length_singleton,HE.out];exact ownsRow_fr HO.out hF3 (fun _ _ h=>h)
    ·exact HBe.out.trans (hF3.below hn1 (fun _ _ h=>h))
   |false=>
    have HE:Hid (wout Y (X.take (pre.length+1))=M++ [y]):=by show _=_;rw [HSn.out,hfn];show (M++if eqS y z=true then [] else [y])=_;rw [h1];rfl
    have hq:∀V:World,(binOp .neq TSn (.agg y.arr) (.agg z.arr)).run prog V=.ok (.bool true) V:=fun V=>by have:=hq0 V;rw [this];show _=_;rw [show eqS _ _=eqS y z from rfl,h1];rfl
    clear hfn h1 hq0
    gi_upto_region 7 with (fail)
    generalize (w1.alloc (.cells z.arr TSn))=w2 at *
    have hFw:Fr (fun _=>False) W w2:=HZ.out
    have HV2:=Lib.hid (HV.out.fr hFw (fun _ _ h=>h));have HO2:=Lib.hid (ownsRow_fr HO.out hFw (fun _ _ h=>h));have HBe2:=Lib.hid (HBe.out.trans (hFw.below hn1 (fun _ _ h=>h)))
    have HL2:=Lib.hid ((hFw.block (W0.heap.size+1) (by have:=HSz.out;omega) (fun h=>h)).trans HL.out)
    have HD2:=Lib.hid ((hFw.block W0.heap.size (by have:=HSz.out;omega) (fun h=>h)).trans HD.out)
    have hbk2:=HBk.out.fr hFw (fun _ _ h=>h)
    have HBb2:=Lib.hid (HBb1.out.fr hFw (fun _ _ h=>h))
    have cv:w2.cell? ⟨w.heap.size+1,0,none⟩=some v:=HV2.out.cell 0
    have fv:=HV2.out.free 0
    have hn2:w.heap.size≤w2.heap.size:=Nat.le_trans hn1 hFw.size
    have hown':=HO2.out.alloc (.cells y.arr TSn)
    have hml:=HMl.out
    have hlt:=HLt.out
    have zc0:w2.cell? ⟨b,0,none⟩=some (.int .i64 y.t):=hbk2.cell 0
    have zc1:w2.cell? ⟨b,1,none⟩=some (.int .i64 y.i):=hbk2.cell 1
    have zc2:w2.cell? ⟨b,2,none⟩=some (.int .i64 y.p):=hbk2.cell 2
    have zc3:w2.cell? ⟨b,3,none⟩=some (.int .i64 y.r):=hbk2.cell 3
    have zc4:w2.cell? ⟨b,4,none⟩=some (.string y.s):=hbk2.cell 4
    have zc5:w2.cell? ⟨b,5,none⟩=some (.string y.o):=hbk2.cell 5
    have zc6:w2.cell? ⟨b,6,none⟩=some (.int .i64 y.b):=hbk2.cell 6
    have zc7:w2.cell? ⟨b,7,none⟩=some (.int .i64 y.d):=hbk2.cell 7
    have zc8:w2.cell? ⟨b,8,none⟩=some (.bool y.g):=hbk2.cell 8
    clear hbk2 hFw hq
    gi_wp2_with (gi_at_builtin;refine wpListIn_append_own _ rfl (.tmp 27) (.tmp 29) TSs rfl w.heap.size TSn i0 (.agg #[.int .i64 0,.int .i64 0,.int .i64 0,.int .i64 0,.string ByteArray.empty,.string ByteArray.empty,.int .i64 0,.int .i64 0,.bool false]) 9 88 underlying31 hi hz0 hz1_ hz2 rfl (by decide) _ _ _ rfl hown' ⟨w2.heap.size,0,none⟩ 1 1 y.cs rfl rfl (new_cells w2 TSn y.cs) (by simp [Value.oneCell']) (by unfold maxLen;omega) (by omega) (by simp;omega) ?_)
    intro v' w3 hown1 hgrow _
    obtain ⟨g',cap',rfl⟩:=ownsRow_succ hown1
    have hb:¬Rg W0.heap.size (W0.heap.size+2+0) (w.heap.size+1):=fun h=>by have:=h.1;have:=HS0.out;omega
    obtain ⟨k1,k2,k3⟩:=Coll.step HV2.out HO2.out HBe2.out HOut.out (by decide) hn2 (by omega) hb HL2.out HD2.out hown1 hgrow
    have cv1:w3.cell? ⟨w.heap.size+1,0,none⟩=some v:=k1.cell 0
    have fv1:=k1.free 0
    have K2:=Lib.hid k2;have K3:=Lib.hid k3;have KO:=Lib.hid (ownsRow_blk HO2.out)
    have HNb:Hid (∀b,v.ownBlock=some b→b≠w.heap.size):=fun b hb e=>by
     obtain ⟨_,_,c,hc⟩:=ownsRow_blk HO2.out b hb
     rw [e,show w2.heap[w.heap.size]? =_ from HBb2.out] at hc
     cases hc
    clear k1 k2 k3 hown1 hgrow hown' cv fv zc0 zc1 zc2 zc3 zc4 zc5 zc6 zc7 zc8
    gi_wp2_with fail
    have hs1:=HS0.out
    have hF3:Fr (fun b=>b=w.heap.size+1∨v.ownBlock=some b) W _:=HZ.out.trans K3.out (fun _ _ h=>h.elim) (fun _ _ h=>h)
    refine ⟨KeptR.of_fr hF3 HSz.out ?_,hF3.size,KeptL.of_fr hF3 (fun b hb=>⟨by have:=hFlt.2 b hb;have:=HSz.out;omega,?_⟩),⟨⟨?_,HBb2.out.fr K3.out (fun b hb e=>?_)⟩,by have:=hF3.size;have:=HSz0.out;omega⟩⟩
    ·rintro b hr (e|e)
     ·exact hb (e▸hr)
     ·exact HOut.out b e hr
    ·rintro (e|e)
     ·have:=hFlt.2 b hb;omega
     ·have:=(KO.out b e).1;have:=hFlt.2 b hb;omega
    ·rw [List.length_append,List.length_singleton,HE.out]
     simpa using K2.out
    ·simp at hb;subst hb
     rcases e with e|e
     ·omega
     ·exact HNb.out _ e rfl
 case done=>
  rintro W hsz ⟨⟨hI,-⟩,hsz0⟩ hK
  rw [List.length_map] at hI
  obtain ⟨v,hv,hown,hbel,hout⟩:=hI
  rw [List.take_length] at hown
  have cv:W.cell? ⟨w.heap.size+1,0,none⟩=some v:=hv.cell 0
  have HO:=Lib.hid hown;have HBe:=Lib.hid hbel;have HOut:=Lib.hid hout;have HK:=Lib.hid hK
  clear hv hown hbel hout hK hM0 hcc bo
  obtain ⟨A,cA,rfl,-,-⟩:=Sl.of_own HO.out
  go_wp2_with fail
  try rw [Exit.noGoto_ret]
  refine ⟨by simp,.inl ⟨_,_,rfl,run_takeDeferred HK.out,?_⟩⟩
  have hs1:=HS0.out
  have hf:=Fr.putObj W W0.heap.size (.deferred none) (S:=(· =W0.heap.size)) rfl
  refine ⟨_,by simp [results,Tryz.results36,go_sem],.slice A (wout Y X).length cA,rfl,?_,HBe.out.trans (hf.below (by omega) (fun k hk e=>by omega))⟩
  exact ownsRow_fr HO.out hf (fun b hb e=>HOut.out b hb ⟨by omega,by omega⟩)
 case stop=>
  rintro k pre W hsz hpre hF hK
  exact hF.elim
end Delta
open Go.RowKit
namespace Delta
open KeyP PackP SetP SetW SetF Sli
attribute [local go_sem] Eng.ev Eng.getO_cons Eng.getO_nil
theorem bet_ok {a b:List Sn} (ha:∀x∈a,x.ok):∀x∈wout (setOf b) (setOf a),x.ok:=fun x hx=>set_ok ha x (List.mem_filter.1 hx).1
end Delta
end Go.Proofs.YtdpngmgaomghoaaGreatDoor
