/- Layer 22's statements: DredGiven: for every input the answer is true. -/
import Derived.Test.YtgfjpnpbkkadpaaGreatLaw22s
import Derived.Test.YtgfjpnpbkkadpaaGreatClsZs
import Derived.Test.YtgfjpnpbkkadpaaGreatL18q
namespace Go.Proofs.YtgfjpnpbkkadpaaGreat
open Tryz
set_option maxRecDepth 100000
set_option maxHeartbeats 8000000
open Go.RowKit Go.Shelf
namespace Law22
open KeyP PackP SetP SetW SetF Sli Delta KidsP Cls KdO Fst Drd Wrk
attribute [local go_sem] Eng.ev Eng.getO_cons Eng.getO_nil
attribute [local go_sem] Oper.semAt_some
open ClsW (spn RefSpans)
open ClsF (AtP)
abbrev TU8:TypeId:=5
abbrev ubx (u:Int):Array Value:= #[.int .u8 u]
structure GQ (w0 w:World) (Bn Bg:Nat) (u:Int) (Aw:Option Addr) (cw:Nat) (M:List Pq) (Ag:Option Addr) (cg:Nat) (G:List Pq):Prop where
 f:Below w0.heap.size w0 w
 n:Bk w Bn (ubx u) TU8
 m:Sl w 6 Aw M.length cw (pcs M)
 b:Bk w Bg #[.slice Ag G.length cg] TPls
 g:Sl w 6 Ag G.length cg (pcs G)
theorem GQ.below {w0 w w':World} {Bn Bg:Nat} {u:Int} {Aw Ag:Option Addr} {cw cg:Nat} {M G:List Pq} (h:GQ w0 w Bn Bg u Aw cw M Ag cg G) (hb:Below w.heap.size w w'):GQ w0 w' Bn Bg u Aw cw M Ag cg G:=
 have hf:=Fr.of_below' hb (fun _=>False)
 ⟨h.f.trans (hb.mono h.f.size),h.n.fr hf (fun _ _ h=>h),h.m.fr hf (fun _ _ h=>h),h.b.fr hf (fun _ _ h=>h),h.g.fr hf (fun _ _ h=>h)⟩
theorem drew_below (w:World):Below w.heap.size w w.drew:=(Fr.drew (fun _=>False) w).below (Nat.le_refl _) (fun _ _ h=>h)
theorem SameG {A B:Option Addr} {c c2 n:Nat} {M G:List Pq} {w:World} (h1:Sl w 6 A G.length c (pcs G)) (h2:Sl w 6 B M.length c2 (pcs M)) (hk:n≤M.length) (hg:M.take n=G):Calls prog 35 #[.slice A G.length c,.slice B n c2] w fun e w'=>e=.returned (.bool true)∧Below w.heap.size w w':=by
 have h3:=h2.take (k:=n) hk
 rw [show (pcs M).take (n*6)=pcs (M.take n) from flat_take (f:=Pq.cs) (sz:=6) (fun _=>rfl) M n,hg] at h3
 have hl:G.length=n:=by rw [←hg,List.length_take];omega
 have:=ClsF.SameP A B c c2 G G w G.length n rfl hl h1 h3
 rw [decide_eq_true rfl] at this
 exact this.mono (fun e w' h=>⟨h.1,h.2.below (Nat.le_refl _) (fun _ _ h=>h)⟩)
theorem got_of {α:Type} {LL pre:List α} {n2:Int} (hp:pre<+:LL) (h:pre.length=LL.length∧(pre= []∨(pre.length:Int)<n2)∨(1≤pre.length∧n2≤pre.length∧(pre.length=1∨(pre.length:Int)≤n2))):pre=LL.take pre.length∧(if (if 1<n2 then n2 else 1)<(LL.length:Int) then (if 1<n2 then n2 else 1) else (LL.length:Int))=(pre.length:Int):=by
 obtain ⟨t,rfl⟩:=hp
 refine ⟨by simp,?_⟩
 rw [List.length_append] at h ⊢
 rcases h with ⟨h1,h2⟩| ⟨h1,h2,h3⟩
 ·rcases h2 with rfl|h2
  ·have ht:t.length=0:=by have h1':(0:Nat)=0+t.length:=h1;omega
   rw [ht];simp only [List.length_nil];split<;>split<;>omega
  ·split<;>split<;>omega
 ·split<;>split<;>omega
structure BG (n0 bs Bg Bn:Nat) (w0 W:World) (u:Int) (pre:List Pq):Prop where
 c:Coll2 n0 bs Bg TPls TPl 6 w0 W pre.length (pcs pre)
 n:Bk W Bn (ubx u) TU8
theorem dg20 {ops:Array Oper} (hops:Eng.fnOps Tryz.f9 20=ops) (a0:Act) (Q:Exit→Act→World→Prop) (w0 w:World) (Bn Bg:Nat) (u:Int) (hu:0≤u∧u<256) (Aw:Option Addr) (cw:Nat) (M:List Pq) (Ag:Option Addr) (cg:Nat) (G:List Pq) (hi:Nat) (hst:GQ w0 w Bn Bg u Aw cw M Ag cg G) (hle:hi≤M.length) (hcw:M.length≤cw) (_hcm:cw≤9223372036854775807) (mx:Int) (hmx:(if 1<u then u else 1)=mx) (hmin:(if mx<(M.length:Int) then mx else (M.length:Int))=(hi:Int)) (hG:Hid (M.take hi=G))
  (hn:a0.tmps.size=72) (h_5:a0.tmps.getD 5 undef=.pointer (some ⟨Bn,0,none⟩)) (h_8:a0.tmps.getD 8 undef=.slice Aw M.length cw) (h_12:a0.tmps.getD 12 undef=.pointer (some ⟨Bg,0,none⟩))
  (hpost:∀ (x_:Nat→Value) (w':World),x_ 6=.bool true→GQ w0 w' Bn Bg u Aw cw M Ag cg G→Q .normal (Eng.setAll a0 [6,59,60,61,62,63,64,65,66,67,68,69,70,71] x_) w'):
  (Code.region 20 ops true).wp prog Q a0 w:=by
 simp only [Eng.fnOps,Eng.regOps,Tryz.f9,Option.bind_some,Option.getD_some,Nat.reduceEqDiff,↓reduceIte] at hops
 subst hops
 have q0:IntKind.i64.wrap u=u:=by rw [IntKind.wrap_i64];omega
 have q1:(0:Int)≤(hi:Int):=by omega
 have q2:(hi:Int)≤(cw:Int):=by omega
 have q3:hi≤cw:=by omega
 have HSt:=Lib.hid (hst.below (drew_below _))
 refine Eng.regionT (.take 0 (.take 1 (.take 2 (.take 3 (.take 4 (.take 5 (.take 6 (.take 7 (.take 8 (.alt 9 (.take 10 (.alt 11 (.take 12 (.take 13 (.done))) (.stop))) (.stop))))))))))) (fun w'=>w'.cell? ⟨Bg,0,none⟩=some (.slice Ag G.length cg)∧w'.cell? ⟨Bn,0,none⟩=some (.int .u8 u)) (by kernel_rfl) 72 hn (by kernel_rfl) (by kernel_rfl) (by kernel_rfl) (⟨HSt.out.b.cell 0,HSt.out.n.cell 0⟩) (fun a b ha hb=>?_)
 subst ha
 have hb5:b 5=.pointer (some ⟨Bn,0,none⟩):=(hb 5).symm.trans h_5
 have hb8:b 8=.slice Aw M.length cw:=(hb 8).symm.trans h_8
 have hb12:b 12=.pointer (some ⟨Bg,0,none⟩):=(hb 12).symm.trans h_12
 clear hb h_5 h_8 h_12
 have HP:=Lib.hid hpost;have HN:=Lib.hid hn
 clear hpost hn
 iterate 9 (refine Eng.TW.tk ?_)
 refine Eng.TW.call rfl rfl (by decide) (by kernel_rfl) ?_ (SameG HSt.out.g HSt.out.m hle hG.out) ?_
 ·go_simp
 rintro e w2 ⟨rfl,hb⟩
 have HSt2:=Lib.hid (HSt.out.below hb)
 clear hb
 refine ⟨_,rfl,⟨HSt2.out.b.cell 0,HSt2.out.n.cell 0⟩,?_⟩
 refine Eng.TW.tk ?_
 refine Eng.TW.call rfl rfl (by decide) (by kernel_rfl) ?_ (awake w2) ?_
 ·go_simp
 rintro e w3 ⟨rfl,hb⟩
 have HSt3:=Lib.hid (HSt2.out.below hb)
 clear hb
 refine ⟨_,rfl,⟨HSt3.out.b.cell 0,HSt3.out.n.cell 0⟩,?_⟩
 refine Eng.TW.tk ?_
 refine Eng.TW.tk ?_
 refine Eng.TW.end_ [6,59,60,61,62,63,64,65,66,67,68,69,70,71] HN.out (by kernel_rfl) (by kernel_rfl) ?_
 exact HP.out _ _ rfl HSt3.out
theorem u8_of {n:Int} (h:(Lit.int .u8 n).wf=true):0≤n∧n<256:=by
 simp [Lit.wf,IntKind.min,IntKind.max,IntKind.signed,IntKind.bits] at h
 omega
theorem flt_br (N:List Sn) (t:Int):((N.map br).filter (ist t)).map (plq (N.map br))=(N.map (plq N)).filter (fun p=>decide (p.t=t)):=by
 rw [List.filter_map,List.map_map,List.filter_map]
 have h1:(plq (N.map br)) ∘ br=plq N:=funext (fun x=>plq_br N x)
 rw [h1];rfl
theorem given (A:Option Addr) (c:Nat) (L:List Sn) (t u:Int) (w:World) (hL:Ls w A c L) (wt:wf64 t) (hu:0≤u∧u<256):
  Calls prog 9 #[.slice A L.length c,.int .i64 t,.int .u8 u] w fun e w'=>e=.returned (.bool true)∧Below w.heap.size w w':=by
 obtain ⟨i0,hi,hz0,hz1_,hz2⟩:=info_parts infoP
 have hn0:=Bk.new w (ubx u) TU8
 have hb0:=(Below.refl w.heap.size w).alloc (Nat.le_refl _) (.cells (ubx u) TU8)
 have hx0:=hL.keep (Fr.of_below' hb0 _)
 obtain ⟨Bn,hBn⟩:∃b,w.heap.size=b:=⟨_,rfl⟩
 have HN:=Lib.hid hn0;have HX:=Lib.hid hx0
 have HB:=Lib.hid hb0
 cases hq:fewB L 20 with
 |false=>
  go_enter func9,ntmps9
  go_wp2_with fail
  generalize (w.alloc (.cells (ubx u) TU8))=wi at *
  refine (SetF.Few _ _ 20 L wi HX.out.s).mono ?_
  rintro e w1 ⟨rfl,hf⟩
  have hb:=hf.below (Nat.le_refl _) (fun _ _ h=>h)
  clear hf
  replace HB:=Lib.hid (HB.out.trans (hb.mono HB.out.size))
  clear hb
  rw [hq]
  go_wp2_with fail
  refine (awake w1).mono ?_
  rintro e w2 ⟨rfl,hb⟩
  replace HB:=Lib.hid (HB.out.trans (hb.mono HB.out.size))
  clear hb
  go_wp2_with fail
  go_ret
  exact ⟨rfl,HB.out⟩
 |true=>
  have hql:=few_len hq
  have HBn:=Lib.hid hBn
  have HLt:Hid (L≠ []→∀a,A=some a→a.block<Bn):=fun hne a ha=>by
   rw [←hBn]
   exact hL.s.lt (fun e=>by have h1:=congrArg List.length e;rw [flat_length scs_len] at h1;have h2:=List.length_pos_iff.2 hne;simp at h1;omega) a ha
  clear hn0 hb0 hx0 hL
  refine (callsIn_wide (n:=3)).1 ?_
  refine callsIn_of_wp_marks func9 rfl trivial ?_ rfl
  simp only [ntmps9,List.size_toArray,List.length_cons,List.length_nil,Nat.reduceAdd,Nat.reduceSub,Array.replicate_succ,Array.replicate_zero,List.push_toArray,List.append_toArray,List.nil_append,List.cons_append]
  refine wpIn_wide.2 ?_
  go_wp2_with fail
  rw [hBn] at HN
  generalize (w.alloc (.cells (ubx u) TU8))=wi at *
  refine (SetF.Few _ _ 20 L wi HX.out.s).mono ?_
  rintro e wf1 ⟨rfl,hf⟩
  replace HN:=Lib.hid (HN.out.fr hf (fun _ _ h=>h))
  replace HX:=Lib.hid (HX.out.keep hf)
  replace HB:=Lib.hid (HB.out.trans (hf.below HB.out.size (fun _ _ h=>h)))
  clear hf
  rw [hq]
  clear hq
  go_upto_region 4 with (fail)
  have hfv:=Fv.new wf1
  have hBl:=lt_of_heap HN.out
  have hfa:=Fr.alloc (fun _=>False) wf1 (.cells #[.pointer none,.int .i64 0,.pointer none,.int .i64 0,.pointer none,.int .i64 0] KdO.TX)
  replace HN:=Lib.hid (HN.out.fr hfa (fun _ _ h=>h))
  replace HX:=Lib.hid (HX.out.keep hfa)
  replace HB:=Lib.hid (HB.out.trans (hfa.below HB.out.size (fun _ _ h=>h)))
  have HFo:=Lib.hid hfv.f
  have hzz:(wf1.alloc (.cells #[.pointer none,.int .i64 0,.pointer none,.int .i64 0,.pointer none,.int .i64 0] KdO.TX)).heap.size=wf1.heap.size+1:=by simp
  clear hfv hfa
  generalize (wf1.alloc (.cells #[.pointer none,.int .i64 0,.pointer none,.int .i64 0,.pointer none,.int .i64 0] KdO.TX))=w2 at *
  obtain ⟨B,hB⟩:∃B,wf1.heap.size=B:=⟨_,rfl⟩
  rw [hB] at HFo hzz hBl ⊢
  have HZ:=Lib.hid hzz;have HBl:=Lib.hid hBl
  clear hB hzz hBl
  have HSp:=Lib.hid (RefSpans A c L w2 HX.out (by omega))
  have HAs:=Lib.hid (As.spn L)
  have hsl:(spn L).length≤20:=Nat.le_trans (Nat.le_trans (ClsW.alive_len _) (setOf_len L)) hql
  have HRf:=Lib.hid (fun (W:World) (h:Ls W A c L)=>ClsF.ROf A c L W h (by omega))
  have HE:Hid (ClsF.plcs (spn L)=(spn L).map (plq (spn L))):=Lib.hid rfl
  rw [HE.out] at HRf
  clear HE
  generalize spn L=N at *
  have hPl:(N.map (plq N)).length=N.length:=List.length_map _
  have HPl:=Lib.hid hPl
  obtain ⟨PN,hPN⟩:∃PN,N.map (plq N)=PN:=⟨_,rfl⟩
  rw [hPN] at HRf HPl
  have HPN:=Lib.hid hPN
  clear hPN hPl
  go_wp2_with fail
  refine (HSp.out).mono ?_
  rintro e w3 ⟨An,cn,rfl,hls,-,hb⟩
  have hf:=Fr.of_below' hb (fun _=>False)
  have HLn:=Lib.hid hls
  have HF3:Hid (FoS w2 w3 B (([]:List Sn).map br) [B]):=⟨HFo.out.fr hf (fun _ _ h=>h),hf.mono (fun _ _ h=>h.elim),by simp⟩
  clear hls HSp hb hf HFo
  go_wp2_with fail
  refine (BetweenN none An 0 cn [] N w3 (Ls.nil _) HLn.out (by simp) (by omega)).mono ?_
  rw [HAs.out.ok.set,show setOf ([]:List Sn)= [] from rfl]
  rintro e w4 ⟨D1,d1,D2,d2,rfl,hd,hb,hn1,hn2⟩
  have hFO:=HF3.out
  have hap:ApD ⟨D1,d1,wout N [],D2,d2,wout [] N⟩ [B]:=apD_new (lo:=w3.heap.size) (fun b hb=>hFO.f.lt b hb) (fun _ a ha=>hn1 a ha) (fun _ a ha=>hn2 a ha)
  have HAp:=Lib.hid (ApplyF (hFO.keep (Fr.of_below' hb _)) As.nil HAs.out (by simp) (Ls.gd HLn.out) (by simp) (by omega) hd hap)
  clear hd hb hn1 hn2 hFO hap HF3 HLn
  go_wp2_with fail
  refine HAp.out.mono ?_
  rintro e w5 ⟨A3,c3,A4,c4,n,F',rfl,g1,-,-,-,-,-,-,-⟩
  have HF5:=Lib.hid g1
  have HN5:=Lib.hid (HN.out.fr g1.r (fun b hb e=>by have:=List.mem_singleton.1 hb;have:=HBl.out;omega))
  have HX5:=Lib.hid (Ls.frB HX.out g1.r (fun hne a ha e=>by have:=HLt.out hne a ha;have:=HBl.out;omega))
  have HB5:=Lib.hid (HB.out.trans (g1.r.below HB.out.size (fun k hk e=>by have:=HBl.out;have:=HBn.out;omega)))
  clear g1 HAp HN HX HB HLt
  go_wp2_with fail
  refine (HRf.out w5 HX5.out).mono ?_
  rintro e w6 ⟨A6,c6,rfl,hs6,hb⟩
  have hf6:=Fr.of_below' hb (fun _=>False)
  have HF6:=Lib.hid (HF5.out.keep hf6)
  have HN6:=Lib.hid (HN5.out.fr hf6 (fun _ _ h=>h))
  have HB6:=Lib.hid (HB5.out.trans (hf6.below HB5.out.size (fun _ _ h=>h)))
  have HS6:=Lib.hid hs6
  rw [←HPl.out] at HS6 ⊢
  clear hs6 hb hf6 HF5 HN5 HX5 HB5 HRf
  have hpl:PN.length≤20:=by rw [HPl.out];exact hsl
  obtain ⟨M,hM⟩:∃M,PN.filter (fun p=>decide (p.t=t))=M:=⟨_,rfl⟩
  have HM:=Lib.hid hM
  clear hM
  go_wp2_with fail
  go_loopg [8,10] PN.length (fun gk v i wr=>∃k:Nat,i=.int .i64 k∧k≤PN.length∧gk=PN.length-k∧wr.ownsRow w6.heap.size TPl 6 v ((PN.take k).filter (fun p=>decide (p.t=t))).length (pcs ((PN.take k).filter (fun p=>decide (p.t=t))))∧Below w6.heap.size w6 wr)
  case atStart=>exact ⟨0,rfl,Nat.zero_le _,rfl,World.ownsRow_nil _ _ _ _,Below.refl _ _⟩
  case round=>
   obtain ⟨k,rfl,hk,hg,hown,hbel⟩:=hrel
   have HG:=Lib.hid hg;have HW:=Lib.hid hown;have HBe:=Lib.hid hbel
   clear hg hown hbel
   have qk:IntKind.i64.wrap ((k:Int)+1)=(k:Int)+1:=by rw [IntKind.wrap_i64];omega
   by_cases hlt:k<PN.length
   ·have q1:decide ((k:Int)<(PN.length:Int))=true:=by simp;omega
    obtain ⟨b1,o1,rfl,-,cc1⟩:=HS6.out.at hlt (by omega)
    have HA:=Lib.hid ((AtP.row cc1 hlt).keep (Fr.of_below' HBe.out (fun _=>False)))
    have HT:=Lib.hid (List.take_succ_eq_append_getElem hlt)
    have hbl:((PN.take k).filter (fun p=>decide (p.t=t))).length≤20:=Nat.le_trans (List.length_filter_le _ _) (Nat.le_trans (List.length_take_le' _ _) hpl)
    clear cc1
    generalize PN[k]=x at *
    have q2:(0:Int)≤(k:Int):=by omega
    have q3:(k:Int)<(PN.length:Int):=by omega
    have yc0:wr.cell? ⟨b1,o1+k*6,none⟩=some (.int .i64 x.t):=HA.out 0 _ rfl
    by_cases e:x.t=t
    ·have q9:(x.t==t)=true:=by simp [e]
     have HT2:Hid ((PN.take (k+1)).filter (fun p=>decide (p.t=t))=(PN.take k).filter (fun p=>decide (p.t=t))++ [x]):=by show _=_;rw [HT.out,List.filter_append];simp [e]
     generalize (PN.take k).filter (fun p=>decide (p.t=t))=Mk at *
     have yc1:wr.cell? ⟨b1,o1+k*6+1,none⟩=some (.int .i64 x.i):=HA.out 1 _ rfl
     have yc2:wr.cell? ⟨b1,o1+k*6+1+1,none⟩=some (.int .i64 x.c):=HA.out 2 _ rfl
     have yc3:wr.cell? ⟨b1,o1+k*6+1+1+1,none⟩=some (.int .i64 x.d):=HA.out 3 _ rfl
     have yc4:wr.cell? ⟨b1,o1+k*6+1+1+1+1,none⟩=some (.int .i64 x.p):=HA.out 4 _ rfl
     have yc5:wr.cell? ⟨b1,o1+k*6+1+1+1+1+1,none⟩=some (.int .i64 x.f):=HA.out 5 _ rfl
     have hown2':=HW.out.alloc (.cells x.arr TPl)
     have hs2:=HBe.out.size
     have HK1:=Lib.hid (ownsRow_blk HW.out)
     clear e
     go_wp2_with (at_builtin;refine wpList_append_sl _ rfl (.tmp 37) (.tmp 42) TPls rfl w6.heap.size TPl i0 zP 6 48 underlying78 hi hz0 hz1_ hz2 rfl (by decide) _ _ _ rfl hown2' _ _ _ _ rfl (Sl.one wr TPl x.cs 6 rfl) (by simp [Value.oneCell']) ?_ ?_ ?_ ?_)
     ·unfold maxLen;omega
     ·omega
     ·first|omega| (simp;omega)
     intro v1 w7 hown1 hgrow1
     have HO5:=Lib.hid hown1;have HGr:=Lib.hid hgrow1
     clear hown1 hgrow1 hown2' yc0 yc1 yc2 yc3 yc4 yc5
     go_wp2_with fail
     go_roundg (PN.length-(k+1))
     case rel=>exact ⟨k+1,by go_num,by omega,rfl,by rw [HT2.out,List.length_append];simpa using HO5.out,(HBe.out.alloc (by omega) _).grown HGr.out (by simp;omega) (fun k e=>(HK1.out k e).1)⟩
     case measure=>have:=HG.out;omega
    ·have q9:(x.t==t)=false:=by simp [e]
     have HT2:Hid ((PN.take (k+1)).filter (fun p=>decide (p.t=t))=(PN.take k).filter (fun p=>decide (p.t=t))):=by show _=_;rw [HT.out,List.filter_append];simp [e]
     clear e
     go_wp2_with fail
     go_roundg (PN.length-(k+1))
     case rel=>exact ⟨k+1,by go_num,by omega,rfl,by rw [HT2.out];exact HW.out,HBe.out⟩
     case measure=>have:=HG.out;omega
   ·have hke:k=PN.length:=by omega
    subst hke
    rw [List.take_length,HM.out] at HW
    have q1:decide ((PN.length:Int)<(PN.length:Int))=false:=by simp
    obtain ⟨A8,c8,hv,hsl8,-⟩:=Sl.of_own HW.out
    subst hv
    have HC:=Lib.hid hsl8
    have hf8:=Fr.of_below' HBe.out (fun _=>False)
    have HF8:=Lib.hid (HF6.out.keep hf8)
    have HN8:=Lib.hid (HN6.out.fr hf8 (fun _ _ h=>h))
    have HB8:=Lib.hid (HB6.out.trans (hf8.below HB6.out.size (fun _ _ h=>h)))
    clear hsl8 hf8 HF6 HN6 HB6 HS6 HW HBe HG
    go_wp2_with fail
    obtain ⟨Nx,hNx⟩:∃b,wr.heap.size=b:=⟨_,rfl⟩
    have HFl:Hid (∀b∈F',b<Nx):=fun b hb=>by rw [←hNx];exact HF8.out.f.lt b hb
    have hBn8:Bn<Nx:=by rw [←hNx];exact lt_of_heap HN8.out
    refine (Wrk.Trace (some ⟨B,0,none⟩) t wr).mono ?_
    rintro e w9 ⟨rfl,hw9⟩
    have f1:=Fr.alloc (fun _=>False) wr (.cells #[.pointer (some ⟨B,0,none⟩)] TFo)
    have f2:=Fr.alloc (fun _=>False) (wr.alloc (.cells #[.pointer (some ⟨B,0,none⟩)] TFo)) (.cells #[.int .i64 t] KdO.TI)
    have hx9:=(Bk.new wr #[.pointer (some ⟨B,0,none⟩)] TFo).fr f2 (fun _ _ h=>h)
    have ht9:=Bk.new (wr.alloc (.cells #[.pointer (some ⟨B,0,none⟩)] TFo)) #[.int .i64 t] KdO.TI
    have hz9:((wr.alloc (.cells #[.pointer (some ⟨B,0,none⟩)] TFo)).alloc (.cells #[.int .i64 t] KdO.TI)).heap.size=Nx+2:=by simp [hNx]
    have hf9:=f1.trans f2 (T:=fun _=>False) (fun _ _ h=>h) (fun _ _ h=>h)
    rw [show (wr.alloc (.cells #[.pointer (some ⟨B,0,none⟩)] TFo)).heap.size=Nx+1 by simp [hNx]] at ht9
    rw [hNx] at hx9 ⊢
    rw [hw9] at hx9 ht9 hz9 hf9
    have HX9:=Lib.hid hx9;have HT9:=Lib.hid ht9;have HZ9:=Lib.hid hz9
    have HF9:=Lib.hid (HF8.out.keep hf9);have HN9:=Lib.hid (HN8.out.fr hf9 (fun _ _ h=>h));have HC:=Lib.hid (HC.out.fr hf9 (fun _ _ h=>h))
    have HB9:=Lib.hid (HB8.out.trans (hf9.below HB8.out.size (fun _ _ h=>h)))
    have kn:∀ (W:World) (f:Fn) (a b:Array Value),(binOp .eql 103 (.func f a b) .nilFunc).run prog W=.ok (.bool false) W:=fun W f a b=>run_eql_func_nil W f a b underlying103
    clear f1 f2 hx9 ht9 hz9 hf9 hw9 HF8 HN8 HB8 hNx
    go_wp2_with fail
    have hbg:=Bk.new w9 #[.slice none 0 0] TPls
    have hfg:=Fr.alloc (fun _=>False) w9 (.cells #[.slice none 0 0] TPls)
    have hz0:(w9.alloc (.cells #[.slice none 0 0] TPls)).heap.size=w9.heap.size+1:=by simp
    generalize w9.alloc (.cells #[.slice none 0 0] TPls)=W0 at *
    have HBg:=Lib.hid hbg;have HFg:=Lib.hid hfg;have HZ0:=Lib.hid hz0
    have hlt0:∀b∈(Nx+1)::F',b<W0.heap.size:=fun b hb=>by
     have:=HZ0.out;have:=HZ9.out
     rcases List.mem_cons.1 hb with rfl|hb
     ·omega
     ·have:=HFl.out b hb;omega
    have hseq:=Wrk.Trace_seq ((Nx+1)::F') B Nx (Nx+1) (N.map br) F' t W0 (HF9.out.f.fr hfg (fun _ _ h=>h)) (HX9.out.fr hfg (fun _ _ h=>h)) (HT9.out.fr hfg (fun _ _ h=>h)) wt (fun b hb=>by simp [hb]) (by simp) hlt0
    rw [flt_br,HPN.out,HM.out] at hseq
    clear hbg hfg hz0 kn HF9 HX9 HT9
    refine (wpIn_wide (n:=3)).1 ?_
    refine range_B (n:=3) (a₁:=?fr) (gf:=95) (lb:= #[.pointer (some ⟨Nx,0,none⟩),.pointer (some ⟨Nx+1,0,none⟩)]) rfl (enters_of func95 (by kernel_rfl) rfl)
     hseq hlt0 (fun _=>rfl)
     (fun (pre:List Pq) (W:World)=>BG w9.heap.size (W0.heap.size+2+7) w9.heap.size Bn w9 W u pre∧(pre= []∨(pre.length:Int)<u)∧W0.heap.size≤W.heap.size)
     (fun k (_:List Pq) (W:World)=>(k=.exit 2∧∃pre,BG w9.heap.size (W0.heap.size+2+7) w9.heap.size Bn w9 W u pre∧pre<+:M∧1≤pre.length∧u≤pre.length∧(pre.length=1∨(pre.length:Int)≤u))∧W0.heap.size≤W.heap.size)
     ?abI ?abX ?st (fun x=>x.arr) TPl ?hIa ?assign ?body ?done ?stop
    case abI=>
     intro pre A C h hf
     have:=HZ0.out;have:=HZ9.out
     exact ⟨⟨h.1.c.abide hf (by omega) (fun h=>by have:=h.1;omega) (Nat.le_refl _) (by have:=h.2.2;omega),h.1.n.fr hf (fun b hb h=>by have e:b=Bn:=List.mem_singleton.1 hb;have hh:W0.heap.size≤b:=h.1;omega)⟩,h.2.1,Nat.le_trans h.2.2 hf.size⟩
    case abX=>
     intro k pre A C h hf
     have hz:=HZ0.out;have:=HZ9.out
     obtain ⟨⟨rfl,pr,h1,h2⟩,h3⟩:=h
     exact ⟨⟨rfl,pr,⟨h1.c.abide hf (by omega) (fun h=>by have:=h.1;omega) (Nat.le_refl _) (by have:W0.heap.size≤A.heap.size:=h3;omega),h1.n.fr hf (fun b hb h=>by have e:b=Bn:=List.mem_singleton.1 hb;have hh:W0.heap.size≤b:=h.1;omega)⟩,h2⟩,Nat.le_trans h3 hf.size⟩
    case st=>exact ⟨⟨Coll2.start HBg.out (HFg.out.below (Nat.le_refl _) (fun _ _ h=>h)),HN9.out.fr HFg.out (fun _ _ h=>h)⟩,.inl rfl,Nat.le_refl _⟩
    case hIa=>
     intro pre W o h hsz
     have hz:=HZ0.out
     have hf:=Fr.alloc (fun _=>False) W o
     exact ⟨⟨h.1.c.keep hf (by omega),h.1.n.fr hf (fun _ _ h=>h)⟩,h.2.1,Nat.le_trans h.2.2 hf.size⟩
    case assign=>
     intro l m x W b K hb hK
     gi_wp2_with fail
     exact hK
    case body=>
     rintro l m pre x b W ⟨hI,hlo,hsz0⟩ hbk hbl hsz hpre rfl ⟨r,hl⟩ hd
     (try dsimp only)
     have hml:pre.length<M.length:=by have:=hpre.length_le;rw [List.length_append,List.length_singleton] at this;omega
     have hMl:M.length≤20:=by rw [←HM.out];exact Nat.le_trans (List.length_filter_le _ _) hpl
     obtain ⟨v,hv,hown,hbel⟩:=hI.c
     have hIn:=hI.n
     have cv:W.cell? ⟨w9.heap.size,0,none⟩=some v:=hv.cell 0
     have fv:=hv.free 0
     have y0:W.cell? ⟨b,0,none⟩=some (.int .i64 x.t):=hbk.cell 0
     have y1:W.cell? ⟨b,1,none⟩=some (.int .i64 x.i):=hbk.cell 1
     have y2:W.cell? ⟨b,2,none⟩=some (.int .i64 x.c):=hbk.cell 2
     have y3:W.cell? ⟨b,3,none⟩=some (.int .i64 x.d):=hbk.cell 3
     have y4:W.cell? ⟨b,4,none⟩=some (.int .i64 x.p):=hbk.cell 4
     have y5:W.cell? ⟨b,5,none⟩=some (.int .i64 x.f):=hbk.cell 5
     have HVv:=Lib.hid hv;have HO:=Lib.hid hown;have HBe:=Lib.hid hbel;have HIn:=Lib.hid hIn;have HLo:=Lib.hid hlo;have HSz:=Lib.hid hsz;have HPre:=Lib.hid hpre
     have hown':=hown.alloc (.cells x.arr TPl)
     have hne1:¬Bn=w9.heap.size:=by have:=HZ9.out;omega
     have hne2:¬w9.heap.size=Bn:=by have:=HZ9.out;omega
     have hszW:W0.heap.size+2+7≤W.heap.size:=hsz
     have q0:IntKind.i64.wrap u=u:=by rw [IntKind.wrap_i64];omega
     clear hI hv hown hbel hIn hlo hsz hpre hl hd hsz0 hbk
     gi_wp2_with (gi_at_builtin;refine wpListIn_append_own _ rfl (.tmp 50) (.tmp 52) TPls rfl (W0.heap.size+2+7) TPl i0 zP 6 48 underlying78 hi hz0 hz1_ hz2 rfl (by decide) _ _ _ rfl hown' ⟨W.heap.size,0,none⟩ 1 1 x.cs rfl rfl (new_cells W TPl x.cs) (by simp [Value.oneCell']) (by unfold maxLen;omega) (by omega) (by simp;omega) ?_)
     intro v' w2 hown1 hgrow _
     obtain ⟨g',cap',rfl⟩:=ownsRow_succ hown1
     obtain ⟨k1,k2,k3⟩:=Coll2.step HVv.out HO.out HBe.out (by have:=HZ0.out;omega) (Nat.le_refl _) (by have:=HZ0.out;omega) hown1 hgrow
     have cv1:w2.cell? ⟨w9.heap.size,0,none⟩=some v:=k1.cell 0
     have fv1:=k1.free 0
     have hn2:Bk w2 Bn (ubx u) TU8:=HIn.out.fr ((Fr.alloc (fun _=>False) W (.cells x.arr TPl)).trans (Fr.grown hgrow (S:=fun b=>W0.heap.size+2+7≤b) (fun k h=>(ownsRow_blk HO.out k h).1)) (fun _ _ h=>h.elim) (fun _ _ h=>h)) (fun b hb h=>by simp at hb;subst hb;have:=HZ9.out;have:=HZ0.out;omega)
     have cn2:w2.cell? ⟨Bn,0,none⟩=some (.int .u8 u):=hn2.cell 0
     have K2:=Lib.hid k2;have K3:=Lib.hid k3;have HN2:=Lib.hid hn2
     clear k1 k2 k3 hown1 hgrow hown' cv fv hn2 y0 y1 y2 y3 y4 y5
     have hend:Hid (KeptR W0.heap.size (W0.heap.size+2+7) W (w2.setCell ⟨w9.heap.size,0,none⟩ (.slice (some ⟨g',0,none⟩) (pre.length+1) cap'))∧KeptL ((Nx+1)::F') W (w2.setCell ⟨w9.heap.size,0,none⟩ (.slice (some ⟨g',0,none⟩) (pre.length+1) cap'))):=by
      have hz:=HZ0.out;have hz6:=HZ9.out
      refine ⟨KeptR.of_fr K3.out HSz.out (fun b hb e=>by have:=hb.1;have:=hb.2;omega),KeptL.of_fr K3.out (fun b hb=>?_)⟩
      rcases List.mem_cons.1 hb with rfl|hb
      ·exact ⟨by omega,by omega⟩
      ·have:=HFl.out b hb;exact ⟨by omega,by omega⟩
     have HNx:Hid (BG w9.heap.size (W0.heap.size+2+7) w9.heap.size Bn w9 (w2.setCell ⟨w9.heap.size,0,none⟩ (.slice (some ⟨g',0,none⟩) (pre.length+1) cap')) u (pre++ [x])):=⟨by rw [List.length_append,List.length_singleton,show pcs (pre++ [x])=pcs pre++x.cs by unfold pcs;rw [List.flatMap_append];simp];exact K2.out,HN2.out.fr (Fr.setCell w2 ⟨w9.heap.size,0,none⟩ _ (S:=(· =w9.heap.size)) rfl) (fun b hb e=>by simp at hb;subst hb;exact hne1 e)⟩
     by_cases hge:u≤(pre.length:Int)+1
     ·have u1:decide (u≤(pre.length:Int)+1)=true:=by simpa using hge
      have u2:decide (u≤((pre.length+1:Nat):Int))=true:=by simp;omega
      have HGe:=Lib.hid hge
      clear hge
      gi_wp2_with fail
      refine ⟨hend.out.1,K3.out.size,⟨rfl,_,HNx.out,HPre.out,by simp,by have:=HGe.out;simp;omega,?_⟩,by have:=K3.out.size;omega⟩
      rcases HLo.out with rfl|h
      ·exact .inl rfl
      ·right;simp;omega
     ·have u1:decide (u≤(pre.length:Int)+1)=false:=by simpa using hge
      have u2:decide (u≤((pre.length+1:Nat):Int))=false:=by simp;omega
      have HGe:=Lib.hid hge
      clear hge
      gi_wp2_with fail
      exact ⟨hend.out.1,K3.out.size,hend.out.2,HNx.out,.inr (by have:=HGe.out;simp;omega),by have:=K3.out.size;omega⟩
    case done=>
     rintro W hsz ⟨hI,hlo,hsz0⟩ hK
     have hp:M<+:M:=List.prefix_refl _
     have hcond:M.length=M.length∧(M= []∨(M.length:Int)<u)∨(1≤M.length∧u≤M.length∧(M.length=1∨(M.length:Int)≤u)):=.inl ⟨rfl,hlo⟩
     have hp1:=hp.length_le
     obtain ⟨hG1,hG2⟩:=got_of hp hcond
     obtain ⟨v,hv,hown,hbel⟩:=hI.c
     obtain ⟨Ag,cg,rfl,hSg,-⟩:=Sl.of_own hown
     have HSt2:Hid (GQ W W Bn w9.heap.size u A8 c8 M Ag cg M):=⟨Below.refl _ _,hI.n,HC.out.fr (Fr.of_below' hbel (fun _=>False)) (fun _ _ h=>h),hv,hSg⟩
     have hcw:M.length≤c8∧c8≤9223372036854775807:=by have:=HC.out.2.1;have:=HC.out.2.2.1;unfold maxLen at this;omega
     have HK:=Lib.hid hK;have HBe:=Lib.hid hbel;have HG1:=Lib.hid hG1;have HG2:=Lib.hid hG2;have HSz:=Lib.hid hsz
     clear hG1 hG2 hI hv hown hbel hSg hK hcond hp hsz
     go_upto_region 20 with (fail)
     refine dg20 (by kernel_rfl) _ _ W W Bn w9.heap.size u hu A8 c8 M Ag cg M M.length HSt2.out hp1 hcw.1 hcw.2 _ rfl HG2.out (Lib.hid HG1.out.symm) rfl rfl rfl rfl ?_
     intro z wz x6_ hst
     simp only [Eng.setAll,Act.put,List.setIfInBounds_toArray,List.set_cons_succ,List.set_cons_zero]
     rw [x6_]
     have HFz:=Lib.hid hst.f
     clear hst x6_ HSt2
     go_wp2_with fail
     try rw [Exit.noGoto_ret]
     have hKz:=(HFz.out.block W0.heap.size (by have:=HSz.out;omega)).trans HK.out
     refine ⟨by simp,.inl ⟨_,_,rfl,run_takeDeferred hKz,?_⟩⟩
     have hf:=Fr.putObj wz W0.heap.size (.deferred none) (S:=(· =W0.heap.size)) rfl
     have hz:=HZ0.out
     have hzz:=HFz.out.size
     have hzW:=HSz.out
     have hzB:=HB9.out.size
     exact ⟨_,by simp [results,Tryz.results9,go_sem],rfl,HB9.out.trans ((HBe.out.mono hzB).trans ((HFz.out.mono (by omega)).trans (hf.below (by omega) (fun k hk e=>by omega))))⟩
    case stop=>
     rintro k _ W hsz _ ⟨⟨rfl,pre,hI,hp,h1,h2,h3⟩,hsz0⟩ hK
     have hcond:pre.length=M.length∧(pre= []∨(pre.length:Int)<u)∨(1≤pre.length∧u≤pre.length∧(pre.length=1∨(pre.length:Int)≤u)):=.inr ⟨h1,h2,h3⟩
     refine (wpIn_wide (n:=3)).2 ?_
     have hp1:=hp.length_le
     obtain ⟨hG1,hG2⟩:=got_of hp hcond
     obtain ⟨v,hv,hown,hbel⟩:=hI.c
     obtain ⟨Ag,cg,rfl,hSg,-⟩:=Sl.of_own hown
     have HSt2:Hid (GQ W W Bn w9.heap.size u A8 c8 M Ag cg pre):=⟨Below.refl _ _,hI.n,HC.out.fr (Fr.of_below' hbel (fun _=>False)) (fun _ _ h=>h),hv,hSg⟩
     have hcw:M.length≤c8∧c8≤9223372036854775807:=by have:=HC.out.2.1;have:=HC.out.2.2.1;unfold maxLen at this;omega
     have HK:=Lib.hid hK;have HBe:=Lib.hid hbel;have HG1:=Lib.hid hG1;have HG2:=Lib.hid hG2;have HSz:=Lib.hid hsz
     clear hG1 hG2 hI hv hown hbel hSg hK hcond hp hsz
     go_upto_region 20 with (fail)
     refine dg20 (by kernel_rfl) _ _ W W Bn w9.heap.size u hu A8 c8 M Ag cg pre pre.length HSt2.out hp1 hcw.1 hcw.2 _ rfl HG2.out (Lib.hid HG1.out.symm) rfl rfl rfl rfl ?_
     intro z wz x6_ hst
     simp only [Eng.setAll,Act.put,List.setIfInBounds_toArray,List.set_cons_succ,List.set_cons_zero]
     rw [x6_]
     have HFz:=Lib.hid hst.f
     clear hst x6_ HSt2
     go_wp2_with fail
     try rw [Exit.noGoto_ret]
     have hKz:=(HFz.out.block W0.heap.size (by have:=HSz.out;omega)).trans HK.out
     refine ⟨by simp,.inl ⟨_,_,rfl,run_takeDeferred hKz,?_⟩⟩
     have hf:=Fr.putObj wz W0.heap.size (.deferred none) (S:=(· =W0.heap.size)) rfl
     have hz:=HZ0.out
     have hzz:=HFz.out.size
     have hzW:=HSz.out
     have hzB:=HB9.out.size
     exact ⟨_,by simp [results,Tryz.results9,go_sem],rfl,HB9.out.trans ((HBe.out.mono hzB).trans ((HFz.out.mono (by omega)).trans (hf.below (by omega) (fun k hk e=>by omega))))⟩
end Law22
end Go.Proofs.YtgfjpnpbkkadpaaGreat
