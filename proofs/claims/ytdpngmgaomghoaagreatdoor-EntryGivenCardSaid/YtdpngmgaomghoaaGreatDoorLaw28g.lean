/- Layer 28's statements: EntryGiven: for every input the answer is true. -/
import Derived.Test.YtdpngmgaomghoaaGreatDoorLaw28p
import Derived.Test.YtdpngmgaomghoaaGreatDoorEntD
import Derived.Test.YtdpngmgaomghoaaGreatDoorL18q
namespace Go.Proofs.YtdpngmgaomghoaaGreatDoor
open Tryz
set_option maxRecDepth 100000
set_option maxHeartbeats 8000000
open Go.RowKit Go.Shelf
namespace Law28
open BagP KeyP EntP OpsP PackP SetP SetW SetF Sli Name Pack Delta ClsW
open Ent (EV TV bg mays apE TI TIs ints infoI TE TEs En EL AllPost TVp isn)
open Rf28 (DR TRv TrI)
attribute [local go_sem] Eng.ev Eng.getO_cons Eng.getO_nil
attribute [local go_sem] Oper.semAt_some
abbrev TU8:TypeId:=5
abbrev TW2:TypeId:=54
abbrev TSt:TypeId:=9
abbrev ubx (u:Int):Array Value:= #[.int .u8 u]
theorem u8_of {n:Int} (h:(Lit.int .u8 n).wf=true):0≤n∧n<256:=by
 simp [Lit.wf,IntKind.min,IntKind.max,IntKind.signed,IntKind.bits] at h
 omega
theorem tr_eq {K:List Tk} {q:List Tk} {L:List Sn} {n:Nm} {out:List Int} (hs:K.Pairwise (fun a b=>ltT a b=true)) (hk:∀k,k∈K↔k∈q) (hD:q.Perm (L.map Ent.kk)) (h:TrI n L out):(K.filter (isn n)).map (·.2)=out:=by
 refine int_ext ?_ h.1 (fun t=>?_)
 ·rw [List.pairwise_map]
  refine (hs.filter _).imp_of_mem ?_
  intro a b ha hb hab
  have ha':=(List.mem_filter.1 ha).2;have hb':=(List.mem_filter.1 hb).2
  simp only [isn,decide_eq_true_eq] at ha' hb'
  unfold ltT at hab
  rw [ha',hb',ltN_irr] at hab
  simpa using hab
 ·rw [h.2 t,←hD.mem_iff,←hk,List.mem_map]
  constructor
  ·rintro ⟨k,hm,rfl⟩
   obtain ⟨h1,h2⟩:=List.mem_filter.1 hm
   simp only [isn,decide_eq_true_eq] at h2
   rw [←h2];exact h1
  ·intro hm
   exact ⟨_,List.mem_filter.2 ⟨hm,by simp [isn]⟩,rfl⟩
section
variable {w0 w w':World} {B:Nat} {q q2:List Tk} {F:List Nat} {h:Nat} {L:List Sn} {R:List Nat}
theorem PV.applyN (H:PV w0 w B q F h L R) (d:Dl) (hd0:RdD w d) (n1:∀a,d.A1=some a→d.O≠ []→a.block∉F) (n2:∀a,d.A2=some a→d.I≠ []→a.block∉F) (b:Bool) (hr:if b then (∃r,apE d.O d.I q=some r∧q2.Perm r) else (apE d.O d.I q=none∧q2=q)) (lq:q.length≤100000) (lO:d.O.length≤100000) (lI:d.I.length≤100000):
  Calls prog 9 #[.pointer (some ⟨B,0,none⟩),d.v] w fun e w'=>e=.returned (.bool b)∧∃F',PV w0 w' B q2 F' h L R∧Tn F F' w w':=by
 refine (H.v.apply d hd0 n1 n2 lq lO lI b hr).mono ?_
 rintro e w' ⟨rfl,F',hv,ht⟩
 refine ⟨rfl,F',⟨hv,H.d.fr ht.fr H.s,H.g,fun x hx hm=>?_⟩,ht⟩
 rcases (ht.sub x hm).1 with h|h
 ·exact H.s x hx h
 ·have:=H.d.r.2 x hx;omega
theorem PV.applyXN (H:PV w0 w B q2 F h L R) (d:Dl) (hd0:RdD w d) (hD:q.Perm (L.map Ent.kk)) (b:Bool) (hr:if b then (∃r,apE d.O d.I q=some r∧q2.Perm r) else (apE d.O d.I q=none∧q2=q)) (lD:L.length≤100000) (lO:d.O.length≤100000) (lI:d.I.length≤100000):
  Calls prog 10 #[.pointer (some ⟨h,0,none⟩),d.v] w fun e w'=>e=.returned (.bool b)∧∃L' R',PV w0 w' B q2 F h L' R'∧q2.Perm (L'.map Ent.kk)∧Fr (· =h) w w':=by
 refine (Rf28.Apply h L R d w H.d hd0 lD lO lI).mono ?_
 rintro e w' ⟨b',L',R',rfl,hd,hf,hsub,-,ho⟩
 have hp:PV w0 w' B q2 F h L' R':=by
  refine ⟨H.v.fr hf (fun i hi e=>by have:=H.g _ H.d.r.1;omega) (fun x hx e=>H.s h H.d.r.1 (e▸hx)),hd,fun x hx=>?_,fun x hx hm=>?_⟩
  ·rcases hsub x hx with h1|h1
   ·exact H.g x h1
   ·exact Nat.le_trans H.v.b.size h1
  ·rcases hsub x hx with h1|h1
   ·exact H.s x h1 hm
   ·have:=H.v.lt x hm;omega
 have hsame:=apE_same (O:=d.O) (I:=d.I) hD
 cases b with
 |true=>
  rw [if_pos rfl] at hr
  obtain ⟨r,hr,hpr⟩:=hr
  rcases hsame with ⟨h1,-⟩| ⟨r1,r2,h1,h2,h3⟩
  ·rw [hr] at h1;cases h1
  ·rw [hr] at h1
   obtain rfl:r=r1:=Option.some.inj h1
   rcases ho with ⟨rfl,r',h4,h5⟩| ⟨-,h4,-⟩
   ·rw [h2] at h4
    obtain rfl:r2=r':=Option.some.inj h4
    exact ⟨rfl,L',R',hp,hpr.trans (h3.trans h5.symm),hf⟩
   ·rw [h2] at h4;cases h4
 |false=>
  rw [if_neg Bool.false_ne_true] at hr
  obtain ⟨hr,rfl⟩:=hr
  rcases hsame with ⟨-,h1⟩| ⟨r1,r2,h1,-⟩
  ·rcases ho with ⟨-,r',h4,-⟩| ⟨rfl,-,rfl⟩
   ·rw [h1] at h4;cases h4
   ·exact ⟨rfl,L',R',hp,hD,hf⟩
  ·rw [hr] at h1;cases h1
end
theorem rd_keep {S:Nat→Prop} {w w':World} {d:Dl} (h:RdD w d) (hf:Fr S w w') (h1:∀a,d.A1=some a→¬S a.block) (h2:∀a,d.A2=some a→¬S a.block):RdD w' d:=⟨Ent.keepV h.o hf (fun a ha _=>h1 a ha),Ent.keepV h.i hf (fun a ha _=>h2 a ha)⟩
structure GQ (w0 w:World) (Bn Bg:Nat) (u:Int) (Aw:Option Addr) (cw:Nat) (M:List Int) (Ag:Option Addr) (cg:Nat) (G:List Int):Prop where
 f:Below w0.heap.size w0 w
 n:Bk w Bn (ubx u) TU8
 m:Sl w 1 Aw M.length cw (ints M)
 b:Bk w Bg #[.slice Ag G.length cg] TIs
 g:Sl w 1 Ag G.length cg (ints G)
theorem GQ.below {w0 w w':World} {Bn Bg:Nat} {u:Int} {Aw Ag:Option Addr} {cw cg:Nat} {M G:List Int} (h:GQ w0 w Bn Bg u Aw cw M Ag cg G) (hb:Below w.heap.size w w'):GQ w0 w' Bn Bg u Aw cw M Ag cg G:=
 have hf:=Fr.of_below' hb (fun _=>False)
 ⟨h.f.trans (hb.mono h.f.size),h.n.fr hf (fun _ _ h=>h),h.m.fr hf (fun _ _ h=>h),h.b.fr hf (fun _ _ h=>h),h.g.fr hf (fun _ _ h=>h)⟩
theorem drew_below (w:World):Below w.heap.size w w.drew:=(Fr.drew (fun _=>False) w).below (Nat.le_refl _) (fun _ _ h=>h)
theorem SameG {A B:Option Addr} {c c2 n:Nat} {M G:List Int} {w:World} (h1:Sl w 1 A G.length c (ints G)) (h2:Sl w 1 B M.length c2 (ints M)) (hk:n≤M.length) (hg:M.take n=G):Calls prog 21 #[.slice A G.length c,.slice B n c2] w fun e w'=>e=.returned (.bool true)∧Below w.heap.size w w':=by
 have h3:=h2.take (k:=n) hk
 rw [Nat.mul_one,ints,←List.map_take,hg] at h3
 have hl:n=G.length:=by rw [←hg,List.length_take];omega
 refine (SameInts' A B c c2 G G w G.length n rfl hl h1 (by rw [←hl];exact h3)).mono ?_
 rintro e w' ⟨rfl,hf⟩
 exact ⟨by simp,hf.below (Nat.le_refl _) (fun _ _ h=>h)⟩
theorem got_of {LL pre:List Int} {n2:Int} (hp:pre<+:LL) (h:pre.length=LL.length∧(pre= []∨(pre.length:Int)<n2)∨(1≤pre.length∧n2≤pre.length∧(pre.length=1∨(pre.length:Int)≤n2))):pre=LL.take pre.length∧(if (if 1<n2 then n2 else 1)<(LL.length:Int) then (if 1<n2 then n2 else 1) else (LL.length:Int))=(pre.length:Int):=by
 obtain ⟨t,rfl⟩:=hp
 refine ⟨by simp,?_⟩
 rw [List.length_append] at h ⊢
 rcases h with ⟨h1,h2⟩| ⟨h1,h2,h3⟩
 ·rcases h2 with rfl|h2
  ·have ht:t.length=0:=by have h1':(0:Nat)=0+t.length:=h1;omega
   rw [ht];simp only [List.length_nil];split<;>split<;>omega
  ·split<;>split<;>omega
 ·split<;>split<;>omega
structure BG (n0 bs Bg Bn:Nat) (w0 W:World) (u:Int) (pre:List Int):Prop where
 c:Coll2 n0 bs Bg TIs TI 1 w0 W pre.length (ints pre)
 n:Bk W Bn (ubx u) TU8
theorem eg17 {ops:Array Oper} (hops:Eng.fnOps Tryz.f6 17=ops) (a0:Act) (Q:Exit→Act→World→Prop) (w0 w:World) (Bn Bg:Nat) (u:Int) (hu:0≤u∧u<256) (Aw:Option Addr) (cw:Nat) (M:List Int) (Ag:Option Addr) (cg:Nat) (G:List Int) (hi:Nat) (hst:GQ w0 w Bn Bg u Aw cw M Ag cg G) (hle:hi≤M.length) (hcw:M.length≤cw) (_hcm:cw≤9223372036854775807) (mx:Int) (hmx:(if 1<u then u else 1)=mx) (hmin:(if mx<(M.length:Int) then mx else (M.length:Int))=(hi:Int)) (hG:Hid (M.take hi=G))
  (hn:a0.tmps.size=81) (h_5:a0.tmps.getD 5 undef=.pointer (some ⟨Bn,0,none⟩)) (h_10:a0.tmps.getD 10 undef=.slice Aw M.length cw) (h_12:a0.tmps.getD 12 undef=.pointer (some ⟨Bg,0,none⟩))
  (hpost:∀ (x_:Nat→Value) (w':World),x_ 6=.bool true→GQ w0 w' Bn Bg u Aw cw M Ag cg G→Q .normal (Eng.setAll a0 [6,68,69,70,71,72,73,74,75,76,77,78,79,80] x_) w'):
  (Code.region 17 ops true).wp prog Q a0 w:=by
 simp only [Eng.fnOps,Eng.regOps,Tryz.f6,Option.bind_some,Option.getD_some,Nat.reduceEqDiff,↓reduceIte] at hops
 subst hops
 have q0:IntKind.i64.wrap u=u:=by rw [IntKind.wrap_i64];omega
 have q1:(0:Int)≤(hi:Int):=by omega
 have q2:(hi:Int)≤(cw:Int):=by omega
 have q3:hi≤cw:=by omega
 have hm1:min (M.length:Int) (max 1 u)=(hi:Int):=by
  rw [←hmin,←hmx]
  simp only [Int.min_def,Int.max_def]
  repeat' split
  all_goals omega
 have HSt:=Lib.hid (hst.below (drew_below _))
 refine Eng.regionT (.take 0 (.take 1 (.take 2 (.take 3 (.take 4 (.take 5 (.take 6 (.take 7 (.take 8 (.alt 9 (.take 10 (.alt 11 (.take 12 (.take 13 (.done))) (.stop))) (.stop))))))))))) (fun w'=>w'.cell? ⟨Bg,0,none⟩=some (.slice Ag G.length cg)∧w'.cell? ⟨Bn,0,none⟩=some (.int .u8 u)) (by kernel_rfl) 81 hn (by kernel_rfl) (by kernel_rfl) (by kernel_rfl) (⟨HSt.out.b.cell 0,HSt.out.n.cell 0⟩) (fun a b ha hb=>?_)
 subst ha
 have hb5:b 5=.pointer (some ⟨Bn,0,none⟩):=(hb 5).symm.trans h_5
 have hb10:b 10=.slice Aw M.length cw:=(hb 10).symm.trans h_10
 have hb12:b 12=.pointer (some ⟨Bg,0,none⟩):=(hb 12).symm.trans h_12
 clear hb h_5 h_10 h_12
 have HP:=Lib.hid hpost;have HN:=Lib.hid hn
 clear hpost hn
 iterate 9 (refine Eng.TW.tk ?_)
 refine Eng.TW.call rfl rfl (by decide) (by kernel_rfl) ?_ (SameG HSt.out.g HSt.out.m hle hG.out) ?_
 ·go_simp
 rintro e w2 ⟨rfl,hb⟩
 have HSt2:=Lib.hid (HSt.out.below hb)
 clear hb
 refine ⟨_,rfl,⟨HSt2.out.b.cell 0,HSt2.out.n.cell 0⟩,?_⟩
 refine Eng.TW.tk ?_
 refine Eng.TW.call rfl rfl (by decide) (by kernel_rfl) ?_ (awake w2) ?_
 ·go_simp
 rintro e w3 ⟨rfl,hb⟩
 have HSt3:=Lib.hid (HSt2.out.below hb)
 clear hb
 refine ⟨_,rfl,⟨HSt3.out.b.cell 0,HSt3.out.n.cell 0⟩,?_⟩
 refine Eng.TW.tk ?_
 refine Eng.TW.tk ?_
 refine Eng.TW.end_ [6,68,69,70,71,72,73,74,75,76,77,78,79,80] HN.out (by kernel_rfl) (by kernel_rfl) ?_
 exact HP.out _ _ rfl HSt3.out
theorem given (A:Option Addr) (c:Nat) (L:List Sn) (s o:ByteArray) (u:Int) (w:World) (hL:Ls w A c L) (hu:0≤u∧u<256):
  Calls prog 6 #[.slice A L.length c,.agg #[.string s,.string o],.int .u8 u] w fun e w'=>e=.returned (.bool true)∧Below w.heap.size w w':=by
 obtain ⟨i0,hi,hz0,hz1_,hz2⟩:=info_parts infoI
 have fa:=Fr.alloc (fun _=>False) w (.cells #[.string s,.string o] TW2)
 have fb:=Fr.alloc (fun _=>False) (w.alloc (.cells #[.string s,.string o] TW2)) (.cells (ubx u) TU8)
 have hw0:=(Bk.new w #[.string s,.string o] TW2).fr fb (fun _ _ h=>h)
 have hn0:=Bk.new (w.alloc (.cells #[.string s,.string o] TW2)) (ubx u) TU8
 rw [World.size_alloc] at hn0
 have fc:=fa.trans fb (T:=fun _=>False) (fun _ _ h=>h) (fun _ _ h=>h)
 have HW:=Lib.hid hw0;have HN:=Lib.hid hn0;have HX:=Lib.hid (hL.keep fc)
 have HB:=Lib.hid (fc.below (Nat.le_refl _) (fun _ _ h=>h))
 clear fa fb fc hw0 hn0 hL
 cases hq:fewB L 20 with
 |false=>
  go_enter func6,ntmps6
  go_wp2_with fail
  generalize (w.alloc (.cells #[.string s,.string o] TW2)).alloc (.cells (ubx u) TU8)=wi at *
  refine (SetF.Few _ _ 20 L wi HX.out.s).mono ?_
  rintro e w1 ⟨rfl,hf⟩
  have cs0:w1.cell? ⟨w.heap.size,0,none⟩=some (.string s):=(HW.out.fr hf (fun _ _ h=>h)).cell 0
  have cs1:w1.cell? ⟨w.heap.size,1,none⟩=some (.string o):=(HW.out.fr hf (fun _ _ h=>h)).cell 1
  replace HB:=Lib.hid (HB.out.trans (hf.below HB.out.size (fun _ _ h=>h)))
  clear hf HW HN HX
  rw [hq]
  skip
  go_wp2_with fail
  refine (awake w1).mono ?_
  rintro e w2 ⟨rfl,hb⟩
  replace HB:=Lib.hid (HB.out.trans (hb.mono HB.out.size))
  clear hb
  go_wp2_with fail
  go_ret
  exact ⟨rfl,HB.out⟩
 |true=>
  by_cases hs:100<s.size
  ·go_enter func6,ntmps6
   go_wp2_with fail
   generalize (w.alloc (.cells #[.string s,.string o] TW2)).alloc (.cells (ubx u) TU8)=wi at *
   refine (SetF.Few _ _ 20 L wi HX.out.s).mono ?_
   rintro e w1 ⟨rfl,hf⟩
   have cs0:w1.cell? ⟨w.heap.size,0,none⟩=some (.string s):=(HW.out.fr hf (fun _ _ h=>h)).cell 0
   have cs1:w1.cell? ⟨w.heap.size,1,none⟩=some (.string o):=(HW.out.fr hf (fun _ _ h=>h)).cell 1
   replace HB:=Lib.hid (HB.out.trans (hf.below HB.out.size (fun _ _ h=>h)))
   clear hf HW HN HX
   rw [hq]
   have ga:decide ((s.size:Int)>100)=true:=by simp;omega
   have gb:decide ((100:Int)<(s.size:Int))=true:=by simp;omega
   have gc:decide (100<s.size)=true:=by simp;omega
   go_wp2_with fail
   refine (awake w1).mono ?_
   rintro e w2 ⟨rfl,hb⟩
   replace HB:=Lib.hid (HB.out.trans (hb.mono HB.out.size))
   clear hb
   go_wp2_with fail
   go_ret
   exact ⟨rfl,HB.out⟩
  ·by_cases ho:100<o.size
   ·go_enter func6,ntmps6
    go_wp2_with fail
    generalize (w.alloc (.cells #[.string s,.string o] TW2)).alloc (.cells (ubx u) TU8)=wi at *
    refine (SetF.Few _ _ 20 L wi HX.out.s).mono ?_
    rintro e w1 ⟨rfl,hf⟩
    have cs0:w1.cell? ⟨w.heap.size,0,none⟩=some (.string s):=(HW.out.fr hf (fun _ _ h=>h)).cell 0
    have cs1:w1.cell? ⟨w.heap.size,1,none⟩=some (.string o):=(HW.out.fr hf (fun _ _ h=>h)).cell 1
    replace HB:=Lib.hid (HB.out.trans (hf.below HB.out.size (fun _ _ h=>h)))
    clear hf HW HN HX
    rw [hq]
    have ga:decide ((s.size:Int)>100)=false:=by simp;omega
    have gb:decide ((100:Int)<(s.size:Int))=false:=by simp;omega
    have gc:decide (100<s.size)=false:=by simp;omega
    have pa:decide ((o.size:Int)>100)=true:=by simp;omega
    have pb:decide ((100:Int)<(o.size:Int))=true:=by simp;omega
    have pc:decide (100<o.size)=true:=by simp;omega
    go_wp2_with fail
    refine (awake w1).mono ?_
    rintro e w2 ⟨rfl,hb⟩
    replace HB:=Lib.hid (HB.out.trans (hb.mono HB.out.size))
    clear hb
    go_wp2_with fail
    go_ret
    exact ⟨rfl,HB.out⟩
   ·have hql:=few_len' hq
    obtain ⟨Bw,hBw⟩:∃b,w.heap.size=b:=⟨_,rfl⟩
    refine (callsIn_wide (n:=3)).1 ?_
    refine callsIn_of_wp_marks func6 rfl trivial ?_ rfl
    simp only [ntmps6,List.size_toArray,List.length_cons,List.length_nil,Nat.reduceAdd,Nat.reduceSub,Array.replicate_succ,Array.replicate_zero,List.push_toArray,List.append_toArray,List.nil_append,List.cons_append]
    refine wpIn_wide.2 ?_
    go_wp2_with fail
    generalize (w.alloc (.cells #[.string s,.string o] TW2)).alloc (.cells (ubx u) TU8)=wi at *
    rw [hBw] at HW HN
    (try rw [hBw])
    refine (SetF.Few _ _ 20 L wi HX.out.s).mono ?_
    rintro e wf1 ⟨rfl,hf⟩
    replace HW:=Lib.hid (HW.out.fr hf (fun _ _ h=>h))
    replace HN:=Lib.hid (HN.out.fr hf (fun _ _ h=>h))
    replace HX:=Lib.hid (HX.out.keep hf)
    replace HB:=Lib.hid (HB.out.trans (hf.below HB.out.size (fun _ _ h=>h)))
    clear hf
    rw [hq]
    clear hq
    have cs0:wf1.cell? ⟨Bw,0,none⟩=some (.string s):=HW.out.cell 0
    have cs1:wf1.cell? ⟨Bw,1,none⟩=some (.string o):=HW.out.cell 1
    have ga:decide ((s.size:Int)>100)=false:=by simp;omega
    have gb:decide ((100:Int)<(s.size:Int))=false:=by simp;omega
    have gc:decide (100<s.size)=false:=by simp;omega
    have pa:decide ((o.size:Int)>100)=false:=by simp;omega
    have pb:decide ((100:Int)<(o.size:Int))=false:=by simp;omega
    have pc:decide (100<o.size)=false:=by simp;omega
    have hsz:s.size+o.size≤1000000:=by omega
    clear hs ho
    go_upto_region 5 with (fail)
    clear cs0 cs1 ga gb gc pa pb pc
    have hp:=PV.start wf1
    have hf12:=(Fr.alloc (fun _=>False) wf1 (.cells #[.pointer none,.int .i64 0] TV)).trans (Fr.alloc (fun _=>False) (wf1.alloc (.cells #[.pointer none,.int .i64 0] TV)) (.cells #[.slice none 0 0] TRv)) (T:=fun _=>False) (fun _ _ h=>h) (fun _ _ h=>h)
    have HP:=Lib.hid hp;have HX2:=Lib.hid (HX.out.keep hf12)
    generalize ((wf1.alloc (.cells #[.pointer none,.int .i64 0] TV)).alloc (.cells #[.slice none 0 0] TRv))=w2 at *
    obtain ⟨B,hB⟩:∃B,wf1.heap.size=B:=⟨_,rfl⟩
    rw [hB] at HP ⊢
    have hBlt:B=wf1.heap.size:=hB.symm
    obtain ⟨h,hh⟩:∃h,B+1=h:=⟨_,rfl⟩
    rw [hh] at HP ⊢
    have HBq:=Lib.hid hB;have HHq:=Lib.hid hh
    clear hp hf12 hh hB hBlt HX
    have HSp:=Lib.hid (RefSpans A c L w2 HX2.out (by omega))
    have HOk:=Lib.hid (Ent.spn_okL L)
    have hsl:(spn L).length≤20:=Nat.le_trans (Nat.le_trans (alive_len _) (setOf_len L)) hql
    generalize spn L=N at *
    go_wp2_with fail
    refine (HSp.out).mono ?_
    rintro e w3 ⟨An,cn,rfl,hls,-,hb⟩
    have HLn:=Lib.hid hls
    have HP3:=Lib.hid (HP.out.below hb)
    clear hls HSp hb HP HX2
    go_wp2_with fail
    refine (BetweenN none An 0 cn [] N w3 (Ls.nil _) HLn.out (by simp) (by omega)).mono ?_
    rw [HOk.out.set,show setOf ([]:List Sn)= [] from rfl]
    rintro e w4 ⟨D1,d1,D2,d2,rfl,hd,hb,hn1,hn2⟩
    have HP4:=Lib.hid (HP3.out.below hb)
    have HD4:=Lib.hid hd
    have hlt3:h<w3.heap.size:=HP3.out.d.r.2 h HP3.out.d.r.1
    have hBlt3:B<w3.heap.size:=HP3.out.v.lt B (by simp)
    have HN1:Hid (∀a,D1=some a→a.block≠B∧a.block≠h):=fun a ha=>by have:=hn1 a ha;omega
    have HN2:Hid (∀a,D2=some a→a.block≠B∧a.block≠h):=fun a ha=>by have:=hn2 a ha;omega
    have HDb:Hid (w4.heap.size≠B∧w4.heap.size≠h):=by have:=hb.size;exact ⟨by omega,by omega⟩
    clear hd hb hn1 hn2 HP3 HLn hlt3 hBlt3
    have hw1:(wout N []).length≤20:=by have:(wout N []).length≤([]:List Sn).length:=List.length_filter_le _ _;simp at this;rw [this];simp
    have hw2:(wout [] N).length≤20:=Nat.le_trans (List.length_filter_le _ _) hsl
    have hbet:=apply_bet (P:= []) (N:=N) ⟨List.Pairwise.nil,by simp,by simp⟩ HOk.out
    rw [show bg ([]:List Sn)= [] from rfl] at hbet
    have HBet:=Lib.hid hbet
    have hbl:(bg N).length≤20:=Nat.le_trans (bg_len N) hsl
    clear hbet
    generalize wout N []=DO at *
    generalize wout [] N=DI at *
    generalize bg N=qn at *
    go_upto_region 6 with (fail)
    have hf5:=Fr.alloc (fun _=>False) w4 (.cells #[.slice D1 DO.length d1,.slice D2 DI.length d2] TDl)
    have HBk:=Lib.hid (Bk.new w4 #[.slice D1 DO.length d1,.slice D2 DI.length d2] TDl)
    have HP5:=Lib.hid (HP4.out.keep hf5)
    have HD5:Hid (RdD (w4.alloc (.cells #[.slice D1 DO.length d1,.slice D2 DI.length d2] TDl)) ⟨D1,d1,DO,D2,d2,DI⟩):=HD4.out.keep hf5
    generalize (w4.alloc (.cells #[.slice D1 DO.length d1,.slice D2 DI.length d2] TDl))=w5 at *
    generalize w4.heap.size=Bd at *
    clear hf5 HP4 HD4
    have x0:w5.cell? ⟨Bd,0,none⟩=some (.slice D1 DO.length d1):=HBk.out.cell 0
    have x1:w5.cell? ⟨Bd,1,none⟩=some (.slice D2 DI.length d2):=HBk.out.cell 1
    go_wp2_with fail
    refine (HP5.out.applyN (q2:=qn) ⟨D1,d1,DO,D2,d2,DI⟩ HD5.out (fun a ha _ hm=>(HN1.out a ha).1 (by simpa using hm)) (fun a ha _ hm=>(HN2.out a ha).1 (by simpa using hm)) true HBet.out (by simp) (by show DO.length≤_;omega) (by show DI.length≤_;omega)).mono ?_
    rintro e w6 ⟨rfl,F6,hp,ht⟩
    have HP6:=Lib.hid hp
    have hk:∀b∈ [B],¬b=Bd:=fun b hb e=>HDb.out.1 (by simp at hb;omega)
    have hbk6:=HBk.out.fr ht.fr (fun b hb hm=>by simp at hb hm;exact HDb.out.1 (hb.symm.trans hm))
    have HD6:=Lib.hid (rd_keep HD5.out ht.fr (fun a ha hm=>(HN1.out a ha).1 (by simpa using hm)) (fun a ha hm=>(HN2.out a ha).1 (by simpa using hm)))
    clear hp ht hk HP5 HD5 HBk x0 x1
    have x0:w6.cell? ⟨Bd,0,none⟩=some (.slice D1 DO.length d1):=hbk6.cell 0
    have x1:w6.cell? ⟨Bd,1,none⟩=some (.slice D2 DI.length d2):=hbk6.cell 1
    clear hbk6
    go_wp2_with fail
    refine (HP6.out.applyXN (q:= []) ⟨D1,d1,DO,D2,d2,DI⟩ HD6.out (List.Perm.refl _) true HBet.out (by simp) (by show DO.length≤_;omega) (by show DI.length≤_;omega)).mono ?_
    rintro e w7 ⟨rfl,L7,R7,hp,hD,-⟩
    have HP7:=Lib.hid hp;have HDq:=Lib.hid hD
    have hl7:L7.length≤20:=by have:=hD.length_eq;rw [List.length_map] at this;omega
    have HB7:=Lib.hid (HB.out.trans (hp.v.b.mono HB.out.size))
    have HW7:=Lib.hid (HW.out.fr (Fr.of_below' hp.v.b (fun _=>False)) (fun _ _ h=>h))
    have HN7:=Lib.hid (HN.out.fr (Fr.of_below' hp.v.b (fun _=>False)) (fun _ _ h=>h))
    clear hp hD HP6 HD6 HB HW HN HN1 HN2 HDb HBet HOk x0 x1
    have cs0:w7.cell? ⟨Bw,0,none⟩=some (.string s):=HW7.out.cell 0
    have cs1:w7.cell? ⟨Bw,1,none⟩=some (.string o):=HW7.out.cell 1
    go_wp2_with fail
    refine (Rf28.Traces h L7 R7 s o w7 HP7.out.d (by omega)).mono ?_
    rintro e w8 ⟨Mt,Aw,cw,rfl,hTr,hMl,hSl,-,hb⟩
    have hf8:=Fr.of_below' hb (fun _=>False)
    have HV8:=Lib.hid (HP7.out.v.keep hf8)
    have HTr:=Lib.hid hTr
    have HSw:=Lib.hid hSl
    have HB8:=Lib.hid (HB7.out.trans (hf8.below HB7.out.size (fun _ _ h=>h)))
    have HW8:=Lib.hid (HW7.out.fr hf8 (fun _ _ h=>h))
    have HN8:=Lib.hid (HN7.out.fr hf8 (fun _ _ h=>h))
    have hMl:Mt.length≤20:=by omega
    clear hTr hSl hb hf8 HP7 HB7 HW7 HN7 cs0 cs1
    have cs0:w8.cell? ⟨Bw,0,none⟩=some (.string s):=HW8.out.cell 0
    have cs1:w8.cell? ⟨Bw,1,none⟩=some (.string o):=HW8.out.cell 1
    obtain ⟨Nx,hNx⟩:∃b,w8.heap.size=b:=⟨_,rfl⟩
    have hBn8:Bw+1<Nx:=by rw [←hNx];exact lt_of_heap HN8.out
    have HNx:=Lib.hid hNx
    clear hNx
    go_wp2_with fail
    refine (Ent.TracesV (some ⟨B,0,none⟩) s o w8).mono ?_
    rintro e w9 ⟨rfl,hw9⟩
    have f1:=Fr.alloc (fun _=>False) w8 (.cells #[.pointer (some ⟨B,0,none⟩)] TVp)
    have f2:=Fr.alloc (fun _=>False) (w8.alloc (.cells #[.pointer (some ⟨B,0,none⟩)] TVp)) (.cells #[.string s] TSt)
    have f3:=Fr.alloc (fun _=>False) ((w8.alloc (.cells #[.pointer (some ⟨B,0,none⟩)] TVp)).alloc (.cells #[.string s] TSt)) (.cells #[.string o] TSt)
    have hx9:=((Bk.new w8 #[.pointer (some ⟨B,0,none⟩)] TVp).fr f2 (fun _ _ h=>h)).fr f3 (fun _ _ h=>h)
    have hs9:=(Bk.new (w8.alloc (.cells #[.pointer (some ⟨B,0,none⟩)] TVp)) #[.string s] TSt).fr f3 (fun _ _ h=>h)
    have ho9:=Bk.new ((w8.alloc (.cells #[.pointer (some ⟨B,0,none⟩)] TVp)).alloc (.cells #[.string s] TSt)) #[.string o] TSt
    have hz9:(((w8.alloc (.cells #[.pointer (some ⟨B,0,none⟩)] TVp)).alloc (.cells #[.string s] TSt)).alloc (.cells #[.string o] TSt)).heap.size=w8.heap.size+3:=by simp
    have hf9:=(f1.trans f2 (T:=fun _=>False) (fun _ _ h=>h) (fun _ _ h=>h)).trans f3 (T:=fun _=>False) (fun _ _ h=>h) (fun _ _ h=>h)
    rw [World.size_alloc] at hs9 ho9
    rw [World.size_alloc] at ho9
    rw [hw9] at hx9 hs9 ho9 hz9 hf9
    rw [HNx.out] at hx9 hs9 ho9 hz9 ⊢
    have HX9:=Lib.hid hx9;have HS9:=Lib.hid hs9;have HO9:=Lib.hid ho9;have HZ9:=Lib.hid hz9
    have HV9:=Lib.hid (HV8.out.keep hf9);have HN9:=Lib.hid (HN8.out.fr hf9 (fun _ _ h=>h));have HC:=Lib.hid (HSw.out.fr hf9 (fun _ _ h=>h))
    have HB9:=Lib.hid (HB8.out.trans (hf9.below HB8.out.size (fun _ _ h=>h)))
    have HVl:Hid (∀b∈F6,b<Nx):=fun b hb=>by rw [←HNx.out];exact HV8.out.lt b hb
    have kn:∀ (W:World) (f:Fn) (a b:Array Value),(binOp .eql 57 (.func f a b) .nilFunc).run prog W=.ok (.bool false) W:=fun W f a b=>run_eql_func_nil W f a b underlying57
    clear f1 f2 f3 hx9 hs9 ho9 hz9 hf9 hw9 HV8 HN8 HSw HB8 HW8 cs0 cs1
    go_wp2_with fail
    have hbg:=Bk.new w9 #[.slice none 0 0] TIs
    have hfg:=Fr.alloc (fun _=>False) w9 (.cells #[.slice none 0 0] TIs)
    have hz0:(w9.alloc (.cells #[.slice none 0 0] TIs)).heap.size=w9.heap.size+1:=by simp
    generalize w9.alloc (.cells #[.slice none 0 0] TIs)=W0 at *
    have HBg:=Lib.hid hbg;have HFg:=Lib.hid hfg;have HZ0:=Lib.hid hz0
    obtain ⟨MM,hev,hFe⟩:=(HV9.out.keep hfg).v
    obtain ⟨V,hvm,hvg⟩:=hev
    obtain ⟨K,hVK,hKs,hKz,hKq⟩:=hvg.keys
    have hlt0:∀b∈F6,b<W0.heap.size:=fun b hb=>by
     have:=HZ0.out;have:=HZ9.out;have:=HVl.out b hb;omega
    have hseq:=Ent.Traces_seq F6 B (Nx+1) (Nx+2) Nx V MM K s o W0 hvm.mapP hVK hKs hKz (HS9.out.fr hfg (fun _ _ h=>h)) (HO9.out.fr hfg (fun _ _ h=>h)) (HX9.out.fr hfg (fun _ _ h=>h)) hsz (fun b hb=>by rw [hFe];simp [hb]) hlt0
    rw [tr_eq hKs hKq HDq.out HTr.out] at hseq
    clear hbg hfg hz0 kn HV9 HX9 HS9 HO9 hvm hvg hVK hKs hKz hKq hFe HTr HDq
    refine (wpIn_wide (n:=3)).1 ?_
    refine range_P' (n:=3) (a₁:=?fr) (gf:=37) (lb:= #[.pointer (some ⟨Nx+1,0,none⟩),.pointer (some ⟨Nx+2,0,none⟩),.pointer (some ⟨Nx,0,none⟩)]) rfl (enters_of func37 (by kernel_rfl) rfl)
     hseq hlt0 (fun _=>rfl)
     (fun (pre:List Int) (W:World)=>BG w9.heap.size (W0.heap.size+2+6) w9.heap.size (Bw+1) w9 W u pre∧(pre= []∨(pre.length:Int)<u)∧W0.heap.size≤W.heap.size)
     (fun k (_:List Int) (W:World)=>(k=.exit 0∧∃pre,BG w9.heap.size (W0.heap.size+2+6) w9.heap.size (Bw+1) w9 W u pre∧pre<+:Mt∧1≤pre.length∧u≤pre.length∧(pre.length=1∨(pre.length:Int)≤u))∧W0.heap.size≤W.heap.size)
     ?abI ?abX ?st ?assign ?body ?done ?stop
    case abI=>
     intro pre A C h hf
     have:=HZ0.out;have:=HZ9.out
     exact ⟨⟨h.1.c.abide hf (by omega) (fun h=>by have:=h.1;omega) (Nat.le_refl _) (by have:=h.2.2;omega),h.1.n.fr hf (fun b hb h=>by have e:b=Bw+1:=List.mem_singleton.1 hb;have hh:W0.heap.size≤b:=h.1;omega)⟩,h.2.1,Nat.le_trans h.2.2 hf.size⟩
    case abX=>
     intro k pre A C h hf
     have hz:=HZ0.out;have:=HZ9.out
     obtain ⟨⟨rfl,pr,h1,h2⟩,h3⟩:=h
     exact ⟨⟨rfl,pr,⟨h1.c.abide hf (by omega) (fun h=>by have:=h.1;omega) (Nat.le_refl _) (by have:W0.heap.size≤A.heap.size:=h3;omega),h1.n.fr hf (fun b hb h=>by have e:b=Bw+1:=List.mem_singleton.1 hb;have hh:W0.heap.size≤b:=h.1;omega)⟩,h2⟩,Nat.le_trans h3 hf.size⟩
    case st=>exact ⟨⟨Coll2.start HBg.out (HFg.out.below (Nat.le_refl _) (fun _ _ h=>h)),HN9.out.fr HFg.out (fun _ _ h=>h)⟩,.inl rfl,Nat.le_refl _⟩
    case assign=>
     intro l m x W K hK
     gi_wp2
     exact hK
    case body=>
     rintro l m pre x W ⟨hI,hlo,hsz0⟩ hsz hpre rfl ⟨r,hl⟩ hd
     (try dsimp only)
     have hml:pre.length<Mt.length:=by have:=hpre.length_le;rw [List.length_append,List.length_singleton] at this;omega
     obtain ⟨v,hv,hown,hbel⟩:=hI.c
     have hIn:=hI.n
     have cv:W.cell? ⟨w9.heap.size,0,none⟩=some v:=hv.cell 0
     have fv:=hv.free 0
     have HVv:=Lib.hid hv;have HO:=Lib.hid hown;have HBe:=Lib.hid hbel;have HIn:=Lib.hid hIn;have HLo:=Lib.hid hlo;have HSz:=Lib.hid hsz;have HPre:=Lib.hid hpre
     have hown':=hown.alloc (.cells #[.int .i64 x] TI)
     have hne1:¬Bw+1=w9.heap.size:=by have:=HZ9.out;omega
     have hne2:¬w9.heap.size=Bw+1:=by have:=HZ9.out;omega
     have hszW:W0.heap.size+2+6≤W.heap.size:=hsz
     have q0:IntKind.i64.wrap u=u:=by rw [IntKind.wrap_i64];omega
     clear hI hv hown hbel hIn hlo hsz hpre hl hd hsz0
     gi_wp2_with (gi_at_builtin;refine wpListIn_append_own _ rfl (.tmp 59) (.tmp 61) TIs rfl (W0.heap.size+2+6) TI i0 (.int .i64 0) 1 8 underlying44 hi hz0 hz1_ hz2 rfl (by decide) _ _ _ rfl hown' ⟨W.heap.size,0,none⟩ 1 1 [.int .i64 x] rfl rfl (new_cells W TI [.int .i64 x]) (by simp [Value.oneCell']) (by unfold maxLen;omega) (by omega) (by simp;omega) ?_)
     intro v' w2 hown1 hgrow _
     obtain ⟨g',cap',rfl⟩:=ownsRow_succ hown1
     obtain ⟨k1,k2,k3⟩:=Coll2.step HVv.out HO.out HBe.out (by have:=HZ0.out;omega) (Nat.le_refl _) (by have:=HZ0.out;omega) hown1 hgrow
     have cv1:w2.cell? ⟨w9.heap.size,0,none⟩=some v:=k1.cell 0
     have fv1:=k1.free 0
     have hn2:Bk w2 (Bw+1) (ubx u) TU8:=HIn.out.fr ((Fr.alloc (fun _=>False) W (.cells #[.int .i64 x] TI)).trans (Fr.grown hgrow (S:=fun b=>W0.heap.size+2+6≤b) (fun k h=>(ownsRow_blk HO.out k h).1)) (fun _ _ h=>h.elim) (fun _ _ h=>h)) (fun b hb h=>by simp at hb;subst hb;have:=HZ9.out;have:=HZ0.out;omega)
     have cn2:w2.cell? ⟨Bw+1,0,none⟩=some (.int .u8 u):=hn2.cell 0
     have K2:=Lib.hid k2;have K3:=Lib.hid k3;have HN2:=Lib.hid hn2
     clear k1 k2 k3 hown1 hgrow hown' cv fv hn2
     have hend:Hid (KeptR W0.heap.size (W0.heap.size+2+6) W (w2.setCell ⟨w9.heap.size,0,none⟩ (.slice (some ⟨g',0,none⟩) (pre.length+1) cap'))∧KeptL F6 W (w2.setCell ⟨w9.heap.size,0,none⟩ (.slice (some ⟨g',0,none⟩) (pre.length+1) cap'))):=by
      have hz:=HZ0.out;have hz6:=HZ9.out
      refine ⟨KeptR.of_fr K3.out HSz.out (fun b hb e=>by have:=hb.1;have:=hb.2;omega),KeptL.of_fr K3.out (fun b hb=>?_)⟩
      have:=HVl.out b hb;exact ⟨by omega,by omega⟩
     have HNx2:Hid (BG w9.heap.size (W0.heap.size+2+6) w9.heap.size (Bw+1) w9 (w2.setCell ⟨w9.heap.size,0,none⟩ (.slice (some ⟨g',0,none⟩) (pre.length+1) cap')) u (pre++ [x])):=⟨by rw [List.length_append,List.length_singleton,ints,List.map_append];exact K2.out,HN2.out.fr (Fr.setCell w2 ⟨w9.heap.size,0,none⟩ _ (S:=(· =w9.heap.size)) rfl) (fun b hb e=>by simp at hb;subst hb;exact hne1 e)⟩
     by_cases hge:u≤(pre.length:Int)+1
     ·have u1:decide (u≤(pre.length:Int)+1)=true:=by simpa using hge
      have u2:decide (u≤((pre.length+1:Nat):Int))=true:=by simp;omega
      have HGe:=Lib.hid hge
      clear hge
      gi_wp2_with fail
      refine ⟨hend.out.1,K3.out.size,⟨rfl,_,HNx2.out,HPre.out,by simp,by have:=HGe.out;simp;omega,?_⟩,by have:=K3.out.size;omega⟩
      rcases HLo.out with rfl|h
      ·exact .inl rfl
      ·right;simp;omega
     ·have u1:decide (u≤(pre.length:Int)+1)=false:=by simpa using hge
      have u2:decide (u≤((pre.length+1:Nat):Int))=false:=by simp;omega
      have HGe:=Lib.hid hge
      clear hge
      gi_wp2_with fail
      exact ⟨hend.out.1,K3.out.size,hend.out.2,HNx2.out,.inr (by have:=HGe.out;simp;omega),by have:=K3.out.size;omega⟩
    case done=>
     rintro W hsz ⟨hI,hlo,hsz0⟩ hK
     have hp:Mt<+:Mt:=List.prefix_refl _
     have hcond:Mt.length=Mt.length∧(Mt= []∨(Mt.length:Int)<u)∨(1≤Mt.length∧u≤Mt.length∧(Mt.length=1∨(Mt.length:Int)≤u)):=.inl ⟨rfl,hlo⟩
     have hp1:=hp.length_le
     obtain ⟨hG1,hG2⟩:=got_of hp hcond
     obtain ⟨v,hv,hown,hbel⟩:=hI.c
     obtain ⟨Ag,cg,rfl,hSg,-⟩:=Sl.of_own hown
     have HSt2:Hid (GQ W W (Bw+1) w9.heap.size u Aw cw Mt Ag cg Mt):=⟨Below.refl _ _,hI.n,HC.out.fr (Fr.of_below' hbel (fun _=>False)) (fun _ _ h=>h),hv,hSg⟩
     have hcw:Mt.length≤cw∧cw≤9223372036854775807:=by have:=HC.out.2.1;have:=HC.out.2.2.1;unfold maxLen at this;omega
     have HK:=Lib.hid hK;have HBe:=Lib.hid hbel;have HG1:=Lib.hid hG1;have HG2:=Lib.hid hG2;have HSz:=Lib.hid hsz
     clear hG1 hG2 hI hv hown hbel hSg hK hcond hp hsz
     go_upto_region 17 with (fail)
     refine eg17 (by kernel_rfl) _ _ W W (Bw+1) w9.heap.size u hu Aw cw Mt Ag cg Mt Mt.length HSt2.out hp1 hcw.1 hcw.2 _ rfl HG2.out (Lib.hid HG1.out.symm) rfl rfl rfl rfl ?_
     intro z wz x6_ hst
     simp only [Eng.setAll,Act.put,List.setIfInBounds_toArray,List.set_cons_succ,List.set_cons_zero]
     rw [x6_]
     have HFz:=Lib.hid hst.f
     clear hst x6_ HSt2
     go_wp2_with fail
     try rw [Exit.noGoto_ret]
     have hKz:=(HFz.out.block W0.heap.size (by have:=HSz.out;omega)).trans HK.out
     refine ⟨by simp,.inl ⟨_,_,rfl,run_takeDeferred hKz,?_⟩⟩
     have hf:=Fr.putObj wz W0.heap.size (.deferred none) (S:=(· =W0.heap.size)) rfl
     have hz:=HZ0.out
     have hzz:=HFz.out.size
     have hzW:=HSz.out
     have hzB:=HB9.out.size
     exact ⟨_,by simp [results,Tryz.results6,go_sem],rfl,HB9.out.trans ((HBe.out.mono hzB).trans ((HFz.out.mono (by omega)).trans (hf.below (by omega) (fun k hk e=>by omega))))⟩
    case stop=>
     rintro k _ W hsz _ ⟨⟨rfl,pre,hI,hp,h1,h2,h3⟩,hsz0⟩ hK
     have hcond:pre.length=Mt.length∧(pre= []∨(pre.length:Int)<u)∨(1≤pre.length∧u≤pre.length∧(pre.length=1∨(pre.length:Int)≤u)):=.inr ⟨h1,h2,h3⟩
     refine (wpIn_wide (n:=3)).2 ?_
     have hp1:=hp.length_le
     obtain ⟨hG1,hG2⟩:=got_of hp hcond
     obtain ⟨v,hv,hown,hbel⟩:=hI.c
     obtain ⟨Ag,cg,rfl,hSg,-⟩:=Sl.of_own hown
     have HSt2:Hid (GQ W W (Bw+1) w9.heap.size u Aw cw Mt Ag cg pre):=⟨Below.refl _ _,hI.n,HC.out.fr (Fr.of_below' hbel (fun _=>False)) (fun _ _ h=>h),hv,hSg⟩
     have hcw:Mt.length≤cw∧cw≤9223372036854775807:=by have:=HC.out.2.1;have:=HC.out.2.2.1;unfold maxLen at this;omega
     have HK:=Lib.hid hK;have HBe:=Lib.hid hbel;have HG1:=Lib.hid hG1;have HG2:=Lib.hid hG2;have HSz:=Lib.hid hsz
     clear hG1 hG2 hI hv hown hbel hSg hK hcond hp hsz
     go_upto_region 17 with (fail)
     refine eg17 (by kernel_rfl) _ _ W W (Bw+1) w9.heap.size u hu Aw cw Mt Ag cg pre pre.length HSt2.out hp1 hcw.1 hcw.2 _ rfl HG2.out (Lib.hid HG1.out.symm) rfl rfl rfl rfl ?_
     intro z wz x6_ hst
     simp only [Eng.setAll,Act.put,List.setIfInBounds_toArray,List.set_cons_succ,List.set_cons_zero]
     rw [x6_]
     have HFz:=Lib.hid hst.f
     clear hst x6_ HSt2
     go_wp2_with fail
     try rw [Exit.noGoto_ret]
     have hKz:=(HFz.out.block W0.heap.size (by have:=HSz.out;omega)).trans HK.out
     refine ⟨by simp,.inl ⟨_,_,rfl,run_takeDeferred hKz,?_⟩⟩
     have hf:=Fr.putObj wz W0.heap.size (.deferred none) (S:=(· =W0.heap.size)) rfl
     have hz:=HZ0.out
     have hzz:=HFz.out.size
     have hzW:=HSz.out
     have hzB:=HB9.out.size
     exact ⟨_,by simp [results,Tryz.results6,go_sem],rfl,HB9.out.trans ((HBe.out.mono hzB).trans ((HFz.out.mono (by omega)).trans (hf.below (by omega) (fun k hk e=>by omega))))⟩
end Law28
end Go.Proofs.YtdpngmgaomghoaaGreatDoor
