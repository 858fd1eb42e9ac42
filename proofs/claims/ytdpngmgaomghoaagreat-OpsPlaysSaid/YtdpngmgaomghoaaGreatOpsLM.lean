/- Records leave a view, all or none: the deferred closure of (*ops.View).leave. -/
import Derived.Test.YtdpngmgaomghoaaGreatOpsY
import Derived.Test.YtdpngmgaomghoaaGreatMk
namespace Go.Proofs.YtdpngmgaomghoaaGreat
open Tryz
set_option maxRecDepth 100000
set_option maxHeartbeats 1000000
open Go.RowKit
namespace Ops
open BagP HistP OpsP Hist KeyP PackP SetP SetW SetF Sli Name Pack
open Go.MapKept Go.ChangeMaps Go.WideElems Go.WideMaps
attribute [local go_sem] Eng.ev Eng.getO_cons Eng.getO_nil
abbrev TMp:TypeId:=199
abbrev TPV:TypeId:=50
abbrev TSt:TypeId:=9
abbrev TBo:TypeId:=4
abbrev okS (s:ByteArray):Prop:=s.size≤maxLen
theorem keyS:Mk.KV TSt Value.string okS:=⟨Maps.string_keyed underlying9,fun h=>by injection h,fun {k} h=>⟨_,keyOf_string_mk underlying9 h⟩⟩
abbrev lit (t:ByteArray):Lit:=.string t.data.toList
theorem lit_inj {a b:ByteArray} (h:lit a=lit b):a=b:=by
 injection h with h
 exact ByteArray.ext (Array.ext' h)
abbrev pv (e:Bx):Value:=.pointer e.p
def fC (C:Es) (t:ByteArray):Option Value:=(getL t C).map pv
abbrev CM (w:World) (r n:Nat) (C:Es):Prop:=Mk.PM TSt Value.string okS w r n (fC C)
abbrev RG (w:World) (r ri n:Nat) (D:DataW Value) (left:Lit→Bool) (cnt:Nat):Prop:=w.ranges prog TSt Mk.HR r ri n D left cnt
theorem RG.fr {S:Nat→Prop} {w w':World} {r ri n:Nat} {D:DataW Value} {left:Lit→Bool} {cnt:Nat} (h:RG w r ri n D left cnt) (hf:Fr S w w') (h1:¬S r) (h2:¬S ri):RG w' r ri n D left cnt:=by
 have hr:=h.owns.lt
 have hi:=h.lt
 obtain ⟨es,clock,since,seen,c0,a1,a2,a3,a4,a5,a6⟩:=h
 exact ⟨es,clock,since,seen,c0,(hf.block r hr h1).trans a1,a2,a3,a4,(hf.block ri hi h2).trans a5,a6⟩
def Rd (D:DataW Value) (C:Es):Prop:=∀t,okS t→∀z,D.atKey (lit t) z=match fC C t with|some v=>.held v|none=>z
def mixV (C:Es) (left:Lit→Bool) (V:Vw) (t:ByteArray):Option (Nm × HS):=
 match getL t C with
 |some e=>bif left (lit t)||sumL e.x.1==0 then getL t V else some e.v
 |none=>getL t V
theorem sk (t x:ByteArray):(lit t).sameKey (lit x)=decide (t=x):=by
 simp only [Lit.sameKey]
 refine Bool.eq_iff_iff.2 ?_
 rw [beq_iff_eq,decide_eq_true_iff]
 exact ⟨fun h=>lit_inj (congrArg Lit.string h),fun h=>by rw [h]⟩
structure LD (w0:World) (F0:List Nat) (w:World) (B:Nat) (M:List Nat) (E:Es) (V:Vw) (r ri b0 b1:Nat) (ok:Bool) (C:Es) (left:Lit→Bool):Prop where
 v:OT w0 F0 w B M E
 c0:Bk w b0 #[.pointer (some ⟨B,0,none⟩)] TPV
 c1:Bk w b1 #[.bool ok] TBo
 n:∀b,b=r∨b=ri∨b=b0∨b=b1→b∉fl B M E∧(∀p∈C,b∉p.2.F)∧b<w.heap.size
 ne:ri≠b0∧ri≠b1∧w0.heap.size≤ri
 h:∀p∈C,left (lit p.1)=true→HB w p.2.b p.2.x p.2.F∧∀x∈p.2.F,w0.heap.size≤x∧x∉fl B M E
 d:C.Pairwise (fun p q=>∀x∈p.2.F,x∉q.2.F)
 rel:∀t,getL t (vL E)=mixV C left V t
section
variable {w0:World} {F0:List Nat} {w w':World} {B:Nat} {M:List Nat} {E:Es} {V:Vw} {r ri b0 b1:Nat} {ok:Bool} {C:Es} {left:Lit→Bool}
structure LP (w0:World) (F0:List Nat) (w:World) (B:Nat) (M:List Nat) (E:Es) (r b0 b1:Nat) (ok:Bool) (C:Es):Prop where
 v:OT w0 F0 w B M E
 c0:Bk w b0 #[.pointer (some ⟨B,0,none⟩)] TPV
 c1:Bk w b1 #[.bool ok] TBo
 n:∀b,b=r∨b=b0∨b=b1→b∉fl B M E∧(∀p∈C,b∉p.2.F)∧b<w.heap.size
 h:∀p∈C,HB w p.2.b p.2.x p.2.F∧(∀x∈p.2.F,w0.heap.size≤x∧x∉fl B M E)∧okS p.1∧Wf p.2.x
 d:C.Pairwise (fun p q=>∀x∈p.2.F,x∉q.2.F)
theorem LP.ld (H:LP w0 F0 w B M E r b0 b1 ok C) (hf:Fr (fun _=>False) w w') (hs:w'.heap.size=w.heap.size+1) (hl:∀p∈C,left (lit p.1)=true):LD w0 F0 w' B M E (vL E) r w.heap.size b0 b1 ok C left:=by
 have h0:=(H.n b0 (by simp)).2.2;have h1:=(H.n b1 (by simp)).2.2
 refine ⟨H.v.fr hf,H.c0.fr hf (fun _ _ h=>h),H.c1.fr hf (fun _ _ h=>h),fun b hb=>?_,⟨by omega,by omega,H.v.t.fr.size⟩,fun p hp _=>⟨(H.h p hp).1.fr hf (fun _ _ h=>h),(H.h p hp).2.1⟩,H.d,fun t=>?_⟩
 ·by_cases e:b=w.heap.size
  ·subst e
   exact ⟨fun h=>by have:=H.v.v.lt _ h;omega,fun p hp h=>by have:=(H.h p hp).1.lt _ h;omega,by omega⟩
  ·obtain ⟨n1,n2,n3⟩:=H.n b (by omega)
   exact ⟨n1,n2,by omega⟩
 ·unfold mixV
  cases hg:getL t C with
  |none=>rfl
  |some e=>
   dsimp only
   rw [hl _ (getL_mem hg)];rfl
theorem LD.iter (H:LD w0 F0 w B M E V r ri b0 b1 ok C left) (hf:Fr (· =ri) w w'):LD w0 F0 w' B M E V r ri b0 b1 ok C left:=by
 have hn:=(H.n ri (by simp)).1
 have hn2:=(H.n ri (by simp)).2.1
 have hv:=H.v.v.fr hf (fun x hx e=>hn (e▸hx))
 refine ⟨⟨hv,⟨H.v.t.fr.trans hf (fun _ _ h=>h) (fun i hi e=>by have:=H.ne.2.2;omega),fun x hx=>⟨(H.v.t.sub x hx).1,hv.lt x hx⟩⟩⟩,H.c0.fr hf (fun b hb e=>by simp at hb;exact H.ne.1 (by omega)),H.c1.fr hf (fun b hb e=>by simp at hb;exact H.ne.2.1 (by omega)),fun b hb=>⟨(H.n b hb).1,(H.n b hb).2.1,Nat.lt_of_lt_of_le (H.n b hb).2.2 hf.size⟩,H.ne,fun p hp hl=>⟨(H.h p hp hl).1.fr hf (fun x hx e=>hn2 p hp (e▸hx)),(H.h p hp hl).2⟩,H.d,H.rel⟩
theorem left_ne {t x:ByteArray} (h:t≠x):(left (lit t)&& !(lit t).sameKey (lit x))=left (lit t):=by rw [sk,decide_eq_false h];simp
theorem left_eq' {x:ByteArray}:(left (lit x)&& !(lit x).sameKey (lit x))=false:=by rw [sk,decide_eq_true rfl];simp
theorem LD.skip (H:LD w0 F0 w B M E V r ri b0 b1 ok C left) {x:ByteArray} {e:Bx} (hg:getL x C=some e) (hs:sumL e.x.1=0):LD w0 F0 w B M E V r ri b0 b1 ok C (fun z=>left z&& !z.sameKey (lit x)):=
 ⟨H.v,H.c0,H.c1,H.n,H.ne,fun p hp hl=>H.h p hp (by simp only [Bool.and_eq_true] at hl;exact hl.1),H.d,fun t=>by
  rw [H.rel]
  unfold mixV
  by_cases ht:t=x
  ·subst ht;rw [hg];simp [hs]
  ·dsimp only;rw [left_ne ht]⟩
theorem LD.put (H:LD w0 F0 w B M E V r ri b0 b1 ok C left) {x:ByteArray} {e:Bx} (hx:left (lit x)=true) (hg:getL x C=some e) (hs:sumL e.x.1≠0) {M':List Nat} (hm:VM w' B (insL x e.p (pL E)) M') (ht:Tn (B::M) (B::M') w w'):
  LD w0 F0 w' B M' (insL x e E) V r ri b0 b1 ok C (fun z=>left z&& !z.sameKey (lit x)):=by
 have hmem:=getL_mem hg
 have he:=H.h _ hmem hx
 have hv:=H.v.put hm ht he.1 he.2
 have hsub:∀y,y∈fl B M' (insL x e E)→y∈fl B M E∨y∈e.F∨w.heap.size≤y:=fun y hy=>by
  rcases mem_fl.1 hy with hy| ⟨p,hp,hy⟩
  ·rcases (ht.sub y hy).1 with h|h
   ·exact .inl (mem_fl.2 (.inl h))
   ·exact .inr (.inr h)
  ·rcases insL_mem hp with rfl|hp
   ·exact .inr (.inl hy)
   ·exact .inl (mem_fl.2 (.inr ⟨p,hp,hy⟩))
 have hnin:∀b,b=r∨b=ri∨b=b0∨b=b1→b∉fl B M' (insL x e E):=fun b hb hy=>by
  obtain ⟨n1,n2,n3⟩:=H.n b hb
  rcases hsub b hy with h|h|h
  ·exact n1 h
  ·exact n2 _ hmem h
  ·omega
 have hBM:∀b,b=r∨b=ri∨b=b0∨b=b1→b∉B::M:=fun b hb h=>(H.n b hb).1 (mem_fl.2 (.inl h))
 refine ⟨hv,H.c0.fr ht.fr (fun b hb=>by simp at hb;subst hb;exact hBM _ (by simp)),H.c1.fr ht.fr (fun b hb=>by simp at hb;subst hb;exact hBM _ (by simp)),fun b hb=>⟨hnin b hb,(H.n b hb).2.1,Nat.lt_of_lt_of_le (H.n b hb).2.2 ht.fr.size⟩,H.ne,fun p hp hl=>?_,H.d,fun t=>?_⟩
 ·simp only [Bool.and_eq_true,Bool.not_eq_true',sk,decide_eq_false_iff_not] at hl
  have hp':=H.h p hp hl.1
  refine ⟨hp'.1.fr ht.fr (fun y hy h=>(hp'.2 y hy).2 (mem_fl.2 (.inl h))),fun y hy=>⟨(hp'.2 y hy).1,fun h=>?_⟩⟩
  rcases hsub y h with h|h|h
  ·exact (hp'.2 y hy).2 h
  ·have hne:p≠(x,e):=fun e'=>hl.2 (by rw [e'])
   rcases pairwise_or H.d hp hmem hne with q|q
   ·exact q y hy h
   ·exact q y h hy
  ·have:=hp'.1.lt y hy;omega
 ·show getL t ((insL x e E).map (fun p=>(p.1,p.2.v)))=_
  rw [←insL_map (f:=Bx.v),getL_ins]
  have hr:=H.rel t
  unfold mixV at hr ⊢
  by_cases h:t=x
  ·subst h
   rw [sameK_refl,if_pos rfl,hg]
   dsimp only
   rw [left_eq',show (sumL e.x.1==0)=false by simpa using hs];rfl
  ·rw [sameK_ne h,if_neg (by simp),hr]
   dsimp only
   rw [left_ne h]
end
theorem has_get:∀ {C:Es} {p:ByteArray × Bx},p∈C→∃e,getL p.1 C=some e
 | [],p,h=>by cases h
 |q::C,p,h=>by
  rw [getL_cons]
  by_cases e:sameK p.1 q.1=true
  ·exact ⟨_,by rw [if_pos e]⟩
  ·rw [if_neg e]
   rcases List.mem_cons.1 h with rfl|h
   ·exact absurd (sameK_refl _) e
   ·exact has_get h
theorem invK:∀key kl,keyOf prog TSt key=some kl→∃x,key=Value.string x:=fun key kl h=>by
 obtain ⟨s,rfl,-,-⟩:=string_of_keyOf underlying9 h
 exact ⟨s,rfl⟩
theorem invV:∀ (v:Value) (y:DataW Value × List MemPlace),Mk.HR v=some y→∃c,v=(fun c:Value=>c) c:=fun v _ _=>⟨v,rfl⟩
theorem deferred_ok (w:World) (r n b0 b1 b3:Nat) (C:Es) (u:FrameMode) (h1:Bk w b1 #[.bool true] TBo) (h3:Bk w b3 #[.map (some r)] TMp) (hC:CM w r n C):
  CallsD prog 149 #[.pointer (some ⟨b3,0,none⟩),.pointer (some ⟨b1,0,none⟩),.pointer (some ⟨b0,0,none⟩)] u w fun e u' w'=>u'=u∧(e=.returned (.tuple #[])∧Fr (fun _=>False) w w'):=by
 obtain ⟨h0,D,hown,hD⟩:=hC
 have e3:w.cell? ⟨b3,0,none⟩=some (.map (some r)):=h3.cell 0
 have H1:=Lib.hid h1
 clear h1 h3 hD
 go_enter_d func149,ntmps149
 go_wp2_with (first| (at_range;refine wpList_range_own _ rfl _ TMp rfl TSt 164 keyS.keyed underlying199 _ r n D rfl hown ?_;intro w1 hrg0 hg0 hs0)|fail)
 go_frame
 have HG0:=Lib.hid (Fr.grown hg0 (S:=fun _=>False) (fun k h=>by cases h))
 have HR0:=Lib.hid hrg0
 clear hg0 hrg0 hown e3
 go_loopg [3,4] (Maps.size D) (fun gk _ _ wr=>∃left,RG wr r w.heap.size n D left gk∧Fr (fun _=>False) w wr)
 case atStart=>exact ⟨_,HR0.out,HG0.out⟩
 case round=>
  obtain ⟨left,hrg,hf⟩:=hrel
  go_wp2_with (first| (at_next;refine wpList_next_ranges _ rfl _ rfl TSt keyS.keyed Mk.HR Value.string (fun c=>c) invK invV r w.heap.size n D left _ rfl hrg ?_ ?_)|fail)
  ·intro hc0 hl0
   go_wp2_with fail
   go_end0
   exact ⟨rfl,hf⟩
  ·intro x c kl y1 y2 w2 cnt2 hkey hlk hv hat hrg2 hlt hg2 hs2 hen
   have f2:Fr (fun _=>False) w w2:=hf.trans (Fr.grown hg2 (S:=(· =w.heap.size)) (fun k h=>by cases h;rfl)) (fun _ _ h=>h) (fun i hi e=>by omega)
   have HF2:=Lib.hid f2
   have c1:w2.cell? ⟨b1,0,none⟩=some (.bool true):=(H1.out.fr f2 (fun _ _ h=>h)).cell 0
   clear hg2 hat hv hf hs2
   go_wp2_with fail
   go_roundg cnt2
   case rel=>exact ⟨_,hrg2,HF2.out⟩
   case measure=>exact hlt
theorem read_at {D:DataW Value} {C:Es} (hD:∀ (k:ByteArray) (l:Lit),okS k→keyOf prog TSt (.string k)=some l→∀z,D.atKey l z=match fC C k with|some v=>.held v|none=>z)
  {x:ByteArray} {kl:Lit} {c:Value} {y:DataW Value × List MemPlace} (hkey:keyOf prog TSt (.string x)=some kl) (hv:Mk.HR c=some y) (hat:∀z,D.atKey kl z=y.1):kl=lit x∧∃e,getL x C=some e∧c=pv e:=by
 obtain ⟨s,hs,rfl,hok⟩:=string_of_keyOf underlying9 hkey
 obtain rfl:x=s:=by injection hs
 refine ⟨rfl,?_⟩
 have hc:y.1=.held c:=by unfold Mk.HR at hv;cases hv;rfl
 have h1:=hD x _ hok hkey
 unfold fC at h1
 cases hg:getL x C with
 |none=>
  rw [hg] at h1
  have e1:=(h1 (.held (.bool true))).symm.trans (hat _)
  have e2:=(h1 (.held (.bool false))).symm.trans (hat _)
  have:=e1.trans e2.symm
  simp at this
 |some e=>
  rw [hg] at h1
  have e1:=(h1 (.held (.bool true))).symm.trans ((hat _).trans hc)
  simp at e1
  exact ⟨e,rfl,e1.symm⟩
theorem deferred_no (w0:World) (F0:List Nat) (w:World) (B:Nat) (M:List Nat) (E:Es) (r n b0 b1 b3:Nat) (C:Es) (u:FrameMode) (h3:Bk w b3 #[.map (some r)] TMp)
  (H:LP w0 F0 w B M E r b0 b1 false C) (hC:CM w r n C) (sz:E.length+n<100000000):
  CallsD prog 149 #[.pointer (some ⟨b3,0,none⟩),.pointer (some ⟨b1,0,none⟩),.pointer (some ⟨b0,0,none⟩)] u w fun e u' w'=>u'=u∧(e=.returned (.tuple #[])∧∃M' E',OT w0 F0 w' B M' E'∧(∀t,getL t (vL E')=mixV C (fun _=>false) (vL E) t)∧Bk w' b1 #[.bool false] TBo):=by
 obtain ⟨hn0,D,hown,hD⟩:=hC
 have e3:w.cell? ⟨b3,0,none⟩=some (.map (some r)):=h3.cell 0
 have hhas:∀p∈C,okS p.1→Maps.has D (lit p.1)=true:=fun p hp hs=>by
  have h1:=hD p.1 _ hs (keyOf_string_mk underlying9 hs)
  unfold fC at h1
  obtain ⟨e,hg⟩:=has_get hp
  rw [hg] at h1
  exact Maps.has_true_of_atKey h1
 have HDs:Hid (Maps.size D≤n):=hown.size_le
 have HH:=Lib.hid H;have HD:=Lib.hid hD
 have HWf:Hid (∀p∈C,Wf p.2.x):=fun p hp=>(H.h p hp).2.2.2
 have HHas:=Lib.hid (fun p (hp:p∈C)=>hhas p hp (H.h p hp).2.2.1)
 clear h3 hD H hhas
 go_enter_d func149,ntmps149
 go_wp2_with (first| (at_range;refine wpList_range_own _ rfl _ TMp rfl TSt 164 keyS.keyed underlying199 _ r n D rfl hown ?_;intro w1 hrg0 hg0 hs0)|fail)
 go_frame
 have HL0:=Lib.hid (HH.out.ld (Fr.grown hg0 (S:=fun _=>False) (fun k h=>by cases h)) hs0 HHas.out)
 have HR0:=Lib.hid hrg0
 clear hg0 hrg0 hown e3 hs0 HHas
 go_loopg [3,4] (Maps.size D) (fun gk _ _ wr=>∃left M' E',RG wr r w.heap.size n D left gk∧E'.length+gk≤E.length+Maps.size D∧LD w0 F0 wr B M' E' (vL E) r w.heap.size b0 b1 false C left)
 case atStart=>exact ⟨_,M,E,HR0.out,Nat.le_refl _,HL0.out⟩
 case round=>
  obtain ⟨left,M',E',hrg,hsz,hL⟩:=hrel
  have HL:=Lib.hid hL;have HSz:=Lib.hid hsz
  clear hL HL0 HR0 HH hsz
  go_wp2_with (first| (at_next;refine wpList_next_ranges _ rfl _ rfl TSt keyS.keyed Mk.HR Value.string (fun c=>c) invK invV r w.heap.size n D left _ rfl hrg ?_ ?_)|fail)
  ·intro hc0 hl0
   go_wp2_with fail
   go_end0
   refine ⟨rfl,M',E',HL.out.v,fun t=>?_,HL.out.c1⟩
   rw [HL.out.rel]
   congr 1
   exact funext hl0
  ·intro x c kl y1 y2 w2 cnt2 hkey hlk hv hat hrg2 hlt hg2 hs2 hen
   obtain ⟨rfl,e,hg,rfl⟩:=read_at HD.out hkey hv hat
   have HL2:=Lib.hid (HL.out.iter (Fr.grown hg2 (S:=(· =w.heap.size)) (fun k h=>by cases h;rfl)))
   have HR2:=Lib.hid hrg2;have HG:=Lib.hid hg;have HLk:=Lib.hid hlk
   have hB:=(HL2.out.h _ (getL_mem hg) hlk).1
   have HBx:=Lib.hid hB
   have c1:w2.cell? ⟨b1,0,none⟩=some (.bool false):=HL2.out.c1.cell 0
   have c0:w2.cell? ⟨b0,0,none⟩=some (.pointer (some ⟨B,0,none⟩)):=HL2.out.c0.cell 0
   have hpos:=(hB.ok.pos.cnt 0).2.2
   have HLt:=Lib.hid hlt
   clear hg2 hat hv hs2 hkey HL hrg2 hg hlk hB hlt
   have HOkS:=Lib.hid (HWf.out _ (getL_mem HG.out))
   obtain ⟨en,ex,eb,eF⟩:=e
   dsimp only at hpos HBx
   cases hz:(sumL ex.1==0) with
   |true=>
    have hz0:sumL ex.1=0:=by simpa using hz
    have q1:decide (0<sumL ex.1)=false:=by simp;omega
    have HL3:=Lib.hid (HL2.out.skip HG.out hz0)
    clear hz hpos HL2
    go_wp2_with fail
    refine (Hist.Len eb ex eF w2 HBx.out).mono ?_
    rintro e' w3 ⟨rfl,rfl⟩
    go_wp2_with fail
    go_roundg cnt2
    case rel=>exact ⟨_,M',E',HR2.out,by have:=HSz.out;have:=HLt.out;omega,HL3.out⟩
    case measure=>exact HLt.out
   |false=>
    have hz0:¬sumL ex.1=0:=by simpa using hz
    have q1:decide (0<sumL ex.1)=true:=by simp;omega
    have hlen:(pL E').length<144115188075855872:=by rw [HL2.out.v.v.len];have:=HSz.out;have:=HDs.out;omega
    clear hpos
    go_wp2_with fail
    refine (Hist.Len eb ex eF w2 HBx.out).mono ?_
    rintro e' w3 ⟨rfl,rfl⟩
    go_wp2_with fail
    refine (HL2.out.v.v.m.put x (some ⟨eb,0,none⟩) hlen).mono ?_
    rintro e' w4 ⟨rfl,M4,hm4,ht4⟩
    have HL3:=Lib.hid (HL2.out.put HLk.out HG.out hz0 hm4 ht4)
    have HR3:=Lib.hid (RG.fr HR2.out ht4.fr (fun h=>(HL2.out.n r (by simp)).1 (mem_fl.2 (.inl h))) (fun h=>(HL2.out.n w.heap.size (by simp)).1 (mem_fl.2 (.inl h))))
    clear hm4 ht4 HR2 HL2 HBx hlen q1 hz
    go_wp2_with fail
    go_roundg cnt2
    case rel=>exact ⟨_,M4,_,HR3.out,by have:=HSz.out;have:=HLt.out;have:=insL_len' x (⟨en,ex,eb,eF⟩:Bx) E';omega,HL3.out⟩
    case measure=>exact HLt.out
end Ops
set_option maxRecDepth 100000
set_option maxHeartbeats 2000000
namespace Ops
open BagP HistP OpsP Hist KeyP PackP SetP SetW SetF Sli Name Pack
attribute [local go_sem] Eng.ev Eng.getO_cons Eng.getO_nil
theorem keepV {S:Nat→Prop} {w w':World} {A:Option Addr} {c:Nat} {L:List Sn} (h:Ls w A c L) (hf:Fr S w w') (hs:∀a,A=some a→L≠ []→¬S a.block):Ls w' A c L:=by
 by_cases hne:L= []
 ·subst hne
  obtain ⟨⟨h1,h2,h3,h4,h5⟩,h6⟩:=h
  exact ⟨⟨h1,h2,h3,h4,fun h=>absurd rfl h⟩,h6⟩
 ·exact h.fr hf (fun a ha=>hs a ha hne)
theorem hist_f (B:Nat) (M:List Nat) (E:Es) (s o:ByteArray) (w:World) (H:OV w B M E) (hl:s.size+o.size≤1000000):Calls prog 98 #[.pointer (some ⟨B,0,none⟩),.string s,.string o] w fun e w'=>e=.returned (.pointer (ptr E (s,o)))∧Fr (fun _=>False) w w':=
 (hist_ B M E s o w H hl).mono (fun _ _ ⟨h1,n,h2⟩=>⟨h1,by rw [h2];exact Fr.drewN _ _ _⟩)
theorem copied_any {w:World} {B:Nat} {M:List Nat} {E:Es} (H:OV w B M E) (hv:OpsP.Vok (vL E)) (k:Nm):Calls prog 152 #[.pointer (ptr E k)] w (CopPost (hget k (vL E)) w):=by
 cases hg:getL (key k) E with
 |none=>rw [ptr_none hg,hget_n hg];exact copied_none w
 |some e=>rw [ptr_some hg,hget_e hg];exact copied e.b e.x e.F w (H.h _ (getL_mem hg)) (hv.wf (key k,e.v) (List.mem_map.2 ⟨_,getL_mem hg,rfl⟩)).1
theorem getL_snoc {κ ν:Type} [Ord κ] (t k:κ) (v:ν):∀C:List (κ × ν),getL t (C++ [(k,v)])=match getL t C with|some u=>some u|none=>if sameK t k then some v else none
 | []=>by rw [List.nil_append,getL_cons,getL_nil]
 |p::C=>by
  rw [List.cons_append,getL_cons,getL_cons,getL_snoc t k v C]
  cases sameK t p.1<;>rfl
structure LS (w0:World) (F0:List Nat) (w:World) (B:Nat) (M:List Nat) (E:Es) (r b0 b1 b3 n:Nat) (C:Es):Prop where
 p:LP w0 F0 w B M E r b0 b1 false C
 m:CM w r n C
 c3:Bk w b3 #[.map (some r)] TMp
 n3:b3∉fl B M E∧(∀p∈C,b3∉p.2.F)∧b3≠r
 nr:r≠b0∧r≠b1∧w0.heap.size≤r∧b0≠b1∧w0.heap.size≤b1∧b3≠b1
section
variable {w0:World} {F0:List Nat} {w w':World} {B:Nat} {M M':List Nat} {E E':Es} {r b0 b1 b3 n:Nat} {C:Es} {ok:Bool}
theorem LP.fr (H:LP w0 F0 w B M E r b0 b1 ok C) (hf:Fr (fun _=>False) w w'):LP w0 F0 w' B M E r b0 b1 ok C:=
 ⟨H.v.fr hf,H.c0.fr hf (fun _ _ h=>h),H.c1.fr hf (fun _ _ h=>h),fun b hb=>⟨(H.n b hb).1,(H.n b hb).2.1,Nat.lt_of_lt_of_le (H.n b hb).2.2 hf.size⟩,fun p hp=>⟨(H.h p hp).1.fr hf (fun _ _ h=>h),(H.h p hp).2⟩,H.d⟩
theorem LS.fr (H:LS w0 F0 w B M E r b0 b1 b3 n C) (hf:Fr (fun _=>False) w w'):LS w0 F0 w' B M E r b0 b1 b3 n C:=
 ⟨H.p.fr hf,H.m.fr hf (fun h=>h),H.c3.fr hf (fun _ _ h=>h),H.n3,H.nr⟩
theorem Tn.out {F F':List Nat} {w w':World} (h:Tn F F' w w') {b:Nat} (hb:b<w.heap.size) (hn:¬b∈F):¬b∈F':=fun hm=>by
 rcases (h.sub b hm).1 with h1|h1
 ·exact hn h1
 ·omega
theorem LS.turn (H:LS w0 F0 w B M E r b0 b1 b3 n C) (hv:OV w' B M' E') (ht:Tn (fl B M E) (fl B M' E') w w'):LS w0 F0 w' B M' E' r b0 b1 b3 n C:=by
 have hb:∀b,b=r∨b=b0∨b=b1→b∉fl B M' E':=fun b hb=>Tn.out ht (H.p.n b hb).2.2 (H.p.n b hb).1
 have h3:=lt_of_heap H.c3
 refine ⟨⟨⟨hv,H.p.v.t.trans ht⟩,H.p.c0.fr ht.fr (fun b hb'=>by simp at hb';subst hb';exact (H.p.n _ (by simp)).1),H.p.c1.fr ht.fr (fun b hb'=>by simp at hb';subst hb';exact (H.p.n _ (by simp)).1),fun b h=>⟨hb b h,(H.p.n b h).2.1,Nat.lt_of_lt_of_le (H.p.n b h).2.2 ht.fr.size⟩,fun p hp=>?_,H.p.d⟩,H.m.fr ht.fr (H.p.n r (by simp)).1,H.c3.fr ht.fr (fun b hb'=>by simp at hb';subst hb';exact H.n3.1),⟨Tn.out ht h3 H.n3.1,H.n3.2⟩,H.nr⟩
 obtain ⟨a1,a2,a3⟩:=H.p.h p hp
 exact ⟨a1.fr ht.fr (fun x hx h=>(a2 x hx).2 h),fun x hx=>⟨(a2 x hx).1,Tn.out ht (a1.lt x hx) (a2 x hx).2⟩,a3⟩
end
structure LX (w0:World) (F0:List Nat) (w:World) (B:Nat) (M:List Nat) (E:Es) (r b0 b1 b3 n:Nat) (C:Es) (b7:Nat) (y:Sn):Prop where
 s:LS w0 F0 w B M E r b0 b1 b3 n C
 x:Bk w b7 y.arr TSn
 n7:b7≠r
structure LXc (w0:World) (F0:List Nat) (w:World) (B:Nat) (M:List Nat) (E:Es) (r b0 b1 b3 n:Nat) (C:Es) (b7:Nat) (y:Sn) (bc:Nat) (Fc:List Nat):Prop extends LX w0 F0 w B M E r b0 b1 b3 n C b7 y where
 h:HB w bc (hget (y.s,y.o) (vL E)) Fc
 f:∀x∈Fc,w0.heap.size≤x∧x∉fl B M E∧(∀p∈C,x∉p.2.F)∧x≠r∧x≠b0∧x≠b1∧x≠b3
section
variable {w0:World} {F0:List Nat} {w w':World} {B:Nat} {M:List Nat} {E:Es} {r b0 b1 b3 n:Nat} {C:Es} {b7:Nat} {y:Sn} {bc:Nat} {Fc:List Nat}
theorem LX.fr (H:LX w0 F0 w B M E r b0 b1 b3 n C b7 y) (hf:Fr (fun _=>False) w w'):LX w0 F0 w' B M E r b0 b1 b3 n C b7 y:=⟨H.s.fr hf,H.x.fr hf (fun _ _ h=>h),H.n7⟩
theorem LX.cop (H:LX w0 F0 w B M E r b0 b1 b3 n C b7 y) (hb:HB w' bc (hget (y.s,y.o) (vL E)) Fc) (hF:∀x∈Fc,w.heap.size≤x∧x<w'.heap.size) (hf:Fr (fun _=>False) w w'):LXc w0 F0 w' B M E r b0 b1 b3 n C b7 y bc Fc:=
 ⟨H.fr hf,hb,fun x hx=>by
  have h1:=(hF x hx).1
  have hs:=H.s.p.v.t.fr.size
  have hr:=(H.s.p.n r (by simp)).2.2;have h0:=(H.s.p.n b0 (by simp)).2.2;have hb1:=(H.s.p.n b1 (by simp)).2.2;have h3:=lt_of_heap H.s.c3
  exact ⟨by omega,fun h=>by have:=H.s.p.v.v.lt x h;omega,fun p hp h=>by have:=(H.s.p.h p hp).1.lt x h;omega,by omega,by omega,by omega,by omega⟩⟩
theorem LXc.upd (H:LXc w0 F0 w B M E r b0 b1 b3 n C b7 y bc Fc) (hv:OpsP.Vok (vL E)) (hy:y.s.size+y.o.size≤1000000) (hk:getL (key (y.s,y.o)) C=none) (hn:n+1<1000000):
  ∃w',(Instr.mapUpdate TMp (.map (some r)) (.string (key (y.s,y.o))) (.pointer (some ⟨bc,0,none⟩))).run prog w=.ok () w'∧LX w0 F0 w' B M E r b0 b1 b3 (n+1) (C++ [(key (y.s,y.o),⟨(y.s,y.o),hget (y.s,y.o) (vL E),bc,Fc⟩)]) b7 y:=by
 have hks:okS (key (y.s,y.o)):=by
  show (key (y.s,y.o)).size≤maxLen
  rw [key_size];unfold maxLen;dsimp only;omega
 obtain ⟨w',hrun,hm,hf⟩:=H.s.m.upd keyS underlying199 hks (.pointer (some ⟨bc,0,none⟩)) (f':=fC (C++ [(key (y.s,y.o),⟨(y.s,y.o),hget (y.s,y.o) (vL E),bc,Fc⟩)]))
  (by unfold fC;rw [getL_snoc,hk];dsimp only;rw [if_pos (sameK_refl _)];rfl) (fun j hj=>by unfold fC;rw [getL_snoc,sameK_ne hj];cases getL j C<;>rfl) hn
 have hflr:∀x∈fl B M E,¬x=r:=fun x hx e=>(H.s.p.n r (by simp)).1 (e▸hx)
 have hvv:=H.s.p.v.v.fr hf hflr
 have hC:∀p∈C++ [(key (y.s,y.o),(⟨(y.s,y.o),hget (y.s,y.o) (vL E),bc,Fc⟩:Bx))],p∈C∨p=(key (y.s,y.o),(⟨(y.s,y.o),hget (y.s,y.o) (vL E),bc,Fc⟩:Bx)):=fun p hp=>by simpa using hp
 have hbc:∀b,b=r∨b=b0∨b=b1∨b=b3→b∉Fc:=fun b hb hm=>by
  obtain ⟨-,-,-,f1,f2,f3,f4⟩:=H.f b hm
  omega
 refine ⟨w',hrun,⟨⟨⟨⟨hvv,⟨H.s.p.v.t.fr.trans hf (fun _ _ h=>h) (fun i hi e=>by have:=H.s.nr.2.2.1;omega),fun x hx=>⟨(H.s.p.v.t.sub x hx).1,hvv.lt x hx⟩⟩⟩,H.s.p.c0.fr hf (fun b hb e=>by simp at hb;exact H.s.nr.1 (by omega)),H.s.p.c1.fr hf (fun b hb e=>by simp at hb;exact H.s.nr.2.1 (by omega)),fun b hb=>⟨(H.s.p.n b hb).1,fun p hp=>?_,Nat.lt_of_lt_of_le (H.s.p.n b hb).2.2 hf.size⟩,fun p hp=>?_,?_⟩,hm,H.s.c3.fr hf (fun b hb e=>by simp at hb;exact H.s.n3.2.2 (by omega)),⟨H.s.n3.1,fun p hp=>?_,H.s.n3.2.2⟩,H.s.nr⟩,H.x.fr hf (fun b hb e=>by simp at hb;exact H.n7 (by omega)),H.n7⟩⟩
 ·rcases hC p hp with hp|rfl
  ·exact (H.s.p.n b hb).2.1 p hp
  ·exact hbc b (by omega)
 ·rcases hC p hp with hp|rfl
  ·obtain ⟨a1,a2,a3⟩:=H.s.p.h p hp
   exact ⟨a1.fr hf (fun x hx e=>(H.s.p.n r (by simp)).2.1 p hp (e▸hx)),a2,a3⟩
  ·exact ⟨H.h.fr hf (fun x hx e=>hbc r (by simp) (e▸hx)),fun x hx=>⟨(H.f x hx).1,(H.f x hx).2.1⟩,hks,hv.wfget _⟩
 ·refine List.pairwise_append.2 ⟨H.s.p.d,List.pairwise_singleton _ _,fun p hp q hq x hx hx'=>?_⟩
  simp at hq;subst hq
  exact (H.f x hx').2.2.1 p hp hx
 ·rcases hC p hp with hp|rfl
  ·exact H.s.n3.2.1 p hp
  ·exact hbc b3 (by simp)
end
theorem lv9 {ops:Array Oper} (hops:Eng.fnOps Tryz.f89 9=ops) (a0:Act) (Q:Exit→Act→World→Prop) (w0:World) (F0:List Nat) (w:World) (B:Nat) (M:List Nat) (E:Es) (r b0 b1 b3 n:Nat) (C:Es) (b7:Nat) (y:Sn) (hvE:OpsP.Vok (vL E)) (hnm:y.s.size+y.o.size≤1000000) (hk:getL (key (y.s,y.o)) C=none) (hln:n+1<1000000) (hst:LX w0 F0 w B M E r b0 b1 b3 n C b7 y)
  (hn:a0.tmps.size=46) (h_2:a0.tmps.getD 2 undef=.pointer (some ⟨b0,0,none⟩)) (h_5:a0.tmps.getD 5 undef=.pointer (some ⟨b3,0,none⟩)) (h_7:a0.tmps.getD 7 undef=.pointer (some ⟨b7,0,none⟩)) (h_8:a0.tmps.getD 8 undef=.string (key (y.s,y.o)))
  (hpost:∀ (x:Nat→Value) (w':World) (bc:Nat) (Fc:List Nat),LX w0 F0 w' B M E r b0 b1 b3 (n+1) (C++ [(key (y.s,y.o),⟨(y.s,y.o),hget (y.s,y.o) (vL E),bc,Fc⟩)]) b7 y→Q .normal (Eng.setAll a0 [32,33,34,35,36,37,38,39,40] x) w'):
  (Code.region 9 ops true).wp prog Q a0 w:=by
 simp only [Eng.fnOps,Eng.regOps,Tryz.f89,Option.bind_some,Option.getD_some,Nat.reduceEqDiff,↓reduceIte] at hops
 subst hops
 have HSt:=Lib.hid (hst.fr (Fr.drew _ _))
 refine Eng.regionT (.take 0 (.take 1 (.take 2 (.take 3 (.take 4 (.take 5 (.take 6 (.alt 7 (.alt 8 (.alt 9 (.done) (.stop)) (.stop)) (.stop))))))))) (fun w'=>w'.cell? ⟨b3,0,none⟩=some (.map (some r))∧w'.cell? ⟨b0,0,none⟩=some (.pointer (some ⟨B,0,none⟩))∧w'.cell? ⟨b7,4,none⟩=some (.string y.s)∧w'.cell? ⟨b7,5,none⟩=some (.string y.o)) (by kernel_rfl) 46 hn (by kernel_rfl) (by kernel_rfl) (by kernel_rfl) (⟨HSt.out.s.c3.cell 0,HSt.out.s.p.c0.cell 0,HSt.out.x.cell 4,HSt.out.x.cell 5⟩) (fun a b ha hb=>?_)
 subst ha
 have hb2:b 2=.pointer (some ⟨b0,0,none⟩):=(hb 2).symm.trans h_2
 have hb5:b 5=.pointer (some ⟨b3,0,none⟩):=(hb 5).symm.trans h_5
 have hb7:b 7=.pointer (some ⟨b7,0,none⟩):=(hb 7).symm.trans h_7
 have hb8:b 8=.string (key (y.s,y.o)):=(hb 8).symm.trans h_8
 clear hb h_2 h_5 h_7 h_8
 have HP:=Lib.hid hpost;have HN:=Lib.hid hn
 clear hpost hn
 iterate 7 (refine Eng.TW.tk ?_)
 refine Eng.TW.call rfl rfl (by decide) (by kernel_rfl) ?_ (hist_f B M E y.s y.o _ HSt.out.s.p.v.v hnm) ?_
 ·go_simp
 rintro e w2 ⟨rfl,hf⟩
 have HSt2:=Lib.hid (HSt.out.fr hf)
 clear hf
 refine ⟨_,rfl,⟨HSt2.out.s.c3.cell 0,HSt2.out.s.p.c0.cell 0,HSt2.out.x.cell 4,HSt2.out.x.cell 5⟩,?_⟩
 refine Eng.TW.call rfl rfl (by decide) (by kernel_rfl) ?_ (copied_any HSt2.out.s.p.v.v hvE (y.s,y.o)) ?_
 ·go_simp
 rintro e w3 ⟨bc,Fc,rfl,hbc,hFc,hf⟩
 have HSt3:=Lib.hid (HSt2.out.cop hbc hFc hf)
 have hSS:w3.cell? ⟨b3,0,none⟩=some (.map (some r))∧w3.cell? ⟨b0,0,none⟩=some (.pointer (some ⟨B,0,none⟩))∧w3.cell? ⟨b7,4,none⟩=some (.string y.s)∧w3.cell? ⟨b7,5,none⟩=some (.string y.o):=⟨HSt3.out.s.c3.cell 0,HSt3.out.s.p.c0.cell 0,HSt3.out.x.cell 4,HSt3.out.x.cell 5⟩
 clear hbc hFc hf
 refine ⟨_,rfl,hSS,?_⟩
 obtain ⟨w9,hup,h9⟩:=HSt3.out.upd hvE hnm hk hln
 refine Eng.TW.step0 rfl rfl (by kernel_rfl) (by go_simp;first|done|with_reducible rfl|exact ⟨rfl,rfl⟩) (⟨(h9).s.c3.cell 0,(h9).s.p.c0.cell 0,(h9).x.cell 4,(h9).x.cell 5⟩) ?_
 have HSt4:=Lib.hid (h9)
 have hSS:(w9).cell? ⟨b3,0,none⟩=some (.map (some r))∧(w9).cell? ⟨b0,0,none⟩=some (.pointer (some ⟨B,0,none⟩))∧(w9).cell? ⟨b7,4,none⟩=some (.string y.s)∧(w9).cell? ⟨b7,5,none⟩=some (.string y.o):=⟨HSt4.out.s.c3.cell 0,HSt4.out.s.p.c0.cell 0,HSt4.out.x.cell 4,HSt4.out.x.cell 5⟩
 refine Eng.TW.end_ [32,33,34,35,36,37,38,39,40] HN.out (by kernel_rfl) (by kernel_rfl) ?_
 exact HP.out _ _ _ _ HSt4.out
section
variable {w0:World} {F0:List Nat} {w w':World} {B:Nat} {M:List Nat} {E:Es} {r b0 b1 b3 n:Nat} {C:Es} {V0 V:Vw}
theorem LS.setOk (H:LS w0 F0 w B M E r b0 b1 b3 n C) (bb:Bool):LP w0 F0 (w.setCell ⟨b1,0,none⟩ (.bool bb)) B M E r b0 b1 bb C∧CM (w.setCell ⟨b1,0,none⟩ (.bool bb)) r n C∧Bk (w.setCell ⟨b1,0,none⟩ (.bool bb)) b3 #[.map (some r)] TMp:=by
 have hf:=Fr.setCell w ⟨b1,0,none⟩ (.bool bb) (S:=(· =b1)) rfl
 obtain ⟨n1,n2,n3,n4,n5,n6⟩:=H.nr
 have hvv:=H.p.v.v.fr hf (fun x hx e=>(H.p.n b1 (by simp)).1 (e▸hx))
 refine ⟨⟨⟨hvv,⟨H.p.v.t.fr.trans hf (fun _ _ h=>h) (fun i hi e=>by omega),fun x hx=>⟨(H.p.v.t.sub x hx).1,hvv.lt x hx⟩⟩⟩,H.p.c0.fr hf (fun b hb e=>by simp at hb;omega),H.p.c1.set 0 _,fun b hb=>⟨(H.p.n b hb).1,(H.p.n b hb).2.1,Nat.lt_of_lt_of_le (H.p.n b hb).2.2 hf.size⟩,fun p hp=>⟨(H.p.h p hp).1.fr hf (fun x hx e=>(H.p.n b1 (by simp)).2.1 p hp (e▸hx)),(H.p.h p hp).2⟩,H.p.d⟩,H.m.fr hf (fun e=>n2 e),H.c3.fr hf (fun b hb e=>by simp at hb;omega)⟩
structure CI (V0 V:Vw) (C:Es):Prop where
 k:∀p∈C,p.1=key p.2.n∧p.2.x=hget p.2.n V0
 i:∀t,getL t C=none→getL t V=getL t V0
 z:∀t,getL t V0=none→getL t V=none
theorem CI.nil (V:Vw):CI V V []:=⟨by simp,fun _ _=>rfl,fun _ h=>h⟩
theorem CI.add (H:CI V0 V C) {k:Nm} (hk:getL (key k) C=none) (b:Nat) (F:List Nat):CI V0 V (C++ [(key k,⟨k,hget k V,b,F⟩)]):=by
 refine ⟨fun p hp=>?_,fun t ht=>H.i t ?_,H.z⟩
 ·rcases List.mem_append.1 hp with hp|hp
  ·exact H.k p hp
  ·simp at hp;subst hp
   refine ⟨rfl,?_⟩
   show hget k V=hget k V0
   unfold hget;rw [H.i _ hk]
 ·rw [getL_snoc] at ht
  cases h:getL t C with
  |none=>rfl
  |some u=>rw [h] at ht;cases ht
theorem CI.drop (H:CI V0 V C) {x:Sn} (hk:getL (key (x.s,x.o)) C≠none) (hok:okD x.d (hget (x.s,x.o) V)=true):CI V0 (dropV V (rc x)) C:=by
 refine ⟨H.k,fun t ht=>?_,fun t ht=>get_dropV (r:=rc x) hok (H.z t ht)⟩
 have hne:t≠key (x.s,x.o):=fun e=>hk (e▸ht)
 unfold dropV
 rw [get_set,show sameK t (key (rc x).1)=false from sameK_ne hne,if_neg (by simp)]
 exact H.i t ht
theorem CI.back (H:CI V0 V C) (hv:OpsP.Vok V0) (t:ByteArray):mixV C (fun _=>false) V t=getL t V0:=by
 unfold mixV
 cases hg:getL t C with
 |none=>exact H.i t hg
 |some e=>
  obtain ⟨h1,h2⟩:=H.k _ (getL_mem hg)
  dsimp only at h1 h2 ⊢
  cases hz:(sumL e.x.1==0) with
  |true=>
   have h0:sumL (hget e.n V0).1=0:=by rw [←h2];simpa using hz
   have h3:=(hv.none_iff e.n).1 h0
   rw [←h1] at h3
   rw [h3]
   exact H.z t h3
  |false=>
   have h0:sumL (hget e.n V0).1≠0:=by rw [←h2];simpa using hz
   have h3:=hv.get_of h0
   rw [h1,h3]
   show some (e.n,e.x)=_
   rw [h2]
theorem leaveV_len:∀ {l:List (Nm × Int)} {V V':Vw},OpsP.Vok V→(∀r∈l,nzN r.1)→leaveV l V=some V'→V'.length≤V.length
 | [],V,V',h,_,e=>by simp [leaveV] at e;rw [e];exact Nat.le_refl _
 |r::l,V,V',h,hn,e=>by
  rw [leaveV] at e
  split at e
  ·rename_i hk
   exact Nat.le_trans (leaveV_len (h.dropV (hn r (by simp))) (fun q hq=>hn q (by simp [hq])) e) (dropV_len h hk)
  ·cases e
theorem OV.srtV (H:OV w B M E):Srt (vL E):=srt_map.2 H.srt
end
def LeavePost (B:Nat) (M:List Nat) (E:Es) (L:List Sn) (w:World) (e:Ending) (w':World):Prop:=
 ∃b M' E',e=.returned (.bool b)∧OV w' B M' E'∧Tn (fl B M E) (fl B M' E') w w'∧((b=true∧leaveV (L.map rc) (vL E)=some (vL E'))∨(b=false∧leaveV (L.map rc) (vL E)=none∧vL E'=vL E))
theorem leave (B:Nat) (M:List Nat) (E:Es) (A:Option Addr) (c:Nat) (L:List Sn) (w:World) (H:OV w B M E) (hv:OpsP.Vok (vL E)) (hL:Ls w A c L) (hap:∀a,A=some a→L≠ []→a.block∉fl B M E) (hn:∀x∈L,nmN x) (lE:E.length≤1000000) (lL:L.length≤100000):
  Calls prog 89 #[.pointer (some ⟨B,0,none⟩),.slice A L.length c] w (LeavePost B M E L w):=by
 have hmf:∀ (fn:Fn) (first cap:Array Value) (w:World),(Instr.makeFunc fn first cap).run prog w=.ok (.func fn first cap) w:=fun _ _ _ _=>rfl
 have hmm:=@run_makeMap prog
 have HV:=Lib.hid hv;have HAp:=Lib.hid hap;have HLs:=Lib.hid hL;have HNm:=Lib.hid hn
 have HLc:Hid (∀x∈L.map rc,nzN x.1):=fun x hx=>by obtain ⟨z,hz,rfl⟩:=List.mem_map.1 hx;exact (hn z hz).2
 have fa:=fun (w:World) (o:Obj)=>Fr.alloc (fun _=>False) w o
 have ft:∀ {a b c:World},Fr (fun _=>False) a b→Fr (fun _=>False) b c→Fr (fun _=>False) a c:=fun h k=>h.trans k (fun _ _ h=>h) (fun _ _ h=>h)
 have hS0:LS w (fl B M E) ((((w.alloc (.cells #[.pointer (some ⟨B,0,none⟩)] TPV)).alloc (.cells #[.bool false] TBo)).alloc (.map #[] 0)).alloc (.cells #[.map (some (w.heap.size+1+1))] TMp)) B M E (w.heap.size+1+1) w.heap.size (w.heap.size+1) (w.heap.size+1+1+1) 0 []:=by
  have k0:=(((Bk.new w #[.pointer (some ⟨B,0,none⟩)] TPV).fr (fa _ (.cells #[.bool false] TBo)) (fun _ _ h=>h)).fr (fa _ (.map #[] 0)) (fun _ _ h=>h)).fr (fa _ (.cells #[.map (some (w.heap.size+1+1))] TMp)) (fun _ _ h=>h)
  have k1:=((Bk.new (w.alloc (.cells #[.pointer (some ⟨B,0,none⟩)] TPV)) #[.bool false] TBo).fr (fa _ (.map #[] 0)) (fun _ _ h=>h)).fr (fa _ (.cells #[.map (some (w.heap.size+1+1))] TMp)) (fun _ _ h=>h)
  have k2:=(Mk.PM.new (tk:=TSt) (kv:=Value.string) (ok:=okS) ((w.alloc (.cells #[.pointer (some ⟨B,0,none⟩)] TPV)).alloc (.cells #[.bool false] TBo))).fr (fa _ (.cells #[.map (some (w.heap.size+1+1))] TMp)) (fun h=>h)
  have k3:=Bk.new (((w.alloc (.cells #[.pointer (some ⟨B,0,none⟩)] TPV)).alloc (.cells #[.bool false] TBo)).alloc (.map #[] 0)) #[.map (some (w.heap.size+1+1))] TMp
  simp only [World.size_alloc] at k1 k2 k3
  have hlt:=H.lt
  refine ⟨⟨H.ot.fr (ft (ft (ft (fa _ _) (fa _ _)) (fa _ _)) (fa _ _)),k0,k1,fun b hb=>⟨fun h=>by have:=hlt b h;omega,by simp,by simp only [World.size_alloc];omega⟩,by simp,List.Pairwise.nil⟩,k2.to (fun _ _=>rfl),k3,⟨fun h=>by have:=hlt _ h;omega,by simp,by omega⟩,by omega,by omega,by omega,by omega,by omega,by omega⟩
 have HS0:=Lib.hid hS0
 clear hS0 fa ft H hv hap hL hn
 go_enter_defers func89,ntmps89
 go_wp2_with fail
 generalize ((((w.alloc (.cells #[.pointer (some ⟨B,0,none⟩)] TPV)).alloc (.cells #[.bool false] TBo)).alloc (.map #[] 0)).alloc (.cells #[.map (some (w.heap.size+1+1))] TMp))=w1 at *
 go_loopg [15] L.length (fun gk i wr=>∃ (k:Nat) (M':List Nat) (E' C:Es) (n:Nat),i=.int .i64 k∧k≤L.length∧gk=L.length-k∧n≤k∧LS w (fl B M E) wr B M' E' (w.heap.size+1+1) w.heap.size (w.heap.size+1) (w.heap.size+1+1+1) n C∧CI (vL E) (vL E') C∧leaveV ((L.map rc).take k) (vL E)=some (vL E'))
 case atStart=>exact ⟨0,M,E,[],0,rfl,Nat.zero_le _,rfl,Nat.le_refl _,HS0.out,CI.nil _,by simp [leaveV]⟩
 case round=>
  obtain ⟨k,M',E',C,n,rfl,hk,hg,hnk,hS,hCI,hlv⟩:=hrel
  have HG:=Lib.hid hg;have HS:=Lib.hid hS;have HCi:=Lib.hid hCI;have HLv:=Lib.hid hlv;have HNk:=Lib.hid hnk
  have HVk:=Lib.hid (HV.out.leave (fun r hr=>HLc.out r (List.mem_of_mem_take hr)) hlv)
  have HLe:Hid (E'.length≤1000000):=by
   have:=leaveV_len HV.out (fun r hr=>HLc.out r (List.mem_of_mem_take hr)) hlv
   simp only [List.length_map] at this
   exact Nat.le_trans this lE
  clear hg hS hCI hlv HS0 hnk
  by_cases hlt:k<L.length
  ·have hOne:L≠ []:=fun e=>by rw [e] at hlt;simp at hlt
   have HO:=Lib.hid (keepV HLs.out HS.out.p.v.t.fr HAp.out)
   obtain ⟨a1,o1,rfl,hb1,c1'⟩:=HO.out.s.at hlt (by omega)
   have HA:=Lib.hid (At.row c1' hlt)
   have HNy:=Lib.hid (HNm.out _ (List.getElem_mem hlt))
   have HSno:Hid (∀b,okD L[k].d (hget (L[k].s,L[k].o) (vL E'))=b→(b=true→leaveV ((L.map rc).take (k+1)) (vL E)=some (dropV (vL E') (rc L[k])))∧(b=false→leaveV (L.map rc) (vL E)=none)):=fun b hb=>by
    have hk2:k<(L.map rc).length:=by simpa using hlt
    have e1:(L.map rc)[k]=rc L[k]:=by simp
    refine ⟨fun h=>?_,fun h=>?_⟩
    ·rw [leaveV_snoc hk2 HLv.out,e1]
     rw [if_pos (by rw [←h];exact hb)]
    ·exact leaveV_no hk2 HLv.out (by rw [e1,←h];exact hb)
   clear c1' hb1
   generalize L[k]=y at *
   have q2:decide ((k:Int)<(L.length:Int))=true:=by simp;omega
   have hcap:=HO.out.s.2.1
   obtain ⟨yc0,yc1,yc2,yc3,yc4,yc5,yc6,yc7,yc8⟩:=SetW.at9 HA.out
   go_upto_region 6 with (fail)
   have hfa:=Fr.alloc (fun _=>False) wr (.cells y.arr TSn)
   have HX0:=Lib.hid (⟨HS.out.fr hfa,Bk.new wr y.arr TSn,by have:=(HS.out.p.n (w.heap.size+1+1) (by simp)).2.2;omega⟩:LX w (fl B M E) (wr.alloc (.cells y.arr TSn)) B M' E' (w.heap.size+1+1) w.heap.size (w.heap.size+1) (w.heap.size+1+1+1) n C wr.heap.size y)
   clear hfa HA HO HS yc0 yc1 yc2 yc3 yc4 yc5 yc6 yc7 yc8
   generalize (wr.alloc (.cells y.arr TSn))=w4 at *
   generalize wr.heap.size=By at *
   have yc4:w4.cell? ⟨By,4,none⟩=some (.string y.s):=HX0.out.x.cell 4
   have yc5:w4.cell? ⟨By,5,none⟩=some (.string y.o):=HX0.out.x.cell 5
   have e3:w4.cell? ⟨w.heap.size+1+1+1,0,none⟩=some (.map (some (w.heap.size+1+1))):=HX0.out.s.c3.cell 0
   have hks:okS (key (y.s,y.o)):=by
    show (key (y.s,y.o)).size≤maxLen
    rw [key_size];have:=HNy.out.1;unfold maxLen;dsimp only;omega
   have hlk:=HX0.out.s.m.look_ok keyS underlying199 (zv:=.pointer none) (fun W=>by kernel_rfl) hks
   have HVE:=Lib.hid HVk.out
   have HKy:=Lib.hid (fun W=>key_ y.s y.o W HNy.out.1)
   cases hc:getL (key (y.s,y.o)) C with
   |none=>
    unfold fC at hlk
    rw [hc] at hlk
    go_wp2_with fail
    refine (HKy.out _).mono ?_
    rintro e w9 ⟨rfl,rfl⟩
    go_upto_region 9 with (fail)
    refine lv9 (by kernel_rfl) _ _ w (fl B M E) _ B M' E' _ _ _ _ n C By y HVk.out HNy.out.1 hc (by have:=HNk.out;omega) HX0.out rfl rfl rfl rfl rfl ?_
    intro xx w5 bc Fc hX
    simp only [Eng.setAll,Act.put,List.setIfInBounds_toArray,List.set_cons_succ,List.set_cons_zero]
    have HX:=Lib.hid hX
    have HCI:=Lib.hid (HCi.out.add hc bc Fc)
    have HHas:Hid (getL (key (y.s,y.o)) (C++ [(key (y.s,y.o),(⟨(y.s,y.o),hget (y.s,y.o) (vL E'),bc,Fc⟩:Bx))])≠none):=by
     show _≠_
     rw [getL_snoc,hc];simp [sameK_refl]
    have HN2:Hid (n+1≤k+1):=Nat.succ_le_succ HNk.out
    clear hX HCi hc hlk HX0 yc4 yc5 e3 hks
    generalize n+1=n2 at *
    generalize C++ [(key (y.s,y.o),(⟨(y.s,y.o),hget (y.s,y.o) (vL E'),bc,Fc⟩:Bx))]=C2 at *
    have yc0:w5.cell? ⟨By,0,none⟩=some (.int .i64 y.t):=HX.out.x.cell 0
    have yc1:w5.cell? ⟨By,1,none⟩=some (.int .i64 y.i):=HX.out.x.cell 1
    have yc2:w5.cell? ⟨By,2,none⟩=some (.int .i64 y.p):=HX.out.x.cell 2
    have yc3:w5.cell? ⟨By,3,none⟩=some (.int .i64 y.r):=HX.out.x.cell 3
    have yc4:w5.cell? ⟨By,4,none⟩=some (.string y.s):=HX.out.x.cell 4
    have yc5:w5.cell? ⟨By,5,none⟩=some (.string y.o):=HX.out.x.cell 5
    have yc6:w5.cell? ⟨By,6,none⟩=some (.int .i64 y.b):=HX.out.x.cell 6
    have yc7:w5.cell? ⟨By,7,none⟩=some (.int .i64 y.d):=HX.out.x.cell 7
    have yc8:w5.cell? ⟨By,8,none⟩=some (.bool y.g):=HX.out.x.cell 8
    have c0:w5.cell? ⟨w.heap.size,0,none⟩=some (.pointer (some ⟨B,0,none⟩)):=HX.out.s.p.c0.cell 0
    go_wp2_with fail
    refine (drop B M' E' y w5 HX.out.s.p.v.v HVk.out HNy.out (by have:=HLe.out;omega)).mono ?_
    rintro e w6 ⟨b,hb,rfl,M2,E2,hv2,hvl,hlen2,ht2⟩
    have HS6:=Lib.hid (HX.out.s.turn hv2 ht2)
    have HB:=Lib.hid hb;have HVl:=Lib.hid hvl
    clear yc0 yc1 yc2 yc3 yc4 yc5 yc6 yc7 yc8 c0 hb hvl hv2 hlen2 ht2
    have HSn:=Lib.hid (HSno.out b HB.out)
    clear HX HSno
    cases b with
    |false=>
     have HVl2:Hid (vL E2=vL E'):=by show _=_;rw [HVl.out];rfl
     have c1:w6.cell? ⟨w.heap.size+1,0,none⟩=some (.bool false):=HS6.out.p.c1.cell 0
     have f1:w6.frozen? ⟨w.heap.size+1,0,none⟩=false:=HS6.out.p.c1.free 0
     have HS7:=Lib.hid (HS6.out.setOk false)
     clear HVl HS6
     go_wp2_with fail
     refine leaves_cons (f:=149) (args:= #[.pointer (some ⟨w.heap.size+1+1+1,0,none⟩),.pointer (some ⟨w.heap.size+1,0,none⟩),.pointer (some ⟨w.heap.size,0,none⟩)]) (by simp) (by simp [go_sem]) ?_
     refine (deferred_no w (fl B M E) _ B M2 E2 (w.heap.size+1+1) n2 w.heap.size (w.heap.size+1) (w.heap.size+1+1+1) C2 .returning HS7.out.2.2 HS7.out.1 HS7.out.2.1 (by have h2:=congrArg List.length HVl2.out;simp only [List.length_map] at h2;have:=HLe.out;have:=HN2.out;omega)).mono ?_
     rintro e u' w8 ⟨rfl,rfl,M3,E3,hv3,hrel,hbk⟩
     have cc:w8.cell? ⟨w.heap.size+1,0,none⟩=some (.bool false):=hbk.cell 0
     have hE3:vL E3=vL E:=srt_ext hv3.v.srtV HV.out.srt (fun t=>by rw [hrel,HVl2.out];exact HCI.out.back HV.out t)
     simp [Leaves,settle,results,Tryz.results89,go_sem,cc]
     exact ⟨false,M3,E3,rfl,hv3.v,hv3.t,.inr ⟨rfl,HSn.out.2 (by trivial),hE3⟩⟩
    |true=>
     have HCI2:=Lib.hid (HCI.out.drop HHas.out HB.out)
     have HVl2:Hid (vL E2=dropV (vL E') (rc y)):=by show _=_;rw [HVl.out];rfl
     clear HVl
     go_wp2_with fail
     go_roundg (L.length-(k+1))
     case rel=>exact ⟨k+1,M2,E2,C2,n2,by go_num,by omega,rfl,HN2.out,HS6.out,by rw [HVl2.out];exact HCI2.out,by rw [HVl2.out];exact HSn.out.1 (by trivial)⟩
     case measure=>have:=HG.out;omega
   |some uu=>
    unfold fC at hlk
    rw [hc] at hlk
    go_wp2_with fail
    refine (HKy.out _).mono ?_
    rintro e w5 ⟨rfl,rfl⟩
    have HX:=HX0
    have HCI:=HCi
    have HHas:Hid (getL (key (y.s,y.o)) C≠none):=by show _≠_;rw [hc];simp
    have HN2:Hid (n≤k+1):=Nat.le_succ_of_le HNk.out
    clear hc yc4 yc5 hks HCi HX0
    have yc0:w5.cell? ⟨By,0,none⟩=some (.int .i64 y.t):=HX.out.x.cell 0
    have yc1:w5.cell? ⟨By,1,none⟩=some (.int .i64 y.i):=HX.out.x.cell 1
    have yc2:w5.cell? ⟨By,2,none⟩=some (.int .i64 y.p):=HX.out.x.cell 2
    have yc3:w5.cell? ⟨By,3,none⟩=some (.int .i64 y.r):=HX.out.x.cell 3
    have yc4:w5.cell? ⟨By,4,none⟩=some (.string y.s):=HX.out.x.cell 4
    have yc5:w5.cell? ⟨By,5,none⟩=some (.string y.o):=HX.out.x.cell 5
    have yc6:w5.cell? ⟨By,6,none⟩=some (.int .i64 y.b):=HX.out.x.cell 6
    have yc7:w5.cell? ⟨By,7,none⟩=some (.int .i64 y.d):=HX.out.x.cell 7
    have yc8:w5.cell? ⟨By,8,none⟩=some (.bool y.g):=HX.out.x.cell 8
    have c0:w5.cell? ⟨w.heap.size,0,none⟩=some (.pointer (some ⟨B,0,none⟩)):=HX.out.s.p.c0.cell 0
    go_wp2_with fail
    refine (drop B M' E' y w5 HX.out.s.p.v.v HVk.out HNy.out (by have:=HLe.out;omega)).mono ?_
    rintro e w6 ⟨b,hb,rfl,M2,E2,hv2,hvl,hlen,ht2⟩
    have HS6:=Lib.hid (HX.out.s.turn hv2 ht2)
    have HB:=Lib.hid hb;have HVl:=Lib.hid hvl
    clear yc0 yc1 yc2 yc3 yc4 yc5 yc6 yc7 yc8 c0 hb hvl hv2 hlen ht2
    have HSn:=Lib.hid (HSno.out b HB.out)
    clear HX HSno
    cases b with
    |false=>
     have HVl2:Hid (vL E2=vL E'):=by show _=_;rw [HVl.out];rfl
     have c1:w6.cell? ⟨w.heap.size+1,0,none⟩=some (.bool false):=HS6.out.p.c1.cell 0
     have f1:w6.frozen? ⟨w.heap.size+1,0,none⟩=false:=HS6.out.p.c1.free 0
     have HS7:=Lib.hid (HS6.out.setOk false)
     clear HVl HS6
     go_wp2_with fail
     refine leaves_cons (f:=149) (args:= #[.pointer (some ⟨w.heap.size+1+1+1,0,none⟩),.pointer (some ⟨w.heap.size+1,0,none⟩),.pointer (some ⟨w.heap.size,0,none⟩)]) (by simp) (by simp [go_sem]) ?_
     refine (deferred_no w (fl B M E) _ B M2 E2 (w.heap.size+1+1) n w.heap.size (w.heap.size+1) (w.heap.size+1+1+1) C .returning HS7.out.2.2 HS7.out.1 HS7.out.2.1 (by have h2:=congrArg List.length HVl2.out;simp only [List.length_map] at h2;have:=HLe.out;have:=HN2.out;omega)).mono ?_
     rintro e u' w8 ⟨rfl,rfl,M3,E3,hv3,hrel,hbk⟩
     have cc:w8.cell? ⟨w.heap.size+1,0,none⟩=some (.bool false):=hbk.cell 0
     have hE3:vL E3=vL E:=srt_ext hv3.v.srtV HV.out.srt (fun t=>by rw [hrel,HVl2.out];exact HCI.out.back HV.out t)
     simp [Leaves,settle,results,Tryz.results89,go_sem,cc]
     exact ⟨false,M3,E3,rfl,hv3.v,hv3.t,.inr ⟨rfl,HSn.out.2 (by trivial),hE3⟩⟩
    |true=>
     have HCI2:=Lib.hid (HCI.out.drop HHas.out HB.out)
     have HVl2:Hid (vL E2=dropV (vL E') (rc y)):=by show _=_;rw [HVl.out];rfl
     clear HVl
     go_wp2_with fail
     go_roundg (L.length-(k+1))
     case rel=>exact ⟨k+1,M2,E2,C,n,by go_num,by omega,rfl,HN2.out,HS6.out,by rw [HVl2.out];exact HCI2.out,by rw [HVl2.out];exact HSn.out.1 (by trivial)⟩
     case measure=>have:=HG.out;omega
  ·obtain rfl:k=L.length:=by omega
   have q2:decide ((L.length:Int)<(L.length:Int))=false:=by simp
   have c1:wr.cell? ⟨w.heap.size+1,0,none⟩=some (.bool false):=HS.out.p.c1.cell 0
   have f1:wr.frozen? ⟨w.heap.size+1,0,none⟩=false:=HS.out.p.c1.free 0
   have HS7:=Lib.hid (HS.out.setOk true)
   clear HS
   go_wp2_with fail
   refine leaves_cons (f:=149) (args:= #[.pointer (some ⟨w.heap.size+1+1+1,0,none⟩),.pointer (some ⟨w.heap.size+1,0,none⟩),.pointer (some ⟨w.heap.size,0,none⟩)]) (by simp) (by simp [go_sem]) ?_
   refine (deferred_ok _ (w.heap.size+1+1) n w.heap.size (w.heap.size+1) (w.heap.size+1+1+1) C .returning HS7.out.1.c1 HS7.out.2.2 HS7.out.2.1).mono ?_
   rintro e u' w8 ⟨rfl,rfl,hf⟩
   have cc:w8.cell? ⟨w.heap.size+1,0,none⟩=some (.bool true):=(HS7.out.1.c1.fr hf (fun _ _ h=>h)).cell 0
   have HT:=Lib.hid (HS7.out.1.v.fr hf)
   have hfin:=HLv.out
   rw [List.take_of_length_le (by simp)] at hfin
   simp [Leaves,settle,results,Tryz.results89,go_sem,cc]
   exact ⟨true,M',E',rfl,HT.out.v,HT.out.t,.inl ⟨rfl,hfin⟩⟩
end Ops
end Go.Proofs.YtdpngmgaomghoaaGreat
