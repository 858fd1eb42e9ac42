/- Spans come and go: the program's. -/
import Derived.Test.YtgfjpnpbkkadpaaGreatDrd4
import Derived.Test.YtgfjpnpbkkadpaaGreatAvlQSI
namespace Go.Proofs.YtgfjpnpbkkadpaaGreat
open Tryz
set_option maxRecDepth 100000
set_option maxHeartbeats 16000000
open Go.RowKit
namespace Wrk
open KeyP PackP SetP SetW SetF Sli Delta KidsP Cls KdO Fst Drd
attribute [local go_sem] Eng.ev Eng.getO_cons Eng.getO_nil Oper.semAt_some
theorem results_row_tmp2 {P:Program} {fn:Func} {p u v:Tmp} {ty:TypeId} (h:fn.results= #[.cell p ty,.tmp u,.tmp v]) (tmps:Array Value) (w:World) (g:Nat) (t:TypeId) (cs:Array Value) (fr:Nat × Nat) (d:TypeDesc)
  (hp:tmps.getD p undef=.pointer (some ⟨g,0,none⟩)) (hg:w.heap[g]? =some (.cells cs t fr))
  (hu:P.underlying ty=some d) (hd:(match d with| .struct _| .array _ _=>true|_=>false)=true) (hi:(P.info? ty).map (·.size)=some cs.size):
  (results fn tmps).run P w=.ok (.tuple #[.agg cs,tmps.getD u undef,tmps.getD v undef]) w:=by
 have hp':tmps[p]?.getD undef=.pointer (some ⟨g,0,none⟩):=by simpa using hp
 simp [results,h,hp',asAddr,run_loadVar_row w g t ty cs fr d hg hu hd hi]
theorem _root_.Go.Proofs.YtgfjpnpbkkadpaaGreat.Fst.FB.rel {w:World} {B:Nat} {L:List Sn} {M:Pl} {F:List Nat} (h:FB w B L M F):Srs L∧(∀x∈L,gd x)∧(∀x∈L,bare x)∧Srt M:=by
 obtain ⟨rp,G1,FP,h1,h2,-,rfl⟩:=h
 obtain ⟨a1,a2,a3⟩:=h1.rel
 exact ⟨a1,a2,a3,h2.srt⟩
theorem two_lv (w:World) (x y:Lv):Sl (w.alloc (.cells #[.slice x.A x.L.length x.c,.slice y.A y.L.length y.c] TSs)) 1 (some ⟨w.heap.size,0,none⟩) 2 2 ([x,y].flatMap lvc):=by
 refine ⟨rfl,Nat.le_refl _,by simp [maxLen],by simp,fun _=>⟨_,_,rfl,fun i u hu=>?_⟩⟩
 rw [Nat.zero_add,cell_of_block (heap_new _ _)]
 simpa using hu
theorem right_srs {O I:List Sn} (h:rightB O I=true):Srs O∧Srs I:=by
 unfold rightB at h
 rw [Bool.and_eq_true,Bool.and_eq_true] at h
 obtain ⟨h1,h2,-⟩:=h
 unfold isB at h1 h2
 rw [decide_eq_true_eq] at h1 h2
 exact ⟨h1▸(setOf_ok O).srs,h2▸(setOf_ok I).srs⟩
def AyPost (w:World) (B:Nat) (L O I:List Sn) (F0:List Nat) (e:Ending) (w':World):Prop:=
 (dmay L O I=0→∃A1 c1 A2 c2 n F',e=.returned (.tuple #[.agg #[.slice A1 (mvd L (next L O I)).length c1,.slice A2 (mvd (next L O I) L).length c2],.int .i64 n,.int .i64 0])∧
  w'.ownsRow w.heap.size TPl 6 (.slice A1 (mvd L (next L O I)).length c1) (mvd L (next L O I)).length (pcs (mvd L (next L O I)))∧w'.ownsRow w.heap.size TPl 6 (.slice A2 (mvd (next L O I) L).length c2) (mvd (next L O I) L).length (pcs (mvd (next L O I) L))∧
  FB w' B (next L O I) (pm (next L O I)) F'∧Tn F0 F' w w'∧(∀b,(Value.slice A1 (mvd L (next L O I)).length c1).ownBlock=some b→b∉F')∧(∀b,(Value.slice A2 (mvd (next L O I) L).length c2).ownBlock=some b→b∉F')∧0≤n∧n≤((4*(siz L (O++I)+siz (next L O I) (O++I)):Nat):Int))∧
 (dmay L O I≠0→e=.returned (.tuple #[.agg zSh,.int .i64 0,.int .i64 (dmay L O I)])∧Below w.heap.size w w')
section
variable {w A C:World} {W B:Nat} {F0:List Nat} {L:List Sn} {M WE:Pl} {LO:Ll} {n:Int} {F:List Nat} {d:Dl} {Ab:Option Addr} {cb:Nat} {G:List Sn}
theorem AP.own {S:Nat→Prop} (h:AP w A W B F0 L M WE LO n F d Ab cb G) (hf:Fr S A C) {lo:Nat} (hS:∀b,S b→lo≤b) (hF:∀b∈F,¬S b) (h1:W+1<lo) (h2:∀a,Ab=some a→a.block<lo):AP w C W B F0 L M WE LO n F d Ab cb G:=by
 have hz:=h.wz
 exact ⟨h.f.fr hf hF,tn_own h.t hf (fun b hb=>by have:=hS b hb;omega),h.b2.fr hf (fun b hb e=>by simp at hb;have:=hS b e;omega),h.b3.fr hf (fun b hb e=>by simp at hb;have:=hS b e;omega),h.b4.fr hf (fun b hb e=>by simp at hb;have:=hS b e;omega),h.b9.fr hf (fun b hb e=>by simp at hb;have:=hS b e;omega),
  h.bb.fr hf (fun a ha e=>by have:=hS _ e;have:=h2 a ha;omega),h.n2,h.n3,h.n4,h.n9,fun a ha=>⟨(h.nb a ha).1,Nat.lt_of_lt_of_le (h.nb a ha).2 hf.size⟩,hz⟩
theorem rounds {lo:Nat} {Ff Ff' F2:List Nat} (ht:Tn (W::Ff) (W::Ff') A C) (hr:∀x∈W::Ff,¬Rg lo (lo+2) x) (hz:lo+2≤A.heap.size) (h2:∀x∈F2,x∉W::Ff∧x<A.heap.size):KeptR lo (lo+2) A C∧A.heap.size≤C.heap.size∧KeptL F2 A C∧∀x∈W::Ff',¬Rg lo (lo+2) x:=by
 refine ⟨KeptR.of_fr ht.fr hz (fun b hb e=>hr b e hb),ht.fr.size,KeptL.of_fr ht.fr (fun b hb=>⟨(h2 b hb).2,(h2 b hb).1⟩),fun x hx e=>?_⟩
 rcases (ht.sub x hx).1 with q|q
 ·exact hr x q e
 ·have:=e.2;omega
end
theorem Apply {B:Nat} {L O I:List Sn} {A1 A2:Option Addr} {k1 k2:Nat} {F0:List Nat} (w:World) (h:FB w B L (pm L) F0) (hd:RdD w ⟨A1,k1,O,A2,k2,I⟩) (ha:ApD ⟨A1,k1,O,A2,k2,I⟩ F0) (sl:L.length≤20000) (so:O.length≤10000) (si:I.length≤10000):
  Calls prog 31 #[.pointer (some ⟨B,0,none⟩),.agg #[.slice A1 O.length k1,.slice A2 I.length k2]] w (AyPost w B L O I F0):=by
 have fa:=fun (w:World) (o:Obj)=>Fr.alloc (fun _=>False) w o
 have nn:∀G:List Nat,∀b∈G,¬False:=fun _ _ _ h=>h
 have tr:∀ {a b c:World},Fr (fun _=>False) a b→Fr (fun _=>False) b c→Fr (fun _=>False) a c:=fun h k=>h.trans k (fun _ _ h=>h) (fun _ _ h=>h)
 have hf0:Fr (fun _=>False) w (((w.alloc (.cells #[.pointer (some ⟨B,0,none⟩)] TFo)).alloc (.cells #[.slice A1 O.length k1,.slice A2 I.length k2] TDl)).alloc (.cells #[.slice none 0 0,.slice none 0 0] TSh)):=tr (tr (fa _ _) (fa _ _)) (fa _ _)
 have b2:Bk (((w.alloc (.cells #[.pointer (some ⟨B,0,none⟩)] TFo)).alloc (.cells #[.slice A1 O.length k1,.slice A2 I.length k2] TDl)).alloc (.cells #[.slice none 0 0,.slice none 0 0] TSh)) w.heap.size #[.pointer (some ⟨B,0,none⟩)] TFo:=((Bk.new w _ _).fr (fa _ _) (nn _)).fr (fa _ _) (nn _)
 have b3:Bk (((w.alloc (.cells #[.pointer (some ⟨B,0,none⟩)] TFo)).alloc (.cells #[.slice A1 O.length k1,.slice A2 I.length k2] TDl)).alloc (.cells #[.slice none 0 0,.slice none 0 0] TSh)) (w.heap.size+1) #[.slice A1 O.length k1,.slice A2 I.length k2] TDl:=by
  have:=(Bk.new (w.alloc (.cells #[.pointer (some ⟨B,0,none⟩)] TFo)) #[.slice A1 O.length k1,.slice A2 I.length k2] TDl).fr (fa _ (.cells #[.slice none 0 0,.slice none 0 0] TSh)) (nn _)
  simpa using this
 have b4:Bk (((w.alloc (.cells #[.pointer (some ⟨B,0,none⟩)] TFo)).alloc (.cells #[.slice A1 O.length k1,.slice A2 I.length k2] TDl)).alloc (.cells #[.slice none 0 0,.slice none 0 0] TSh)) (w.heap.size+2) #[.slice none 0 0,.slice none 0 0] TSh:=by
  have:=Bk.new ((w.alloc (.cells #[.pointer (some ⟨B,0,none⟩)] TFo)).alloc (.cells #[.slice A1 O.length k1,.slice A2 I.length k2] TDl)) #[.slice none 0 0,.slice none 0 0] TSh
  simpa using this
 have HB:=Lib.hid (hf0.below (Nat.le_refl _) (fun _ _ h=>h))
 have HF:=Lib.hid (h.fr hf0 (nn _))
 have HD:=Lib.hid (hd.keep hf0)
 have B2:=Lib.hid b2;have B3:=Lib.hid b3;have B4:=Lib.hid b4
 have HLt:=Lib.hid h.lt;have HAp:=Lib.hid ha;have HD0:=Lib.hid hd
 have HRl:=Lib.hid h.rel
 clear h hd ha fa b2 b3 b4 hf0 nn
 refine (callsIn_wide (n:=3)).1 ?_
 refine callsIn_of_wp_marks func31 rfl trivial ?_ rfl
 simp only [ntmps31,List.size_toArray,List.length_cons,List.length_nil,Nat.reduceAdd,Nat.reduceSub,Array.replicate_succ,Array.replicate_zero,List.push_toArray,List.append_toArray,List.nil_append,List.cons_append]
 refine wpIn_wide.2 ?_
 go_upto_region 1 with (fail)
 generalize (((w.alloc (.cells #[.pointer (some ⟨B,0,none⟩)] TFo)).alloc (.cells #[.slice A1 O.length k1,.slice A2 I.length k2] TDl)).alloc (.cells #[.slice none 0 0,.slice none 0 0] TSh))=w1 at *
 have c2:=B2.out.cell 0;have z0:=B3.out.cell 0;have z1:=B3.out.cell 1
 simp only [List.getElem?_toArray,List.getElem?_cons_zero,List.getElem?_cons_succ] at c2 z0 z1
 go_wp2_with fail
 refine (may B L (pm L) F0 ⟨A1,k1,O,A2,k2,I⟩ w1 HF.out HD.out (by show O.length≤_;omega) (by show I.length≤_;omega)).mono ?_
 rintro e w2 ⟨rfl,hb⟩
 dsimp only
 have hf:=Fr.of_below' hb (fun _=>False)
 replace HB:=Lib.hid (HB.out.trans (hb.mono HB.out.size));replace HF:=Lib.hid (HF.out.fr hf (fun _ _ h=>h));replace HD:=Lib.hid (HD.out.keep hf)
 replace B2:=Lib.hid (B2.out.fr hf (fun _ _ h=>h));replace B3:=Lib.hid (B3.out.fr hf (fun _ _ h=>h));replace B4:=Lib.hid (B4.out.fr hf (fun _ _ h=>h))
 clear hb hf c2 z0 z1
 have hsh:=buildSh
 by_cases h0:dmay L O I=0
 rotate_left
 ·have q0:(dmay L O I != 0)=true:=by simp [h0]
  have o0:=B4.out.cell 0;have o1:=B4.out.cell 1;have f0:=B4.out.free 0;have f1:=B4.out.free 1
  simp only [List.getElem?_toArray,List.getElem?_cons_zero,List.getElem?_cons_succ] at o0 o1
  have hfs:Fr (fun k=>k=w.heap.size+2) w2 ((w2.setCell ⟨w.heap.size+2,0,none⟩ (.slice none 0 0)).setCell ⟨w.heap.size+2,1,none⟩ (.slice none 0 0)):=frs1 (frs1 (Fr.refl _ _) 0 _) 1 _
  have hbk:Bk ((w2.setCell ⟨w.heap.size+2,0,none⟩ (.slice none 0 0)).setCell ⟨w.heap.size+2,1,none⟩ (.slice none 0 0)) (w.heap.size+2) zSh TSh:=by
   have:=(B4.out.set 0 (.slice none 0 0)).set 1 (.slice none 0 0)
   simpa using this
  have HBk:=Lib.hid hbk
  have HE:Hid (AyPost w B L O I F0 (.returned (.tuple #[.agg zSh,.int .i64 0,.int .i64 (dmay L O I)])) ((w2.setCell ⟨w.heap.size+2,0,none⟩ (.slice none 0 0)).setCell ⟨w.heap.size+2,1,none⟩ (.slice none 0 0))):=
   ⟨fun h=>absurd h h0,fun _=>⟨rfl,HB.out.trans (hfs.below HB.out.size (fun k hk e=>by omega))⟩⟩
  clear hfs hbk h0
  go_wp2_with fail
  exact ⟨_,results_row_tmp2 (p:=4) (u:=5) (v:=6) rfl _ _ (w.heap.size+2) TSh _ (0,0) _ rfl HBk.out underlying80 rfl (by kernel_rfl),HE.out⟩
 have q0:(dmay L O I != 0)=false:=by simp [h0]
 have HE0:=Lib.hid h0
 clear h0 hsh
 have hwk:=buildWk B
 have c2:=B2.out.cell 0
 simp only [List.getElem?_toArray,List.getElem?_cons_zero] at c2
 go_upto_region 11 with (fail)
 clear q0 hwk c2
 have fa:=fun (w:World) (o:Obj)=>Fr.alloc (fun _=>False) w o
 have hf3:Fr (fun _=>False) w2 ((w2.alloc (.cells #[.pointer (some ⟨B,0,none⟩),.pointer none,.int .i64 0,.pointer none,.int .i64 0,.int .i64 0] TWk)).alloc (.cells #[.pointer (some ⟨w2.heap.size,0,none⟩)] TWp)):=tr (fa _ _) (fa _ _)
 have bW:Bk ((w2.alloc (.cells #[.pointer (some ⟨B,0,none⟩),.pointer none,.int .i64 0,.pointer none,.int .i64 0,.int .i64 0] TWk)).alloc (.cells #[.pointer (some ⟨w2.heap.size,0,none⟩)] TWp)) w2.heap.size #[.pointer (some ⟨B,0,none⟩),.pointer none,.int .i64 0,.pointer none,.int .i64 0,.int .i64 0] TWk:=(Bk.new w2 _ _).fr (fa _ _) (fun _ _ h=>h)
 have b9:Bk ((w2.alloc (.cells #[.pointer (some ⟨B,0,none⟩),.pointer none,.int .i64 0,.pointer none,.int .i64 0,.int .i64 0] TWk)).alloc (.cells #[.pointer (some ⟨w2.heap.size,0,none⟩)] TWp)) (w2.heap.size+1) #[.pointer (some ⟨w2.heap.size,0,none⟩)] TWp:=by
  have:=Bk.new (w2.alloc (.cells #[.pointer (some ⟨B,0,none⟩),.pointer none,.int .i64 0,.pointer none,.int .i64 0,.int .i64 0] TWk)) #[.pointer (some ⟨w2.heap.size,0,none⟩)] TWp
  simpa using this
 have HB3:=Lib.hid (HB.out.trans (hf3.below HB.out.size (fun _ _ h=>h)))
 have hz3:((w2.alloc (.cells #[.pointer (some ⟨B,0,none⟩),.pointer none,.int .i64 0,.pointer none,.int .i64 0,.int .i64 0] TWk)).alloc (.cells #[.pointer (some ⟨w2.heap.size,0,none⟩)] TWp)).heap.size=w2.heap.size+2:=by simp
 have hFW:FW ((w2.alloc (.cells #[.pointer (some ⟨B,0,none⟩),.pointer none,.int .i64 0,.pointer none,.int .i64 0,.int .i64 0] TWk)).alloc (.cells #[.pointer (some ⟨w2.heap.size,0,none⟩)] TWp)) w2.heap.size B L (off [] (pm L)) (Drd.wr [] (pm L)) [] ((([]:Ll).length:Nat):Int) (F0++w2.heap.size::([]++ [])):=by
  rw [off_nil]
  refine ⟨F0,_,HF.out.fr hf3 (fun _ _ h=>h),⟨none,none,[],[],⟨bW,AvlSP.MapIn.nil _,AvlSI.MapIn.nil _,by simp,by simp,by simp⟩,rfl⟩,fun x hx e=>?_,rfl⟩
  have:=HF.out.lt x hx
  simp at e;omega
 have hs2:w.heap.size+2<w2.heap.size:=lt_of_heap B4.out
 have HW:=Lib.hid hFW
 have hdj:∀x∈F0++w2.heap.size::(([]:List Nat)++ []),x<w.heap.size∨x=w2.heap.size:=fun x hx=>by
  rcases List.mem_append.1 hx with hx|hx
  ·exact .inl (HLt.out x hx)
  ·simp at hx;exact .inr hx
 have HDj:=Lib.hid hdj
 have HZ3:=Lib.hid hz3;have HS2:=Lib.hid hs2
 replace HD:=Lib.hid (HD.out.keep hf3)
 replace B2:=Lib.hid (B2.out.fr hf3 (fun _ _ h=>h));replace B3:=Lib.hid (B3.out.fr hf3 (fun _ _ h=>h));replace B4:=Lib.hid (B4.out.fr hf3 (fun _ _ h=>h))
 have B9:=Lib.hid b9
 clear hf3 bW b9 hz3 hFW hs2 hdj fa HB HF
 generalize ((w2.alloc (.cells #[.pointer (some ⟨B,0,none⟩),.pointer none,.int .i64 0,.pointer none,.int .i64 0,.int .i64 0] TWk)).alloc (.cells #[.pointer (some ⟨w2.heap.size,0,none⟩)] TWp))=w3 at *
 generalize w2.heap.size=W at *
 have z0:=B3.out.cell 0;have z1:=B3.out.cell 1
 simp only [List.getElem?_toArray,List.getElem?_cons_zero,List.getElem?_cons_succ] at z0 z1
 obtain ⟨G,hG⟩:∃G,O++I=G:=⟨_,rfl⟩
 have hGl:G.length=O.length+I.length:=by rw [←hG,List.length_append]
 have hf:=Fr.alloc (fun _=>False) w3 (.cells #[.slice A1 O.length k1,.slice A2 I.length k2] TSs)
 have hc:cat [⟨A1,k1,O⟩,⟨A2,k2,I⟩]=G:=by rw [←hG];simp [cat]
 have HCc:=Lib.hid (show Calls prog 75 #[.slice (some ⟨w3.heap.size,0,none⟩) 2 2] _ _ from SetF.Concat (some ⟨w3.heap.size,0,none⟩) 2 [⟨A1,k1,O⟩,⟨A2,k2,I⟩] _ (two_lv w3 ⟨A1,k1,O⟩ ⟨A2,k2,I⟩) (fun x hx=>by
  simp at hx
  rcases hx with rfl|rfl
  ·exact HD.out.o.keep hf
  ·exact HD.out.i.keep hf) (by simp) (by rw [hc,hGl];omega))
 rw [hc] at HCc
 have HOk:Hid (∀x∈G,x.ok):=fun x hx=>by
  rw [←hG] at hx
  exact (List.mem_append.1 hx).elim (HD.out.o.ok x) (HD.out.i.ok x)
 have HG:=Lib.hid hG
 clear hf hc hG
 go_wp2_with fail
 refine HCc.out.mono ?_
 intro e w4 h
 obtain ⟨Ab,cb,rfl,h1,h2,h3⟩:=LsPost.of h HOk.out
 have hf4:=(Fr.alloc (fun _=>False) w3 (.cells #[.slice A1 O.length k1,.slice A2 I.length k2] TSs)).trans (Fr.of_below' h3 (fun _=>False)) (T:=fun _=>False) (fun _ _ h=>h) (fun _ _ h=>h)
 have hAP:AP w w4 W B F0 L (off [] (pm L)) (Drd.wr [] (pm L)) [] ((([]:Ll).length:Nat):Int) (F0++W::([]++ [])) ⟨A1,k1,O,A2,k2,I⟩ Ab cb G:=by
  have hz:=HS2.out
  refine ⟨HW.out.keep hf4,?_,B2.out.fr hf4 (fun _ _ h=>h),B3.out.fr hf4 (fun _ _ h=>h),B4.out.fr hf4 (fun _ _ h=>h),B9.out.fr hf4 (fun _ _ h=>h),h1,?_,?_,?_,?_,fun a ha=>?_,hz⟩
  ·refine ⟨((Fr.of_below HB3.out).mono (fun i hi e=>by omega)).trans hf4 (fun _ _ h=>h) (fun _ _ h=>h.elim),fun x hx=>?_⟩
   have hlt:=HW.out.lt x hx
   have:=hf4.size
   rcases HDj.out x hx with e|e
   ·refine ⟨?_,by omega⟩
    rcases List.mem_append.1 hx with q|q
    ·exact .inl q
    ·simp at q;omega
   ·exact ⟨.inr (by omega),by omega⟩
  iterate 4 (· intro e;rcases HDj.out _ e with q|q<;>omega)
  ·subst ha
   obtain ⟨k1',k2',-⟩:=ownsRow_blk h2 a.block rfl
   have:=HZ3.out
   simp only [World.size_alloc] at k1'
   exact ⟨fun e=>by rcases HDj.out _ e with q|q<;>omega,k2'⟩
 have HAP:=Lib.hid hAP
 have HDs:Hid (∀ {A:World} {L':List Sn} {M WE:Pl} {LO:Ll} {n:Int} {F:List Nat},AP w A W B F0 L' M WE LO n F ⟨A1,k1,O,A2,k2,I⟩ Ab cb G→RdD A ⟨A1,k1,O,A2,k2,I⟩):=fun h=>HD0.out.ap HAp.out h.t
 have hok:=HOk.out
 obtain ⟨hs,hg,hbr,-⟩:=HRl.out
 have HT:Hid (Dt L O I):=by
  have h0:=HE0.out
  have h1:mayO L O=true:=by
   cases hq:mayO L O with
   |true=>rfl
   |false=>exfalso;unfold dmay at h0;rw [hq] at h0;split at h0<;>simp at h0
  have h2:mayI L O I=true:=by
   cases hq:mayI L O I with
   |true=>rfl
   |false=>exfalso;unfold dmay at h0;rw [h1,hq] at h0;split at h0<;>simp at h0
  have h3:rightB O I=true:=by
   cases hq:rightB O I with
   |true=>rfl
   |false=>exfalso;unfold dmay at h0;rw [hq] at h0;simp at h0
  obtain ⟨h4,h5⟩:=right_srs h3
  exact mays_dt hs hg hbr h4 h5 (fun y hy=>⟨(HD.out.o.ok y hy).t,(HD.out.o.ok y hy).i,(HD.out.o.ok y hy).p⟩) (fun y hy=>⟨(HD.out.i.ok y hy).t,(HD.out.i.ok y hy).i,(HD.out.i.ok y hy).p⟩) h1 h2
 have HPs:=Lib.hid (pm_srt hs hg)
 have HPl:Hid ((pm L).length=L.length):=by show _=_;unfold pm mp;rw [List.length_map]
 clear hs hg hbr hok h h1 h2 h3 hf4 hAP HCc HB3 HW HDj HZ3 HS2 B2 B3 B4 B9 z0 z1 HD
 go_wp2_with fail
 go_loopg [62] G.length (fun gk i wr=>∃ (k:Nat) (LO:Ll) (F:List Nat),i=.int .i64 k∧k≤G.length∧gk=G.length-k∧AP w wr W B F0 L (off LO (pm L)) (Drd.wr LO (pm L)) LO ((LO.length:Nat):Int) F ⟨A1,k1,O,A2,k2,I⟩ Ab cb G∧Lo L G LO∧Cl L LO 0 []∧∀x∈G.take k,hasL (kk x) LO=true)
 case atStart=>exact ⟨0,[],_,rfl,Nat.zero_le _,rfl,HAP.out,Lo.nil _ _,Cl.nil _ _,by simp⟩
 case round=>
  clear HAP
  obtain ⟨k,LO,F,rfl,hk,hgk,hap,hlo,hcl,hin⟩:=hrel
  have HGk:=Lib.hid hgk;have HAP:=Lib.hid hap;have HLo:=Lib.hid hlo;have HCl:=Lib.hid hcl;have HIn:=Lib.hid hin
  clear hgk hap hlo hcl hin
  by_cases hlt:k<G.length
  ·have hsl:=HAP.out.bb
   have hslt:=hsl.s
   obtain ⟨b1,o1,rfl,hb1,c1⟩:=hslt.at hlt (by omega)
   have HA:=Lib.hid (SetW.At.row c1 hlt)
   have HOk:=Lib.hid (hsl.ok _ (List.getElem_mem hlt))
   have HSn:=Lib.hid (List.take_succ_eq_append_getElem hlt)
   have HMm:=Lib.hid (List.getElem_mem hlt)
   clear c1 hb1 hslt hsl
   generalize G[k]=y at *
   have q1:decide ((k:Int)<(G.length:Int))=true:=by simp;omega
   have q2:(0:Int)≤(k:Int):=by omega
   have q3:(k:Int)<(G.length:Int):=by omega
   have qk:IntKind.i64.wrap ((k:Int)+1)=(k:Int)+1:=by rw [IntKind.wrap_i64];omega
   obtain ⟨yc0,yc1,yc2,yc3,yc4,yc5,yc6,yc7,yc8⟩:=SetW.at9 HA.out
   go_upto_region 15 with (fail)
   have HAX:=Lib.hid (AX.box HAP.out y)
   clear HA yc0 yc1 yc2 yc3 yc4 yc5 yc6 yc7 yc8
   generalize (wr.alloc (.cells y.arr TSn))=A2_ at *
   generalize wr.heap.size=Bx at *
   have x0:A2_.cell? ⟨Bx,0,none⟩=some (.int .i64 y.t):=HAX.out.a 0 _ rfl
   have x1:A2_.cell? ⟨Bx,1,none⟩=some (.int .i64 y.i):=HAX.out.a 1 _ rfl
   have c9:=HAX.out.p.cells.2.2.2
   have HLen:=Lib.hid (lo_len' HLo.out)
   go_wp2_with fail
   refine (lose (L:=L) (Bo:=G) (M0:=pm L) (LO:=LO) y.t y.i A2_ HPs.out HAX.out.p.f HOk.out.t HOk.out.i HLo.out (HCl.out.any _) ⟨y,HMm.out,rfl,rfl⟩ (by omega) (by omega) (by have:=HPl.out;omega)).mono ?_
   rintro e A3 ⟨rfl,LO',F',h1,h2,h3,h4,h5,h6⟩
   have HAP3:=Lib.hid (HAX.out.p.turn h1 h6)
   have HLo3:=Lib.hid h2;have HCl3:=Lib.hid (h3.any 0)
   have HIn3:Hid (∀x∈G.take (k+1),hasL (kk x) LO'=true):=fun x hx=>by
    rw [HSn.out] at hx
    rcases List.mem_append.1 hx with hx|hx
    ·exact h5 _ (HIn.out x hx)
    ·simp at hx;subst hx;exact h4
   clear h1 h2 h3 h4 h5 h6 x0 x1 c9 HAX HAP HLo HCl HIn
   go_wp2_with fail
   go_roundg (G.length-(k+1))
   case rel=>exact ⟨k+1,LO',F',by go_num,by omega,rfl,HAP3.out,HLo3.out,HCl3.out,HIn3.out⟩
   case measure=>have:=HGk.out;omega
  ·have hke:k=G.length:=by omega
   have q1:decide ((k:Int)<(G.length:Int))=false:=by simp;omega
   have HLd:Hid (Ld L O I LO):=Ld.of (t:=0) (by rw [HG.out];exact HLo.out) HCl.out (by rw [HG.out];intro x hx;exact HIn.out x (by rw [hke,List.take_length];exact hx))
   have HLl:Hid (LO.length≤L.length+G.length):=lo_len' HLo.out
   have HLo2:=Lib.hid HLo.out
   clear HIn HCl HLo HGk hke
   obtain ⟨n1,hn1⟩:∃n1:Int,((LO.length:Nat):Int)=n1:=⟨_,rfl⟩
   obtain ⟨M1,hM1⟩:∃M1,off LO (pm L)=M1:=⟨_,rfl⟩
   obtain ⟨WE1,hWE1⟩:∃WE1,Drd.wr LO (pm L)=WE1:=⟨_,rfl⟩
   rw [hn1,hM1,hWE1] at HAP
   have HN1:=Lib.hid hn1;have HM1:=Lib.hid hM1;have HWE1:=Lib.hid hWE1
   clear hn1 hM1 hWE1
   have z0:=HAP.out.cells.2.1
   dsimp only at z0
   go_wp2_with fail
   clear z0 q1
   go_loopg [76] O.length (fun gk i wr=>∃ (k:Nat) (F:List Nat),i=.int .i64 k∧k≤O.length∧gk=O.length-k∧AP w wr W B F0 ((O.take k).foldl (fun l x=>SetP.out x.t x.i l) L) M1 WE1 LO n1 F ⟨A1,k1,O,A2,k2,I⟩ Ab cb G)
   case atStart=>exact ⟨0,F,rfl,Nat.zero_le _,rfl,HAP.out⟩
   case round=>
    clear HAP
    obtain ⟨k,F,rfl,hk,hgk,hap⟩:=hrel
    have HGk:=Lib.hid hgk;have HAP:=Lib.hid hap
    clear hgk hap
    by_cases hlt:k<O.length
    ·have hol:=outs_len (O.take k) L
     have hsl:=(HDs.out HAP.out).o
     have hslt:=hsl.s
     obtain ⟨b1,o1,rfl,hb1,c1⟩:=hslt.at hlt (by omega)
     have HA:=Lib.hid (SetW.At.row c1 hlt)
     have HOk:=Lib.hid (hsl.ok _ (List.getElem_mem hlt))
     have HSn:=Lib.hid ((show (O.take (k+1)).foldl (fun l x=>SetP.out x.t x.i l) L=SetP.out O[k].t O[k].i ((O.take k).foldl (fun l x=>SetP.out x.t x.i l) L) from by rw [List.take_succ_eq_append_getElem hlt,List.foldl_append];rfl))
     have HMm:=Lib.hid (List.getElem_mem hlt)
     clear c1 hb1 hslt hsl
     generalize O[k]=y at *
     have q1:decide ((k:Int)<(O.length:Int))=true:=by simp;omega
     have q2:(0:Int)≤(k:Int):=by omega
     have q3:(k:Int)<(O.length:Int):=by omega
     have qk:IntKind.i64.wrap ((k:Int)+1)=(k:Int)+1:=by rw [IntKind.wrap_i64];omega
     obtain ⟨yc0,yc1,yc2,yc3,yc4,yc5,yc6,yc7,yc8⟩:=SetW.at9 HA.out
     go_upto_region 20 with (fail)
     have HAX:=Lib.hid (AX.box HAP.out y)
     clear HA yc0 yc1 yc2 yc3 yc4 yc5 yc6 yc7 yc8
     generalize (wr.alloc (.cells y.arr TSn))=A2_ at *
     generalize wr.heap.size=Bx at *
     generalize (O.take k).foldl (fun l x=>SetP.out x.t x.i l) L=L' at *
     refine ap20 (by kernel_rfl) _ _ w A2_ W B F0 L' M1 WE1 LO n1 F ⟨some ⟨b1,o1,none⟩,k1,O,A2,k2,I⟩ Ab cb G Bx y HOk.out.t HOk.out.i (by omega) HAX.out rfl rfl rfl ?_
     intro x5 A3 F' h5
     simp only [Eng.setAll,Act.put,List.setIfInBounds_toArray,List.set_cons_succ,List.set_cons_zero]
     have HAP3:Hid (AP w A3 W B F0 ((O.take (k+1)).foldl (fun l x=>SetP.out x.t x.i l) L) M1 WE1 LO n1 F' ⟨some ⟨b1,o1,none⟩,k1,O,A2,k2,I⟩ Ab cb G):=by rw [HSn.out];exact h5.p
     clear h5 HAX HAP
     go_wp2_with fail
     go_roundg (O.length-(k+1))
     case rel=>exact ⟨k+1,F',by go_num,by omega,rfl,HAP3.out⟩
     case measure=>have:=HGk.out;omega
    ·have hke:k=O.length:=by omega
     have q1:decide ((k:Int)<(O.length:Int))=false:=by simp;omega
     rw [hke,List.take_length] at HAP
     clear hke HGk
     obtain ⟨L2,hL2⟩:∃L2,O.foldl (fun l x=>SetP.out x.t x.i l) L=L2:=⟨_,rfl⟩
     have HL2:=Lib.hid hL2
     have hl2:L2.length≤L.length:=by rw [←hL2];exact outs_len O L
     have HS2:Hid (Srs L2):=by show Srs L2;rw [←hL2];exact outs_srs HT.out.s
     rw [hL2] at HAP
     clear hL2
     have z1:=HAP.out.cells.2.2.1
     dsimp only at z1
     go_wp2_with fail
     clear z1 q1
     go_loopg [92] I.length (fun gk i wr=>∃ (k:Nat) (F:List Nat),i=.int .i64 k∧k≤I.length∧gk=I.length-k∧AP w wr W B F0 ((I.take k).foldl (fun l x=>putK x l) L2) M1 WE1 LO n1 F ⟨A1,k1,O,A2,k2,I⟩ Ab cb G)
     case atStart=>exact ⟨0,F,rfl,Nat.zero_le _,rfl,HAP.out⟩
     case round=>
      clear HAP
      obtain ⟨k,F,rfl,hk,hgk,hap⟩:=hrel
      have HGk:=Lib.hid hgk;have HAP:=Lib.hid hap
      clear hgk hap
      by_cases hlt:k<I.length
      ·have hol:=puts_len (I.take k) HS2.out
       rw [List.length_take] at hol
       have hsl:=(HDs.out HAP.out).i
       have hslt:=hsl.s
       obtain ⟨b1,o1,rfl,hb1,c1⟩:=hslt.at hlt (by omega)
       have HA:=Lib.hid (SetW.At.row c1 hlt)
       have HOk:=Lib.hid (hsl.ok _ (List.getElem_mem hlt))
       have HSn:=Lib.hid ((show (I.take (k+1)).foldl (fun l x=>putK x l) L2=putK I[k] ((I.take k).foldl (fun l x=>putK x l) L2) from by rw [List.take_succ_eq_append_getElem hlt,List.foldl_append];rfl))
       have HMm:=Lib.hid (List.getElem_mem hlt)
       clear c1 hb1 hslt hsl
       generalize I[k]=y at *
       have q1:decide ((k:Int)<(I.length:Int))=true:=by simp;omega
       have q2:(0:Int)≤(k:Int):=by omega
       have q3:(k:Int)<(I.length:Int):=by omega
       have qk:IntKind.i64.wrap ((k:Int)+1)=(k:Int)+1:=by rw [IntKind.wrap_i64];omega
       obtain ⟨yc0,yc1,yc2,yc3,yc4,yc5,yc6,yc7,yc8⟩:=SetW.at9 HA.out
       go_upto_region 25 with (fail)
       have HAX:=Lib.hid (AX.box HAP.out y)
       clear HA yc0 yc1 yc2 yc3 yc4 yc5 yc6 yc7 yc8
       generalize (wr.alloc (.cells y.arr TSn))=A2_ at *
       generalize wr.heap.size=Bx at *
       generalize (I.take k).foldl (fun l x=>putK x l) L2=L' at *
       refine ap25 (by kernel_rfl) _ _ w A2_ W B F0 L' M1 WE1 LO n1 F ⟨A1,k1,O,some ⟨b1,o1,none⟩,k2,I⟩ Ab cb G Bx y ⟨HOk.out.t,HOk.out.i,HOk.out.p⟩ (by omega) HAX.out rfl rfl rfl ?_
       intro x5 A3 F' h5
       simp only [Eng.setAll,Act.put,List.setIfInBounds_toArray,List.set_cons_succ,List.set_cons_zero]
       have HAP3:Hid (AP w A3 W B F0 ((I.take (k+1)).foldl (fun l x=>putK x l) L2) M1 WE1 LO n1 F' ⟨A1,k1,O,some ⟨b1,o1,none⟩,k2,I⟩ Ab cb G):=by rw [HSn.out];exact h5.p
       clear h5 HAX HAP
       go_wp2_with fail
       go_roundg (I.length-(k+1))
       case rel=>exact ⟨k+1,F',by go_num,by omega,rfl,HAP3.out⟩
       case measure=>have:=HGk.out;omega
      ·have hke:k=I.length:=by omega
       have q1:decide ((k:Int)<(I.length:Int))=false:=by simp;omega
       rw [hke,List.take_length] at HAP
       clear hke HGk
       have hL1:I.foldl (fun l x=>putK x l) L2=next L O I:=by unfold next;rw [HL2.out]
       rw [hL1] at HAP
       have hl1:=next_len HT.out
       clear hL1
       have c9:=HAP.out.cells.2.2.2
       obtain ⟨Ff,r1,F1,r2,F2,hx,rfl⟩:=HAP.out.f.fx
       go_wp2_with fail
       refine (AvlSI.All (some ⟨W,3,none⟩) wr).mono ?_
       rintro e w5 ⟨rfl,rfl⟩
       have hfr:=Fr.alloc (fun _=>False) wr (.cells #[.pointer (some ⟨W,3,none⟩)] 211)
       have HAP5:=Lib.hid (HAP.out.keep hfr);have HX5:=Lib.hid (hx.keep hfr)
       have hb5:=(Bk.new wr #[.pointer (some ⟨W,3,none⟩)] 211).cell 0
       simp only [List.getElem?_toArray,List.getElem?_cons_zero] at hb5
       have HB5:=Lib.hid hb5
       have HS5:Hid ((wr.alloc (.cells #[.pointer (some ⟨W,3,none⟩)] 211)).heap.size=wr.heap.size+1):=by show _=_;simp
       have HWl:Hid (W+1<wr.heap.size):=lt_of_heap HAP.out.b9
       have HAl:Hid (∀a,Ab=some a→a.block<wr.heap.size):=fun a ha=>(HAP.out.nb a ha).2
       have H12:Hid (∀x∈F1++F2,x<wr.heap.size):=hx.lt.2
       have HFl:Hid (∀x∈W::Ff,x<wr.heap.size):=hx.lt.1
       clear hfr hb5 hx HAP c9 q1
       generalize (wr.alloc (.cells #[.pointer (some ⟨W,3,none⟩)] 211))=W0 at *
       have HMP:Hid (AvlSI.MapP W0 (some ⟨W,3,none⟩) LO F2):=.inr ⟨W,3,r2,rfl,cell_of_block HX5.out.c.blk 3,HX5.out.c.m2⟩
       have hfl0:=FL.start HT.out HLd.out
       rw [HN1.out,HM1.out] at hfl0
       have HFL0:=Lib.hid hfl0
       have HRg:Hid (∀x∈W::Ff,¬Rg W0.heap.size (W0.heap.size+2) x):=fun x hx e=>by have:=HFl.out x hx;have:=HS5.out;have:=e.1;omega
       have HWz:Hid (w.heap.size+2<W):=HAP5.out.wz
       clear hfl0 HFl
       go_wp2_with fail
       refine (wpIn_wide (n:=3)).1 ?_
       refine range_P' (n:=3) (a₁:=?fr) (gf:=139) (lb:= #[.pointer (some ⟨wr.heap.size,0,none⟩)]) rfl (enters_of func139 (by kernel_rfl) rfl)
        (AvlSI.All_seq F2 wr.heap.size (some ⟨W,3,none⟩) LO F2 W0 HB5.out (by have:=HS5.out;omega) HMP.out (fun _ h=>h)) (fun b hb=>by have:=H12.out b (List.mem_append.2 (.inr hb));have:=HS5.out;omega) (fun _=>rfl)
        (fun (pre:Ll) (C:World)=>∃ (M:Pl) (n:Int) (Ff':List Nat) (f:Nat),AP w C W B F0 (next L O I) M WE1 LO n (Ff'++W::(F1++F2)) ⟨A1,k1,O,A2,k2,I⟩ Ab cb G∧FX C W B (next L O I) M WE1 LO n Ff' r1 F1 r2 F2∧FL L O I LO pre.length f n M∧∀x∈W::Ff',¬Rg W0.heap.size (W0.heap.size+2) x)
        (fun k (_:Ll) (_:World)=>False)
        (fun pre C1 C hA hf=>by
         obtain ⟨M,n,Ff',f,h1,h2,h3,h4⟩:=hA
         have hF:∀b∈Ff'++W::(F1++F2),¬Rg W0.heap.size (W0.heap.size+2) b:=fun b hb e=>by
          rcases List.mem_append.1 hb with q|q
          ·exact h4 b (by simp [q]) e
          ·rcases List.mem_cons.1 q with q|q
           ·exact h4 b (by simp [q]) e
           ·have:=H12.out b q;have:=HS5.out;have:=e.1;omega
         exact ⟨M,n,Ff',f,h1.own hf (lo:=W0.heap.size) (fun b hb=>hb.1) hF (by have:=HWl.out;have:=HS5.out;omega) (fun a ha=>by have:=HAl.out a ha;have:=HS5.out;omega),h2.fr hf hF,h3,h4⟩)
        (fun k pre C1 C hA hf=>hA.elim)
        ⟨M1,n1,Ff,0,HAP5.out,HX5.out,HFL0.out,HRg.out⟩ ?assign ?body ?done ?stop
       case assign=>
        intro l m' x W9 K hK
        gi_wp2
        exact hK
       case body=>
        clear HAP5 HX5 HMP HFL0 HRg HB5
        rintro l2 m' pre x W2 ⟨M,n,Ff',f,hap,hx2,hfl,hrg⟩ hsz hpre rfl ⟨r,hlp⟩ hd
        (try dsimp only)
        have hjl:pre.length<LO.length:=by have:=hpre.length_le;rw [List.length_append,List.length_singleton] at this;omega
        have hxe:x=LO[pre.length]:=by
         obtain ⟨q,hq⟩:=hpre
         have h1:LO[pre.length]? =some x:=by rw [←hq];simp
         rw [List.getElem?_eq_getElem hjl] at h1
         exact (Option.some.inj h1).symm
        obtain ⟨i,ht,hi,hk,-⟩:=HLo2.out.m x (by rw [hxe];exact List.getElem_mem hjl)
        obtain ⟨xk,t⟩:=x
        dsimp only at ht hk ⊢
        subst hk
        have hkj:LO[pre.length].1=key2 t i:=by rw [←hxe]
        have HKn:Hid ((getL (key2 t i) M).isSome=true→FL L O I LO (pre.length+1) f n M):=fun h=>hfl.known hjl (by rw [hkj];exact h)
        have HFd:Hid (∀ (M':Pl) (n':Int),P3 L (next L O I) (hl LO) M'→(∀k,(getL k M).isSome=true→(getL k M').isSome=true)→((nx (next L O I) t i).isSome=true→kn M' t i=true)→n'+M.length=n+1+M'.length→FL L O I LO (pre.length+1) (f+1) n' M'):=fun M' n' h1 h2 h3 h4=>hfl.found HT.out hjl ht hi hkj h1 h2 h3 h4
        have HLoo:Hid (∀y∈next L O I,getL (kk y) M=none→hasL (kk y) LO=true):=hfl.lo HT.out HLd.out
        have HP3:Hid (P3 L (next L O I) (hl LO) M):=hfl.p
        have HMl:Hid (M.length≤(next L O I).length∧0≤n∧n<1000000000):=by
         have h1:=hfl.len HT.out
         have h2:=hfl.mono HT.out
         have h3:=hfl.fj
         have h4:=hfl.n
         have h5:=HLl.out
         exact ⟨h1,by omega,by omega⟩
        have HRd:Hid (∀ (C:World) (M':Pl) (n':Int) (Ff2:List Nat) (f':Nat),AP w C W B F0 (next L O I) M' WE1 LO n' (Ff2++W::(F1++F2)) ⟨A1,k1,O,A2,k2,I⟩ Ab cb G→FX C W B (next L O I) M' WE1 LO n' Ff2 r1 F1 r2 F2→FL L O I LO (pre.length+1) f' n' M'→Tn (W::Ff') (W::Ff2) W2 C→
          postP W0.heap.size (W0.heap.size+2+0) F2 (fun (pre:Ll) (C:World)=>∃ (M:Pl) (n:Int) (Ff':List Nat) (f:Nat),AP w C W B F0 (next L O I) M WE1 LO n (Ff'++W::(F1++F2)) ⟨A1,k1,O,A2,k2,I⟩ Ab cb G∧FX C W B (next L O I) M WE1 LO n Ff' r1 F1 r2 F2∧FL L O I LO pre.length f n M∧∀x∈W::Ff',¬Rg W0.heap.size (W0.heap.size+2) x) (fun k (_:Ll) (_:World)=>False) (pre++ [(key2 t i,t)]) W2 .normal ⟨#[],[]⟩ C):=fun C M' n' Ff2 f' g1 g2 g3 g4=>by
         obtain ⟨e1,e2,e3,e4⟩:=rounds (F2:=F2) g4 hrg hsz (fun x hx=>⟨hx2.apw x (List.mem_append.2 (.inr hx)),hx2.lt.2 x (List.mem_append.2 (.inr hx))⟩)
         exact ⟨e1,e2,e3,M',n',Ff2,f',g1,g2,by rw [List.length_append,List.length_singleton];exact g3,e4⟩
        have HAP2:=Lib.hid hap;have HX2:=Lib.hid hx2;have HTt:=Lib.hid ht;have HTi:=Lib.hid hi
        clear hap hx2 hfl hrg hsz hpre hlp hd hjl hxe ht hi hkj
        gi_wp2_with fail
        refine ⟨trivial,fun h=>(by cases h),CallsIn.inRound _ (callsIn_wide.2 ?_)⟩
        refine (Key.Split HTt.out HTi.out W2).mono ?_
        rintro e C1 ⟨rfl,hf⟩
        have HAP3:=Lib.hid (HAP2.out.keep hf);have HX3:=Lib.hid (HX2.out.keep hf)
        have HF3:=Lib.hid hf
        clear hf
        have c2:=HAP3.out.cells.1
        gi_wp2_with fail
        refine ⟨trivial,fun h=>(by cases h),CallsIn.inRound _ (callsIn_wide.2 ?_)⟩
        refine (HX3.out.fw.getM (key2 t i)).mono ?_
        rintro e C2 ⟨rfl,hf⟩
        obtain ⟨p,hp⟩:∃p,(getL (key2 t i) M).getD (⟨0,0,0,0,0,0⟩:Pq)=p:=⟨_,rfl⟩
        rw [hp]
        have hfa:=hf.trans (Fr.alloc (fun _=>False) C2 (.cells p.arr TPl)) (T:=fun _=>False) (fun _ _ h=>h) (fun _ _ h=>h)
        have HAP4:=Lib.hid (HAP3.out.keep hfa);have HX4:=Lib.hid (HX3.out.keep hfa)
        have HF4:=Lib.hid (HF3.out.trans hfa (T:=fun _=>False) (fun _ _ h=>h) (fun _ _ h=>h))
        clear hp hf hfa c2 HAP3 HX3 HF3 HAP2
        cases hb:(getL (key2 t i) M).isSome with
        |true=>
         have HE:=Lib.hid (HRd.out _ M n Ff' f HAP4.out HX4.out (HKn.out hb) (Tn.of_fr HF4.out HX2.out.lt.1))
         clear hb
         gi_wp2_with fail
         exact HE.out
        |false=>
         clear hb
         gi_upto_region 33 with (fail)
         generalize (C2.alloc (.cells p.arr TPl))=C3 at *
         have c9:=HAP4.out.cells.2.2.2
         gi_wp2_with fail
         refine ⟨trivial,fun h=>(by cases h),CallsIn.inRound _ (callsIn_wide.2 ?_)⟩
         refine (find (L0:=L) t i C3 HX4.out HTt.out HTi.out HP3.out HLoo.out (by omega) (by have:=HMl.out.1;omega) HMl.out.2).mono ?_
         rintro e C4 ⟨rfl,M',n',Ff2,g1,g2,g3,g4,g5,g6,g7⟩
         have HE:=Lib.hid (HRd.out C4 M' n' Ff2 (f+1) (HAP4.out.turn g1.fw (HX4.out.tn g7)) g1 (HFd.out M' n' g2 g3 g4 g5) ((Tn.of_fr HF4.out HX2.out.lt.1).trans g7))
         clear g1 g2 g3 g4 g5 g6 g7 c9
         gi_wp2_with fail
         exact HE.out
       case stop=>
        rintro k pre W3 hsz hpre h hK
        exact h.elim
       case done=>
        clear HAP5 HX5 HMP HFL0 HRg HB5
        rintro W3 hsz ⟨M,n,Ff',f,hap,hx3,hfl,hrg⟩ hK
        have hcl:=CL.start hfl HT.out HLd.out
        rw [HWE1.out] at hcl
        have hlF:W0.heap.size∉Ff'++W::(F1++F2):=fun e=>by
         have hh:Rg W0.heap.size (W0.heap.size+2) W0.heap.size:=⟨Nat.le_refl _,by omega⟩
         rcases List.mem_append.1 e with q|q
         ·exact hrg _ (by simp [q]) hh
         ·rcases List.mem_cons.1 q with q|q
          ·exact hrg W0.heap.size (by rw [q];exact List.mem_cons_self ..) hh
          ·have:=H12.out _ q;have:=HS5.out;omega
        have HAP:=Lib.hid hap;have HCL:=Lib.hid hcl;have HK:=Lib.hid hK;have HLF:=Lib.hid hlF
        have HLo0:Hid (w.heap.size+2<W0.heap.size):=by have:=HWz.out;have:=HWl.out;have:=HS5.out;show _<_;omega
        clear hap hx3 hfl hrg hK hcl hlF H12 HWl HAl
        generalize Ff'++W::(F1++F2)=F at *
        generalize W0.heap.size=lo at *
        go_wp2_with fail
        go_loopg [130] G.length (fun gk i wr=>∃ (k:Nat) (M WE:Pl) (n:Int) (F:List Nat),i=.int .i64 k∧k≤G.length∧gk=G.length-k∧AP w wr W B F0 (next L O I) M WE LO n F ⟨A1,k1,O,A2,k2,I⟩ Ab cb G∧CL L O I LO f (G.take k) n M WE∧wr.heap[lo]? =some (.deferred (some []))∧lo∉F)
        case atStart=>exact ⟨0,M,WE1,n,F,rfl,Nat.zero_le _,rfl,HAP.out,HCL.out,HK.out,HLF.out⟩
        case round=>
         clear HAP HCL HK HLF
         obtain ⟨k,M,WE,n,F,rfl,hk,hgk,hap,hcl,hK,hlF⟩:=hrel
         have HGk:=Lib.hid hgk;have HAP:=Lib.hid hap;have HCL:=Lib.hid hcl;have HK:=Lib.hid hK;have HLF:=Lib.hid hlF
         clear hgk hap hcl hK hlF
         by_cases hlt:k<G.length
         ·have hta:lo<wr.heap.size:=lt_of_heap HK.out
          have HKa:Hid ((wr.alloc (.cells G[k].arr TSn)).heap[lo]? =some (.deferred (some []))):=((Fr.alloc (fun _=>False) wr (.cells G[k].arr TSn)).block lo hta (fun h=>h)).trans HK.out
          clear hta
          have hsl:=HAP.out.bb
          have hslt:=hsl.s
          obtain ⟨b1,o1,rfl,hb1,c1⟩:=hslt.at hlt (by omega)
          have HA:=Lib.hid (SetW.At.row c1 hlt)
          have HOk:=Lib.hid (hsl.ok _ (List.getElem_mem hlt))
          have HSn:=Lib.hid (List.take_succ_eq_append_getElem hlt)
          have HMm:=Lib.hid (List.getElem_mem hlt)
          clear c1 hb1 hslt hsl
          generalize G[k]=y at *
          have q1:decide ((k:Int)<(G.length:Int))=true:=by simp;omega
          have q2:(0:Int)≤(k:Int):=by omega
          have q3:(k:Int)<(G.length:Int):=by omega
          have qk:IntKind.i64.wrap ((k:Int)+1)=(k:Int)+1:=by rw [IntKind.wrap_i64];omega
          obtain ⟨yc0,yc1,yc2,yc3,yc4,yc5,yc6,yc7,yc8⟩:=SetW.at9 HA.out
          go_upto_region 37 with (fail)
          have HAX:=Lib.hid (AX.box HAP.out y)
          clear HA yc0 yc1 yc2 yc3 yc4 yc5 yc6 yc7 yc8
          generalize (wr.alloc (.cells y.arr TSn))=A2_ at *
          generalize wr.heap.size=Bx at *
          have x0:A2_.cell? ⟨Bx,0,none⟩=some (.int .i64 y.t):=HAX.out.a 0 _ rfl
          have x2:A2_.cell? ⟨Bx,2,none⟩=some (.int .i64 y.p):=HAX.out.a 2 _ rfl
          have c9:=HAX.out.p.cells.2.2.2
          have hl:=HCL.out.l;have he:=HCL.out.e;have hn:=HCL.out.n;have ho:=HCL.out.o;have hf:=HCL.out.fj;have hll:=HLl.out
          rw [List.length_take] at he hn
          have hn2:0≤n∧n<1000000000:=⟨by omega,by omega⟩
          have hm2:M.length<1000000:=by omega
          have hw2:WE.length<1000000:=by omega
          clear hl he hn ho hf hll
          go_wp2_with fail
          refine (count y.t y.p A2_ HAX.out.p.f HOk.out.t HOk.out.p (by omega) hm2 hw2 hn2).mono ?_
          rintro e A3 ⟨rfl,F',h1,h2⟩
          have HAP3:=Lib.hid (HAX.out.p.turn h1 h2)
          have HCL3:Hid (CL L O I LO f (G.take (k+1)) (n+1) (cntM (next L O I) M y.t y.p) (cntW WE M y.t y.p)):=by rw [HSn.out];exact HCL.out.step HT.out ⟨HOk.out.t,HOk.out.i,HOk.out.p⟩
          have HK3:Hid (A3.heap[lo]? =some (.deferred (some []))):=(h2.fr.block lo (lt_of_heap HKa.out) HLF.out).trans HKa.out
          have HLF3:Hid (lo∉F'):=not_new h2 HLF.out (lt_of_heap HKa.out)
          clear h1 h2 x0 x2 c9 hn2 hm2 hw2 HAX HAP HCL HK HKa HLF
          go_wp2_with fail
          go_roundg (G.length-(k+1))
          case rel=>exact ⟨k+1,_,_,_,F',by go_num,by omega,rfl,HAP3.out,HCL3.out,HK3.out,HLF3.out⟩
          case measure=>have:=HGk.out;omega
         ·have hke:k=G.length:=by omega
          have q1:decide ((k:Int)<(G.length:Int))=false:=by simp;omega
          rw [hke,List.take_length,←HG.out] at HCL
          obtain ⟨rfl,f1,f2,f3,f4⟩:=HCL.out.fin HT.out HLd.out
          have hwl:WE.length≤500000:=by
           have:=HCL.out.e;have:=HLl.out
           rw [List.length_append] at *
           omega
          have HF1:=Lib.hid f1;have HF2:=Lib.hid f2;have HF3:=Lib.hid f3;have HF4:=Lib.hid f4
          clear hke HGk HCL f1 f2 f3 f4
          go_upto_region 39 with (fail)
          refine ap39 (by kernel_rfl) _ _ w wr W B F0 (next L O I) (pm (next L O I)) WE LO n F ⟨A1,k1,O,A2,k2,I⟩ Ab cb G hwl HAP.out rfl rfl rfl ?_
          clear HAP q1 hwl
          intro x5 A5 P1 p1 P2 p2 hx5 hx6 h5
          simp only [Eng.setAll,Act.put,List.setIfInBounds_toArray,List.set_cons_succ,List.set_cons_zero,hx5,hx6]
          have H5:=Lib.hid h5
          clear h5 hx5 hx6
          go_wp2_with fail
          have h5:=H5.out
          have hlo:=HLo0.out
          have hkl:lo<wr.heap.size:=lt_of_heap HK.out
          have hdk:A5.heap[lo]? =some (.deferred (some [])):=(h5.r.block lo hkl (fun e=>by omega)).trans HK.out
          have g4:=h5.b4;have g5:=h5.o;have g6:=h5.i;have g7:=h5.no.1;have g8:=h5.no.2
          rw [HF1.out,HF2.out] at g4
          rw [HF1.out] at g5 g7
          rw [HF2.out] at g6 g8
          have hfp:=Fr.putObj A5 lo (.deferred none) (S:=(· =lo)) rfl
          obtain ⟨Ff9,Fw9,g1,g2,g3,gF⟩:=h5.f
          have htn:=h5.t
          rw [gF] at htn g7 g8
          have hlF:lo∉Ff9:=fun e=>HLF.out (by rw [gF];exact List.mem_append.2 (.inl e))
          have hno:∀ {v:Value} {k:Nat} {xs:List Value},A5.ownsRow (w.heap.size+3) TPl 6 v k xs→∀b,v.ownBlock=some b→¬b=lo:=fun ho b hb e=>by
           obtain ⟨-,-,cc,q⟩:=ownsRow_blk ho b hb
           rw [e,hdk] at q;cases q
          refine ⟨by simp,.inl ⟨_,_,rfl,run_takeDeferred hdk,?_⟩⟩
          refine ⟨_,results_row_tmp2 (p:=4) (u:=5) (v:=6) rfl _ _ (w.heap.size+2) TSh _ (0,0) _ rfl (g4.fr hfp (fun b hb e=>by simp at hb;omega)) underlying80 rfl (by kernel_rfl),fun _=>⟨P1,p1,P2,p2,n,Ff9,rfl,ownsRow_base (ownsRow_fr g5 hfp (hno g5)) (by omega),ownsRow_base (ownsRow_fr g6 hfp (hno g6)) (by omega),g1.fr hfp (fun b hb e=>hlF (e▸hb)),?_,fun b hb e=>g7 b hb (List.mem_append.2 (.inl e)),fun b hb e=>g8 b hb (List.mem_append.2 (.inl e)),HF3.out,HF4.out⟩,fun h=>absurd HE0.out h⟩
          exact tn_own ⟨htn.fr,fun x hx=>htn.sub x (List.mem_append.2 (.inl hx))⟩ hfp (fun b e=>by omega)
end Wrk
set_option maxRecDepth 100000
namespace Wrk
open KeyP PackP SetP SetW SetF Sli Delta KidsP Cls KdO Fst Drd
attribute [local go_sem] Eng.ev Eng.getO_cons Eng.getO_nil
theorem _root_.Go.Proofs.YtgfjpnpbkkadpaaGreat.Fst.FB.cells {w:World} {B:Nat} {L:List Sn} {M:Pl} {F:List Nat} (h:FB w B L M F):∃ (r:Option Addr) (F2:List Nat),w.cell? ⟨B,4,none⟩=some (.pointer r)∧w.cell? ⟨B,5,none⟩=some (.int .i64 M.length)∧AvlSP.MapIn w r M F2∧(∀b∈F2,b∈F):=by
 obtain ⟨rp,F1,FP,h1,h2,-,rfl⟩:=h
 exact ⟨rp,FP,(IB.oz h1).1,(IB.oz h1).2,h2,fun b hb=>List.mem_append.2 (.inr hb)⟩
theorem all_ (B:Nat) (w:World):Calls prog 89 #[.pointer (some ⟨B,0,none⟩)] w fun e w'=>e=.returned (.func (.func 198) #[] #[.pointer (some ⟨w.heap.size,0,none⟩)])∧w.alloc (.cells #[.pointer (some ⟨B,4,none⟩)] 215 (0,0))=w':=by
 go_enter func89,ntmps89
 go_wp2_with fail
 refine (AvlSP.All (some ⟨B,4,none⟩) w).mono ?_
 rintro e w1 ⟨rfl,rfl⟩
 go_wp2_with fail
 go_ret
 exact ⟨rfl,rfl⟩
end Wrk
set_option maxRecDepth 100000
set_option maxHeartbeats 4000000
namespace Wrk
open KeyP SetP KidsP Cls KdO Fst Drd
attribute [local go_sem] Eng.ev Eng.getO_cons Eng.getO_nil Oper.semAt_some
structure C1 (n0 lo Bd:Nat) (w0 W:World) (P:List Pq) (v:Value):Prop where
 b:Bk W Bd #[v] TPls
 o:W.ownsRow n0 TPl 6 v P.length (P.flatMap Pq.cs)
 bel:Below n0 w0 W
 out:∀b,v.ownBlock=some b→b<lo∨lo+2≤b
theorem C1.abide {n0 lo Bd:Nat} {w0 A B:World} {P:List Pq} {v:Value} (h:C1 n0 lo Bd w0 A P v) (hf:Fr (Rg lo (lo+2)) A B) (hn:n0≤lo) (hd:Bd<lo) (hs:n0≤A.heap.size):C1 n0 lo Bd w0 B P v:=
 ⟨h.b.fr hf (fun k hk e=>by simp at hk;subst hk;have:=e.1;omega),ownsRow_fr h.o hf (fun b hb e=>by have:=h.out b hb;have:=e.1;have:=e.2;omega),
  h.bel.trans (hf.below hs (fun k hk e=>by have:=e.1;omega)),h.out⟩
theorem C1.keep {n0 lo Bd:Nat} {w0 A B:World} {P:List Pq} {v:Value} (h:C1 n0 lo Bd w0 A P v) (hf:Fr (fun _=>False) A B) (hs:n0≤A.heap.size):C1 n0 lo Bd w0 B P v:=
 ⟨h.b.fr hf (fun _ _ h=>h),ownsRow_fr h.o hf (fun _ _ h=>h),h.bel.trans (hf.below hs (fun _ _ h=>h)),h.out⟩
theorem C1.ne {n0 lo Bd:Nat} {w0 A:World} {P:List Pq} {v:Value} (h:C1 n0 lo Bd w0 A P v):∀b,v.ownBlock=some b→b≠Bd:=fun b hb e=>by
 obtain ⟨_,_,c,hc⟩:=ownsRow_blk h.o b hb
 rw [e,show A.heap[Bd]? =_ from h.b] at hc
 cases hc
theorem C1.step {n0 lo Bd:Nat} {w0 W w1:World} {P:List Pq} {v v':Value} {o:Obj} {y:Pq} (h:C1 n0 lo Bd w0 W P v) (hn:n0≤W.heap.size) (hlo:lo+2≤W.heap.size) (hBd:n0≤Bd)
  (hown:w1.ownsRow n0 TPl 6 v' (P.length+1) (P.flatMap Pq.cs++Pq.cs y)) (hg:(W.alloc o).grownBy w1 v.ownBlock) (hv:v'.ownBlock=v.ownBlock∨v'.ownBlock=some (W.alloc o).heap.size):
  C1 n0 lo Bd w0 (w1.setCell ⟨Bd,0,none⟩ v') (P++ [y]) v'∧Fr (fun b=>b=Bd∨v.ownBlock=some b) W (w1.setCell ⟨Bd,0,none⟩ v')∧Bk w1 Bd #[v] TPls:=by
 have f1:Fr (fun b=>v.ownBlock=some b) W w1:=(Fr.alloc (fun _=>False) W o).trans (Fr.grown hg (S:=fun b=>v.ownBlock=some b) (fun k h=>h)) (fun _ _ h=>h.elim) (fun _ _ h=>h)
 have hb1:Bk w1 Bd #[v] TPls:=h.b.fr f1 (fun b hb e=>by simp at hb;subst hb;exact h.ne b e rfl)
 have ne':∀b,v'.ownBlock=some b→b≠Bd:=fun b hb e=>by
  obtain ⟨_,_,c,hc⟩:=ownsRow_blk hown b hb
  rw [e,show w1.heap[Bd]? =_ from hb1] at hc
  cases hc
 have f2:=Fr.setCell w1 ⟨Bd,0,none⟩ v' (S:=(· =Bd)) rfl
 have f3:Fr (fun b=>b=Bd∨v.ownBlock=some b) W (w1.setCell ⟨Bd,0,none⟩ v'):=f1.trans f2 (fun _ _ h=>.inr h) (fun _ _ h=>.inl h)
 have sz:(W.alloc o).heap.size=W.heap.size+1:=by simp
 have hc:=hb1.set 0 v'
 refine ⟨⟨hc,by rw [List.length_append,List.length_singleton,List.flatMap_append];simpa using ownsRow_fr hown f2 ne',h.bel.trans (f3.below hn ?_),fun b hb=>by rcases hv with hv|hv;exact h.out b (hv▸hb);rw [hb] at hv;have:=Option.some.inj hv;omega⟩,f3,hb1⟩
 rintro i hi (e|e)
 ·omega
 ·have:=(ownsRow_blk h.o i e).1;omega
def vals (M:Pl):List Pq:=M.map (·.2)
theorem vals_snoc {M:Pl} {k:Nat} (h:k<M.length):vals (M.take (k+1))=vals (M.take k)++ [M[k].2]:=by
 unfold vals
 rw [List.take_succ_eq_append_getElem h,List.map_append];rfl
theorem PlacesG {p q:Option Addr} {M:Pl} {F2:List Nat} (w:World) (ha:∀W,Calls prog 89 #[.pointer p] W fun e w'=>e=.returned (.func (.func 198) #[] #[.pointer (some ⟨W.heap.size,0,none⟩)])∧W.alloc (.cells #[.pointer q] 215 (0,0))=w') (hm:AvlSP.MapP w q M F2) (hF:∀b∈F2,b<w.heap.size) (sz:M.length≤500000):
  Calls prog 36 #[.pointer p] w fun e w'=>∃A c,e=.returned (.slice A (vals M).length c)∧w'.ownsRow w.heap.size TPl 6 (.slice A (vals M).length c) (vals M).length (pcs (vals M))∧Below w.heap.size w w':=by
 obtain ⟨i0,hi,hz0,hz1_,hz2⟩:=info_parts infoP
 have fa:=fun (w:World) (o:Obj)=>Fr.alloc (fun _=>False) w o
 have nn:∀G:List Nat,∀b∈G,¬False:=fun _ _ _ h=>h
 have tr:∀ {a b c:World},Fr (fun _=>False) a b→Fr (fun _=>False) b c→Fr (fun _=>False) a c:=fun h k=>h.trans k (fun _ _ h=>h) (fun _ _ h=>h)
 have hf0:Fr (fun _=>False) w ((w.alloc (.cells #[.slice none 0 0] TPls)).alloc (.cells #[.pointer q] 215)):=tr (fa _ _) (fa _ _)
 have hs0:((w.alloc (.cells #[.slice none 0 0] TPls)).alloc (.cells #[.pointer q] 215)).heap.size=w.heap.size+2:=by simp
 have b1:Bk ((w.alloc (.cells #[.slice none 0 0] TPls)).alloc (.cells #[.pointer q] 215)) w.heap.size #[.slice none 0 0] TPls:=(Bk.new w _ _).fr (fa _ _) (nn _)
 have b2:((w.alloc (.cells #[.slice none 0 0] TPls)).alloc (.cells #[.pointer q] 215)).cell? ⟨w.heap.size+1,0,none⟩=some (.pointer q):=by simp
 have hbel:Below w.heap.size w ((w.alloc (.cells #[.slice none 0 0] TPls)).alloc (.cells #[.pointer q] 215)):=hf0.below (Nat.le_refl _) (fun _ _ h=>h)
 have HMP:=Lib.hid (hm.below hbel)
 have HB2:=Lib.hid b2;have HS0:=Lib.hid hs0
 have HC:Hid (C1 w.heap.size ((w.alloc (.cells #[.slice none 0 0] TPls)).alloc (.cells #[.pointer q] 215)).heap.size w.heap.size w ((w.alloc (.cells #[.slice none 0 0] TPls)).alloc (.cells #[.pointer q] 215)) (vals (M.take 0)) (.slice none 0 0)):=⟨b1,World.ownsRow_nil _ _ _ _,hbel,fun b hb=>by simp [Value.ownBlock] at hb⟩
 have HAll:=Lib.hid ha;have HLt:=Lib.hid hF
 have d1:(w.alloc (.cells #[.slice none 0 0] TPls)).heap.size=w.heap.size+1:=by simp
 clear ha hm hF fa nn tr hf0 hs0 b1 b2 hbel
 refine (callsIn_wide (n:=3)).1 ?_
 refine callsIn_of_wp_marks func36 rfl trivial ?_ rfl
 simp only [ntmps36,List.size_toArray,List.length_cons,List.length_nil,Nat.reduceAdd,Nat.reduceSub,Array.replicate_succ,Array.replicate_zero,List.push_toArray,List.append_toArray,List.nil_append,List.cons_append]
 refine wpIn_wide.2 ?_
 go_wp2_with fail
 refine (HAll.out _).mono ?_
 rintro e w1 ⟨rfl,rfl⟩
 rw [d1]
 clear d1
 go_wp2_with fail
 generalize ((w.alloc (.cells #[.slice none 0 0] TPls)).alloc (.cells #[.pointer q] 215))=W0 at *
 clear HAll
 refine (wpIn_wide (n:=3)).1 ?_
 refine range_B (n:=3) (a₁:=?fr) (gf:=198) (lb:= #[.pointer (some ⟨w.heap.size+1,0,none⟩)]) rfl (enters_of func198 (by kernel_rfl) rfl)
  (AvlSP.All_seq F2 (w.heap.size+1) q M F2 W0 HB2.out (by have:=HS0.out;omega) HMP.out (fun _ h=>h)) (fun b hb=>by have:=HLt.out b hb;have:=HS0.out;omega) (fun _=>rfl)
  (fun (pre:Pl) (A:World)=>∃v,C1 w.heap.size W0.heap.size w.heap.size w A (vals (M.take pre.length)) v∧W0.heap.size≤A.heap.size)
  (fun k (_:Pl) (_:World)=>False)
  (fun pre A C h hf=>by obtain ⟨v,h,hz⟩:=h;exact ⟨v,h.abide hf (by have:=HS0.out;omega) (by have:=HS0.out;omega) (by have:=HS0.out;omega),Nat.le_trans hz hf.size⟩)
  (fun k pre A C h hf=>h.elim)
  ⟨_,HC.out,Nat.le_refl _⟩ (fun x=>x.2.arr) TPl (fun pre W9 o h hsz=>by obtain ⟨v,h,hz⟩:=h;exact ⟨v,h.keep (Fr.alloc _ _ _) (by have:=HS0.out;omega),Nat.le_trans hz (by simp)⟩) ?assign ?body ?done ?stop
 case assign=>
  intro l m x W9 b K hb hK
  gi_wp2_with fail
  exact hK
 case body=>
  rintro l m pre x b W2 ⟨v1,hI,hz⟩ hbk hbl hsz hpre rfl ⟨r,hl⟩ hd
  (try dsimp only)
  have hlt:pre.length<M.length:=by have:=hpre.length_le;rw [List.length_append,List.length_singleton] at this;omega
  have hxe:x=M[pre.length]:=by
   obtain ⟨q,hq⟩:=hpre
   have h1:M[pre.length]? =some x:=by rw [←hq];simp
   rw [List.getElem?_eq_getElem hlt] at h1
   exact (Option.some.inj h1).symm
  have hO:=vals_snoc hlt
  rw [←hxe] at hO
  have hPl:(vals (M.take pre.length)).length≤500000:=by unfold vals;rw [List.length_map,List.length_take];omega
  obtain ⟨P,hP⟩:∃P,vals (M.take pre.length)=P:=⟨_,rfl⟩
  rw [hP] at hI hO hPl
  have HPost:Hid (∀ (A:World) (v':Value),C1 w.heap.size W0.heap.size w.heap.size w A (P++ [x.2]) v'→Fr (fun b=>b=w.heap.size∨v1.ownBlock=some b) W2 A→postP W0.heap.size (W0.heap.size+2+0) F2 (fun (pre:Pl) (A:World)=>∃v,C1 w.heap.size W0.heap.size w.heap.size w A (vals (M.take pre.length)) v∧W0.heap.size≤A.heap.size) (fun k (_:Pl) (_:World)=>False) (pre++ [x]) W2 .normal ⟨#[],[]⟩ A):=by
   intro A v' hc hf
   have hs0:=HS0.out
   refine ⟨KeptR.of_fr hf hsz ?_,hf.size,KeptL.of_fr hf (fun b hb=>⟨by have:=HLt.out b hb;omega,?_⟩),v',?_,Nat.le_trans hz hf.size⟩
   ·rintro b hb (e|e)
    ·have:=hb.1;omega
    ·have:=hI.out b e;have:=hb.1;have:=hb.2;omega
   ·have hlt:=HLt.out b hb
    rintro (e|e)
    ·omega
    ·have:=(ownsRow_blk hI.o b e).1;omega
   ·rw [List.length_append,List.length_singleton,hO];exact hc
  have HI:=Lib.hid hI
  have HSt:Hid (∀ {w1:World} {v':Value} {o:Obj},w1.ownsRow w.heap.size TPl 6 v' (P.length+1) (P.flatMap Pq.cs++Pq.cs x.2)→(W2.alloc o).grownBy w1 v1.ownBlock→(v'.ownBlock=v1.ownBlock∨v'.ownBlock=some (W2.alloc o).heap.size)→_):=fun h1 h2 h3=>hI.step (by have:=HS0.out;omega) hsz (Nat.le_refl _) h1 h2 h3
  have HSz:Hid (w.heap.size≤W2.heap.size):=by have:=HS0.out;show _≤_;omega
  have ho:=hI.o
  have c0:W2.cell? ⟨w.heap.size,0,none⟩=some v1:=hI.b.cell 0
  have HBk:=Lib.hid hbk
  clear hO hI hbk hsz hl hd hpre hxe hlt hbl hP hz
  obtain ⟨xk,y⟩:=x
  dsimp only at *
  have y0:W2.cell? ⟨b,0,none⟩=some (.int .i64 y.t):=HBk.out.cell 0
  have y1:W2.cell? ⟨b,1,none⟩=some (.int .i64 y.i):=HBk.out.cell 1
  have y2:W2.cell? ⟨b,2,none⟩=some (.int .i64 y.c):=HBk.out.cell 2
  have y3:W2.cell? ⟨b,3,none⟩=some (.int .i64 y.d):=HBk.out.cell 3
  have y4:W2.cell? ⟨b,4,none⟩=some (.int .i64 y.p):=HBk.out.cell 4
  have y5:W2.cell? ⟨b,5,none⟩=some (.int .i64 y.f):=HBk.out.cell 5
  gi_wp2_with (gi_at_builtin;refine wpListIn_append_at _ rfl (.tmp 10) (.tmp 12) TPls rfl w.heap.size TPl i0 zP 6 48 underlying78 hi hz0 hz1_ hz2 rfl (by decide) v1 _ _ rfl (ho.alloc (.cells y.arr TPl)) ⟨W2.heap.size,0,none⟩ 1 1 y.cs rfl rfl (new_cs _ _) (by simp [Value.oneCell']) (by unfold maxLen;omega) (by omega) (by simp;have:=HSz.out;omega) ?_)
  intro v' w3 hown hgrow hat
  obtain ⟨g',cap',rfl⟩:=ownsRow_succ hown
  obtain ⟨k1,k2,k3⟩:=HSt.out hown hgrow (by rw [World.size_alloc];exact hat)
  have HE:=Lib.hid (HPost.out _ _ k1 k2)
  have cw:w3.cell? ⟨w.heap.size,0,none⟩=some v1:=k3.cell 0
  have fw:=k3.free 0
  clear hown hgrow hat k1 k2 k3 c0 ho
  gi_wp2_with fail
  exact HE.out
 case done=>
  rintro W3 hsz ⟨v1,hI,hz⟩ hK
  rw [List.take_length] at hI
  obtain ⟨A1,c1,hv1,-,-⟩:=Sl.of_own hI.o
  subst hv1
  have HI:=Lib.hid hI;have HK:=Lib.hid hK
  have y0:W3.cell? ⟨w.heap.size,0,none⟩=some (.slice A1 (vals M).length c1):=hI.b.cell 0
  clear hI hK
  go_wp2_with fail
  have hs0:=HS0.out
  have hfp:=Fr.putObj W3 W0.heap.size (.deferred none) (S:=(· =W0.heap.size)) rfl
  refine ⟨by simp,.inl ⟨_,_,rfl,run_takeDeferred HK.out,?_⟩⟩
  refine ⟨_,results_tmp rfl _ _ _,A1,c1,rfl,ownsRow_fr HI.out.o hfp (fun b hb e=>?_),HI.out.bel.trans (hfp.below HI.out.bel.size (fun k hk e=>by omega))⟩
  obtain ⟨-,-,cc,h2⟩:=ownsRow_blk HI.out.o b hb
  rw [e,show W3.heap[W0.heap.size]? =_ from HK.out] at h2;cases h2
 case stop=>
  rintro k pre W3 hsz hpre hF hK
  exact hF.elim
theorem Places {B:Nat} {L:List Sn} {M:Pl} {F:List Nat} (w:World) (h:FB w B L M F) (sz:M.length≤500000):Calls prog 36 #[.pointer (some ⟨B,0,none⟩)] w fun e w'=>∃A c,e=.returned (.slice A (vals M).length c)∧w'.ownsRow w.heap.size TPl 6 (.slice A (vals M).length c) (vals M).length (pcs (vals M))∧Below w.heap.size w w':=by
 obtain ⟨r,F2,h1,h2,h3,h4⟩:=h.cells
 exact PlacesG w (all_ B) (.inr ⟨B,4,r,rfl,h1,h3⟩) (fun b hb=>h.lt b (h4 b hb)) sz
end Wrk
end Go.Proofs.YtgfjpnpbkkadpaaGreat
