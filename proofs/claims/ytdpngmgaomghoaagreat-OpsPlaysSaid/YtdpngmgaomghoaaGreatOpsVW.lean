/- Views of operations in the heap: a map in order, from keys to histograms in blocks of their own. -/
import Derived.Test.YtdpngmgaomghoaaGreatAvlSH2
import Derived.Test.YtdpngmgaomghoaaGreatHists
import Derived.Test.YtdpngmgaomghoaaGreatOpsPs
import Derived.Test.YtdpngmgaomghoaaGreatSetWs
namespace Go.Proofs.YtdpngmgaomghoaaGreat
open Tryz
open Go.RowKit
namespace Ops
open BagP HistP OpsP Hist
abbrev TV:TypeId:=49
section
variable {κ α β:Type} [Ord κ]
theorem getL_map (f:α→β) (k:κ) (E:List (κ × α)):getL k (E.map (fun p=>(p.1,f p.2)))=(getL k E).map f:=by
 induction E with
 |nil=>rfl
 |cons p E ih=>rw [List.map_cons,getL_cons,getL_cons,ih];cases sameK k p.1<;>rfl
theorem insL_map (f:α→β) (k:κ) (v:α) (E:List (κ × α)):insL k (f v) (E.map (fun p=>(p.1,f p.2)))=(insL k v E).map (fun p=>(p.1,f p.2)):=by
 induction E with
 |nil=>rfl
 |cons p E ih=>
  obtain ⟨a,b⟩:=p
  rw [List.map_cons,insL,insL,ih]
  cases Ord.lt k a with
  |true=>rfl
  |false=>cases Ord.lt a k<;>rfl
theorem delL_map (f:α→β) (k:κ) (E:List (κ × α)):delL k (E.map (fun p=>(p.1,f p.2)))=(delL k E).map (fun p=>(p.1,f p.2)):=by
 unfold delL
 rw [List.filter_map];rfl
theorem srt_map {f:α→β} {E:List (κ × α)}:Srt (E.map (fun p=>(p.1,f p.2)))↔Srt E:=by unfold Srt;rw [List.pairwise_map]
theorem ins_same {k:κ} {v:α} {L:List (κ × α)} (hs:Srt L) (h:getL k L=some v):insL k v L=L:=
 srt_ext (srt_insL _ hs).1 hs (fun j=>by
  rw [getL_ins]
  by_cases e:sameK j k=true
  ·rw [if_pos e,sameK_iff.1 e,h]
  ·rw [if_neg e])
end
def VM (w:World) (B:Nat) (L:List (ByteArray × Option Addr)) (M:List Nat):Prop:=
 ∃r,w.heap[B]? =some (.cells #[.pointer r,.int .i64 L.length] TV (0,0))∧AvlSH.MapIn w r L M∧B∉M
section
variable {w w':World} {B:Nat} {L:List (ByteArray × Option Addr)} {M:List Nat}
theorem VM.fr {S:Nat→Prop} (h:VM w B L M) (hf:Fr S w w') (hs:∀b∈B::M,¬S b):VM w' B L M:=by
 obtain ⟨r,hB,hM,hn⟩:=h
 exact ⟨r,(hf.block B (lt_of_heap hB) (hs B (by simp))).trans hB,hM.fr hf (fun b hb=>hs b (by simp [hb])),hn⟩
theorem VM.lt (h:VM w B L M):∀b∈B::M,b<w.heap.size:=by
 obtain ⟨r,hB,hM,hn⟩:=h
 intro b hb
 rcases List.mem_cons.1 hb with rfl|hb
 ·exact lt_of_heap hB
 ·exact hM.lt b hb
theorem VM.srt (h:VM w B L M):Srt L:=by obtain ⟨r,hB,hM,hn⟩:=h;exact hM.srt
theorem VM.new (w:World):VM (w.alloc (.cells #[.pointer none,.int .i64 0] TV)) w.heap.size [] []:=⟨none,heap_new _ _,AvlSH.MapIn.nil _,by simp⟩
theorem VM.mapP (h:VM w B L M):AvlSH.MapP w (some ⟨B,0,none⟩) L M:=by
 obtain ⟨r,hB,hM,hn⟩:=h
 exact .inr ⟨B,0,r,rfl,cell_of_block hB 0,hM⟩
theorem VM.put (h:VM w B L M) (k:ByteArray) (v:Option Addr) (sz:L.length<144115188075855872):
  Calls prog 151 #[.pointer (some ⟨B,0,none⟩),.string k,.pointer v] w fun e w'=>e=.returned (.bool (!hasL k L))∧∃M',VM w' B (insL k v L) M'∧Tn (B::M) (B::M') w w':=by
 have hlt:=h.lt
 obtain ⟨r,hB,hM,hn⟩:=h
 refine (AvlSH.Put B 0 _ _ k v r L M w hB rfl rfl hM hn sz).mono ?_
 rintro e w' ⟨r',M',rfl,h1,h2,h3,h4⟩
 refine ⟨rfl,M',⟨r',h1,h2,fun hx=>?_⟩,h4.mono (fun i _ hi=>by simpa using hi),fun x hx=>?_⟩
 ·rcases h3 B hx with h|h
  ·exact hn h
  ·have:=hlt B (by simp);omega
 ·rcases List.mem_cons.1 hx with rfl|hx
  ·exact ⟨.inl (by simp),lt_of_heap h1⟩
  ·refine ⟨?_,h2.lt x hx⟩
   rcases h3 x hx with h|h
   ·exact .inl (by simp [h])
   ·exact .inr h
theorem VM.drop (h:VM w B L M) (k:ByteArray) (sz:L.length<144115188075855872):
  Calls prog 218 #[.pointer (some ⟨B,0,none⟩),.string k] w fun e w'=>e=.returned (.bool (hasL k L))∧∃M',VM w' B (delL k L) M'∧Tn (B::M) (B::M') w w':=by
 obtain ⟨r,hB,hM,hn⟩:=h
 refine (AvlSH.Drop B 0 _ _ k r L M w hB rfl rfl hM hn sz).mono ?_
 rintro e w' ⟨r',M',rfl,h1,h2,h3,h4⟩
 refine ⟨rfl,M',⟨r',h1,h2,fun hx=>hn (h3 B hx)⟩,h4.mono (fun i _ hi=>by simpa using hi),fun x hx=>?_⟩
 rcases List.mem_cons.1 hx with rfl|hx
 ·exact ⟨.inl (by simp),lt_of_heap h1⟩
 ·exact ⟨.inl (by simp [h3 x hx]),h2.lt x hx⟩
theorem VM.get (h:VM w B L M) (k:ByteArray):
  Calls prog 154 #[.pointer (some ⟨B,0,none⟩),.string k] w fun e w'=>e=.returned (.tuple #[.pointer ((getL k L).getD none),.bool (getL k L).isSome])∧w=w':=by
 obtain ⟨r,hB,hM,hn⟩:=h
 exact AvlSH.Get_map k B 0 r L M w hM (cell_of_block hB 0)
end
structure Bx where
 n:Nm
 x:HS
 b:Nat
 F:List Nat
abbrev Es:=List (ByteArray × Bx)
abbrev Bx.p (e:Bx):Option Addr:=some ⟨e.b,0,none⟩
abbrev Bx.v (e:Bx):Nm × HS:=(e.n,e.x)
abbrev pL (E:Es):List (ByteArray × Option Addr):=E.map (fun p=>(p.1,p.2.p))
abbrev vL (E:Es):Vw:=E.map (fun p=>(p.1,p.2.v))
def fl (B:Nat) (M:List Nat) (E:Es):List Nat:=B::(M++E.flatMap (·.2.F))
theorem mem_fl {B:Nat} {M:List Nat} {E:Es} {x:Nat}:x∈fl B M E↔x∈B::M∨∃p∈E,x∈p.2.F:=by simp [fl,or_assoc]
structure OV (w:World) (B:Nat) (M:List Nat) (E:Es):Prop where
 m:VM w B (pL E) M
 h:∀p∈E,HB w p.2.b p.2.x p.2.F
 a:∀p∈E,∀x∈p.2.F,x∉B::M
 d:E.Pairwise (fun p q=>∀x∈p.2.F,x∉q.2.F)
section
variable {w w':World} {B:Nat} {M:List Nat} {E:Es}
theorem OV.srt (H:OV w B M E):Srt E:=srt_map.1 H.m.srt
theorem OV.lt (H:OV w B M E):∀x∈fl B M E,x<w.heap.size:=by
 intro x hx
 rcases mem_fl.1 hx with hx| ⟨p,hp,hx⟩
 ·exact H.m.lt x hx
 ·exact (H.h p hp).lt x hx
theorem OV.fr {S:Nat→Prop} (H:OV w B M E) (hf:Fr S w w') (hs:∀x∈fl B M E,¬S x):OV w' B M E:=
 ⟨H.m.fr hf (fun b hb=>hs b (mem_fl.2 (.inl hb))),fun p hp=>(H.h p hp).fr hf (fun b hb=>hs b (mem_fl.2 (.inr ⟨p,hp,hb⟩))),H.a,H.d⟩
theorem OV.new (w:World):OV (w.alloc (.cells #[.pointer none,.int .i64 0] TV)) w.heap.size [] []:=⟨VM.new w,by simp,by simp,List.Pairwise.nil⟩
theorem pair_ins {R:ByteArray × Bx→ByteArray × Bx→Prop} (hsym:∀a b,R a b→R b a) {k:ByteArray} {e:Bx}:∀ {E:Es},E.Pairwise R→(∀p∈E,p.1≠k→R (k,e) p)→Srt E→(insL k e E).Pairwise R
 | [],_,_,_=>List.pairwise_singleton _ _
 | (a,b)::t,hp,h,hs=>by
  have hp':=List.pairwise_cons.1 hp
  have hs':=List.pairwise_cons.1 hs
  rw [insL]
  by_cases h1:Ord.lt k a=true
  ·rw [if_pos h1]
   refine List.pairwise_cons.2 ⟨fun p hm=>h p hm (fun e'=>?_),hp⟩
   have:Ord.lt k p.1=true:=by
    rcases List.mem_cons.1 hm with rfl|hm
    ·exact h1
    ·exact Ord.tr _ _ _ h1 (hs'.1 p hm)
   rw [e',Ord.irr] at this;cases this
  ·rw [if_neg h1]
   by_cases h2:Ord.lt a k=true
   ·rw [if_pos h2]
    refine List.pairwise_cons.2 ⟨fun p hm=>?_,pair_ins hsym hp'.2 (fun p hm hn=>h p (by simp [hm]) hn) hs'.2⟩
    rcases insL_mem hm with rfl|hm
    ·exact hsym _ _ (h (a,b) (by simp) (fun e'=>by dsimp only at e';rw [e',Ord.irr] at h2;cases h2))
    ·exact hp'.1 p hm
   ·have e':=Ord.tri a k (by simpa using h2) (by simpa using h1);subst e'
    rw [if_neg h2]
    refine List.pairwise_cons.2 ⟨fun p hm=>h p (by simp [hm]) (fun e'=>?_),hp'.2⟩
    have:=hs'.1 p hm
    dsimp only at this
    rw [e',Ord.irr] at this;cases this
theorem insL_key {k:ByteArray} {e:Bx}:∀ {E:Es},Srt E→∀ {p:ByteArray × Bx},p∈insL k e E→p=(k,e)∨(p∈E∧p.1≠k):=by
 intro E hs p hp
 have hg:=mem_getL (srt_insL e hs).1 hp
 by_cases hk:p.1=k
 ·rw [hk,getL_ins,if_pos (sameK_refl _)] at hg
  left
  exact Prod.ext hk (by simpa using hg.symm)
 ·right
  rcases insL_mem hp with rfl|h
  ·exact absurd rfl hk
  ·exact ⟨h,hk⟩
theorem pairwise_or {α:Type} {R:α→α→Prop}:∀ {l:List α},l.Pairwise R→∀ {a b:α},a∈l→b∈l→a≠b→R a b∨R b a
 | [],_,_,_,ha,_,_=>by cases ha
 |c::t,h,a,b,ha,hb,hn=>by
  have h':=List.pairwise_cons.1 h
  rcases List.mem_cons.1 ha with e1|ha1
  ·rcases List.mem_cons.1 hb with e2|hb1
   ·exact absurd (e1.trans e2.symm) hn
   ·exact .inl (by rw [e1];exact h'.1 b hb1)
  ·rcases List.mem_cons.1 hb with e2|hb1
   ·exact .inr (by rw [e2];exact h'.1 a ha1)
   ·exact pairwise_or h'.2 ha1 hb1 hn
theorem OV.put (H:OV w B M E) {k:ByteArray} {e:Bx} {M':List Nat} (hm:VM w' B (insL k e.p (pL E)) M') (ht:Tn (B::M) (B::M') w w') (he:HB w e.b e.x e.F) (hd:∀x∈e.F,x∉B::M) (hd2:∀p∈E,p.1≠k→∀x∈e.F,x∉p.2.F):OV w' B M' (insL k e E):=by
 have hnew:∀y,y<w.heap.size→y∉B::M→y∉B::M':=fun y hy hyn hy'=>by
  rcases (ht.sub y hy').1 with h1|h1
  ·exact hyn h1
  ·omega
 refine ⟨by rw [insL_map] at hm;exact hm,fun p hp=>?_,fun p hp x hx=>?_,pair_ins (fun a b h x hx hx'=>h x hx' hx) H.d (fun p hp hn=>hd2 p hp hn) H.srt⟩
 ·rcases insL_mem hp with rfl|hp
  ·exact he.fr ht.fr (fun b hb=>hd b hb)
  ·exact (H.h p hp).fr ht.fr (fun b hb=>H.a p hp b hb)
 ·rcases insL_mem hp with rfl|hp
  ·exact hnew x (he.lt x hx) (hd x hx)
  ·exact hnew x ((H.h p hp).lt x hx) (H.a p hp x hx)
theorem OV.del (H:OV w B M E) {k:ByteArray} {M':List Nat} (hm:VM w' B (delL k (pL E)) M') (ht:Tn (B::M) (B::M') w w'):OV w' B M' (delL k E):=by
 have hnew:∀y,y<w.heap.size→y∉B::M→y∉B::M':=fun y hy hyn hy'=>by
  rcases (ht.sub y hy').1 with h1|h1
  ·exact hyn h1
  ·omega
 have hE:∀p∈delL k E,p∈E:=fun p hp=>(List.mem_filter.1 hp).1
 exact ⟨by rw [delL_map] at hm;exact hm,fun p hp=>(H.h p (hE p hp)).fr ht.fr (fun b hb=>H.a p (hE p hp) b hb),fun p hp x hx=>hnew x ((H.h p (hE p hp)).lt x hx) (H.a p (hE p hp) x hx),H.d.sublist List.filter_sublist⟩
theorem OV.turn (H:OV w B M E) {k:ByteArray} {e:Bx} (hg:getL k E=some e) {x':HS} {F':List Nat} (hb:HB w' e.b x' F') (ht:Tn e.F F' w w'):OV w' B M (insL k ⟨e.n,x',e.b,F'⟩ E):=by
 have hm:=getL_mem hg
 have hlt:=H.lt
 have hapart:∀p∈E,p.1≠k→∀x∈e.F,x∉p.2.F:=by
  intro p hp hn x hx hx'
  have hpw:=H.d
  have hne:p≠(k,e):=fun h=>hn (by rw [h])
  rcases pairwise_or hpw hp hm hne with h|h
  ·exact h x hx' hx
  ·exact h x hx hx'
 have hnew:∀y,y<w.heap.size→y∉e.F→y∉F':=fun y hy hyn hy'=>by
  rcases (ht.sub y hy').1 with h1|h1
  ·exact hyn h1
  ·omega
 have hMf:∀x∈B::M,x∉e.F:=fun x hx hx'=>H.a _ hm x hx' hx
 refine ⟨?_,fun p hp=>?_,fun p hp x hx=>?_,pair_ins (fun a b h x hx hx'=>h x hx' hx) H.d (fun p hp hn x hx hx'=>?_) H.srt⟩
 ·have e1:pL (insL k ⟨e.n,x',e.b,F'⟩ E)=pL E:=by
   show (insL k (⟨e.n,x',e.b,F'⟩:Bx) E).map (fun p=>(p.1,p.2.p))=_
   rw [←insL_map (f:=Bx.p)]
   exact ins_same H.m.srt (by rw [getL_map (f:=Bx.p),hg];rfl)
  rw [e1]
  exact H.m.fr ht.fr hMf
 ·rcases insL_key H.srt hp with rfl| ⟨hp,hn⟩
  ·exact hb
  ·exact (H.h p hp).fr ht.fr (fun b hb hb'=>hapart p hp hn b hb' hb)
 ·rcases insL_key H.srt hp with rfl| ⟨hp,hn⟩
  ·intro hx'
   exact hnew x (H.m.lt x hx') (hMf x hx') hx
  ·exact H.a p hp x hx
 ·exact hnew x (hlt x (mem_fl.2 (.inr ⟨p,hp,hx'⟩))) (fun h=>hapart p hp hn x h hx') hx
end
end Ops
set_option maxRecDepth 100000
set_option maxHeartbeats 1000000
namespace Ops
open BagP HistP OpsP Hist KeyP SetP SetW
attribute [local go_sem] Eng.ev Eng.getO_cons Eng.getO_nil
theorem key_ (s o:ByteArray) (w:World) (hl:s.size+o.size≤1000000):Calls prog 99 #[.string s,.string o] w fun e w'=>e=.returned (.string (key (s,o)))∧w'=w:=by
 have h1:¬9223372036854775807<s.size+1:=by omega
 have h2:¬9223372036854775807<s.size+1+o.size:=by omega
 clear hl
 go_enter func99,ntmps99
 go_wp2
 go_ret
 exact ⟨rfl,rfl⟩
def ptr (E:Es) (k:Nm):Option Addr:=(getL (key k) (pL E)).getD none
theorem ptr_some {E:Es} {k:Nm} {e:Bx} (h:getL (key k) E=some e):ptr E k=some ⟨e.b,0,none⟩:=by unfold ptr;rw [getL_map (f:=Bx.p),h];rfl
theorem ptr_none {E:Es} {k:Nm} (h:getL (key k) E=none):ptr E k=none:=by unfold ptr;rw [getL_map (f:=Bx.p),h];rfl
theorem hist_ (B:Nat) (M:List Nat) (E:Es) (s o:ByteArray) (w:World) (H:OV w B M E) (hl:s.size+o.size≤1000000):Calls prog 98 #[.pointer (some ⟨B,0,none⟩),.string s,.string o] w fun e w'=>e=.returned (.pointer (ptr E (s,o)))∧∃n,w'=w.drewN n:=by
 have HK:=Lib.hid (fun n=>key_ s o (w.drewN n) hl)
 have HG:Hid (∀n,Calls prog 154 #[.pointer (some ⟨B,0,none⟩),.string (key (s,o))] (w.drewN n) fun e w'=>e=.returned (.tuple #[.pointer (ptr E (s,o)),.bool (getL (key (s,o)) (pL E)).isSome])∧w'=w.drewN n):=fun n=>
  ((H.m.fr (Fr.drewN (fun _=>False) w n) (fun _ _ h=>h)).get (key (s,o))).mono (fun _ _ q=>⟨q.1,q.2.symm⟩)
 clear H hl
 generalize ptr E (s,o)=p at *
 generalize (getL (key (s,o)) (pL E)).isSome=bb at *
 go_enter func98,ntmps98
 go_upto_region 3 with (fail)
 go_quiet (first| (go_at_call 99;refine Calls.quiet_of_same (HK.out _))| (go_at_call 154;refine Calls.quiet_of_same (HG.out _)))
 go_wp2_with fail
 go_ret
 exact ⟨rfl,nq,rfl⟩
structure OT (w0:World) (F0:List Nat) (w:World) (B:Nat) (M:List Nat) (E:Es):Prop where
 v:OV w B M E
 t:Tn F0 (fl B M E) w0 w
section
variable {w0 w w':World} {F0:List Nat} {B:Nat} {M:List Nat} {E:Es}
theorem OV.ot (H:OV w B M E):OT w (fl B M E) w B M E:=⟨H,Tn.refl H.lt⟩
theorem OT.fr (H:OT w0 F0 w B M E) (hf:Fr (fun _=>False) w w'):OT w0 F0 w' B M E:=⟨H.v.fr hf (fun _ _ h=>h),H.t.trans (Tn.of_fr hf H.v.lt)⟩
theorem OT.put (H:OT w0 F0 w B M E) {k:ByteArray} {e:Bx} {M':List Nat} (hm:VM w' B (insL k e.p (pL E)) M') (ht:Tn (B::M) (B::M') w w') (he:HB w e.b e.x e.F) (hn:∀x∈e.F,w0.heap.size≤x∧x∉fl B M E):OT w0 F0 w' B M' (insL k e E):=by
 have hv:=H.v.put hm ht he (fun x hx h=>(hn x hx).2 (mem_fl.2 (.inl h))) (fun p hp _ x hx h=>(hn x hx).2 (mem_fl.2 (.inr ⟨p,hp,h⟩)))
 refine ⟨hv,⟨H.t.fr.trans ht.fr (fun _ _ h=>h) (fun i hi h=>?_),fun x hx=>⟨?_,hv.lt x hx⟩⟩⟩
 ·rcases (H.t.sub i (mem_fl.2 (.inl h))).1 with h|h
  ·exact h
  ·omega
 ·rcases mem_fl.1 hx with hx| ⟨p,hp,hx⟩
  ·rcases (ht.sub x hx).1 with h|h
   ·exact (H.t.sub x (mem_fl.2 (.inl h))).1
   ·exact .inr (Nat.le_trans H.t.fr.size h)
  ·rcases insL_mem hp with rfl|hp
   ·exact .inr (hn x hx).1
   ·exact (H.t.sub x (mem_fl.2 (.inr ⟨p,hp,hx⟩))).1
theorem OT.turn (H:OT w0 F0 w B M E) {k:ByteArray} {e:Bx} (hg:getL k E=some e) {x':HS} {F':List Nat} (hb:HB w' e.b x' F') (ht:Tn e.F F' w w'):OT w0 F0 w' B M (insL k ⟨e.n,x',e.b,F'⟩ E):=by
 have hv:=H.v.turn hg hb ht
 have hm:=getL_mem hg
 refine ⟨hv,⟨H.t.fr.trans ht.fr (fun _ _ h=>h) (fun i hi h=>?_),fun x hx=>⟨?_,hv.lt x hx⟩⟩⟩
 ·rcases (H.t.sub i (mem_fl.2 (.inr ⟨_,hm,h⟩))).1 with h|h
  ·exact h
  ·omega
 ·rcases mem_fl.1 hx with hx| ⟨p,hp,hx⟩
  ·exact (H.t.sub x (mem_fl.2 (.inl hx))).1
  ·rcases insL_mem hp with rfl|hp
   ·rcases (ht.sub x hx).1 with h|h
    ·exact (H.t.sub x (mem_fl.2 (.inr ⟨_,hm,h⟩))).1
    ·exact .inr (Nat.le_trans H.t.fr.size h)
   ·exact (H.t.sub x (mem_fl.2 (.inr ⟨p,hp,hx⟩))).1
theorem OT.del (H:OT w0 F0 w B M E) {k:ByteArray} {M':List Nat} (hm:VM w' B (delL k (pL E)) M') (ht:Tn (B::M) (B::M') w w'):OT w0 F0 w' B M' (delL k E):=by
 have hv:=H.v.del hm ht
 refine ⟨hv,⟨H.t.fr.trans ht.fr (fun _ _ h=>h) (fun i hi h=>?_),fun x hx=>⟨?_,hv.lt x hx⟩⟩⟩
 ·rcases (H.t.sub i (mem_fl.2 (.inl h))).1 with h|h
  ·exact h
  ·omega
 ·rcases mem_fl.1 hx with hx| ⟨p,hp,hx⟩
  ·rcases (ht.sub x hx).1 with h|h
   ·exact (H.t.sub x (mem_fl.2 (.inl h))).1
   ·exact .inr (Nat.le_trans H.t.fr.size h)
  ·exact (H.t.sub x (mem_fl.2 (.inr ⟨p,(List.mem_filter.1 hp).1,hx⟩))).1
theorem OV.len (_H:OV w B M E):(pL E).length=E.length:=by simp
theorem vL_get (E:Es) (t:ByteArray):getL t (vL E)=(getL t E).map Bx.v:=getL_map (f:=Bx.v) t E
theorem Vok.nm (h:OpsP.Vok (vL E)) {k:Nm} {e:Bx} (hg:getL (key k) E=some e):e.n=k:=by
 have:=h.get (k:=k) (q:=e.v) (by rw [vL_get,hg];rfl)
 exact this
theorem hget_e {k:Nm} {e:Bx} (hg:getL (key k) E=some e):hget k (vL E)=e.x:=hget_some (q:=e.v) (by rw [vL_get,hg];rfl)
theorem hget_n {k:Nm} (hg:getL (key k) E=none):hget k (vL E)=([],(0,0)):=hget_none (by rw [vL_get,hg];rfl)
end
theorem srt_of {E:Es} (h:OpsP.Vok (vL E)):Srt E:=srt_map.1 h.srt
def rc (x:Sn):Nm × Int:=((x.s,x.o),x.d)
def nmN (x:Sn):Prop:=x.s.size+x.o.size≤1000000∧nzN (x.s,x.o)
def AddPost (B:Nat) (M:List Nat) (E:Es) (x:Sn) (w:World) (e:Ending) (w':World):Prop:=
 e=.returned (.tuple #[])∧∃M' E',OV w' B M' E'∧vL E'=addV (vL E) (rc x)∧E'.length≤E.length+1∧Tn (fl B M E) (fl B M' E') w w'
theorem add (B:Nat) (M:List Nat) (E:Es) (x:Sn) (w:World) (H:OV w B M E) (hv:OpsP.Vok (vL E)) (hx:nmN x) (sz:E.length<100000000):
  Calls prog 90 #[.pointer (some ⟨B,0,none⟩),x.v] w (AddPost B M E x w):=by
 have hf:=Fr.alloc (fun _=>False) w (.cells x.arr TSn)
 have HT:=Lib.hid (H.ot.fr hf)
 have HK:=Lib.hid (fun W=>key_ x.s x.o W hx.1)
 have HG:Hid _:=Lib.hid (HT.out.v.m.get (key (x.s,x.o)))
 have HX:=Lib.hid (Bk.new w x.arr TSn)
 have HV:=Lib.hid hv;have HL:=Lib.hid H.lt
 have c4:(w.alloc (.cells x.arr TSn)).cell? ⟨w.heap.size,4,none⟩=some (.string x.s):=HX.out.cell 4
 have c5:(w.alloc (.cells x.arr TSn)).cell? ⟨w.heap.size,5,none⟩=some (.string x.o):=HX.out.cell 5
 have hw:=(HV.out.wfget (x.s,x.o))
 cases hg:getL (key (x.s,x.o)) E with
 |none=>
  rw [getL_map (f:=Bx.p),hg] at HG
  have HE:=Lib.hid hg
  have HW:=Lib.hid hw
  clear hf H hv hw hg
  go_enter func90,ntmps90
  go_wp2_with (first| (go_at_call 99;refine (HK.out _).mono ?_;rintro e w1 ⟨rfl,rfl⟩)| (go_at_call 154;refine HG.out.mono ?_;rintro e w1 ⟨rfl,rfl⟩)|fail)
  have hle:w.heap.size≤(w.alloc (.cells x.arr TSn)).heap.size:=by simp
  generalize (w.alloc (.cells x.arr TSn))=w1 at *
  have HLe:=Lib.hid hle
  clear hle c4 c5
  refine (Hist.Of none 0 [] w1 (Sl.empty _ _) (by simp)).mono ?_
  rintro e w2 ⟨rfl,F,hb,hF,hf2⟩
  have HT2:=Lib.hid (HT.out.fr hf2);have HX2:=Lib.hid (HX.out.fr hf2 (fun _ _ h=>h));have HB2:=Lib.hid hb
  have HF:Hid (∀y∈F,w.heap.size≤y∧y∉fl B M E):=Lib.hid (fun y hy=>⟨Nat.le_trans HLe.out (hF y hy).1,fun h=>by have:=HL.out y h;have:=(hF y hy).1;have:=HLe.out;omega⟩)
  clear hb hF hf2 HT HX HG
  generalize w1.heap.size=b at *
  go_wp2_with fail
  refine (HT2.out.v.m.put (key (x.s,x.o)) (some ⟨b,0,none⟩) (by rw [HT2.out.v.len];omega)).mono ?_
  rintro e w3 ⟨rfl,M3,hm3,ht3⟩
  have HT3:=Lib.hid (HT2.out.put (e:=⟨(x.s,x.o),([],(0,0)),b,F⟩) hm3 ht3 HB2.out HF.out)
  have HX3:=Lib.hid (HX2.out.fr ht3.fr (fun y hy h=>by simp at hy;have:=HL.out _ (mem_fl.2 (.inl h));omega))
  have HB3:=Lib.hid (HT3.out.v.h _ (getL_mem (show getL (key (x.s,x.o)) _=some ⟨(x.s,x.o),([],(0,0)),b,F⟩ by rw [getL_ins,if_pos (sameK_refl _)])))
  have c7:w3.cell? ⟨w.heap.size,7,none⟩=some (.int .i64 x.d):=HX3.out.cell 7
  clear hm3 ht3 HT2 HX2 HB2
  go_wp2_with fail
  refine (Hist.Add b x.d _ _ w3 HB3.out (by simp)).mono ?_
  rintro e w4 ⟨rfl,F4,hb4,ht4⟩
  have HT4:=Lib.hid (HT3.out.turn (e:=⟨(x.s,x.o),([],(0,0)),b,F⟩) (by rw [getL_ins,if_pos (sameK_refl _)]) hb4 ht4)
  clear c7 hb4 ht4 HT3 HX3 HB3
  go_wp2_with fail
  refine bodyPost_ret (results_none rfl _ _ _) rfl ?_
  refine ⟨rfl,_,_,HT4.out.v,?_,?_,HT4.out.t⟩
  ·rw [ins_ins _ _ (srt_of HV.out)]
   show _=addV (vL E) ((x.s,x.o),x.d)
   unfold addV
   rw [hget_n HE.out]
   exact (insL_map (f:=Bx.v) _ _ _).symm
  ·rw [ins_ins _ _ (srt_of HV.out)]
   exact insL_len' _ _ _
 |some e=>
  have hm:=getL_mem hg
  have hn:e.n=(x.s,x.o):=Vok.nm HV.out hg
  rw [getL_map (f:=Bx.p),hg] at HG
  rw [hget_e hg] at hw
  have hB0:=HT.out.v.h _ hm
  have HB1:=Lib.hid hB0
  have HE:=Lib.hid hg;have HN:=Lib.hid hn
  have hlen:=hw.len
  have c7:(w.alloc (.cells x.arr TSn)).cell? ⟨w.heap.size,7,none⟩=some (.int .i64 x.d):=HX.out.cell 7
  clear hf H hv hw hm hB0 hg hn
  go_enter func90,ntmps90
  go_wp2_with (first| (go_at_call 99;refine (HK.out _).mono ?_;rintro e w1 ⟨rfl,rfl⟩)| (go_at_call 154;refine HG.out.mono ?_;rintro e w1 ⟨rfl,rfl⟩)|fail)
  refine (Hist.Add e.b x.d _ _ _ HB1.out (by omega)).mono ?_
  rintro e' w4 ⟨rfl,F4,hb4,ht4⟩
  have HT4:=Lib.hid (HT.out.turn HE.out hb4 ht4)
  clear c4 c5 c7 hb4 ht4 HT HX HB1
  go_wp2_with fail
  refine bodyPost_ret (results_none rfl _ _ _) rfl ?_
  refine ⟨rfl,_,_,HT4.out.v,?_,insL_len' _ _ _,HT4.out.t⟩
  show _=addV (vL E) ((x.s,x.o),x.d)
  unfold addV
  rw [hget_e HE.out,HN.out]
  exact (insL_map (f:=Bx.v) _ _ _).symm
def DropPost (B:Nat) (M:List Nat) (E:Es) (x:Sn) (w:World) (e:Ending) (w':World):Prop:=
 ∃b,okD x.d (hget (x.s,x.o) (vL E))=b∧e=.returned (.bool b)∧∃M' E',OV w' B M' E'∧vL E'=(if b then dropV (vL E) (rc x) else vL E)∧E'.length≤E.length∧Tn (fl B M E) (fl B M' E') w w'
theorem drop (B:Nat) (M:List Nat) (E:Es) (x:Sn) (w:World) (H:OV w B M E) (hv:OpsP.Vok (vL E)) (hx:nmN x) (sz:E.length<100000000):
  Calls prog 153 #[.pointer (some ⟨B,0,none⟩),x.v] w (DropPost B M E x w):=by
 have hf:=Fr.alloc (fun _=>False) w (.cells x.arr TSn)
 have HT:=Lib.hid (H.ot.fr hf)
 have HK:=Lib.hid (fun W=>key_ x.s x.o W hx.1)
 have HG:Hid _:=Lib.hid (HT.out.v.m.get (key (x.s,x.o)))
 have HX:=Lib.hid (Bk.new w x.arr TSn)
 have HV:=Lib.hid hv;have HL:=Lib.hid H.lt
 have c4:(w.alloc (.cells x.arr TSn)).cell? ⟨w.heap.size,4,none⟩=some (.string x.s):=HX.out.cell 4
 have c5:(w.alloc (.cells x.arr TSn)).cell? ⟨w.heap.size,5,none⟩=some (.string x.o):=HX.out.cell 5
 have c7:(w.alloc (.cells x.arr TSn)).cell? ⟨w.heap.size,7,none⟩=some (.int .i64 x.d):=HX.out.cell 7
 have hw:=(HV.out.wfget (x.s,x.o))
 cases hg:getL (key (x.s,x.o)) E with
 |none=>
  rw [getL_map (f:=Bx.p),hg] at HG
  have HE:=Lib.hid hg
  clear hf H hv hw hg
  go_enter func153,ntmps153
  go_wp2_with (first| (go_at_call 99;refine (HK.out _).mono ?_;rintro e w1 ⟨rfl,rfl⟩)| (go_at_call 154;refine HG.out.mono ?_;rintro e w1 ⟨rfl,rfl⟩)|fail)
  refine (Hist.Drop_none x.d _).mono ?_
  rintro e w2 ⟨rfl,hf2⟩
  have HT2:=Lib.hid (HT.out.fr hf2)
  clear HT HX HG hf2 c4 c5 c7
  go_wp2_with fail
  go_ret
  exact ⟨false,by rw [hget_n HE.out,okD_nil],rfl,_,_,HT2.out.v,rfl,Nat.le_refl _,HT2.out.t⟩
 |some e=>
  have hm:=getL_mem hg
  have hn:e.n=(x.s,x.o):=Vok.nm HV.out hg
  rw [getL_map (f:=Bx.p),hg] at HG
  rw [hget_e hg] at hw
  have hB0:=HT.out.v.h _ hm
  have HB1:=Lib.hid hB0
  have HE:=Lib.hid hg;have HN:=Lib.hid hn
  have hlen:=hw.len
  have HS:=Lib.hid (srt_of hv)
  clear hf H hv hw hm hB0 hg hn
  go_enter func153,ntmps153
  go_wp2_with (first| (go_at_call 99;refine (HK.out _).mono ?_;rintro e w1 ⟨rfl,rfl⟩)| (go_at_call 154;refine HG.out.mono ?_;rintro e w1 ⟨rfl,rfl⟩)|fail)
  refine (Hist.Drop e.b x.d _ _ _ HB1.out (by omega)).mono ?_
  rintro e' w4 ⟨rfl,F4,hb4,ht4⟩
  have HB4:=Lib.hid hb4
  have HT4:=Lib.hid (HT.out.turn HE.out hb4 ht4)
  clear c4 c5 c7 hb4 ht4 HT HX HB1
  cases hok:okD x.d e.x with
  |false=>
   have HD:Hid (dropH x.d e.x=e.x):=by show _=_;unfold dropH;rw [hok];rfl
   have HO:=Lib.hid hok
   clear hok
   go_wp2_with fail
   go_ret
   refine ⟨false,by rw [hget_e HE.out,HO.out],rfl,_,_,HT4.out.v,?_,?_,HT4.out.t⟩
   ·show (insL _ _ E).map (fun p=>(p.1,p.2.v))=_
    rw [←insL_map (f:=Bx.v),HD.out]
    exact ins_same HV.out.srt (by rw [vL_get,HE.out];rfl)
   ·exact ins_len_has _ HS.out HE.out
  |true=>
   have HO:=Lib.hid hok
   obtain ⟨y,hy⟩:∃y,dropH x.d e.x=y:=⟨_,rfl⟩
   rw [hy] at HT4 HB4
   have HY:=Lib.hid hy
   clear hok hy
   cases hz:(sumL y.1==0) with
   |false=>
    have HZ:=Lib.hid hz
    go_wp2_with fail
    refine (Hist.Len e.b y F4 _ HB4.out).mono ?_
    rintro e' w5 ⟨rfl,rfl⟩
    go_wp2_with fail
    go_ret
    refine ⟨true,by rw [hget_e HE.out,HO.out],rfl,_,_,HT4.out.v,?_,?_,HT4.out.t⟩
    ·show (insL _ _ E).map (fun p=>(p.1,p.2.v))=dropV (vL E) ((x.s,x.o),x.d)
     rw [←insL_map (f:=Bx.v)]
     unfold dropV setV
     rw [hget_e HE.out,HY.out,if_neg (by simpa using HZ.out),HN.out]
    ·exact ins_len_has _ HS.out HE.out
   |true=>
    have HZ:=Lib.hid hz
    go_wp2_with fail
    refine (Hist.Len e.b y F4 _ HB4.out).mono ?_
    rintro e' w5 ⟨rfl,rfl⟩
    clear HB4
    go_wp2_with fail
    refine (HT4.out.v.m.drop (key (x.s,x.o)) (by rw [HT4.out.v.len];have:=ins_len_has (⟨e.n,y,e.b,F4⟩:Bx) HS.out HE.out;omega)).mono ?_
    rintro e' w6 ⟨rfl,M6,hm6,ht6⟩
    have HT6:=Lib.hid (HT4.out.del hm6 ht6)
    clear hm6 ht6 HT4
    go_wp2_with fail
    go_ret
    refine ⟨true,by rw [hget_e HE.out,HO.out],rfl,_,_,HT6.out.v,?_,?_,HT6.out.t⟩
    ·rw [del_ins _ HS.out]
     show (delL _ E).map (fun p=>(p.1,p.2.v))=dropV (vL E) ((x.s,x.o),x.d)
     rw [←delL_map (f:=Bx.v)]
     unfold dropV setV
     rw [hget_e HE.out,HY.out,if_pos (by simpa using HZ.out)]
    ·rw [del_ins _ HS.out];exact delL_len' _ _
def CopPost (x:HS) (w:World) (e:Ending) (w':World):Prop:=∃b F,e=.returned (.pointer (some ⟨b,0,none⟩))∧HB w' b x F∧(∀y∈F,w.heap.size≤y∧y<w'.heap.size)∧Fr (fun _=>False) w w'
theorem copied (b:Nat) (x:HS) (F:List Nat) (w:World) (h:HB w b x F) (hx:Wf x):Calls prog 152 #[.pointer (some ⟨b,0,none⟩)] w (CopPost x w):=by
 have HH:=Lib.hid h;have HW:=Lib.hid hx
 have hlen:=hx.len
 clear h hx
 go_enter func152,ntmps152
 go_wp2_with fail
 refine (Hist.Of none 0 [] w (Sl.empty _ _) (by simp)).mono ?_
 rintro e w2 ⟨rfl,G,hb,hG,hf2⟩
 have HB2:=Lib.hid hb;have HG:=Lib.hid hG;have HF:=Lib.hid hf2
 clear hb hG hf2
 go_wp2_with fail
 refine (Hist.Merge w.heap.size b _ x G F w2 HB2.out (HH.out.fr HF.out (fun _ _ h=>h)) (by show 0+x.1.length<1000000;omega) (fun y hy hy'=>by have:=HH.out.lt y hy;have:=(HG.out y hy').1;omega)).mono ?_
 rintro e w3 ⟨rfl,G3,hb3,ht3⟩
 have HB3:=Lib.hid hb3;have HT3:=Lib.hid ht3
 clear hb3 ht3 HB2
 go_wp2_with fail
 go_ret
 refine ⟨_,G3,rfl,by have h3:HB w3 w.heap.size (mergeH x ([],(0,0))) G3:=HB3.out;rwa [merge_zero HW.out] at h3,fun y hy=>?_,HF.out.trans HT3.out.fr (fun _ _ h=>h) (fun i hi h=>by have:=(HG.out i h).1;omega)⟩
 rcases (HT3.out.sub y hy) with ⟨h1,h2⟩
 refine ⟨?_,h2⟩
 rcases h1 with h1|h1
 ·exact (HG.out y h1).1
 ·exact Nat.le_trans HF.out.size h1
theorem copied_none (w:World):Calls prog 152 #[.pointer none] w (CopPost ([],(0,0)) w):=by
 go_enter func152,ntmps152
 go_wp2_with fail
 refine (Hist.Of none 0 [] w (Sl.empty _ _) (by simp)).mono ?_
 rintro e w2 ⟨rfl,G,hb,hG,hf2⟩
 have HB2:=Lib.hid hb;have HG:=Lib.hid hG;have HF:=Lib.hid hf2
 clear hb hG hf2
 go_wp2_with fail
 refine (Hist.Merge_of_none w.heap.size w2).mono ?_
 rintro e w3 ⟨rfl,rfl⟩
 go_wp2_with fail
 go_ret
 exact ⟨_,G,rfl,HB2.out,HG.out,HF.out⟩
end Ops
end Go.Proofs.YtdpngmgaomghoaaGreat
