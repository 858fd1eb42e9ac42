/- Shapes: the view as an object in memory. -/
import Derived.Test.YtgfjpnpbkkadpaaGreatShPs
import Derived.Test.YtgfjpnpbkkadpaaGreatBags
namespace Go.Proofs.YtgfjpnpbkkadpaaGreat
open Tryz
set_option maxRecDepth 100000
open Go.RowKit
namespace Shape
open BagP Bag ShapeP Fm
abbrev TI:TypeId:=3
abbrev TV:TypeId:=122
abbrev TK:TypeId:=239
abbrev TP:TypeId:=91
abbrev TMK:TypeId:=112
abbrev TMI:TypeId:=113
abbrev kv (k:K3):Value:=.agg #[.int .i64 k.1,.int .i64 k.2.1,.int .i64 k.2.2]
abbrev iv (k:Int):Value:=.int .i64 k
def okK (k:K3):Prop:=wfI k.1∧wfI k.2.1∧wfI k.2.2
abbrev plc (x:Pl):List Value:= [.int .i64 x.t,.int .i64 x.i,.int .i64 x.c,.int .i64 x.d,.int .i64 x.p,.int .i64 x.f]
abbrev pla (x:Pl):Array Value:= #[.int .i64 x.t,.int .i64 x.i,.int .i64 x.c,.int .i64 x.d,.int .i64 x.p,.int .i64 x.f]
abbrev plv (x:Pl):Value:=.agg (pla x)
theorem plc_len (x:Pl):(plc x).length=6:=rfl
theorem cellsK:prog.cellsOf TK=3:=by kernel_rfl
theorem typeK:prog.keyType TK=true:=by kernel_rfl
theorem rowK:TK<prog.types.size:=of_decide_eq_true (by kernel_rfl)
theorem wideK:(match prog.underlying TK with|some (.array _ _)|some (.struct _)=>true|_=>false)=true:=by rw [underlying239]
theorem lawK:WideMaps.KeyLaw prog TK:=deep_law_laid laidOut (m:=2) (by omega) rowK (by kernel_rfl) wideK
theorem hasK {k:K3} (h:okK k):∃l,keyOf prog TK (kv k)=some l:=by
 obtain ⟨h1,h2,h3⟩:=h
 have hu:=underlying239
 have hi:=underlying3
 have hf:(kv k).formed prog TK=true:=by simp [Value.formed,hu,cellsK]
 have hc:=cellsK
 have hci:=cellsI
 have h1':(Lit.int .i64 k.1).wf=true:=h1
 have h2':(Lit.int .i64 k.2.1).wf=true:=h2
 have h3':(Lit.int .i64 k.2.2).wf=true:=h3
 have h0:prog.types.size≠0:=fun e=>by have:=rowK;rw [e] at this;exact absurd this (Nat.not_lt_zero _)
 obtain ⟨m,hm⟩:=Nat.exists_eq_succ_of_ne_zero h0
 unfold keyOf
 rw [hu]
 dsimp only
 rw [typeK,hf,hm]
 simp [Program.keyLits,hu,hi,hc,hci,Value.cells,h1',h2',h3']
theorem KK:KV TK kv okK:=⟨Maps.Keyed.of_law lawK,fun {a b} h=>by
 obtain ⟨a1,a2,a3⟩:=a
 obtain ⟨b1,b2,b3⟩:=b
 simp at h
 simp [h],hasK⟩
theorem uMK:prog.underlying TMK=some (.map TK TI):=underlying112
theorem uMI:prog.underlying TMI=some (.map TI TI):=underlying113
structure Ap (B rk rc:Nat) (G1 G2:List Nat) (n:Nat):Prop where
 b:B<n
 k:rk<n
 c:rc<n
 g1:∀x∈G1,x<n
 g2:∀x∈G2,x<n
 bk:B≠rk
 bc:B≠rc
 kc:rk≠rc
 b1:B∉G1
 b2:B∉G2
 k1:rk∉G1
 k2:rk∉G2
 c1:rc∉G1
 c2:rc∉G2
 gg:∀x∈G1,x∉G2
section
variable {B rk rc n n':Nat} {G1 G2 G:List Nat}
theorem Ap.up (h:Ap B rk rc G1 G2 n) (hn:n≤n'):Ap B rk rc G1 G2 n':=
 ⟨by have:=h.b;omega,by have:=h.k;omega,by have:=h.c;omega,fun x hx=>by have:=h.g1 x hx;omega,fun x hx=>by have:=h.g2 x hx;omega,h.bk,h.bc,h.kc,h.b1,h.b2,h.k1,h.k2,h.c1,h.c2,h.gg⟩
theorem Ap.turn1 (h:Ap B rk rc G1 G2 n) (hn:n≤n') (hs:∀x∈G,(x∈G1∨n≤x)∧x<n'):Ap B rk rc G G2 n':=by
 have old:∀x,x<n→x∈G→x∈G1:=fun x hx hg=>(hs x hg).1.elim id (fun h=>by omega)
 have h':=h.up hn
 exact ⟨h'.b,h'.k,h'.c,fun x hx=>(hs x hx).2,h'.g2,h.bk,h.bc,h.kc,fun e=>h.b1 (old _ h.b e),h.b2,fun e=>h.k1 (old _ h.k e),h.k2,fun e=>h.c1 (old _ h.c e),h.c2,fun x hx h2=>h.gg x (old x (h.g2 x h2) hx) h2⟩
theorem Ap.turn2 (h:Ap B rk rc G1 G2 n) (hn:n≤n') (hs:∀x∈G,(x∈G2∨n≤x)∧x<n'):Ap B rk rc G1 G n':=by
 have old:∀x,x<n→x∈G→x∈G2:=fun x hx hg=>(hs x hg).1.elim id (fun h=>by omega)
 have h':=h.up hn
 exact ⟨h'.b,h'.k,h'.c,h'.g1,fun x hx=>(hs x hx).2,h.bk,h.bc,h.kc,h.b1,fun e=>h.b2 (old _ h.b e),h.k1,fun e=>h.k2 (old _ h.k e),h.c1,fun e=>h.c2 (old _ h.c e),fun x hx h2=>h.gg x hx (old x (h.g1 x hx) h2)⟩
end
structure VI (w:World) (B rk rc n:Nat) (lk lc ld lf:List K3) (c:Array Value) (L1 L2:List (Int × Int)) (G1 G2:List Nat):Prop where
 blk:Bk w B c TV
 sz:c.size=8
 c0:c[0]? =some (.map (some rk))
 c1:c[1]? =some (.map (some rc))
 d:BagC w c 2 L1 G1
 f:BagC w c 5 L2 G2
 dl:Dep ld L1
 fl:Fan lf L2
 km:FM TK kv okK w rk n (fun k=>cn (fun x=>x==k) lk)
 cm:FM TI iv wfI w rc n (fun x=>cn (cls x) lc)
 ap:Ap B rk rc G1 G2 w.heap.size
def VM (w:World) (B rk rc n:Nat) (lk lc ld lf:List K3) (F:List Nat):Prop:=∃c L1 L2 G1 G2,VI w B rk rc n lk lc ld lf c L1 L2 G1 G2∧F=B::rk::rc::(G1++G2)
theorem FM.mono {κ:Type} {tk:TypeId} {kv:κ→Value} {ok:κ→Prop} {w:World} {r n m:Nat} {f:κ→Int} (h:FM tk kv ok w r n f) (hm:n≤m) (hb:m<1000000):FM tk kv ok w r m f:=by
 obtain ⟨h0,D,h4,h5⟩:=h
 exact ⟨hb,D,h4.mono hm,h5⟩
section
variable {w w':World} {B rk rc n:Nat} {lk lc ld lf:List K3} {c:Array Value} {L1 L2:List (Int × Int)} {G1 G2 F:List Nat}
theorem VI.fr {S:Nat→Prop} (h:VI w B rk rc n lk lc ld lf c L1 L2 G1 G2) (hf:Fr S w w') (hs:∀b∈B::rk::rc::(G1++G2),¬S b):VI w' B rk rc n lk lc ld lf c L1 L2 G1 G2:=
 ⟨h.blk.fr hf (fun b hb=>hs b (by simp at hb;simp [hb])),h.sz,h.c0,h.c1,h.d.fr hf (fun b hb=>hs b (by simp [hb])),h.f.fr hf (fun b hb=>hs b (by simp [hb])),h.dl,h.fl,h.km.fr hf (fun b hb=>hs b (by simp at hb;simp [hb])),h.cm.fr hf (fun b hb=>hs b (by simp at hb;simp [hb])),h.ap.up hf.size⟩
theorem VM.fr {S:Nat→Prop} (h:VM w B rk rc n lk lc ld lf F) (hf:Fr S w w') (hs:∀b∈F,¬S b):VM w' B rk rc n lk lc ld lf F:=by
 obtain ⟨c,L1,L2,G1,G2,h,rfl⟩:=h
 exact ⟨c,L1,L2,G1,G2,h.fr hf hs,rfl⟩
theorem VI.lt (h:VI w B rk rc n lk lc ld lf c L1 L2 G1 G2):∀b∈B::rk::rc::(G1++G2),b<w.heap.size:=by
 intro b hb
 simp only [List.mem_cons,List.mem_append] at hb
 rcases hb with rfl|rfl|rfl|hb|hb
 ·exact h.ap.b
 ·exact h.ap.k
 ·exact h.ap.c
 ·exact h.ap.g1 b hb
 ·exact h.ap.g2 b hb
theorem VM.lt (h:VM w B rk rc n lk lc ld lf F):∀b∈F,b<w.heap.size:=by obtain ⟨c,L1,L2,G1,G2,h,rfl⟩:=h;exact h.lt
theorem VM.mem (h:VM w B rk rc n lk lc ld lf F):B∈F∧rk∈F∧rc∈F:=by obtain ⟨c,L1,L2,G1,G2,h,rfl⟩:=h;simp
theorem VM.cells (h:VM w B rk rc n lk lc ld lf F):w.cell? ⟨B,0,none⟩=some (.map (some rk))∧w.cell? ⟨B,1,none⟩=some (.map (some rc)):=by
 obtain ⟨c,L1,L2,G1,G2,h,rfl⟩:=h
 exact ⟨(h.blk.cell 0).trans h.c0,(h.blk.cell 1).trans h.c1⟩
theorem VI.postF {L':List (Int × Int)} {lf':List K3} (h:VI w B rk rc n lk lc ld lf c L1 L2 G1 G2) (hp:BagPost B 5 c TV L' G2 w w') (hl:Fan lf' L'):
  ∃F',VM w' B rk rc n lk lc ld lf' F'∧Tn (B::rk::rc::(G1++G2)) F' w w':=by
 obtain ⟨c',G',hin,hsz,hc,hsub,hfr⟩:=hp
 have hlt:=hin.lt
 have e5:=h.ap
 obtain ⟨r,a0,a1,a2,hM,hP⟩:=h.d.fr hfr (fun b hb=>by rintro (e|e);exact e5.b1 (e▸hb);exact e5.gg b hb e)
 have hap:Ap B rk rc G1 G' w'.heap.size:=e5.turn2 hfr.size (fun x hx=>⟨hsub x hx,hlt x (by simp [hx])⟩)
 have hvi:VI w' B rk rc n lk lc ld lf' c' L1 L' G1 G':=⟨hin.1,hsz.trans h.sz,(hc 0 (by omega)).trans h.c0,(hc 1 (by omega)).trans h.c1,⟨r,(hc 2 (by omega)).trans a0,(hc 3 (by omega)).trans a1,(hc 4 (by omega)).trans a2,hM,hP⟩,hin.2.1,h.dl,hl,
  h.km.fr hfr (fun b hb=>by simp at hb;subst hb;rintro (e|e);exact e5.bk e.symm;exact e5.k2 e),h.cm.fr hfr (fun b hb=>by simp at hb;subst hb;rintro (e|e);exact e5.bc e.symm;exact e5.c2 e),hap⟩
 refine ⟨_,⟨c',L1,L',G1,G',hvi,rfl⟩,hfr.mono (fun i _ hi=>by rcases hi with rfl|hi;simp;simp [hi]),fun x hx=>⟨?_,hvi.lt x hx⟩⟩
 simp only [List.mem_cons,List.mem_append] at hx ⊢
 rcases hx with rfl|rfl|rfl|hx|hx
 iterate 3 (· exact .inl (by simp))
 ·exact .inl (by simp [hx])
 ·exact (hsub x hx).elim (fun h=>.inl (by simp [h])) .inr
theorem VI.postD {L':List (Int × Int)} {ld':List K3} (h:VI w B rk rc n lk lc ld lf c L1 L2 G1 G2) (hp:BagPost B 2 c TV L' G1 w w') (hl:Dep ld' L'):
  ∃F',VM w' B rk rc n lk lc ld' lf F'∧Tn (B::rk::rc::(G1++G2)) F' w w':=by
 obtain ⟨c',G',hin,hsz,hc,hsub,hfr⟩:=hp
 have hlt:=hin.lt
 have e5:=h.ap
 obtain ⟨r,a0,a1,a2,hM,hP⟩:=h.f.fr hfr (fun b hb=>by rintro (e|e);exact e5.b2 (e▸hb);exact e5.gg b e hb)
 have hap:Ap B rk rc G' G2 w'.heap.size:=e5.turn1 hfr.size (fun x hx=>⟨hsub x hx,hlt x (by simp [hx])⟩)
 have hvi:VI w' B rk rc n lk lc ld' lf c' L' L2 G' G2:=⟨hin.1,hsz.trans h.sz,(hc 0 (by omega)).trans h.c0,(hc 1 (by omega)).trans h.c1,hin.2.1,⟨r,(hc 5 (by omega)).trans a0,(hc 6 (by omega)).trans a1,(hc 7 (by omega)).trans a2,hM,hP⟩,hl,h.fl,
  h.km.fr hfr (fun b hb=>by simp at hb;subst hb;rintro (e|e);exact e5.bk e.symm;exact e5.k1 e),h.cm.fr hfr (fun b hb=>by simp at hb;subst hb;rintro (e|e);exact e5.bc e.symm;exact e5.c1 e),hap⟩
 refine ⟨_,⟨c',L',L2,G',G2,hvi,rfl⟩,hfr.mono (fun i _ hi=>by rcases hi with rfl|hi;simp;simp [hi]),fun x hx=>⟨?_,hvi.lt x hx⟩⟩
 simp only [List.mem_cons,List.mem_append] at hx ⊢
 rcases hx with rfl|rfl|rfl|hx|hx
 iterate 3 (· exact .inl (by simp))
 ·exact (hsub x hx).elim (fun h=>.inl (by simp [h])) .inr
 ·exact .inl (by simp [hx])
abbrev adF:FuncId:=110
abbrev tkF:FuncId:=109
theorem VM.addF (h:VM w B rk rc n lk lc ld lf F) (k:K3) (hl:lf.length<1000000):Calls prog adF #[.pointer (some ⟨B,5,none⟩),.int .i64 (kf k),.int .i64 1] w fun e w'=>(∃b,e=.returned (.bool b))∧∃F',VM w' B rk rc n lk lc ld (lf++ [k]) F'∧Tn F F' w w':=by
 obtain ⟨c,L1,L2,G1,G2,h,rfl⟩:=h
 refine (Bag.Add B 5 c TV (kf k) 1 L2 G2 w ⟨h.blk,h.f,h.ap.b2⟩ (by have:=h.fl.len;omega)).mono ?_
 rintro e w' ⟨rfl,hp⟩
 exact ⟨⟨_,rfl⟩,h.postF hp (h.fl.add hl k rfl)⟩
theorem VM.addD (h:VM w B rk rc n lk lc ld lf F) (k:K3) (hl:ld.length<1000000) (hq:qd k=true):Calls prog adF #[.pointer (some ⟨B,2,none⟩),.int .i64 (kd k),.int .i64 1] w fun e w'=>(∃b,e=.returned (.bool b))∧∃F',VM w' B rk rc n lk lc (ld++ [k]) lf F'∧Tn F F' w w':=by
 obtain ⟨c,L1,L2,G1,G2,h,rfl⟩:=h
 refine (Bag.Add B 2 c TV (kd k) 1 L1 G1 w ⟨h.blk,h.d,h.ap.b1⟩ (by have:=h.dl.len;omega)).mono ?_
 rintro e w' ⟨rfl,hp⟩
 exact ⟨⟨_,rfl⟩,h.postD hp (h.dl.add hl k hq)⟩
theorem VM.takeF (h:VM w B rk rc n lk lc ld lf F) (k:K3) (hl:lf.length<1000000) (hk:k∈lf):Calls prog tkF #[.pointer (some ⟨B,5,none⟩),.int .i64 (kf k),.int .i64 1] w fun e w'=>(∃b,e=.returned (.bool b))∧∃F',VM w' B rk rc n lk lc ld (lf.erase k) F'∧Tn F F' w w':=by
 obtain ⟨c,L1,L2,G1,G2,h,rfl⟩:=h
 refine (Bag.Take B 5 c TV (kf k) 1 L2 G2 w ⟨h.blk,h.f,h.ap.b2⟩ (by have:=h.fl.len;omega)).mono ?_
 rintro e w' ⟨rfl,hp⟩
 exact ⟨⟨_,rfl⟩,h.postF hp (h.fl.take hk rfl)⟩
theorem VM.takeD (h:VM w B rk rc n lk lc ld lf F) (k:K3) (hl:ld.length<1000000) (hk:k∈ld) (hq:qd k=true):Calls prog tkF #[.pointer (some ⟨B,2,none⟩),.int .i64 (kd k),.int .i64 1] w fun e w'=>(∃b,e=.returned (.bool b))∧∃F',VM w' B rk rc n lk lc (ld.erase k) lf F'∧Tn F F' w w':=by
 obtain ⟨c,L1,L2,G1,G2,h,rfl⟩:=h
 refine (Bag.Take B 2 c TV (kd k) 1 L1 G1 w ⟨h.blk,h.d,h.ap.b1⟩ (by have:=h.dl.len;omega)).mono ?_
 rintro e w' ⟨rfl,hp⟩
 exact ⟨⟨_,rfl⟩,h.postD hp (h.dl.take hk hq)⟩
theorem VM.skipD (h:VM w B rk rc n lk lc ld lf F) (k:K3) (hq:qd k=false):VM w B rk rc n lk lc (ld++ [k]) lf F:=by
 obtain ⟨c,L1,L2,G1,G2,h,rfl⟩:=h
 exact ⟨c,L1,L2,G1,G2,{ h with dl:=h.dl.skip k hq },rfl⟩
theorem VM.skipT (h:VM w B rk rc n lk lc ld lf F) {k:K3} (hk:k∈ld) (hq:qd k=false):VM w B rk rc n lk lc (ld.erase k) lf F:=by
 obtain ⟨c,L1,L2,G1,G2,h,rfl⟩:=h
 exact ⟨c,L1,L2,G1,G2,{ h with dl:=h.dl.skipT hk hq },rfl⟩
theorem wf_small {n:Int} (h0:0≤n) (h1:n<1000000000000):wfI n:=by
 show (Lit.int .i64 n).wf=true
 simp only [Lit.wf,Bool.and_eq_true,decide_eq_true_eq]
 have e1:IntKind.i64.min= -9223372036854775808:=rfl
 have e2:IntKind.i64.max=9223372036854775807:=rfl
 omega
theorem wf_cn {p:K3→Bool} {l:List K3} (hl:l.length<1000000):wfI (cn p l):=by have:=cn_range p l;exact wf_small (by omega) (by omega)
theorem VM.kinds (h:VM w B rk rc n lk lc ld lf F) {k:K3} (hk:okK k) {v:Int} (hv:wfI v) {lk':List K3} (hl:lk.length<1000000) (e1:cn (fun x=>x==k) lk'=v) (e2:∀j,j≠k→cn (fun x=>x==j) lk'=cn (fun x=>x==j) lk) (hn:n+2<1000000):
  (Instr.lookup TMK (.map (some rk)) (kv k) false).run prog w=.ok (.int .i64 (cn (fun x=>x==k) lk)) w∧∃w3 s,(Instr.mapEntry TMK (.map (some rk)) (kv k)).run prog w=.ok (.tuple #[.int .i64 (cn (fun x=>x==k) lk),.int .i64 (s:Nat)]) w3∧
   (Instr.lookup TMK (.map (some rk)) (kv k) false).run prog w3=.ok (.int .i64 (cn (fun x=>x==k) lk)) w3∧∃w4,(Instr.entryStore TMK (.map (some rk)) (.int .i64 (s:Nat)) (.int .i64 v)).run prog w3=.ok () w4∧VM w4 B rk rc (n+2) lk' lc ld lf F∧Fr (· =rk) w w4:=by
 obtain ⟨c,L1,L2,G1,G2,h,rfl⟩:=h
 refine ⟨h.km.look KK uMK hk,?_⟩
 obtain ⟨w3,s,hen,hs3,hf3⟩:=h.km.entry KK uMK hk (wf_cn hl) (by omega)
 refine ⟨w3,s,hen,hs3.1.look KK uMK hk,?_⟩
 obtain ⟨w4,hst,hm4,hf4⟩:=hs3.store KK uMK hk hv (f':=fun j=>cn (fun x=>x==j) lk') e1 e2 (by omega)
 have hfr:=hf3.trans hf4 (T:=(· =rk)) (fun _ _ h=>h) (fun _ _ h=>h)
 have e5:=h.ap
 refine ⟨w4,hst,⟨c,L1,L2,G1,G2,⟨h.blk.fr hfr (fun b hb e=>by simp at hb;exact e5.bk (hb▸e)),h.sz,h.c0,h.c1,h.d.fr hfr (fun b hb e=>e5.k1 (e▸hb)),h.f.fr hfr (fun b hb e=>e5.k2 (e▸hb)),h.dl,h.fl,hm4,Shape.FM.mono (h.cm.fr hfr (fun b hb e=>by simp at hb;exact e5.kc (hb▸e).symm)) (by omega) (by omega),e5.up hfr.size⟩,rfl⟩,hfr⟩
theorem VM.classes (h:VM w B rk rc n lk lc ld lf F) {x:Int} (hk:wfI x) {v:Int} (hv:wfI v) {lc':List K3} (e1:cn (cls x) lc'=v) (e2:∀j,j≠x→cn (cls j) lc'=cn (cls j) lc) (hn:n+1<1000000):
  (Instr.lookup TMI (.map (some rc)) (.int .i64 x) false).run prog w=.ok (.int .i64 (cn (cls x) lc)) w∧∃w4,(Instr.mapUpdate TMI (.map (some rc)) (.int .i64 x) (.int .i64 v)).run prog w=.ok () w4∧VM w4 B rk rc (n+1) lk lc' ld lf F∧Fr (· =rc) w w4:=by
 obtain ⟨c,L1,L2,G1,G2,h,rfl⟩:=h
 refine ⟨h.cm.look KI uMI hk,?_⟩
 obtain ⟨w4,hst,hm4,hfr⟩:=h.cm.upd KI uMI hk hv (f':=fun j=>cn (cls j) lc') e1 e2 (by omega)
 have e5:=h.ap
 refine ⟨w4,hst,⟨c,L1,L2,G1,G2,⟨h.blk.fr hfr (fun b hb e=>by simp at hb;exact e5.bc (hb▸e)),h.sz,h.c0,h.c1,h.d.fr hfr (fun b hb e=>e5.c1 (e▸hb)),h.f.fr hfr (fun b hb e=>e5.c2 (e▸hb)),h.dl,h.fl,Shape.FM.mono (h.km.fr hfr (fun b hb e=>by simp at hb;exact e5.kc (hb▸e))) (by omega) (by omega),hm4,e5.up hfr.size⟩,rfl⟩,hfr⟩
theorem VM.look (h:VM w B rk rc n lk lc ld lf F) {k:K3} (hk:okK k):(Instr.lookup TMK (.map (some rk)) (kv k) false).run prog w=.ok (.int .i64 (cn (fun x=>x==k) lk)) w:=by
 obtain ⟨c,L1,L2,G1,G2,h,rfl⟩:=h
 exact h.km.look KK uMK hk
theorem VM.delK (h:VM w B rk rc n lk lc ld lf F) {k:K3} (hk:okK k) (h0:cn (fun x=>x==k) lk=0) (ty:TypeId):∃w',(Builtin.delete_ #[TMK,TK] ty #[.map (some rk),kv k]).run prog w=.ok (.tuple #[]) w'∧VM w' B rk rc n lk lc ld lf F∧Fr (· =rk) w w':=by
 obtain ⟨c,L1,L2,G1,G2,h,rfl⟩:=h
 obtain ⟨w',hst,hm4,hfr⟩:=h.km.del KK uMK hk (f':=fun j=>cn (fun x=>x==j) lk) h0 (fun _ _=>rfl) ty
 have e5:=h.ap
 exact ⟨w',hst,⟨c,L1,L2,G1,G2,⟨h.blk.fr hfr (fun b hb e=>by simp at hb;exact e5.bk (hb▸e)),h.sz,h.c0,h.c1,h.d.fr hfr (fun b hb e=>e5.k1 (e▸hb)),h.f.fr hfr (fun b hb e=>e5.k2 (e▸hb)),h.dl,h.fl,hm4,h.cm.fr hfr (fun b hb e=>by simp at hb;exact e5.kc (hb▸e).symm),e5.up hfr.size⟩,rfl⟩,hfr⟩
end
theorem of_ (x:Pl) (w:World):Calls prog 162 #[plv x] w fun e w'=>e=.returned (kv x.k)∧Fr (fun _=>False) w w':=by
 obtain ⟨t,i,c,d,p,f⟩:=x
 go_enter func162,ntmps162
 go_wp2
 have hh:=heap_new (w.alloc (.cells (pla ⟨t,i,c,d,p,f⟩) TP)) (.cells #[.int .i64 c,.int .i64 d,.int .i64 f] TK)
 rw [show (w.alloc (.cells (pla ⟨t,i,c,d,p,f⟩) TP)).heap.size=w.heap.size+1 by simp] at hh
 exact bodyPost_ret (results_cell_row rfl _ _ (w.heap.size+1) TK _ (0,0) _ rfl hh underlying239 rfl (by kernel_rfl)) rfl ⟨rfl,(Fr.alloc _ _ _).trans (Fr.alloc (fun _=>False) _ _) (fun _ _ h=>h) (fun _ _ h=>h)⟩
end Shape
set_option maxRecDepth 100000
set_option maxHeartbeats 1000000
namespace Shape
open BagP Bag ShapeP Fm
attribute [local go_sem] Eng.ev Eng.getO_cons Eng.getO_nil
structure CS (w0:World) (F0:List Nat) (w:World) (B rk rc n:Nat) (lk lc ld lf:List K3) (F:List Nat) (Bp:Nat) (x:Pl):Prop where
 h:VM w B rk rc n lk lc ld lf F
 t:Tn F0 F w0 w
 p:Bk w Bp (pla x) TP
 nb:Bp∉F
section
variable {w0 w w':World} {B rk rc n m:Nat} {lk lc ld lf lk' lc' ld' lf':List K3} {F0 F F':List Nat} {Bp:Nat} {x:Pl}
theorem CS.fr (h:CS w0 F0 w B rk rc n lk lc ld lf F Bp x) (hf:Fr (fun _=>False) w w'):CS w0 F0 w' B rk rc n lk lc ld lf F Bp x:=
 ⟨h.h.fr hf (fun _ _ h=>h),h.t.trans (Tn.of_fr hf h.h.lt),h.p.fr hf (fun _ _ h=>h),h.nb⟩
theorem CS.to (h:CS w0 F0 w B rk rc n lk lc ld lf F Bp x) (k:VM w' B rk rc m lk' lc' ld' lf' F') (t:Tn F F' w w'):CS w0 F0 w' B rk rc m lk' lc' ld' lf' F' Bp x:=
 ⟨k,h.t.trans t,h.p.fr t.fr (fun b hb=>by simp at hb;subst hb;exact h.nb),fun hx=>by
  rcases (t.sub Bp hx).1 with e|e
  ·exact h.nb e
  ·have:=lt_of_heap h.p;omega⟩
theorem tn_of {r:Nat} (hF:∀b∈F,b<w.heap.size) (hr:r∈F) (hf:Fr (· =r) w w'):Tn F F w w':=
 ⟨hf.mono (fun i _ e=>by rw [e];exact hr),fun y hy=>⟨.inl hy,Nat.lt_of_lt_of_le (hF y hy) hf.size⟩⟩
theorem CS.cells (h:CS w0 F0 w B rk rc n lk lc ld lf F Bp x):w.cell? ⟨Bp,0,none⟩=some (.int .i64 x.t)∧w.cell? ⟨Bp,1,none⟩=some (.int .i64 x.i)∧w.cell? ⟨Bp,2,none⟩=some (.int .i64 x.c)∧w.cell? ⟨Bp,3,none⟩=some (.int .i64 x.d)∧w.cell? ⟨Bp,4,none⟩=some (.int .i64 x.p)∧w.cell? ⟨Bp,5,none⟩=some (.int .i64 x.f):=
 ⟨h.p.cell 0,h.p.cell 1,h.p.cell 2,h.p.cell 3,h.p.cell 4,h.p.cell 5⟩
theorem CS.addF (h:CS w0 F0 w B rk rc n lk lc ld lf F Bp x) (hl:lf.length<1000000):Calls prog adF #[.pointer (some ⟨B,5,none⟩),.int .i64 x.f,.int .i64 1] w fun e w'=>(∃b,e=.returned (.bool b))∧∃F',CS w0 F0 w' B rk rc n lk lc ld (lf++ [x.k]) F' Bp x:=
 (h.h.addF x.k hl).mono (fun _ _ ⟨he,F',k,t⟩=>⟨he,F',h.to k t⟩)
theorem CS.addD (h:CS w0 F0 w B rk rc n lk lc ld lf F Bp x) (hl:ld.length<1000000) (hq:qd x.k=true):Calls prog adF #[.pointer (some ⟨B,2,none⟩),.int .i64 x.d,.int .i64 1] w fun e w'=>(∃b,e=.returned (.bool b))∧∃F',CS w0 F0 w' B rk rc n lk lc (ld++ [x.k]) lf F' Bp x:=
 (h.h.addD x.k hl hq).mono (fun _ _ ⟨he,F',k,t⟩=>⟨he,F',h.to k t⟩)
theorem CS.takeF (h:CS w0 F0 w B rk rc n lk lc ld lf F Bp x) (hl:lf.length<1000000) (hk:x.k∈lf):Calls prog tkF #[.pointer (some ⟨B,5,none⟩),.int .i64 x.f,.int .i64 1] w fun e w'=>(∃b,e=.returned (.bool b))∧∃F',CS w0 F0 w' B rk rc n lk lc ld (lf.erase x.k) F' Bp x:=
 (h.h.takeF x.k hl hk).mono (fun _ _ ⟨he,F',k,t⟩=>⟨he,F',h.to k t⟩)
theorem CS.takeD (h:CS w0 F0 w B rk rc n lk lc ld lf F Bp x) (hl:ld.length<1000000) (hk:x.k∈ld) (hq:qd x.k=true):Calls prog tkF #[.pointer (some ⟨B,2,none⟩),.int .i64 x.d,.int .i64 1] w fun e w'=>(∃b,e=.returned (.bool b))∧∃F',CS w0 F0 w' B rk rc n lk lc (ld.erase x.k) lf F' Bp x:=
 (h.h.takeD x.k hl hk hq).mono (fun _ _ ⟨he,F',k,t⟩=>⟨he,F',h.to k t⟩)
theorem CS.kinds (h:CS w0 F0 w B rk rc n lk lc ld lf F Bp x) (hk:okK x.k) {m v:Int} (hm:cn (fun y=>y==x.k) lk=m) (hv:wfI v) (hl:lk.length<1000000) (e1:cn (fun y=>y==x.k) lk'=v) (e2:∀j,j≠x.k→cn (fun y=>y==j) lk'=cn (fun y=>y==j) lk) (hn:n+2<1000000):
  Calls prog 162 #[plv x] w fun e w'=>e=.returned (kv x.k)∧w'.cell? ⟨B,0,none⟩=some (.map (some rk))∧(Instr.lookup TMK (.map (some rk)) (kv x.k) false).run prog w'=.ok (.int .i64 m) w'∧
   ∃w3 s,(Instr.mapEntry TMK (.map (some rk)) (kv x.k)).run prog w'=.ok (.tuple #[.int .i64 m,.int .i64 (s:Nat)]) w3∧(Instr.lookup TMK (.map (some rk)) (kv x.k) false).run prog w3=.ok (.int .i64 m) w3∧
    ∃w4,(Instr.entryStore TMK (.map (some rk)) (.int .i64 (s:Nat)) (.int .i64 v)).run prog w3=.ok () w4∧Hid (CS w0 F0 w4 B rk rc (n+2) lk' lc ld lf F Bp x):=by
 refine (of_ x w).mono ?_
 rintro e w' ⟨rfl,hf⟩
 have h':=h.fr hf
 obtain ⟨l1,w3,s,h3,l3,w4,h4,hv4,hf4⟩:=h'.h.kinds hk hv hl e1 e2 hn
 rw [hm] at l1 h3 l3
 exact ⟨rfl,h'.h.cells.1,l1,w3,s,h3,l3,w4,h4,h'.to hv4 (tn_of h'.h.lt h'.h.mem.2.1 hf4)⟩
theorem CS.classes (h:CS w0 F0 w B rk rc n lk lc ld lf F Bp x) (hk:wfI x.c) {m v:Int} (hm:cn (cls x.c) lc=m) (hv:wfI v) (e1:cn (cls x.c) lc'=v) (e2:∀j,j≠x.c→cn (cls j) lc'=cn (cls j) lc) (hn:n+1<1000000):
  (Instr.lookup TMI (.map (some rc)) (.int .i64 x.c) false).run prog w=.ok (.int .i64 m) w∧∃w4,(Instr.mapUpdate TMI (.map (some rc)) (.int .i64 x.c) (.int .i64 v)).run prog w=.ok () w4∧Hid (CS w0 F0 w4 B rk rc (n+1) lk lc' ld lf F Bp x):=by
 obtain ⟨l1,w4,h4,hv4,hf4⟩:=h.h.classes hk hv e1 e2 hn
 rw [hm] at l1
 exact ⟨l1,w4,h4,h.to hv4 (tn_of h.h.lt h.h.mem.2.2 hf4)⟩
end
theorem c3 {ops:Array Oper} (hops:Eng.fnOps Tryz.f104 3=ops) (a0:Act) (Q:Exit→Act→World→Prop) (w0:World) (F0:List Nat) (w:World) (B rk rc n:Nat) (lk lc ld lf:List K3) (F:List Nat) (Bp:Nat) (t i c d p f:Int) (hst:CS w0 F0 w B rk rc n lk lc ld lf F Bp ⟨t,i,c,d,p,f⟩) (hl:lf.length<1000000)
  (hn:a0.tmps.size=37) (h_0:a0.tmps.getD 0 undef=.pointer (some ⟨B,0,none⟩)) (h_3:a0.tmps.getD 3 undef=.pointer (some ⟨Bp,0,none⟩))
  (hpost:∀ (x:Nat→Value) (w':World) (F':List Nat),CS w0 F0 w' B rk rc n lk lc ld (lf++ [(c,d,f)]) F' Bp ⟨t,i,c,d,p,f⟩→Q .normal (Eng.setAll a0 [22,23,24,25,26,27] x) w'):
  (Code.region 3 ops true).wp prog Q a0 w:=by
 simp only [Eng.fnOps,Eng.regOps,Tryz.f104,Option.bind_some,Option.getD_some,Nat.reduceEqDiff,↓reduceIte] at hops
 subst hops
 have HSt:=Lib.hid (hst.fr (Fr.drew _ _))
 refine Eng.regionN [(0,true),(1,true),(2,true),(3,true),(4,true),(5,false)] (fun w'=>w'.cell? ⟨Bp,5,none⟩=some (.int .i64 f)) (by kernel_rfl) 37 hn (by kernel_rfl) rfl (by kernel_rfl) (HSt.out.p.cell 5) (fun a b ha hb=>?_)
 subst ha
 have hb0:b 0=.pointer (some ⟨B,0,none⟩):=(hb 0).symm.trans h_0
 have hb3:b 3=.pointer (some ⟨Bp,0,none⟩):=(hb 3).symm.trans h_3
 clear hb h_0 h_3
 have HP:=Lib.hid hpost;have HN:=Lib.hid hn
 clear hpost hn
 iterate 5 (refine Eng.Sch.tk ?_)
 refine Eng.Sch.call rfl rfl (by decide) (by kernel_rfl) ?_ (HSt.out.addF hl) ?_
 ·go_simp
 rintro e w2 ⟨⟨b1,rfl⟩,F2,hT⟩
 have HSt1:=Lib.hid (hT)
 clear hT
 refine ⟨_,rfl,HSt1.out.p.cell 5,?_⟩
 refine Eng.Sch.end_ [22,23,24,25,26,27] HN.out (by kernel_rfl) (by kernel_rfl) ?_
 exact HP.out _ _ _ HSt1.out
theorem c5 {ops:Array Oper} (hops:Eng.fnOps Tryz.f104 5=ops) (a0:Act) (Q:Exit→Act→World→Prop) (w0:World) (F0:List Nat) (w:World) (B rk rc n:Nat) (lk lc ld lf:List K3) (F:List Nat) (Bp:Nat) (t i c d p f:Int) (hst:CS w0 F0 w B rk rc n lk lc ld lf F Bp ⟨t,i,c,d,p,f⟩) (hl:ld.length<1000000) (hq:qd (c,d,f)=true)
  (hn:a0.tmps.size=37) (h_0:a0.tmps.getD 0 undef=.pointer (some ⟨B,0,none⟩)) (h_3:a0.tmps.getD 3 undef=.pointer (some ⟨Bp,0,none⟩))
  (hpost:∀ (x:Nat→Value) (w':World) (F':List Nat),CS w0 F0 w' B rk rc n lk lc (ld++ [(c,d,f)]) lf F' Bp ⟨t,i,c,d,p,f⟩→Q .normal (Eng.setAll a0 [31,32,33,34,35,36] x) w'):
  (Code.region 5 ops true).wp prog Q a0 w:=by
 simp only [Eng.fnOps,Eng.regOps,Tryz.f104,Option.bind_some,Option.getD_some,Nat.reduceEqDiff,↓reduceIte] at hops
 subst hops
 have HSt:=Lib.hid (hst.fr (Fr.drew _ _))
 refine Eng.regionN [(0,true),(1,true),(2,true),(3,true),(4,true),(5,false)] (fun w'=>w'.cell? ⟨Bp,3,none⟩=some (.int .i64 d)) (by kernel_rfl) 37 hn (by kernel_rfl) rfl (by kernel_rfl) (HSt.out.p.cell 3) (fun a b ha hb=>?_)
 subst ha
 have hb0:b 0=.pointer (some ⟨B,0,none⟩):=(hb 0).symm.trans h_0
 have hb3:b 3=.pointer (some ⟨Bp,0,none⟩):=(hb 3).symm.trans h_3
 clear hb h_0 h_3
 have HP:=Lib.hid hpost;have HN:=Lib.hid hn
 clear hpost hn
 iterate 5 (refine Eng.Sch.tk ?_)
 refine Eng.Sch.call rfl rfl (by decide) (by kernel_rfl) ?_ (HSt.out.addD hl hq) ?_
 ·go_simp
 rintro e w2 ⟨⟨b1,rfl⟩,F2,hT⟩
 have HSt1:=Lib.hid (hT)
 clear hT
 refine ⟨_,rfl,HSt1.out.p.cell 3,?_⟩
 refine Eng.Sch.end_ [31,32,33,34,35,36] HN.out (by kernel_rfl) (by kernel_rfl) ?_
 exact HP.out _ _ _ HSt1.out
theorem come (B rk rc n:Nat) (l:List K3) (F:List Nat) (x:Pl) (w:World) (h:VM w B rk rc n l l l l F) (hk:okK x.k) (hl:l.length<100000) (hn:n+3<1000000):
  Calls prog 104 #[.pointer (some ⟨B,0,none⟩),plv x] w fun e w'=>e=.returned (.tuple #[])∧∃F',VM w' B rk rc (n+3) (l++ [x.k]) (l++ [x.k]) (l++ [x.k]) (l++ [x.k]) F'∧Tn F F' w w':=by
 have hl:l.length<1000000:=by omega
 obtain ⟨t,i,c,d,p,f⟩:=x
 have HmK:Hid (cn (fun y=>y==(c,d,f)) l=cn (fun y=>y==(c,d,f)) l):=rfl
 have HmC:Hid (cn (cls c) l=cn (cls c) l):=rfl
 have rK:=cn_range (fun y=>y==(c,d,f)) l
 have rC:=cn_range (cls c) l
 have HeK:Hid (cn (fun y=>y==(c,d,f)) (l++ [(c,d,f)])=cn (fun y=>y==(c,d,f)) l+1):=by show _=_;rw [cn_snoc];simp
 have HoK:Hid (∀j,j≠(c,d,f)→cn (fun y=>y==j) (l++ [(c,d,f)])=cn (fun y=>y==j) l):=fun j hj=>by rw [cn_snoc,if_neg (by simpa using fun e=>hj e.symm)];omega
 have HeC:Hid (cn (cls c) (l++ [(c,d,f)])=cn (cls c) l+1):=by show _=_;rw [cn_snoc];simp [cls]
 have HoC:Hid (∀j,j≠c→cn (cls j) (l++ [(c,d,f)])=cn (cls j) l):=fun j hj=>by rw [cn_snoc,if_neg (by simpa [cls] using fun e=>hj e.symm)];omega
 generalize hmk:cn (fun y=>y==(c,d,f)) l=mk at *
 generalize hmc:cn (cls c) l=mc at *
 have HmK:=Lib.hid hmk;have HmC:=Lib.hid hmc
 have HwK:Hid (wfI (mk+1)):=wf_small (by omega) (by omega)
 have HwC:Hid (wfI (mc+1)):=wf_small (by omega) (by omega)
 have hFl:=h.lt
 have H0:=Lib.hid (show CS w F (w.alloc (.cells (pla ⟨t,i,c,d,p,f⟩) TP)) B rk rc n l l l l F w.heap.size ⟨t,i,c,d,p,f⟩ from ⟨h.fr (Fr.alloc _ _ _) (fun _ _ h=>h),Tn.of_fr (Fr.alloc _ _ _) h.lt,Bk.new _ _ _,fun e=>by have:=h.lt _ e;omega⟩)
 clear h hFl hmk hmc
 have hk:okK (c,d,f):=hk
 go_enter func104,ntmps104
 go_upto_region 1 with (fail)
 have HK:=Lib.hid (H0.out.fr (Fr.drew _ _) |>.kinds hk HmK.out (lk':=(l++ [(c,d,f)])) (v:=mk+1) HwK.out hl HeK.out HoK.out (by omega))
 obtain ⟨b0,b1,b2,b3,b4,b5⟩:=H0.out.cells
 obtain ⟨q0,q1⟩:=H0.out.h.cells
 dsimp only at b0 b1 b2 b3 b4 b5
 have hwr:IntKind.i64.wrap (mk+1)=mk+1:=IntWalk.i64_in _ (by omega)
 go_cut [0,3] (fun s0 s3 wc=>s0=.pointer (some ⟨B,0,none⟩)∧s3=.pointer (some ⟨w.heap.size,0,none⟩)∧CS w F wc B rk rc (n+2) (l++ [(c,d,f)]) l l l F w.heap.size ⟨t,i,c,d,p,f⟩)
 case first=>
  clear H0 HmK HwK HeK HoK HmC HwC HeC HoC
  go_region_with (go_at_call 162;(with_reducible refine HK.out.mono ?_);rintro e w2 ⟨rfl,a0,a1,w3,sx,a2,a3,w4,a4,hM⟩)
  all_goals
   go_wp2_with fail
   go_meet
   exact ⟨rfl,rfl,hM.out⟩
 case rest=>
  obtain ⟨rfl,rfl,hcs⟩:=hcut
  clear HK b0 b1 b2 b3 b4 b5 q0 q1 hwr H0
  have H1:=Lib.hid hcs
  clear hcs
  go_upto_region 2 with (fail)
  obtain ⟨l1,w5,h5,hM5⟩:=(H1.out.fr (Fr.drew _ _)).classes hk.1 HmC.out (lc':=(l++ [(c,d,f)])) HwC.out HeC.out HoC.out (by omega)
  obtain ⟨b0,b1,b2,b3,b4,b5⟩:=(H1.out.fr (Fr.drew _ _)).cells
  obtain ⟨q0,q1⟩:=(H1.out.fr (Fr.drew _ _)).h.cells
  dsimp only at b0 b1 b2 b3 b4 b5 l1 h5
  have hwr:IntKind.i64.wrap (mc+1)=mc+1:=IntWalk.i64_in _ (by omega)
  have H5:Hid _:=hM5
  clear hM5 H1 HmC HwC HeC HoC HmK HwK HeK HoK
  refine wp_region_still_tail 8 (by kernel_rfl) (by kernel_rfl) ?_
  simp only [List.take_succ_cons,List.take_zero,List.drop_succ_cons,List.drop_zero]
  change wpStill _ _ wc.drew (fun a'=>wpList _ _ _ _ a' wc.drew) _ _
  iterate 8 still_step
  refine wpStill_nil ?_
  go_upto_region 3 with (fail)
  clear l1 h5 b0 b1 b2 b3 b4 b5 q0 q1 hwr
  refine c3 (by kernel_rfl) _ _ w F w5 B rk rc (n+2+1) _ _ _ _ F w.heap.size t i c d p f H5.out hl rfl rfl rfl ?_
  intro y w6 F6 hst
  simp only [Eng.setAll,Act.put,List.setIfInBounds_toArray,List.set_cons_succ,List.set_cons_zero]
  have H6:=Lib.hid hst
  have b3:w6.cell? ⟨w.heap.size,3,none⟩=some (.int .i64 d):=hst.p.cell 3
  clear hst H5
  by_cases hd:0<d
  ·have hdq:decide (0<d)=true:=by simpa using hd
   have hq:qd (c,d,f)=true:=hdq
   go_upto_region 5 with (fail)
   refine c5 (by kernel_rfl) _ _ w F w6 B rk rc (n+2+1) _ _ _ _ F6 w.heap.size t i c d p f H6.out hl hq rfl rfl rfl ?_
   intro y2 w7 F7 hst
   simp only [Eng.setAll,Act.put,List.setIfInBounds_toArray,List.set_cons_succ,List.set_cons_zero]
   have H7:=Lib.hid hst
   clear hst H6 b3
   go_wp2_with fail
   go_end0
   exact ⟨rfl,F7,H7.out.h,H7.out.t⟩
  ·have hdq:decide (0<d)=false:=by simpa using hd
   have hq:qd (c,d,f)=false:=hdq
   go_wp2_with fail
   go_end0
   exact ⟨rfl,F6,H6.out.h.skipD _ hq,H6.out.t⟩
theorem ofc (t i c d p f:Int) (w:World):Calls prog 162 #[.agg #[.int .i64 t,.int .i64 i,.int .i64 c,.int .i64 d,.int .i64 p,.int .i64 f]] w fun e w'=>e=.returned (.agg #[.int .i64 c,.int .i64 d,.int .i64 f])∧Fr (fun _=>False) w w':=of_ ⟨t,i,c,d,p,f⟩ w
theorem step0v {P:Program} {ops:Array Oper} {Q:Exit→Act→World→Prop} {S:World→Prop} {b:Nat→Value} {a0:Act} {n:Nat} {i:Nat} {t:List (Nat × Bool)} {us:List (Nat × Value)} {w w':World} {o:Oper} {v:Value} (ho:ops[i]? =some o) (hd:o.dst=none) (hw:Eng.want3 ops us o=some true)
  (hrun:(execOp (Eng.ev b us) o).run P w=.ok (.value v) w') (hS:S w') (h:Eng.Sch P ops Q S b a0 n t us w'):Eng.Sch P ops Q S b a0 n ((i,false)::t) us w:=by
 refine ⟨o,ho,hw,fun K hK=>?_⟩
 rw [hrun]
 exact hK v w' hS (by rw [hd];exact h)
theorem CS.delK {w0 w:World} {B rk rc n:Nat} {lk lc ld lf:List K3} {F0 F:List Nat} {Bp:Nat} {t i c d p f:Int} (h:CS w0 F0 w B rk rc n lk lc ld lf F Bp ⟨t,i,c,d,p,f⟩) (hk:okK (c,d,f)) (h0:cn (fun y=>y==(c,d,f)) lk=0) (ty:TypeId):
  ∃w',(Builtin.delete_ #[TMK,TK] ty #[.map (some rk),.agg #[.int .i64 c,.int .i64 d,.int .i64 f]]).run prog w=.ok (.tuple #[]) w'∧Hid (CS w0 F0 w' B rk rc n lk lc ld lf F Bp ⟨t,i,c,d,p,f⟩):=by
 obtain ⟨w',h1,h2,h3⟩:=h.h.delK hk h0 ty
 exact ⟨w',h1,h.to h2 (tn_of h.h.lt h.h.mem.2.1 h3)⟩
theorem l3 {ops:Array Oper} (hops:Eng.fnOps Tryz.f103 3=ops) (a0:Act) (Q:Exit→Act→World→Prop) (w0:World) (F0:List Nat) (w:World) (B rk rc n:Nat) (lk lc ld lf:List K3) (F:List Nat) (Bp:Nat) (t i c d p f:Int) (hst:CS w0 F0 w B rk rc n lk lc ld lf F Bp ⟨t,i,c,d,p,f⟩) (m:Int) (bb:Bool) (hk:okK (c,d,f)) (hm:Hid (cn (fun y=>y==(c,d,f)) lk=m)) (q:(m==0)=bb)
  (hn:a0.tmps.size=51) (h_0:a0.tmps.getD 0 undef=.pointer (some ⟨B,0,none⟩)) (h_3:a0.tmps.getD 3 undef=.pointer (some ⟨Bp,0,none⟩))
  (hpost:∀ (x:Nat→Value) (w':World),x 29=.bool bb→CS w0 F0 w' B rk rc n lk lc ld lf F Bp ⟨t,i,c,d,p,f⟩→Q .normal (Eng.setAll a0 [22,23,24,25,26,27,28,29] x) w'):
  (Code.region 3 ops true).wp prog Q a0 w:=by
 simp only [Eng.fnOps,Eng.regOps,Tryz.f103,Option.bind_some,Option.getD_some,Nat.reduceEqDiff,↓reduceIte] at hops
 subst hops
 have HSt:=Lib.hid (hst.fr (Fr.drew _ _))
 refine Eng.regionN [(0,true),(1,true),(2,true),(3,true),(4,true),(5,false),(6,true),(7,true)] (fun w'=>w'.cell? ⟨B,0,none⟩=some (.map (some rk))∧w'.cell? ⟨Bp,0,none⟩=some (.int .i64 t)∧w'.cell? ⟨Bp,1,none⟩=some (.int .i64 i)∧w'.cell? ⟨Bp,2,none⟩=some (.int .i64 c)∧w'.cell? ⟨Bp,3,none⟩=some (.int .i64 d)∧w'.cell? ⟨Bp,4,none⟩=some (.int .i64 p)∧w'.cell? ⟨Bp,5,none⟩=some (.int .i64 f)∧(Instr.lookup TMK (.map (some rk)) (kv (c,d,f)) false).run prog w'=.ok (.int .i64 m) w') (by kernel_rfl) 51 hn (by kernel_rfl) rfl (by kernel_rfl) (⟨HSt.out.h.cells.1,HSt.out.p.cell 0,HSt.out.p.cell 1,HSt.out.p.cell 2,HSt.out.p.cell 3,HSt.out.p.cell 4,HSt.out.p.cell 5,(by have h1:=HSt.out.h.look hk;rw [hm.out] at h1;exact h1)⟩) (fun a b ha hb=>?_)
 subst ha
 have hb0:b 0=.pointer (some ⟨B,0,none⟩):=(hb 0).symm.trans h_0
 have hb3:b 3=.pointer (some ⟨Bp,0,none⟩):=(hb 3).symm.trans h_3
 clear hb h_0 h_3
 have HP:=Lib.hid hpost;have HN:=Lib.hid hn
 clear hpost hn
 iterate 5 (refine Eng.Sch.tk ?_)
 refine Eng.Sch.call rfl rfl (by decide) (by kernel_rfl) ?_ (ofc t i c d p f _) ?_
 ·go_simp
 rintro e w2 ⟨rfl,hf⟩
 have HSt1:=Lib.hid (HSt.out.fr hf)
 clear hf
 refine ⟨_,rfl,⟨HSt1.out.h.cells.1,HSt1.out.p.cell 0,HSt1.out.p.cell 1,HSt1.out.p.cell 2,HSt1.out.p.cell 3,HSt1.out.p.cell 4,HSt1.out.p.cell 5,(by have h1:=HSt1.out.h.look hk;rw [hm.out] at h1;exact h1)⟩,?_⟩
 refine Eng.Sch.tk ?_
 refine Eng.Sch.tk ?_
 refine Eng.Sch.end_ [22,23,24,25,26,27,28,29] HN.out (by kernel_rfl) (by kernel_rfl) ?_
 exact HP.out _ _ (by first|rfl|exact congrArg Value.bool q) HSt1.out
theorem l4 {ops:Array Oper} (hops:Eng.fnOps Tryz.f103 4=ops) (a0:Act) (Q:Exit→Act→World→Prop) (w0:World) (F0:List Nat) (w:World) (B rk rc n:Nat) (lk lc ld lf:List K3) (F:List Nat) (Bp:Nat) (t i c d p f:Int) (hst:CS w0 F0 w B rk rc n lk lc ld lf F Bp ⟨t,i,c,d,p,f⟩) (hk:okK (c,d,f)) (hm:Hid (cn (fun y=>y==(c,d,f)) lk=0))
  (hn:a0.tmps.size=51) (h_0:a0.tmps.getD 0 undef=.pointer (some ⟨B,0,none⟩)) (h_3:a0.tmps.getD 3 undef=.pointer (some ⟨Bp,0,none⟩))
  (hpost:∀ (x:Nat→Value) (w':World),CS w0 F0 w' B rk rc n lk lc ld lf F Bp ⟨t,i,c,d,p,f⟩→Q .normal (Eng.setAll a0 [30,31,32,33,34,35] x) w'):
  (Code.region 4 ops true).wp prog Q a0 w:=by
 simp only [Eng.fnOps,Eng.regOps,Tryz.f103,Option.bind_some,Option.getD_some,Nat.reduceEqDiff,↓reduceIte] at hops
 subst hops
 have HSt:=Lib.hid (hst.fr (Fr.drew _ _))
 refine Eng.regionN [(0,true),(1,true),(2,true),(3,true),(4,true),(5,false),(6,false)] (fun w'=>w'.cell? ⟨B,0,none⟩=some (.map (some rk))∧w'.cell? ⟨Bp,0,none⟩=some (.int .i64 t)∧w'.cell? ⟨Bp,1,none⟩=some (.int .i64 i)∧w'.cell? ⟨Bp,2,none⟩=some (.int .i64 c)∧w'.cell? ⟨Bp,3,none⟩=some (.int .i64 d)∧w'.cell? ⟨Bp,4,none⟩=some (.int .i64 p)∧w'.cell? ⟨Bp,5,none⟩=some (.int .i64 f)) (by kernel_rfl) 51 hn (by kernel_rfl) rfl (by kernel_rfl) (⟨HSt.out.h.cells.1,HSt.out.p.cell 0,HSt.out.p.cell 1,HSt.out.p.cell 2,HSt.out.p.cell 3,HSt.out.p.cell 4,HSt.out.p.cell 5⟩) (fun a b ha hb=>?_)
 subst ha
 have hb0:b 0=.pointer (some ⟨B,0,none⟩):=(hb 0).symm.trans h_0
 have hb3:b 3=.pointer (some ⟨Bp,0,none⟩):=(hb 3).symm.trans h_3
 clear hb h_0 h_3
 have HP:=Lib.hid hpost;have HN:=Lib.hid hn
 clear hpost hn
 iterate 5 (refine Eng.Sch.tk ?_)
 refine Eng.Sch.call rfl rfl (by decide) (by kernel_rfl) ?_ (ofc t i c d p f _) ?_
 ·go_simp
 rintro e w2 ⟨rfl,hf⟩
 have HSt1:=Lib.hid (HSt.out.fr hf)
 have hSS:w2.cell? ⟨B,0,none⟩=some (.map (some rk))∧w2.cell? ⟨Bp,0,none⟩=some (.int .i64 t)∧w2.cell? ⟨Bp,1,none⟩=some (.int .i64 i)∧w2.cell? ⟨Bp,2,none⟩=some (.int .i64 c)∧w2.cell? ⟨Bp,3,none⟩=some (.int .i64 d)∧w2.cell? ⟨Bp,4,none⟩=some (.int .i64 p)∧w2.cell? ⟨Bp,5,none⟩=some (.int .i64 f):=⟨HSt1.out.h.cells.1,HSt1.out.p.cell 0,HSt1.out.p.cell 1,HSt1.out.p.cell 2,HSt1.out.p.cell 3,HSt1.out.p.cell 4,HSt1.out.p.cell 5⟩
 clear hf
 obtain ⟨w9,hdl,hM9⟩:=HSt1.out.delK hk hm.out 0
 refine ⟨_,rfl,hSS,?_⟩
 refine step0v rfl rfl (by kernel_rfl) (by go_simp;first|done|with_reducible rfl) (⟨(hM9).h.cells.1,(hM9).p.cell 0,(hM9).p.cell 1,(hM9).p.cell 2,(hM9).p.cell 3,(hM9).p.cell 4,(hM9).p.cell 5⟩) ?_
 have HSt2:=Lib.hid (hM9)
 have hSS:(w9).cell? ⟨B,0,none⟩=some (.map (some rk))∧(w9).cell? ⟨Bp,0,none⟩=some (.int .i64 t)∧(w9).cell? ⟨Bp,1,none⟩=some (.int .i64 i)∧(w9).cell? ⟨Bp,2,none⟩=some (.int .i64 c)∧(w9).cell? ⟨Bp,3,none⟩=some (.int .i64 d)∧(w9).cell? ⟨Bp,4,none⟩=some (.int .i64 p)∧(w9).cell? ⟨Bp,5,none⟩=some (.int .i64 f):=⟨HSt2.out.h.cells.1,HSt2.out.p.cell 0,HSt2.out.p.cell 1,HSt2.out.p.cell 2,HSt2.out.p.cell 3,HSt2.out.p.cell 4,HSt2.out.p.cell 5⟩
 refine Eng.Sch.end_ [30,31,32,33,34,35] HN.out (by kernel_rfl) (by kernel_rfl) ?_
 exact HP.out _ _ HSt2.out
theorem l5 {ops:Array Oper} (hops:Eng.fnOps Tryz.f103 5=ops) (a0:Act) (Q:Exit→Act→World→Prop) (w0:World) (F0:List Nat) (w:World) (B rk rc n:Nat) (lk lc ld lf:List K3) (F:List Nat) (Bp:Nat) (t i c d p f:Int) (hst:CS w0 F0 w B rk rc n lk lc ld lf F Bp ⟨t,i,c,d,p,f⟩) (hl:lf.length<1000000) (hin:(c,d,f)∈lf)
  (hn:a0.tmps.size=51) (h_0:a0.tmps.getD 0 undef=.pointer (some ⟨B,0,none⟩)) (h_3:a0.tmps.getD 3 undef=.pointer (some ⟨Bp,0,none⟩))
  (hpost:∀ (x:Nat→Value) (w':World) (F':List Nat),CS w0 F0 w' B rk rc n lk lc ld (lf.erase (c,d,f)) F' Bp ⟨t,i,c,d,p,f⟩→Q .normal (Eng.setAll a0 [36,37,38,39,40,41] x) w'):
  (Code.region 5 ops true).wp prog Q a0 w:=by
 simp only [Eng.fnOps,Eng.regOps,Tryz.f103,Option.bind_some,Option.getD_some,Nat.reduceEqDiff,↓reduceIte] at hops
 subst hops
 have HSt:=Lib.hid (hst.fr (Fr.drew _ _))
 refine Eng.regionN [(0,true),(1,true),(2,true),(3,true),(4,true),(5,false)] (fun w'=>w'.cell? ⟨Bp,5,none⟩=some (.int .i64 f)) (by kernel_rfl) 51 hn (by kernel_rfl) rfl (by kernel_rfl) (HSt.out.p.cell 5) (fun a b ha hb=>?_)
 subst ha
 have hb0:b 0=.pointer (some ⟨B,0,none⟩):=(hb 0).symm.trans h_0
 have hb3:b 3=.pointer (some ⟨Bp,0,none⟩):=(hb 3).symm.trans h_3
 clear hb h_0 h_3
 have HP:=Lib.hid hpost;have HN:=Lib.hid hn
 clear hpost hn
 iterate 5 (refine Eng.Sch.tk ?_)
 refine Eng.Sch.call rfl rfl (by decide) (by kernel_rfl) ?_ (HSt.out.takeF hl hin) ?_
 ·go_simp
 rintro e w2 ⟨⟨b1,rfl⟩,F2,hT⟩
 have HSt1:=Lib.hid (hT)
 clear hT
 refine ⟨_,rfl,HSt1.out.p.cell 5,?_⟩
 refine Eng.Sch.end_ [36,37,38,39,40,41] HN.out (by kernel_rfl) (by kernel_rfl) ?_
 exact HP.out _ _ _ HSt1.out
theorem l7 {ops:Array Oper} (hops:Eng.fnOps Tryz.f103 7=ops) (a0:Act) (Q:Exit→Act→World→Prop) (w0:World) (F0:List Nat) (w:World) (B rk rc n:Nat) (lk lc ld lf:List K3) (F:List Nat) (Bp:Nat) (t i c d p f:Int) (hst:CS w0 F0 w B rk rc n lk lc ld lf F Bp ⟨t,i,c,d,p,f⟩) (hl:ld.length<1000000) (hin:(c,d,f)∈ld) (hq:qd (c,d,f)=true)
  (hn:a0.tmps.size=51) (h_0:a0.tmps.getD 0 undef=.pointer (some ⟨B,0,none⟩)) (h_3:a0.tmps.getD 3 undef=.pointer (some ⟨Bp,0,none⟩))
  (hpost:∀ (x:Nat→Value) (w':World) (F':List Nat),CS w0 F0 w' B rk rc n lk lc (ld.erase (c,d,f)) lf F' Bp ⟨t,i,c,d,p,f⟩→Q .normal (Eng.setAll a0 [45,46,47,48,49,50] x) w'):
  (Code.region 7 ops true).wp prog Q a0 w:=by
 simp only [Eng.fnOps,Eng.regOps,Tryz.f103,Option.bind_some,Option.getD_some,Nat.reduceEqDiff,↓reduceIte] at hops
 subst hops
 have HSt:=Lib.hid (hst.fr (Fr.drew _ _))
 refine Eng.regionN [(0,true),(1,true),(2,true),(3,true),(4,true),(5,false)] (fun w'=>w'.cell? ⟨Bp,3,none⟩=some (.int .i64 d)) (by kernel_rfl) 51 hn (by kernel_rfl) rfl (by kernel_rfl) (HSt.out.p.cell 3) (fun a b ha hb=>?_)
 subst ha
 have hb0:b 0=.pointer (some ⟨B,0,none⟩):=(hb 0).symm.trans h_0
 have hb3:b 3=.pointer (some ⟨Bp,0,none⟩):=(hb 3).symm.trans h_3
 clear hb h_0 h_3
 have HP:=Lib.hid hpost;have HN:=Lib.hid hn
 clear hpost hn
 iterate 5 (refine Eng.Sch.tk ?_)
 refine Eng.Sch.call rfl rfl (by decide) (by kernel_rfl) ?_ (HSt.out.takeD hl hin hq) ?_
 ·go_simp
 rintro e w2 ⟨⟨b1,rfl⟩,F2,hT⟩
 have HSt1:=Lib.hid (hT)
 clear hT
 refine ⟨_,rfl,HSt1.out.p.cell 3,?_⟩
 refine Eng.Sch.end_ [45,46,47,48,49,50] HN.out (by kernel_rfl) (by kernel_rfl) ?_
 exact HP.out _ _ _ HSt1.out
theorem leave (B rk rc n:Nat) (l:List K3) (F:List Nat) (x:Pl) (w:World) (h:VM w B rk rc n l l l l F) (hk:okK x.k) (hin:x.k∈l) (hl:l.length<100000) (hn:n+3<1000000):
  Calls prog 103 #[.pointer (some ⟨B,0,none⟩),plv x] w fun e w'=>e=.returned (.tuple #[])∧∃F',VM w' B rk rc (n+3) (l.erase x.k) (l.erase x.k) (l.erase x.k) (l.erase x.k) F'∧Tn F F' w w':=by
 have hl:l.length<1000000:=by omega
 obtain ⟨t,i,c,d,p,f⟩:=x
 have HmK:Hid (cn (fun y=>y==(c,d,f)) l=cn (fun y=>y==(c,d,f)) l):=rfl
 have HmC:Hid (cn (cls c) l=cn (cls c) l):=rfl
 have rK:=cn_range (fun y=>y==(c,d,f)) l
 have rC:=cn_range (cls c) l
 have hin:(c,d,f)∈l:=hin
 have pK:=cn_pos (p:=fun y=>y==(c,d,f)) hin (by simp)
 have pC:=cn_pos (p:=cls c) hin (by simp [cls])
 have HeK:Hid (cn (fun y=>y==(c,d,f)) (l.erase (c,d,f))=cn (fun y=>y==(c,d,f)) l-1):=by show _=_;rw [cn_erase _ hin];simp
 have HoK:Hid (∀j,j≠(c,d,f)→cn (fun y=>y==j) (l.erase (c,d,f))=cn (fun y=>y==j) l):=fun j hj=>by rw [cn_erase _ hin,if_neg (by simpa using fun e=>hj e.symm)];omega
 have HeC:Hid (cn (cls c) (l.erase (c,d,f))=cn (cls c) l-1):=by show _=_;rw [cn_erase _ hin];simp [cls]
 have HoC:Hid (∀j,j≠c→cn (cls j) (l.erase (c,d,f))=cn (cls j) l):=fun j hj=>by rw [cn_erase _ hin,if_neg (by simpa [cls] using fun e=>hj e.symm)];omega
 have HE2:=Lib.hid HeK.out
 generalize hmk:cn (fun y=>y==(c,d,f)) l=mk at *
 generalize hmc:cn (cls c) l=mc at *
 have HmK:=Lib.hid hmk;have HmC:=Lib.hid hmc
 have HwK:Hid (wfI (mk-1)):=wf_small (by omega) (by omega)
 have HwC:Hid (wfI (mc-1)):=wf_small (by omega) (by omega)
 have hFl:=h.lt
 have H0:=Lib.hid (show CS w F (w.alloc (.cells (pla ⟨t,i,c,d,p,f⟩) TP)) B rk rc n l l l l F w.heap.size ⟨t,i,c,d,p,f⟩ from ⟨h.fr (Fr.alloc _ _ _) (fun _ _ h=>h),Tn.of_fr (Fr.alloc _ _ _) h.lt,Bk.new _ _ _,fun e=>by have:=h.lt _ e;omega⟩)
 clear h hFl hmk hmc
 have hk:okK (c,d,f):=hk
 go_enter func103,ntmps103
 go_upto_region 1 with (fail)
 have HK:=Lib.hid (H0.out.fr (Fr.drew _ _) |>.kinds hk HmK.out (lk':=(l.erase (c,d,f))) (v:=mk-1) HwK.out hl HeK.out HoK.out (by omega))
 obtain ⟨b0,b1,b2,b3,b4,b5⟩:=H0.out.cells
 obtain ⟨q0,q1⟩:=H0.out.h.cells
 dsimp only at b0 b1 b2 b3 b4 b5
 have hwr:IntKind.i64.wrap (mk-1)=mk-1:=IntWalk.i64_in _ (by omega)
 go_cut [0,3] (fun s0 s3 wc=>s0=.pointer (some ⟨B,0,none⟩)∧s3=.pointer (some ⟨w.heap.size,0,none⟩)∧CS w F wc B rk rc (n+2) (l.erase (c,d,f)) l l l F w.heap.size ⟨t,i,c,d,p,f⟩)
 case first=>
  clear H0 HmK HwK HeK HoK HmC HwC HeC HoC
  go_region_with (go_at_call 162;(with_reducible refine HK.out.mono ?_);rintro e w2 ⟨rfl,a0,a1,w3,sx,a2,a3,w4,a4,hM⟩)
  all_goals
   go_wp2_with fail
   go_meet
   exact ⟨rfl,rfl,hM.out⟩
 case rest=>
  obtain ⟨rfl,rfl,hcs⟩:=hcut
  clear HK b0 b1 b2 b3 b4 b5 q0 q1 hwr H0
  have H1:=Lib.hid hcs
  clear hcs
  go_upto_region 2 with (fail)
  obtain ⟨l1,w5,h5,hM5⟩:=(H1.out.fr (Fr.drew _ _)).classes hk.1 HmC.out (lc':=(l.erase (c,d,f))) HwC.out HeC.out HoC.out (by omega)
  obtain ⟨b0,b1,b2,b3,b4,b5⟩:=(H1.out.fr (Fr.drew _ _)).cells
  obtain ⟨q0,q1⟩:=(H1.out.fr (Fr.drew _ _)).h.cells
  dsimp only at b0 b1 b2 b3 b4 b5 l1 h5
  have hwr:IntKind.i64.wrap (mc-1)=mc-1:=IntWalk.i64_in _ (by omega)
  have H5:Hid _:=hM5
  clear hM5 H1 HmC HwC HeC HoC HmK HwK HeK HoK
  refine wp_region_still_tail 8 (by kernel_rfl) (by kernel_rfl) ?_
  simp only [List.take_succ_cons,List.take_zero,List.drop_succ_cons,List.drop_zero]
  change wpStill _ _ wc.drew (fun a'=>wpList _ _ _ _ a' wc.drew) _ _
  iterate 8 still_step
  refine wpStill_nil ?_
  go_upto_region 3 with (fail)
  clear l1 h5 b0 b1 b2 b3 b4 b5 q0 q1 hwr
  refine l3 (by kernel_rfl) _ _ w F w5 B rk rc (n+2+1) _ _ _ _ F w.heap.size t i c d p f H5.out (mk-1) (mk-1==0) hk HE2 rfl rfl rfl rfl ?_
  intro y w6 hx hst
  simp only [Eng.setAll,Act.put,List.setIfInBounds_toArray,List.set_cons_succ,List.set_cons_zero]
  rw [hx]
  have H6:=Lib.hid hst
  clear hst hx H5
  have HZ:Hid ((mk-1==0)=true→cn (fun y=>y==(c,d,f)) (l.erase (c,d,f))=0):=by show _→_;intro q;rw [HE2.out];simpa using q
  generalize (mk-1==0)=bb at *
  go_upto_if 29 with (fail)
  go_cut [0,3] (fun s0 s3 wd=>s0=.pointer (some ⟨B,0,none⟩)∧s3=.pointer (some ⟨w.heap.size,0,none⟩)∧CS w F wd B rk rc (n+2+1) (l.erase (c,d,f)) (l.erase (c,d,f)) l l F w.heap.size ⟨t,i,c,d,p,f⟩)
  case first=>
   cases bb with
   |false=>
    go_wp2_with fail
    go_meet
    exact ⟨rfl,rfl,H6.out⟩
   |true=>
    go_upto_region 4 with (fail)
    refine l4 (by kernel_rfl) _ _ w F w6 B rk rc (n+2+1) _ _ _ _ F w.heap.size t i c d p f H6.out hk (HZ.out rfl) rfl rfl rfl ?_
    intro y2 w7 hst
    simp only [Eng.setAll,Act.put,List.setIfInBounds_toArray,List.set_cons_succ,List.set_cons_zero]
    have H7:=Lib.hid hst
    clear hst
    go_wp2_with fail
    go_meet
    exact ⟨rfl,rfl,H7.out⟩
  case rest=>
   obtain ⟨rfl,rfl,hcs⟩:=hcut
   clear HE2 HZ H6
   have H6:=Lib.hid hcs
   clear hcs
   go_upto_region 5 with (fail)
   refine l5 (by kernel_rfl) _ _ w F wc B rk rc (n+2+1) _ _ _ _ F w.heap.size t i c d p f H6.out hl hin rfl rfl rfl ?_
   intro y w7 F7 hst
   simp only [Eng.setAll,Act.put,List.setIfInBounds_toArray,List.set_cons_succ,List.set_cons_zero]
   have H7:=Lib.hid hst
   have b3:w7.cell? ⟨w.heap.size,3,none⟩=some (.int .i64 d):=hst.p.cell 3
   clear hst H6
   by_cases hd:0<d
   ·have hdq:decide (0<d)=true:=by simpa using hd
    have hq:qd (c,d,f)=true:=hdq
    go_upto_region 7 with (fail)
    refine l7 (by kernel_rfl) _ _ w F w7 B rk rc (n+2+1) _ _ _ _ F7 w.heap.size t i c d p f H7.out hl hin hq rfl rfl rfl ?_
    intro y2 w8 F8 hst
    simp only [Eng.setAll,Act.put,List.setIfInBounds_toArray,List.set_cons_succ,List.set_cons_zero]
    have H8:=Lib.hid hst
    clear hst H7 b3
    go_wp2_with fail
    go_end0
    exact ⟨rfl,F8,H8.out.h,H8.out.t⟩
   ·have hdq:decide (0<d)=false:=by simpa using hd
    have hq:qd (c,d,f)=false:=hdq
    go_wp2_with fail
    go_end0
    exact ⟨rfl,F7,H7.out.h.skipT hin hq,H7.out.t⟩
end Shape
set_option maxRecDepth 100000
set_option maxHeartbeats 1000000
namespace Shape
open BagP Bag ShapeP Fm
attribute [local go_sem] Eng.ev Eng.getO_cons Eng.getO_nil
def RK (w:World) (B:Nat) (mk:Option Nat) (l:List K3):Prop:=w.cell? ⟨B,0,none⟩=some (.map mk)∧B<w.heap.size∧((mk=none∧l= [])∨∃r n,mk=some r∧FM TK kv okK w r n (fun k=>cn (fun y=>y==k) l))
theorem RK.fr {w w':World} {B:Nat} {mk:Option Nat} {l:List K3} (h:RK w B mk l) (hf:Fr (fun _=>False) w w'):RK w' B mk l:=by
 obtain ⟨h1,h2,h3⟩:=h
 refine ⟨(World.cell?_of_block (w:=w) (a:=⟨B,0,none⟩) (hf.block B h2 (fun h=>h))).trans h1,Nat.lt_of_lt_of_le h2 hf.size,?_⟩
 rcases h3 with h3| ⟨r,n,e,h3⟩
 ·exact .inl h3
 ·exact .inr ⟨r,n,e,h3.fr hf (fun _ _ h=>h)⟩
theorem RK.look {w:World} {B:Nat} {mk:Option Nat} {l:List K3} (h:RK w B mk l) {k:K3} (hk:okK k):(Instr.lookup TMK (.map mk) (kv k) false).run prog w=.ok (.int .i64 (cn (fun y=>y==k) l)) w:=by
 obtain ⟨h1,h2,h3⟩:=h
 rcases h3 with ⟨rfl,rfl⟩| ⟨r,n,rfl,h3⟩
 ·exact Fm.look_none KK uMK hk
 ·exact h3.look KK uMK hk
structure HA (w0 w:World) (ra n Bp:Nat) (la:List K3) (x:Pl):Prop where
 a:FM TK kv okK w ra n (fun k=>cn (fun y=>y==k) la)
 p:Bk w Bp (pla x) TP
 f:Fr (fun _=>False) w0 w
 nr:w0.heap.size≤ra
 ne:ra≠Bp
section
variable {w0 w w':World} {ra n Bp:Nat} {la la':List K3} {x:Pl}
theorem HA.fr (h:HA w0 w ra n Bp la x) (hf:Fr (fun _=>False) w w'):HA w0 w' ra n Bp la x:=⟨h.a.fr hf (fun _ _ h=>h),h.p.fr hf (fun _ _ h=>h),h.f.trans hf (fun _ _ h=>h) (fun _ _ h=>h),h.nr,h.ne⟩
theorem HA.asks (h:HA w0 w ra n Bp la x) (hk:okK x.k) {m:Int} (hm:cn (fun y=>y==x.k) la=m) (hl:la.length<100000) (hn:n+2<1000000):
  Calls prog 162 #[plv x] w fun e w'=>e=.returned (kv x.k)∧(Instr.lookup TMK (.map (some ra)) (kv x.k) false).run prog w'=.ok (.int .i64 m) w'∧
   ∃w3 s,(Instr.mapEntry TMK (.map (some ra)) (kv x.k)).run prog w'=.ok (.tuple #[.int .i64 m,.int .i64 (s:Nat)]) w3∧(Instr.lookup TMK (.map (some ra)) (kv x.k) false).run prog w3=.ok (.int .i64 m) w3∧
    ∃w4,(Instr.entryStore TMK (.map (some ra)) (.int .i64 (s:Nat)) (.int .i64 (m+1))).run prog w3=.ok () w4∧Hid (HA w0 w4 ra (n+2) Bp (la++ [x.k]) x):=by
 refine (of_ x w).mono ?_
 rintro e w' ⟨rfl,hf⟩
 have h':=h.fr hf
 have l1:=h'.a.look KK uMK hk
 have rg:=cn_range (fun y=>y==x.k) la
 obtain ⟨w3,s,hen,hs3,hf3⟩:=h'.a.entry KK uMK hk (wf_cn (by omega)) (by omega)
 have l3:=hs3.1.look KK uMK hk
 obtain ⟨w4,hst,hm4,hf4⟩:=hs3.store KK uMK hk (v:=m+1) (wf_small (by omega) (by omega)) (f':=fun j=>cn (fun y=>y==j) (la++ [x.k])) (by rw [cn_snoc,hm];simp) (fun j hj=>by rw [cn_snoc,if_neg (by simpa using fun e=>hj e.symm)];omega) (by omega)
 have hfr:=hf3.trans hf4 (T:=(· =ra)) (fun _ _ h=>h) (fun _ _ h=>h)
 rw [hm] at l1 hen l3
 refine ⟨rfl,l1,w3,s,hen,l3,w4,hst,hm4,h'.p.fr hfr (fun b hb e=>by simp at hb;exact h'.ne (e.symm.trans hb)),h'.f.trans hfr (fun _ _ h=>h) (fun i hi e=>by have:=h'.nr;omega),h'.nr,h'.ne⟩
end
structure HB2 (w0 w:World) (ra n Bp:Nat) (la:List K3) (x:Pl) (B:Nat) (mk:Option Nat) (l:List K3):Prop where
 h:HA w0 w ra n Bp la x
 r:RK w B mk l
theorem HB2.fr {w0 w w':World} {ra n Bp:Nat} {la:List K3} {x:Pl} {B:Nat} {mk:Option Nat} {l:List K3} (h:HB2 w0 w ra n Bp la x B mk l) (hf:Fr (fun _=>False) w w'):HB2 w0 w' ra n Bp la x B mk l:=⟨h.h.fr hf,h.r.fr hf⟩
theorem ofc3 (t i c d p f:Int) (w:World):Calls prog 162 #[.agg #[.int .i64 t,.int .i64 i,.int .i64 c,.int .i64 d,.int .i64 p,.int .i64 f]] w fun e w'=>e=.returned (.agg #[.int .i64 c,.int .i64 d,.int .i64 f])∧Fr (fun _=>False) w w':=of_ ⟨t,i,c,d,p,f⟩ w
theorem h6 {ops:Array Oper} (hops:Eng.fnOps Tryz.f102 6=ops) (a0:Act) (Q:Exit→Act→World→Prop) (w0:World) (w:World) (ra n:Nat) (la:List K3) (Bp:Nat) (t i c d p f:Int) (B:Nat) (mk:Option Nat) (l:List K3) (hst:HB2 w0 w ra n Bp la ⟨t,i,c,d,p,f⟩ B mk l) (m1 m2:Int) (hk:okK (c,d,f)) (h1:Hid (cn (fun y=>y==(c,d,f)) la=m1)) (h2:Hid (cn (fun y=>y==(c,d,f)) l=m2)) (bb:Bool) (q:decide (m2<m1)=bb)
  (hn:a0.tmps.size=39) (h_0:a0.tmps.getD 0 undef=.pointer (some ⟨B,0,none⟩)) (h_5:a0.tmps.getD 5 undef=.map (some ra)) (h_7:a0.tmps.getD 7 undef=.pointer (some ⟨Bp,0,none⟩))
  (hpost:∀ (x:Nat→Value) (w':World),x 37=.bool bb→HB2 w0 w' ra n Bp la ⟨t,i,c,d,p,f⟩ B mk l→Q .normal (Eng.setAll a0 [22,23,24,25,26,27,28,29,30,31,32,33,34,35,36,37] x) w'):
  (Code.region 6 ops true).wp prog Q a0 w:=by
 simp only [Eng.fnOps,Eng.regOps,Tryz.f102,Option.bind_some,Option.getD_some,Nat.reduceEqDiff,↓reduceIte] at hops
 subst hops
 have HSt:=Lib.hid (hst.fr (Fr.drew _ _))
 refine Eng.regionN [(0,true),(1,true),(2,true),(3,true),(4,true),(7,true),(8,true),(9,true),(10,true),(11,true),(5,false),(6,true),(12,false),(13,true),(14,true),(15,true)] (fun w'=>w'.cell? ⟨Bp,0,none⟩=some (.int .i64 t)∧w'.cell? ⟨Bp,1,none⟩=some (.int .i64 i)∧w'.cell? ⟨Bp,2,none⟩=some (.int .i64 c)∧w'.cell? ⟨Bp,3,none⟩=some (.int .i64 d)∧w'.cell? ⟨Bp,4,none⟩=some (.int .i64 p)∧w'.cell? ⟨Bp,5,none⟩=some (.int .i64 f)∧w'.cell? ⟨B,0,none⟩=some (.map mk)∧(Instr.lookup TMK (.map (some ra)) (.agg #[.int .i64 c,.int .i64 d,.int .i64 f]) false).run prog w'=.ok (.int .i64 m1) w'∧(Instr.lookup TMK (.map mk) (.agg #[.int .i64 c,.int .i64 d,.int .i64 f]) false).run prog w'=.ok (.int .i64 m2) w') (by kernel_rfl) 39 hn (by kernel_rfl) rfl (by kernel_rfl) (⟨HSt.out.h.p.cell 0,HSt.out.h.p.cell 1,HSt.out.h.p.cell 2,HSt.out.h.p.cell 3,HSt.out.h.p.cell 4,HSt.out.h.p.cell 5,HSt.out.r.1,(by have e1:=HSt.out.h.a.look KK uMK hk;rw [h1.out] at e1;exact e1),(by have e1:=HSt.out.r.look hk;rw [h2.out] at e1;exact e1)⟩) (fun a b ha hb=>?_)
 subst ha
 have hb0:b 0=.pointer (some ⟨B,0,none⟩):=(hb 0).symm.trans h_0
 have hb5:b 5=.map (some ra):=(hb 5).symm.trans h_5
 have hb7:b 7=.pointer (some ⟨Bp,0,none⟩):=(hb 7).symm.trans h_7
 clear hb h_0 h_5 h_7
 have HP:=Lib.hid hpost;have HN:=Lib.hid hn
 clear hpost hn
 iterate 10 (refine Eng.Sch.tk ?_)
 refine Eng.Sch.call rfl rfl (by decide) (by kernel_rfl) ?_ (ofc3 t i c d p f _) ?_
 ·go_simp
 rintro e w2 ⟨rfl,hf⟩
 have HSt1:=Lib.hid (HSt.out.fr hf)
 clear hf
 refine ⟨_,rfl,⟨HSt1.out.h.p.cell 0,HSt1.out.h.p.cell 1,HSt1.out.h.p.cell 2,HSt1.out.h.p.cell 3,HSt1.out.h.p.cell 4,HSt1.out.h.p.cell 5,HSt1.out.r.1,(by have e1:=HSt1.out.h.a.look KK uMK hk;rw [h1.out] at e1;exact e1),(by have e1:=HSt1.out.r.look hk;rw [h2.out] at e1;exact e1)⟩,?_⟩
 refine Eng.Sch.tk ?_
 refine Eng.Sch.call rfl rfl (by decide) (by kernel_rfl) ?_ (ofc3 t i c d p f _) ?_
 ·go_simp
 rintro e w3 ⟨rfl,hf⟩
 have HSt2:=Lib.hid (HSt1.out.fr hf)
 clear hf
 refine ⟨_,rfl,⟨HSt2.out.h.p.cell 0,HSt2.out.h.p.cell 1,HSt2.out.h.p.cell 2,HSt2.out.h.p.cell 3,HSt2.out.h.p.cell 4,HSt2.out.h.p.cell 5,HSt2.out.r.1,(by have e1:=HSt2.out.h.a.look KK uMK hk;rw [h1.out] at e1;exact e1),(by have e1:=HSt2.out.r.look hk;rw [h2.out] at e1;exact e1)⟩,?_⟩
 iterate 3 (refine Eng.Sch.tk ?_)
 refine Eng.Sch.end_ [22,23,24,25,26,27,28,29,30,31,32,33,34,35,36,37] HN.out (by kernel_rfl) (by kernel_rfl) ?_
 exact HP.out _ _ (by first|rfl|exact congrArg Value.bool q) HSt2.out
theorem has (B:Nat) (mk:Option Nat) (l:List K3) (A:Option Addr) (cp:Nat) (xs:List Pl) (w:World) (h:RK w B mk l) (hS:Sl w 6 A xs.length cp (xs.flatMap plc)) (hwf:∀x∈xs,okK x.k) (hx:xs.length≤1000):
  Calls prog 102 #[.pointer (some ⟨B,0,none⟩),.slice A xs.length cp] w fun e w'=>e=.returned (.bool (hasB l (xs.map Pl.k)))∧Fr (fun _=>False) w w':=by
 have hlen:xs.length≤9223372036854775807:=by have:=hS.2.1;have:=hS.2.2.1;unfold maxLen at this;omega
 have HS:=Lib.hid hS;have HWf:=Lib.hid hwf
 clear hS hwf
 have HR:=Lib.hid h
 clear h
 have H0:=Lib.hid (FM.new (tk:=TK) (kv:=kv) (ok:=okK) w)
 have hmm:=@run_makeMap prog
 go_enter func102,ntmps102
 go_wp2_with fail
 go_loopg [7,11] xs.length (fun gk _ i wr=>∃k:Nat,i=.int .i64 k∧k≤xs.length∧gk=xs.length-k∧hasB l ((xs.map Pl.k).take k)=true∧FM TK kv okK wr w.heap.size (2*k) (fun j=>cn (fun y=>y==j) ((xs.map Pl.k).take k))∧Fr (fun _=>False) w wr)
 case atStart=>exact ⟨0,rfl,Nat.zero_le _,rfl,rfl,H0.out,Fr.alloc _ _ _⟩
 case round=>
  clear H0 hmm
  obtain ⟨k,rfl,hk,hg,hok,ha0,hfr⟩:=hrel
  have HG:=Lib.hid hg;have HOk:=Lib.hid hok;have HA0:=Lib.hid ha0;have HFr:=Lib.hid hfr
  clear hg hok ha0 hfr
  by_cases hlt:k<xs.length
  ·obtain ⟨b1,o1,rfl,hb1,hc1⟩:=HS.out.at hlt (by omega)
   have HBk:=HFr.out.block b1 hb1 (fun h=>h)
   have key:∀j u,j<6→(plc xs[k])[j]? =some u→wr.cell? ⟨b1,o1+(k*6+j),none⟩=some u:=fun j u hj hu=>by
    rw [World.cell?_of_block (w:=w) (a:=⟨b1,_,none⟩) HBk];exact hc1 _ u (by rw [flat_at plc_len hlt hj];exact hu)
   have d0:wr.cell? ⟨b1,o1+k*6,none⟩=some (.int .i64 xs[k].t):=key 0 _ (by omega) rfl
   have d1:wr.cell? ⟨b1,o1+k*6+1,none⟩=some (.int .i64 xs[k].i):=key 1 _ (by omega) rfl
   have d2:wr.cell? ⟨b1,o1+k*6+1+1,none⟩=some (.int .i64 xs[k].c):=key 2 _ (by omega) rfl
   have d3:wr.cell? ⟨b1,o1+k*6+1+1+1,none⟩=some (.int .i64 xs[k].d):=key 3 _ (by omega) rfl
   have d4:wr.cell? ⟨b1,o1+k*6+1+1+1+1,none⟩=some (.int .i64 xs[k].p):=key 4 _ (by omega) rfl
   have d5:wr.cell? ⟨b1,o1+k*6+1+1+1+1+1,none⟩=some (.int .i64 xs[k].f):=key 5 _ (by omega) rfl
   have hkx:=HWf.out _ (List.getElem_mem hlt)
   have H1:=Lib.hid (show HA w (wr.alloc (.cells (pla xs[k]) TP)) w.heap.size (2*k) wr.heap.size ((xs.map Pl.k).take k) xs[k] from ⟨HA0.out.fr (Fr.alloc (fun _=>False) _ _) (fun _ _ h=>h),Bk.new _ _ _,HFr.out.trans (Fr.alloc (fun _=>False) _ _) (fun _ _ h=>h) (fun _ _ h=>h),Nat.le_refl _,by have:=HA0.out.lt;omega⟩)
   have hlt1:(xs.map Pl.k).take (k+1)=(xs.map Pl.k).take k++ [xs[k].k]:=by rw [List.take_succ_eq_append_getElem (by simpa using hlt)];simp
   have hln:((xs.map Pl.k).take k).length≤k:=by simp;omega
   have HT:=Lib.hid hlt1
   have hDr:xs.map Pl.k=(xs.map Pl.k).take k++ [xs[k].k]++(xs.map Pl.k).drop (k+1):=by rw [←hlt1,List.take_append_drop]
   have HDr:=Lib.hid hDr
   clear hc1 key HBk hlt1 hDr HA0
   generalize hla:(xs.map Pl.k).take k=la at *
   have HLa:=Lib.hid hla
   clear hla
   generalize xs[k]=x at *
   obtain ⟨t,i,c,d,p,f⟩:=x
   have hkx:okK (c,d,f):=hkx
   have HT:Hid ((xs.map Pl.k).take (k+1)=la++ [(c,d,f)]):=HT
   have HDr:Hid (xs.map Pl.k=la++ [(c,d,f)]++(xs.map Pl.k).drop (k+1)):=HDr
   dsimp only at d0 d1 d2 d3 d4 d5
   go_upto_region 5 with (fail)
   clear d0 d1 d2 d3 d4 d5
   have rg:=cn_range (fun y=>y==(c,d,f)) la
   have HE1:Hid (cn (fun y=>y==(c,d,f)) (la++ [(c,d,f)])=cn (fun y=>y==(c,d,f)) la+1):=by show _=_;rw [cn_snoc];simp
   have HEc:Hid (cn (fun y=>y==(c,d,f)) la=(la.count (c,d,f):Nat)):=rfl
   generalize hm1:cn (fun y=>y==(c,d,f)) la=m1 at *
   have HK:=Lib.hid ((H1.out.fr (Fr.drew _ _)).asks hkx hm1 (by omega) (by omega))
   clear hm1
   obtain ⟨b0,b1',b2,b3,b4,b5⟩:=(show _∧_∧_∧_∧_∧_ from ⟨H1.out.p.cell 0,H1.out.p.cell 1,H1.out.p.cell 2,H1.out.p.cell 3,H1.out.p.cell 4,H1.out.p.cell 5⟩)
   have hwr:IntKind.i64.wrap (m1+1)=m1+1:=IntWalk.i64_in _ (by omega)
   generalize (wr.alloc (.cells (pla ⟨t,i,c,d,p,f⟩) TP))=W at *
   generalize wr.heap.size=Bp at *
   go_cut [0,5,7,9,10,11] (fun s0 s5 s7 s9 s10 s11 wc=>s0=.pointer (some ⟨B,0,none⟩)∧s5=.map (some w.heap.size)∧s7=.pointer (some ⟨Bp,0,none⟩)∧s9=.slice (some ⟨b1,o1,none⟩) xs.length cp∧s10=.int .i64 xs.length∧s11=.int .i64 k∧HA w wc w.heap.size (2*k+2) Bp (la++ [(c,d,f)]) ⟨t,i,c,d,p,f⟩)
   case first=>
    clear H1 HE1 HEc HT HDr HLa HFr HG HS HWf HR HOk
    go_region_with (go_at_call 162;(with_reducible refine HK.out.mono ?_);rintro e w2 ⟨rfl,a1,w3,sx,a2,a3,w4,a4,hM⟩)
    all_goals
     go_wp2_with fail
     go_meet
     exact ⟨rfl,rfl,rfl,rfl,rfl,rfl,hM.out⟩
   case rest=>
    obtain ⟨rfl,rfl,rfl,rfl,rfl,rfl,hcs⟩:=hcut
    clear HK b0 b1' b2 b3 b4 b5 hwr H1
    have H2:=Lib.hid hcs
    clear hcs
    have HEl:Hid (cn (fun y=>y==(c,d,f)) l=(l.count (c,d,f):Nat)):=rfl
    have HSn:=Lib.hid (hasB_snoc l la (c,d,f))
    go_upto_region 6 with (fail)
    generalize hm2:cn (fun y=>y==(c,d,f)) l=m2 at *
    have H3:=Lib.hid (show HB2 w wc w.heap.size (2*k+2) Bp (la++ [(c,d,f)]) ⟨t,i,c,d,p,f⟩ B mk l from ⟨H2.out,HR.out.fr H2.out.f⟩)
    refine h6 (by kernel_rfl) _ _ w wc w.heap.size (2*k+2) (la++ [(c,d,f)]) Bp t i c d p f B mk l H3.out (m1+1) m2 hkx HE1 hm2 (decide (m2<m1+1)) rfl rfl rfl rfl rfl ?_
    intro y w6 hy hst
    simp only [Eng.setAll,Act.put,List.setIfInBounds_toArray,List.set_cons_succ,List.set_cons_zero]
    rw [hy]
    have H6:=Lib.hid hst
    clear hst hy H3 H2 hm2
    cases hd:decide (m2<m1+1) with
    |true=>
     have hno:hasB l (la++ [(c,d,f)])=false:=by
      have e1:=HEc.out;have e2:=HEl.out
      rw [HSn.out,Bool.and_eq_false_iff];right
      simp only [decide_eq_true_eq] at hd
      simp only [decide_eq_false_iff_not];omega
     have HNo:Hid (hasB l (xs.map Pl.k)=false):=by
      show _=_
      cases hb:hasB l (xs.map Pl.k) with
      |false=>rfl
      |true=>rw [HDr.out] at hb;rw [hasB_left hb] at hno;cases hno
     clear hno
     go_wp2_with fail
     go_ret
     exact ⟨by rw [HNo.out];rfl,H6.out.h.f⟩
    |false=>
     have HYes:Hid (hasB l (la++ [(c,d,f)])=true):=by
      show _=_
      have e1:=HEc.out;have e2:=HEl.out
      rw [HSn.out,HOk.out]
      simp only [decide_eq_false_iff_not] at hd
      simp only [Bool.true_and,decide_eq_true_eq];omega
     go_wp2_with fail
     go_roundg (xs.length-(k+1))
     case rel=>exact ⟨k+1,by go_num,by omega,rfl,by rw [HT.out];exact HYes.out,by rw [HT.out];exact H6.out.h.a,H6.out.h.f⟩
     case measure=>have:=HG.out;omega
  ·obtain rfl:k=xs.length:=by omega
   have HE:Hid ((xs.map Pl.k).take xs.length=xs.map Pl.k):=List.take_of_length_le (by simp)
   go_wp2_with fail
   go_ret
   exact ⟨by rw [←HE.out,HOk.out];rfl,HFr.out⟩
end Shape
end Go.Proofs.YtgfjpnpbkkadpaaGreat
