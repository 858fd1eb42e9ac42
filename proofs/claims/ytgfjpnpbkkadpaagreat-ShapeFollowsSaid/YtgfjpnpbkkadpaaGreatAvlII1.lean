/- The maps in order (avl) at one instance: the nodes in memory, and what each method does to them. -/
import Derived.Test.YtgfjpnpbkkadpaaGreatAvlZ
namespace Go.Proofs.YtgfjpnpbkkadpaaGreat
open Tryz
set_option maxRecDepth 100000
open Go.RowKit
namespace AvlII
abbrev oD:Nat:=4
abbrev oL:Nat:=2
abbrev oR:Nat:=3
abbrev xN:TypeId:=287
open Tryz renaming func268→xFn_deep,func260→xFn_lean,func259→xFn_measure,ntmps268→xTn_deep,ntmps260→xTn_lean,ntmps259→xTn_measure
abbrev blk (k:Int) (v:Int) (l r:Option Addr) (d:Int):Array Value:= #[.int .i64 k,.int .i64 v,.pointer l,.pointer r,.int .i64 d]
def In (w:World) (t:AT Int Int):Prop:=t.In blk 287 w
theorem In.fr {S:Nat→Prop} {w w':World} {t:AT Int Int} (h:In w t) (hf:Fr S w w') (hs:∀b∈t.fp,¬S b):In w' t:=AT.In.fr h hf hs
theorem In.lt {w:World} {t:AT Int Int} (h:In w t):∀b∈t.fp,b<w.heap.size:=AT.In.lt h
theorem cells {w:World} {b:Nat} {k:Int} {v:Int} {l r:Option Addr} {d:Int} (h:w.heap[b]? =some (.cells (blk k v l r d) 287 (0,0))):
  w.cell? ⟨b,0,none⟩=some (.int .i64 k)∧w.cell? ⟨b,2,none⟩=some (.pointer l)∧w.cell? ⟨b,3,none⟩=some (.pointer r)∧w.cell? ⟨b,4,none⟩=some (.int .i64 d)∧(∀o,w.frozen? ⟨b,o,none⟩=false):=AvlZ.za_cells
theorem deep (t:AT Int Int) (w:World) (h:In w t):
  Calls prog 268 #[.pointer t.adr] w fun e w'=>e=.returned (.int .i64 t.dep)∧w'=w:=AvlZ.za_deep
theorem measure (b:Nat) (k:Int) (v:Int) (l r:AT Int Int) (d:Int) (w:World) (hb:w.heap[b]? =some (.cells (blk k v l.adr r.adr d) 287 (0,0)))
  (hl:In w l) (hr:In w r) (l0:0≤l.dep) (l1:l.dep<4611686018427387904) (r0:0≤r.dep) (r1:r.dep<4611686018427387904):
  Calls prog 259 #[.pointer (some ⟨b,0,none⟩)] w fun e w'=>e=.returned (.tuple #[])∧
   w'.heap[b]? =some (.cells (blk k v l.adr r.adr (1+max l.dep r.dep)) 287 (0,0))∧Fr (· =b) w w':=AvlZ.za_measure
theorem lean (b:Nat) (k:Int) (v:Int) (l r:AT Int Int) (d:Int) (w:World) (h:In w (.node b k v l r d)) (l0:0≤l.dep) (l1:l.dep<4611686018427387904) (r0:0≤r.dep) (r1:r.dep<4611686018427387904):
  Calls prog 260 #[.pointer (some ⟨b,0,none⟩)] w fun e w'=>e=.returned (.int .i64 (r.dep-l.dep))∧w.drew=w':=AvlZ.za_lean
end AvlII
set_option maxRecDepth 100000
namespace AvlII
open Tryz renaming func261→xFn_turnHigh,func262→xFn_turnLow,ntmps261→xTn_turnHigh,ntmps262→xTn_turnLow
theorem heap_other {w:World} {a:Addr} {u:Value} {b:Nat} {o:Obj} (h:w.heap[b]? =some o) (hne:b≠a.block):(w.setCell a u).heap[b]? =some o:=(Below.heap_setCell _ _ _ _ hne).trans h
theorem set_lo {w:World} {b:Nat} {k:Int} {v:Int} {l r:Option Addr} {d:Int} (h:w.heap[b]? =some (.cells (blk k v l r d) 287 (0,0))) (u:Option Addr):
  (w.setCell ⟨b,2,none⟩ (.pointer u)).heap[b]? =some (.cells (blk k v u r d) 287 (0,0)):=heap_setCell_same h _
theorem set_hi {w:World} {b:Nat} {k:Int} {v:Int} {l r:Option Addr} {d:Int} (h:w.heap[b]? =some (.cells (blk k v l r d) 287 (0,0))) (u:Option Addr):
  (w.setCell ⟨b,3,none⟩ (.pointer u)).heap[b]? =some (.cells (blk k v l u d) 287 (0,0)):=heap_setCell_same h _
theorem turnLow (b:Nat) (k:Int) (v:Int) (l:AT Int Int) (b':Nat) (k':Int) (v':Int) (l' r':AT Int Int) (d' d:Int) (w:World)
  (h:In w (.node b k v l (.node b' k' v' l' r' d') d)) (nd:(AT.node b k v l (.node b' k' v' l' r' d') d).fp.Nodup) (wl:l.wd) (wl':l'.wd) (wr':r'.wd) (sz:l.size+l'.size+r'.size<2305843009213693952):
  Calls prog 262 #[.pointer (some ⟨b,0,none⟩)] w fun e w'=>e=.returned (.pointer (some ⟨b',0,none⟩))∧
   In w' (AT.turnLow (.node b k v l (.node b' k' v' l' r' d') d))∧Fr (fun x=>x=b∨x=b') w w':=AvlZ.zb_turnLow
theorem turnHigh (b:Nat) (k:Int) (v:Int) (b':Nat) (k':Int) (v':Int) (l' r':AT Int Int) (d':Int) (r:AT Int Int) (d:Int) (w:World)
  (h:In w (.node b k v (.node b' k' v' l' r' d') r d)) (nd:(AT.node b k v (.node b' k' v' l' r' d') r d).fp.Nodup) (wr:r.wd) (wl':l'.wd) (wr':r'.wd) (sz:r.size+l'.size+r'.size<2305843009213693952):
  Calls prog 261 #[.pointer (some ⟨b,0,none⟩)] w fun e w'=>e=.returned (.pointer (some ⟨b',0,none⟩))∧
   In w' (AT.turnHigh (.node b k v (.node b' k' v' l' r' d') r d))∧Fr (fun x=>x=b∨x=b') w w':=AvlZ.zb_turnHigh
end AvlII
set_option maxRecDepth 100000
namespace AvlII
open Tryz renaming func247→xFn_level,ntmps247→xTn_level
theorem level_else (b:Nat) (k:Int) (v:Int) (l r:AT Int Int) (d:Int) (w:World)
  (h:In w (.node b k v l r d)) (nd:(AT.node b k v l r d).fp.Nodup) (wl:l.wd) (wr:r.wd) (sz:l.size+r.size<1152921504606846976) (e1:¬r.dep-l.dep=2) (e2:¬r.dep-l.dep= -2):
  Calls prog 247 #[.pointer (some ⟨b,0,none⟩)] w fun e w'=>e=.returned (.pointer (AT.level b k v l r).adr)∧In w' (AT.level b k v l r)∧Fr (fun x=>x∈(AT.node b k v l r d).fp) w w':=AvlZ.zc_level_else
theorem level_hi (b:Nat) (k:Int) (v:Int) (l r:AT Int Int) (d:Int) (w:World)
  (h:In w (.node b k v l r d)) (nd:(AT.node b k v l r d).fp.Nodup) (wl:l.wd) (wr:r.wd) (sz:l.size+r.size<1152921504606846976) (e1:r.dep-l.dep=2) (e2:¬r.lean<0):
  Calls prog 247 #[.pointer (some ⟨b,0,none⟩)] w fun e w'=>e=.returned (.pointer (AT.level b k v l r).adr)∧In w' (AT.level b k v l r)∧Fr (fun x=>x∈(AT.node b k v l r d).fp) w w':=AvlZ.zc_level_hi
theorem level_hilo (b:Nat) (k:Int) (v:Int) (l r:AT Int Int) (d:Int) (w:World)
  (h:In w (.node b k v l r d)) (nd:(AT.node b k v l r d).fp.Nodup) (wl:l.wd) (wr:r.wd) (sz:l.size+r.size<1152921504606846976) (e1:r.dep-l.dep=2) (e2:r.lean<0):
  Calls prog 247 #[.pointer (some ⟨b,0,none⟩)] w fun e w'=>e=.returned (.pointer (AT.level b k v l r).adr)∧In w' (AT.level b k v l r)∧Fr (fun x=>x∈(AT.node b k v l r d).fp) w w':=AvlZ.zc_level_hilo
theorem level_lo (b:Nat) (k:Int) (v:Int) (l r:AT Int Int) (d:Int) (w:World)
  (h:In w (.node b k v l r d)) (nd:(AT.node b k v l r d).fp.Nodup) (wl:l.wd) (wr:r.wd) (sz:l.size+r.size<1152921504606846976) (e1:r.dep-l.dep= -2) (e2:¬0<l.lean):
  Calls prog 247 #[.pointer (some ⟨b,0,none⟩)] w fun e w'=>e=.returned (.pointer (AT.level b k v l r).adr)∧In w' (AT.level b k v l r)∧Fr (fun x=>x∈(AT.node b k v l r d).fp) w w':=AvlZ.zc_level_lo
theorem level_lohi (b:Nat) (k:Int) (v:Int) (l r:AT Int Int) (d:Int) (w:World)
  (h:In w (.node b k v l r d)) (nd:(AT.node b k v l r d).fp.Nodup) (wl:l.wd) (wr:r.wd) (sz:l.size+r.size<1152921504606846976) (e1:r.dep-l.dep= -2) (e2:0<l.lean):
  Calls prog 247 #[.pointer (some ⟨b,0,none⟩)] w fun e w'=>e=.returned (.pointer (AT.level b k v l r).adr)∧In w' (AT.level b k v l r)∧Fr (fun x=>x∈(AT.node b k v l r d).fp) w w':=AvlZ.zc_level_lohi
theorem level (b:Nat) (k:Int) (v:Int) (l r:AT Int Int) (d:Int) (w:World)
  (h:In w (.node b k v l r d)) (nd:(AT.node b k v l r d).fp.Nodup) (wl:l.wd) (wr:r.wd) (sz:l.size+r.size<1152921504606846976):
  Calls prog 247 #[.pointer (some ⟨b,0,none⟩)] w fun e w'=>e=.returned (.pointer (AT.level b k v l r).adr)∧In w' (AT.level b k v l r)∧Fr (fun x=>x∈(AT.node b k v l r d).fp) w w':=AvlZ.zc_level
end AvlII
set_option maxRecDepth 100000
namespace AvlII
theorem set_v {w:World} {b:Nat} {k:Int} {v:Int} {l r:Option Addr} {d:Int} (h:w.heap[b]? =some (.cells (blk k v l r d) 287 (0,0))) (v':Int):
  (w.setCell ⟨b,1,none⟩ (.int .i64 v')).heap[b]? =some (.cells (blk k v' l r d) 287 (0,0)):=heap_setCell_same h _
theorem put_nodup (n:Nat) (k:Int) (v:Int) {t:AT Int Int} (nd:t.fp.Nodup) (hn:∀x∈t.fp,x<n):(AT.put n k v t).1.fp.Nodup∧∀x∈(AT.put n k v t).1.fp,x=n∨x∈t.fp:=AvlZ.zd_put_nodup
theorem put_size (n:Nat) (k:Int) (v:Int) (t:AT Int Int):(AT.put n k v t).1.size≤t.size+1:=AvlZ.zd_put_size
theorem put_nil (k:Int) (v:Int) (w:World):Calls prog 223 #[.pointer none,.int .i64 k,.int .i64 v] w fun e w'=>
  e=.returned (.tuple #[.pointer (some ⟨w.heap.size,0,none⟩),.bool true])∧w'=w.alloc (.cells (blk k v none none 1) 287 (0,0)):=by
 go_enter func223,ntmps223
 go_wp2_with fail
 go_ret2
 exact ⟨rfl,rfl⟩
def PutPost (k:Int) (v:Int) (t:AT Int Int) (w:World) (e:Ending) (w':World):Prop:=
 e=.returned (.tuple #[.pointer (AT.put w.heap.size k v t).1.adr,.bool (AT.put w.heap.size k v t).2])∧In w' (AT.put w.heap.size k v t).1∧Fr (fun x=>x∈t.fp) w w'
theorem put_low (k:Int) (v:Int) (b:Nat) (k':Int) (v':Int) (l r:AT Int Int) (d:Int) (w:World)
  (h:In w (.node b k' v' l r d)) (nd:(AT.node b k' v' l r d).fp.Nodup) (wl:l.wd) (wr:r.wd) (sz:l.size+r.size<576460752303423488)
  (ih:Calls prog 223 #[.pointer l.adr,.int .i64 k,.int .i64 v] w (PutPost k v l w)) (hlt:Ord.lt k k'=true):
  Calls prog 223 #[.pointer (some ⟨b,0,none⟩),.int .i64 k,.int .i64 v] w (PutPost k v (.node b k' v' l r d) w):=by
 have hput:AT.put w.heap.size k v (.node b k' v' l r d)=(AT.level b k' v' (AT.put w.heap.size k v l).1 r,(AT.put w.heap.size k v l).2):=by rw [AT.put,if_pos hlt]
 have hlx:=put_nodup w.heap.size k v (AT.nodup_node.1 nd).2.2.1 (In.lt h.2.1)
 have hsx:=put_size w.heap.size k v l
 have hwx:(AT.put w.heap.size k v l).1.wd:=AT.wd_put _ k v wl
 have HP:=Lib.hid hput;have HX:=Lib.hid hlx;have HW:=Lib.hid hwx
 clear hput hlx hwx
 have IH:=Lib.hid ih
 clear ih
 obtain ⟨hb,hl,hr⟩:=h
 obtain ⟨nbl,nbr,ndl,ndr,ndx⟩:=AT.nodup_node.1 nd
 obtain ⟨c0,c2,c3,-,cf⟩:=cells hb
 have hbw:=lt_of_heap hb
 have HB:=Lib.hid hb;have ND:=Lib.hid nd
 clear hb nd
 have thlt:k<k':=by simpa [ltInt] using hlt
 go_enter func223,ntmps223
 go_wp2_with fail
 refine IH.out.mono ?_
 rintro e w1 ⟨rfl,hI,hF⟩
 have hB1:=(hF.block b hbw nbl).trans HB.out
 have hr1:In w1 r:=In.fr hr hF (fun x hx h=>ndx x h x hx rfl)
 obtain ⟨-,c2',-,-,cf'⟩:=cells hB1
 generalize (AT.put w.heap.size k v l).1=L at *
 generalize (AT.put w.heap.size k v l).2=q at *
 have HB2:=Lib.hid (set_lo hB1 L.adr)
 have hfx:=Fr.setCell w1 ⟨b,2,none⟩ (.pointer L.adr) (S:=(· =b)) rfl
 have nbL:b∉L.fp:=fun x=>by rcases HX.out.2 b x with e|e;exact absurd e (Nat.ne_of_lt hbw);exact nbl e
 have hI2:=Lib.hid (In.fr hI hfx (fun x hx e=>nbL (e▸hx)))
 have hr2:=Lib.hid (In.fr hr1 hfx (fun x hx e=>nbr (e▸hx)))
 have HF2:=Lib.hid (hF.trans hfx (T:=fun x=>x∈(AT.node b k' v' l r d).fp) (fun i _ h=>AT.mem_node.2 (.inr (.inl h))) (fun i _ h=>AT.mem_node.2 (.inl h)))
 have ND2:Hid ((AT.node b k' v' L r d).fp.Nodup):=AT.nodup_node.2 ⟨nbL,nbr,HX.out.1,ndr,fun x hx y hy e=>by
  rcases HX.out.2 x hx with e'|e'
  ·have:=In.lt hr y hy;omega
  ·exact ndx x e' y hy e⟩
 clear hI hF hB1 hr1 hfx c0 c2 c3 cf
 go_wp2_with fail
 clear c2' cf'
 generalize (w1.setCell ⟨b,2,none⟩ (.pointer L.adr))=w2 at *
 refine (level b k' v' L r d w2 ⟨HB2.out,hI2.out,hr2.out⟩ ND2.out HW.out wr (by omega)).mono ?_
 rintro e w3 ⟨rfl,HI,HF⟩
 have HI3:=Lib.hid HI;have HF3:=Lib.hid HF
 clear HI HF
 go_wp2_with fail
 go_ret2
 unfold PutPost
 rw [HP.out]
 refine ⟨rfl,HI3.out,HF2.out.trans HF3.out (fun i _ h=>h) (fun i hi h=>?_)⟩
 rcases AT.mem_node.1 h with h|h|h
 ·exact AT.mem_node.2 (.inl h)
 ·rcases HX.out.2 i h with e'|e'
  ·omega
  ·exact AT.mem_node.2 (.inr (.inl e'))
 ·exact AT.mem_node.2 (.inr (.inr h))
theorem put_high (k:Int) (v:Int) (b:Nat) (k':Int) (v':Int) (l r:AT Int Int) (d:Int) (w:World)
  (h:In w (.node b k' v' l r d)) (nd:(AT.node b k' v' l r d).fp.Nodup) (wl:l.wd) (wr:r.wd) (sz:l.size+r.size<576460752303423488)
  (ih:Calls prog 223 #[.pointer r.adr,.int .i64 k,.int .i64 v] w (PutPost k v r w)) (hlt:Ord.lt k' k=true):
  Calls prog 223 #[.pointer (some ⟨b,0,none⟩),.int .i64 k,.int .i64 v] w (PutPost k v (.node b k' v' l r d) w):=by
 have hput:AT.put w.heap.size k v (.node b k' v' l r d)=(AT.level b k' v' l (AT.put w.heap.size k v r).1,(AT.put w.heap.size k v r).2):=by rw [AT.put,if_neg (by rw [Ord.asymm hlt];simp),if_pos hlt]
 have hlx:=put_nodup w.heap.size k v (AT.nodup_node.1 nd).2.2.2.1 (In.lt h.2.2)
 have hsx:=put_size w.heap.size k v r
 have hwx:(AT.put w.heap.size k v r).1.wd:=AT.wd_put _ k v wr
 have HP:=Lib.hid hput;have HX:=Lib.hid hlx;have HW:=Lib.hid hwx
 clear hput hlx hwx
 have IH:=Lib.hid ih
 clear ih
 obtain ⟨hb,hl,hr⟩:=h
 obtain ⟨nbl,nbr,ndl,ndr,ndx⟩:=AT.nodup_node.1 nd
 obtain ⟨c0,c2,c3,-,cf⟩:=cells hb
 have hbw:=lt_of_heap hb
 have HB:=Lib.hid hb;have ND:=Lib.hid nd
 clear hb nd
 have thlt:k'<k:=by simpa [ltInt] using hlt
 go_enter func223,ntmps223
 go_wp2_with fail
 refine IH.out.mono ?_
 rintro e w1 ⟨rfl,hI,hF⟩
 have hB1:=(hF.block b hbw nbr).trans HB.out
 have hr1:In w1 l:=In.fr hl hF (fun x hx h=>ndx x hx x h rfl)
 obtain ⟨-,-,c2',-,cf'⟩:=cells hB1
 generalize (AT.put w.heap.size k v r).1=L at *
 generalize (AT.put w.heap.size k v r).2=q at *
 have HB2:=Lib.hid (set_hi hB1 L.adr)
 have hfx:=Fr.setCell w1 ⟨b,3,none⟩ (.pointer L.adr) (S:=(· =b)) rfl
 have nbL:b∉L.fp:=fun x=>by rcases HX.out.2 b x with e|e;exact absurd e (Nat.ne_of_lt hbw);exact nbr e
 have hI2:=Lib.hid (In.fr hI hfx (fun x hx e=>nbL (e▸hx)))
 have hr2:=Lib.hid (In.fr hr1 hfx (fun x hx e=>nbl (e▸hx)))
 have HF2:=Lib.hid (hF.trans hfx (T:=fun x=>x∈(AT.node b k' v' l r d).fp) (fun i _ h=>AT.mem_node.2 (.inr (.inr h))) (fun i _ h=>AT.mem_node.2 (.inl h)))
 have ND2:Hid ((AT.node b k' v' l L d).fp.Nodup):=AT.nodup_node.2 ⟨nbl,nbL,ndl,HX.out.1,fun x hx y hy e=>by
  rcases HX.out.2 y hy with e'|e'
  ·have:=In.lt hl x hx;omega
  ·exact ndx x hx y e' e⟩
 clear hI hF hB1 hr1 hfx c0 c2 c3 cf
 go_wp2_with fail
 clear c2' cf'
 generalize (w1.setCell ⟨b,3,none⟩ (.pointer L.adr))=w2 at *
 refine (level b k' v' l L d w2 ⟨HB2.out,hr2.out,hI2.out⟩ ND2.out wl HW.out (by omega)).mono ?_
 rintro e w3 ⟨rfl,HI,HF⟩
 have HI3:=Lib.hid HI;have HF3:=Lib.hid HF
 clear HI HF
 go_wp2_with fail
 go_ret2
 unfold PutPost
 rw [HP.out]
 refine ⟨rfl,HI3.out,HF2.out.trans HF3.out (fun i _ h=>h) (fun i hi h=>?_)⟩
 rcases AT.mem_node.1 h with h|h|h
 ·exact AT.mem_node.2 (.inl h)
 ·exact AT.mem_node.2 (.inr (.inl h))
 ·rcases HX.out.2 i h with e'|e'
  ·omega
  ·exact AT.mem_node.2 (.inr (.inr e'))
theorem put_eq (v:Int) (b:Nat) (k:Int) (v':Int) (l r:AT Int Int) (d:Int) (w:World)
  (h:In w (.node b k v' l r d)) (nd:(AT.node b k v' l r d).fp.Nodup) (wl:l.wd) (wr:r.wd) (sz:l.size+r.size<576460752303423488):
  Calls prog 223 #[.pointer (some ⟨b,0,none⟩),.int .i64 k,.int .i64 v] w (PutPost k v (.node b k v' l r d) w):=by
 have hput:AT.put w.heap.size k v (.node b k v' l r d)=(AT.level b k v l r,false):=by rw [AT.put,if_neg (by rw [Ord.irr];simp),if_neg (by rw [Ord.irr];simp)]
 have HP:=Lib.hid hput
 clear hput
 obtain ⟨hb,hl,hr⟩:=h
 obtain ⟨nbl,nbr,ndl,ndr,ndx⟩:=AT.nodup_node.1 nd
 obtain ⟨c0,c2,c3,-,cf⟩:=cells hb
 have c1:w.cell? ⟨b,1,none⟩=some (.int .i64 v'):=by rw [cell_of_block hb];rfl
 have _tk:True:=trivial
 have hfx:=Fr.setCell w ⟨b,1,none⟩ (.int .i64 v) (S:=(· =b)) rfl
 have HB2:=Lib.hid (set_v hb v)
 have hl2:=Lib.hid (In.fr hl hfx (fun x hx e=>nbl (e▸hx)))
 have hr2:=Lib.hid (In.fr hr hfx (fun x hx e=>nbr (e▸hx)))
 have HF2:=Lib.hid hfx
 have ND:=Lib.hid nd
 clear hb nd hfx hl hr
 go_enter func223,ntmps223
 go_wp2_with fail
 generalize (w.setCell ⟨b,1,none⟩ (.int .i64 v))=w2 at *
 refine (level b k v l r d w2 ⟨HB2.out,hl2.out,hr2.out⟩ ND.out wl wr (by omega)).mono ?_
 rintro e w3 ⟨rfl,HI,HF⟩
 have HI3:=Lib.hid HI;have HF3:=Lib.hid HF
 clear HI HF
 go_wp2_with fail
 go_ret2
 unfold PutPost
 rw [HP.out]
 exact ⟨rfl,HI3.out,HF2.out.trans HF3.out (fun i _ h=>AT.mem_node.2 (.inl h)) (fun i hi h=>h)⟩
theorem put (k:Int) (v:Int) (t:AT Int Int):∀ (w:World),In w t→t.fp.Nodup→t.wd→t.size<288230376151711744→
  Calls prog 223 #[.pointer t.adr,.int .i64 k,.int .i64 v] w (PutPost k v t w):=AvlZ.zd_put
end AvlII
set_option maxRecDepth 100000
namespace AvlII
open Tryz renaming func222→xFn_drop,func246→xFn_least,ntmps222→xTn_drop,ntmps246→xTn_least
def LeastPost (t:AT Int Int) (w:World) (e:Ending) (w':World):Prop:=
 ∃ (b2:Nat) (k2:Int) (v2:Int) (l2 r2:Option Addr) (d2:Int),t.first=some (b2,k2,v2)∧e=.returned (.tuple #[.pointer t.rest.adr,.pointer (some ⟨b2,0,none⟩)])∧In w' t.rest∧
  w'.heap[b2]? =some (.cells (blk k2 v2 l2 r2 d2) 287 (0,0))∧Fr (fun x=>x∈t.fp) w w'
theorem least_nil (b:Nat) (k:Int) (v:Int) (r:AT Int Int) (d:Int) (w:World) (h:In w (.node b k v .nil r d)):
  Calls prog 246 #[.pointer (some ⟨b,0,none⟩)] w (LeastPost (.node b k v .nil r d) w):=AvlZ.ze_least_nil
theorem rest_size {t:AT Int Int} {b:Nat} {k:Int} {v:Int} (h:t.first=some (b,k,v)):t.rest.size+1=t.size:=AvlZ.ze_rest_size
theorem rest_nodup {t:AT Int Int} {b:Nat} {k:Int} {v:Int} (h:t.first=some (b,k,v)) (nd:t.fp.Nodup):b∉t.rest.fp∧t.rest.fp.Nodup∧b∈t.fp∧∀x∈t.rest.fp,x∈t.fp:=AvlZ.ze_rest_nodup
theorem least_node (b:Nat) (k:Int) (v:Int) (b':Nat) (k':Int) (v':Int) (l' r':AT Int Int) (d':Int) (r:AT Int Int) (d:Int) (w:World)
  (h:In w (.node b k v (.node b' k' v' l' r' d') r d)) (nd:(AT.node b k v (.node b' k' v' l' r' d') r d).fp.Nodup) (wl:(AT.node b' k' v' l' r' d').wd) (wr:r.wd) (sz:(AT.node b' k' v' l' r' d').size+r.size<576460752303423488)
  (ih:Calls prog 246 #[.pointer (some ⟨b',0,none⟩)] w (LeastPost (.node b' k' v' l' r' d') w)):
  Calls prog 246 #[.pointer (some ⟨b,0,none⟩)] w (LeastPost (.node b k v (.node b' k' v' l' r' d') r d) w):=AvlZ.ze_least_node
theorem least:∀ (t:AT Int Int) (w:World),t≠ .nil→In w t→t.fp.Nodup→t.wd→t.size<288230376151711744→
  Calls prog 246 #[.pointer t.adr] w (LeastPost t w)
 | .nil,_,h,_,_,_,_=>absurd rfl h
 | .node b k v .nil r d,w,_,h,_,_,_=>least_nil b k v r d w h
 | .node b k v (.node b' k' v' l' r' d') r d,w,_,h,nd,wd,sz=>by
  have sz':(AT.node b' k' v' l' r' d').size+r.size<288230376151711744:=by rw [AT.size] at sz;omega
  exact least_node b k v b' k' v' l' r' d' r d w h nd wd.1 wd.2.1 (by omega) (least (.node b' k' v' l' r' d') w (by simp) h.2.1 (AT.nodup_node.1 nd).2.2.1 wd.1 (by omega))
def DropPost (k:Int) (t:AT Int Int) (w:World) (e:Ending) (w':World):Prop:=
 e=.returned (.tuple #[.pointer (AT.drop k t).1.adr,.bool (AT.drop k t).2])∧In w' (AT.drop k t).1∧Fr (fun x=>x∈t.fp) w w'
theorem drop_size (k:Int) {t:AT Int Int} (_:t.fp.Nodup):(AT.drop k t).1.size≤t.size:=AT.size_drop k t
theorem drop_nil (k:Int) (w:World):Calls prog 222 #[.pointer none,.int .i64 k] w (DropPost k .nil w):=AvlZ.ze_drop_nil
theorem drop_low (k:Int) (b:Nat) (k':Int) (v':Int) (l r:AT Int Int) (d:Int) (w:World)
  (h:In w (.node b k' v' l r d)) (nd:(AT.node b k' v' l r d).fp.Nodup) (wl:l.wd) (wr:r.wd) (sz:l.size+r.size<576460752303423488)
  (ih:Calls prog 222 #[.pointer l.adr,.int .i64 k] w (DropPost k l w)) (hlt:Ord.lt k k'=true):
  Calls prog 222 #[.pointer (some ⟨b,0,none⟩),.int .i64 k] w (DropPost k (.node b k' v' l r d) w):=by
 have hput:AT.drop k (.node b k' v' l r d)=(AT.level b k' v' (AT.drop k l).1 r,(AT.drop k l).2):=by rw [AT.drop,if_pos hlt]
 have hlx:=AT.sub_drop k (AT.nodup_node.1 nd).2.2.1
 have hsx:=drop_size k (AT.nodup_node.1 nd).2.2.1
 have hwx:(AT.drop k l).1.wd:=AT.wd_drop k wl
 have HP:=Lib.hid hput;have HX:=Lib.hid hlx;have HW:=Lib.hid hwx
 clear hput hlx hwx
 have IH:=Lib.hid ih
 clear ih
 obtain ⟨hb,hl,hr⟩:=h
 obtain ⟨nbl,nbr,ndl,ndr,ndx⟩:=AT.nodup_node.1 nd
 obtain ⟨c0,c2,c3,-,cf⟩:=cells hb
 have hbw:=lt_of_heap hb
 have HB:=Lib.hid hb;have ND:=Lib.hid nd
 clear hb nd
 have thlt:k<k':=by simpa [ltInt] using hlt
 go_enter func222,ntmps222
 go_wp2_with fail
 refine IH.out.mono ?_
 rintro e w1 ⟨rfl,hI,hF⟩
 have hB1:=(hF.block b hbw nbl).trans HB.out
 have hr1:In w1 r:=In.fr hr hF (fun x hx h=>ndx x h x hx rfl)
 obtain ⟨-,c2',-,-,cf'⟩:=cells hB1
 generalize (AT.drop k l).1=L at *
 generalize (AT.drop k l).2=q at *
 have HB2:=Lib.hid (set_lo hB1 L.adr)
 have hfx:=Fr.setCell w1 ⟨b,2,none⟩ (.pointer L.adr) (S:=(· =b)) rfl
 have nbL:b∉L.fp:=fun x=>nbl (HX.out.2 b x)
 have hI2:=Lib.hid (In.fr hI hfx (fun x hx e=>nbL (e▸hx)))
 have hr2:=Lib.hid (In.fr hr1 hfx (fun x hx e=>nbr (e▸hx)))
 have HF2:=Lib.hid (hF.trans hfx (T:=fun x=>x∈(AT.node b k' v' l r d).fp) (fun i _ h=>AT.mem_node.2 (.inr (.inl h))) (fun i _ h=>AT.mem_node.2 (.inl h)))
 have ND2:Hid ((AT.node b k' v' L r d).fp.Nodup):=AT.nodup_node.2 ⟨nbL,nbr,HX.out.1,ndr,fun x hx y hy e=>ndx x (HX.out.2 x hx) y hy e⟩
 clear hI hF hB1 hr1 hfx c0 c2 c3 cf
 go_wp2_with fail
 clear c2' cf'
 generalize (w1.setCell ⟨b,2,none⟩ (.pointer L.adr))=w2 at *
 refine (level b k' v' L r d w2 ⟨HB2.out,hI2.out,hr2.out⟩ ND2.out HW.out wr (by omega)).mono ?_
 rintro e w3 ⟨rfl,HI,HF⟩
 have HI3:=Lib.hid HI;have HF3:=Lib.hid HF
 clear HI HF
 go_wp2_with fail
 go_ret2
 unfold DropPost
 rw [HP.out]
 refine ⟨rfl,HI3.out,HF2.out.trans HF3.out (fun i _ h=>h) (fun i _ h=>?_)⟩
 rcases AT.mem_node.1 h with h|h|h
 ·exact AT.mem_node.2 (.inl h)
 ·exact AT.mem_node.2 (.inr (.inl (HX.out.2 i h)))
 ·exact AT.mem_node.2 (.inr (.inr h))
theorem drop_high (k:Int) (b:Nat) (k':Int) (v':Int) (l r:AT Int Int) (d:Int) (w:World)
  (h:In w (.node b k' v' l r d)) (nd:(AT.node b k' v' l r d).fp.Nodup) (wl:l.wd) (wr:r.wd) (sz:l.size+r.size<576460752303423488)
  (ih:Calls prog 222 #[.pointer r.adr,.int .i64 k] w (DropPost k r w)) (hlt:Ord.lt k' k=true):
  Calls prog 222 #[.pointer (some ⟨b,0,none⟩),.int .i64 k] w (DropPost k (.node b k' v' l r d) w):=by
 have hput:AT.drop k (.node b k' v' l r d)=(AT.level b k' v' l (AT.drop k r).1,(AT.drop k r).2):=by rw [AT.drop,if_neg (by rw [Ord.asymm hlt];simp),if_pos hlt]
 have hlx:=AT.sub_drop k (AT.nodup_node.1 nd).2.2.2.1
 have hsx:=drop_size k (AT.nodup_node.1 nd).2.2.2.1
 have hwx:(AT.drop k r).1.wd:=AT.wd_drop k wr
 have HP:=Lib.hid hput;have HX:=Lib.hid hlx;have HW:=Lib.hid hwx
 clear hput hlx hwx
 have IH:=Lib.hid ih
 clear ih
 obtain ⟨hb,hl,hr⟩:=h
 obtain ⟨nbl,nbr,ndl,ndr,ndx⟩:=AT.nodup_node.1 nd
 obtain ⟨c0,c2,c3,-,cf⟩:=cells hb
 have hbw:=lt_of_heap hb
 have HB:=Lib.hid hb;have ND:=Lib.hid nd
 clear hb nd
 have thlt:k'<k:=by simpa [ltInt] using hlt
 go_enter func222,ntmps222
 go_wp2_with fail
 refine IH.out.mono ?_
 rintro e w1 ⟨rfl,hI,hF⟩
 have hB1:=(hF.block b hbw nbr).trans HB.out
 have hr1:In w1 l:=In.fr hl hF (fun x hx h=>ndx x hx x h rfl)
 obtain ⟨-,-,c2',-,cf'⟩:=cells hB1
 generalize (AT.drop k r).1=L at *
 generalize (AT.drop k r).2=q at *
 have HB2:=Lib.hid (set_hi hB1 L.adr)
 have hfx:=Fr.setCell w1 ⟨b,3,none⟩ (.pointer L.adr) (S:=(· =b)) rfl
 have nbL:b∉L.fp:=fun x=>nbr (HX.out.2 b x)
 have hI2:=Lib.hid (In.fr hI hfx (fun x hx e=>nbL (e▸hx)))
 have hr2:=Lib.hid (In.fr hr1 hfx (fun x hx e=>nbl (e▸hx)))
 have HF2:=Lib.hid (hF.trans hfx (T:=fun x=>x∈(AT.node b k' v' l r d).fp) (fun i _ h=>AT.mem_node.2 (.inr (.inr h))) (fun i _ h=>AT.mem_node.2 (.inl h)))
 have ND2:Hid ((AT.node b k' v' l L d).fp.Nodup):=AT.nodup_node.2 ⟨nbl,nbL,ndl,HX.out.1,fun x hx y hy e=>ndx x hx y (HX.out.2 y hy) e⟩
 clear hI hF hB1 hr1 hfx c0 c2 c3 cf
 go_wp2_with fail
 clear c2' cf'
 generalize (w1.setCell ⟨b,3,none⟩ (.pointer L.adr))=w2 at *
 refine (level b k' v' l L d w2 ⟨HB2.out,hr2.out,hI2.out⟩ ND2.out wl HW.out (by omega)).mono ?_
 rintro e w3 ⟨rfl,HI,HF⟩
 have HI3:=Lib.hid HI;have HF3:=Lib.hid HF
 clear HI HF
 go_wp2_with fail
 go_ret2
 unfold DropPost
 rw [HP.out]
 refine ⟨rfl,HI3.out,HF2.out.trans HF3.out (fun i _ h=>h) (fun i _ h=>?_)⟩
 rcases AT.mem_node.1 h with h|h|h
 ·exact AT.mem_node.2 (.inl h)
 ·exact AT.mem_node.2 (.inr (.inl h))
 ·exact AT.mem_node.2 (.inr (.inr (HX.out.2 i h)))
theorem drop_last (b:Nat) (k:Int) (v':Int) (l:AT Int Int) (d:Int) (w:World) (h:In w (.node b k v' l .nil d)):
  Calls prog 222 #[.pointer (some ⟨b,0,none⟩),.int .i64 k] w (DropPost k (.node b k v' l .nil d) w):=by
 have hdrop:AT.drop k (.node b k v' l .nil d)=(l,true):=by simp [AT.drop,Ord.irr,AT.first]
 have HP:=Lib.hid hdrop
 clear hdrop
 obtain ⟨hb,hl,hr⟩:=h
 rw [AT.adr_nil] at hb
 obtain ⟨c0,c2,c3,-,-⟩:=cells hb
 have _tk:True:=trivial
 clear hb
 go_enter func222,ntmps222
 go_wp2_with fail
 go_ret2
 unfold DropPost
 rw [HP.out]
 exact ⟨rfl,hl,Fr.refl _ _⟩
theorem set_both {w:World} {b:Nat} {k:Int} {v:Int} {l r:Option Addr} {d:Int} (h:w.heap[b]? =some (.cells (blk k v l r d) 287 (0,0))) (u x:Option Addr):
  ((w.setCell ⟨b,2,none⟩ (.pointer u)).setCell ⟨b,3,none⟩ (.pointer x)).heap[b]? =some (.cells (blk k v u x d) 287 (0,0)):=set_hi (set_lo h u) x
theorem drop_mid (b:Nat) (k:Int) (v':Int) (l r:AT Int Int) (d:Int) (w:World) (h:In w (.node b k v' l r d)) (nd:(AT.node b k v' l r d).fp.Nodup) (wl:l.wd) (wr:r.wd) (sz:l.size+r.size<288230376151711744) (hne:r≠ .nil):
  Calls prog 222 #[.pointer (some ⟨b,0,none⟩),.int .i64 k] w (DropPost k (.node b k v' l r d) w):=by
 obtain ⟨nbl,nbr,ndl,ndr,ndx⟩:=AT.nodup_node.1 nd
 have hdrop:∀b2 k2 v2,r.first=some (b2,k2,v2)→AT.drop k (.node b k v' l r d)=(AT.level b2 k2 v2 l r.rest,true):=fun b2 k2 v2 hf=>by simp [AT.drop,Ord.irr,hf]
 obtain ⟨a0,ha0⟩:∃a0,r.adr=some a0:=by cases r with|nil=>exact absurd rfl hne|node=>exact ⟨_,rfl⟩
 have HLE:=Lib.hid (least r w hne h.2.2 ndr wr (by omega))
 have HP:=Lib.hid hdrop;have ND:=Lib.hid nd
 clear hdrop nd
 obtain ⟨hb,hl,hr⟩:=h
 rw [ha0] at hb HLE
 obtain ⟨c0,c2,c3,-,-⟩:=cells hb
 have hbw:=lt_of_heap hb
 have _tk:True:=trivial
 have HB:=Lib.hid hb
 clear hb ha0
 go_enter func222,ntmps222
 go_wp2_with fail
 refine HLE.out.mono ?_
 rintro e w1 ⟨b2,k2,v2,l2,r2,d2,h1,rfl,h3,h4,hF⟩
 have hB1:=(hF.block b hbw nbr).trans HB.out
 have hl1:In w1 l:=In.fr hl hF (fun x hx h=>ndx x hx x h rfl)
 have hsz:=rest_size h1
 have hsz':r.rest.size≤r.size:=by omega
 have HN:=Lib.hid (rest_nodup h1 ndr)
 obtain ⟨-,c2',c3',-,-⟩:=cells hB1
 obtain ⟨-,c2n,c3n,-,cfn⟩:=cells h4
 have HB2:=Lib.hid (set_both h4 l.adr r.rest.adr)
 have hfx:=(Fr.setCell w1 ⟨b2,2,none⟩ (.pointer l.adr) (S:=(· =b2)) rfl).trans (Fr.setCell _ ⟨b2,3,none⟩ (.pointer r.rest.adr) (S:=(· =b2)) rfl) (T:=(· =b2)) (fun _ _ h=>h) (fun _ _ h=>h)
 have nbL:b2∉l.fp:=fun x=>ndx b2 x b2 HN.out.2.2.1 rfl
 have hI2:=Lib.hid (In.fr h3 hfx (fun x hx e=>HN.out.1 (e▸hx)))
 have hl2:=Lib.hid (In.fr hl1 hfx (fun x hx e=>nbL (e▸hx)))
 have hbb:b≠b2:=fun e=>nbr (e▸HN.out.2.2.1)
 have HF2:=Lib.hid (hF.trans hfx (T:=fun x=>x∈(AT.node b k v' l r d).fp) (fun i _ h=>AT.mem_node.2 (.inr (.inr h))) (fun i _ h=>AT.mem_node.2 (.inr (.inr (h▸HN.out.2.2.1)))))
 have ND2:Hid ((AT.node b2 k2 v2 l r.rest d2).fp.Nodup):=AT.nodup_node.2 ⟨nbL,HN.out.1,ndl,HN.out.2.1,fun x hx y hy e=>ndx x hx y (HN.out.2.2.2 y hy) e⟩
 have HW:Hid r.rest.wd:=AT.wd_rest wr
 have HP2:=Lib.hid (HP.out _ _ _ h1)
 clear h1 h3 h4 hF hB1 hl1 hfx c0 c2 c3 hsz
 go_wp2_with fail
 clear c2' c3' c2n c3n cfn
 generalize ((w1.setCell ⟨b2,2,none⟩ (.pointer l.adr)).setCell ⟨b2,3,none⟩ (.pointer r.rest.adr))=w2 at *
 refine (level b2 k2 v2 l r.rest d2 w2 ⟨HB2.out,hl2.out,hI2.out⟩ ND2.out wl HW.out (by omega)).mono ?_
 rintro e w3 ⟨rfl,HI,HF⟩
 have HI3:=Lib.hid HI;have HF3:=Lib.hid HF
 clear HI HF
 go_wp2_with fail
 go_ret2
 unfold DropPost
 rw [HP2.out]
 refine ⟨rfl,HI3.out,HF2.out.trans HF3.out (fun i _ h=>h) (fun i _ h=>?_)⟩
 rcases AT.mem_node.1 h with h|h|h
 ·exact AT.mem_node.2 (.inr (.inr (h▸HN.out.2.2.1)))
 ·exact AT.mem_node.2 (.inr (.inl h))
 ·exact AT.mem_node.2 (.inr (.inr (HN.out.2.2.2 i h)))
theorem drop (k:Int) (t:AT Int Int):∀ (w:World),In w t→t.fp.Nodup→t.wd→t.size<288230376151711744→
  Calls prog 222 #[.pointer t.adr,.int .i64 k] w (DropPost k t w):=AvlZ.ze_drop
end AvlII
set_option maxRecDepth 100000
namespace AvlII
open Tryz renaming func202→xFm_Drop,func203→xFm_Put,func168→xFm_top,ntmps202→xTm_Drop,ntmps203→xTm_Put,ntmps168→xTm_top
def MapIn (w:World) (r:Option Addr) (L:List (Int × Int)) (F:List Nat):Prop:=
 ∃t:AT Int Int,t.adr=r∧t.toL=L∧t.fp=F∧In w t∧F.Nodup∧t.wd∧t.bal∧Srt L
theorem MapIn.fr {S:Nat→Prop} {w w':World} {r:Option Addr} {L:List (Int × Int)} {F:List Nat} (h:MapIn w r L F) (hf:Fr S w w') (hs:∀b∈F,¬S b):MapIn w' r L F:=AvlZ.zf_MapIn_fr
theorem MapIn.lt {w:World} {r:Option Addr} {L:List (Int × Int)} {F:List Nat} (h:MapIn w r L F):∀b∈F,b<w.heap.size:=AvlZ.zf_MapIn_lt
theorem MapIn.srt {w:World} {r:Option Addr} {L:List (Int × Int)} {F:List Nat} (h:MapIn w r L F):Srt L:=by
 obtain ⟨t,-,-,-,-,-,-,-,h⟩:=h
 exact h
theorem MapIn.nil (w:World):MapIn w none [] []:=⟨.nil,rfl,rfl,rfl,trivial,List.nodup_nil,trivial,trivial,List.Pairwise.nil⟩
theorem insL_length (k:Int) (v:Int) (n:Nat) {t:AT Int Int} (hs:Srt t.toL):(insL k v t.toL).length=if (AT.put n k v t).2 then t.toL.length+1 else t.toL.length:=AvlZ.zf_insL_length
theorem delL_length (k:Int) {t:AT Int Int} (hs:Srt t.toL):(delL k t.toL).length=if (AT.drop k t).2 then t.toL.length-1 else t.toL.length:=AvlZ.zf_delL_length
def PutMPost (B off:Nat) (c:Array Value) (TB:TypeId) (k:Int) (v:Int) (L:List (Int × Int)) (F:List Nat) (w:World) (e:Ending) (w':World):Prop:=
 ∃ (r':Option Addr) (F':List Nat),e=.returned (.bool (!hasL k L))∧w'.heap[B]? =some (.cells ((c.setIfInBounds off (.pointer r')).setIfInBounds (off+1) (.int .i64 (insL k v L).length)) TB (0,0))∧
  MapIn w' r' (insL k v L) F'∧(∀x∈F',x∈F∨w.heap.size≤x)∧Fr (fun x=>x=B∨x∈F) w w'
theorem set_same {c:Array Value} {i:Nat} {u:Value} (h:c[i]? =some u):c.setIfInBounds i u=c:=AvlZ.zf_set_same
theorem Put (B off:Nat) (c:Array Value) (TB:TypeId) (k:Int) (v:Int) (r:Option Addr) (L:List (Int × Int)) (F:List Nat) (w:World)
  (hB:w.heap[B]? =some (.cells c TB (0,0))) (h0:c[off]? =some (.pointer r)) (h1:c[off+1]? =some (.int .i64 L.length)) (hM:MapIn w r L F) (hBF:B∉F) (sz:L.length<144115188075855872):
  Calls prog 203 #[.pointer (some ⟨B,off,none⟩),.int .i64 k,.int .i64 v] w (PutMPost B off c TB k v L F w):=AvlZ.zf_Put
def DropMPost (B off:Nat) (c:Array Value) (TB:TypeId) (k:Int) (L:List (Int × Int)) (F:List Nat) (w:World) (e:Ending) (w':World):Prop:=
 ∃ (r':Option Addr) (F':List Nat),e=.returned (.bool (hasL k L))∧w'.heap[B]? =some (.cells ((c.setIfInBounds off (.pointer r')).setIfInBounds (off+1) (.int .i64 (delL k L).length)) TB (0,0))∧
  MapIn w' r' (delL k L) F'∧(∀x∈F',x∈F)∧Fr (fun x=>x=B∨x∈F) w w'
theorem Drop (B off:Nat) (c:Array Value) (TB:TypeId) (k:Int) (r:Option Addr) (L:List (Int × Int)) (F:List Nat) (w:World)
  (hB:w.heap[B]? =some (.cells c TB (0,0))) (h0:c[off]? =some (.pointer r)) (h1:c[off+1]? =some (.int .i64 L.length)) (hM:MapIn w r L F) (hBF:B∉F) (sz:L.length<144115188075855872):
  Calls prog 202 #[.pointer (some ⟨B,off,none⟩),.int .i64 k] w (DropMPost B off c TB k L F w):=AvlZ.zf_Drop
theorem top_none (w:World):Calls prog 168 #[.pointer none] w fun e w'=>e=.returned (.pointer none)∧w=w':=AvlZ.zf_top_none
theorem top (a:Addr) (r:Option Addr) (w:World) (ha:a.spot=none) (h:w.cell? a=some (.pointer r)):Calls prog 168 #[.pointer (some a)] w fun e w'=>e=.returned (.pointer r)∧w=w':=AvlZ.zf_top
end AvlII
end Go.Proofs.YtgfjpnpbkkadpaaGreat
