/- The maps in order (avl) at one instance: the nodes in memory, and what each method does to them. -/
import Derived.Test.YtgfjpnpbkkadpaaGreatAvlZ
namespace Go.Proofs.YtgfjpnpbkkadpaaGreat
open Tryz
set_option maxRecDepth 100000
open Go.RowKit
namespace AvlSI
abbrev oD:Nat:=4
abbrev oL:Nat:=2
abbrev oR:Nat:=3
abbrev xN:TypeId:=275
open Tryz renaming func256→xFn_deep,func235→xFn_lean,func234→xFn_measure,ntmps256→xTn_deep,ntmps235→xTn_lean,ntmps234→xTn_measure
abbrev blk (k:ByteArray) (v:Int) (l r:Option Addr) (d:Int):Array Value:= #[.string k,.int .i64 v,.pointer l,.pointer r,.int .i64 d]
def In (w:World) (t:AT ByteArray Int):Prop:=t.In blk 275 w
theorem In.fr {S:Nat→Prop} {w w':World} {t:AT ByteArray Int} (h:In w t) (hf:Fr S w w') (hs:∀b∈t.fp,¬S b):In w' t:=AT.In.fr h hf hs
theorem In.lt {w:World} {t:AT ByteArray Int} (h:In w t):∀b∈t.fp,b<w.heap.size:=AT.In.lt h
theorem cells {w:World} {b:Nat} {k:ByteArray} {v:Int} {l r:Option Addr} {d:Int} (h:w.heap[b]? =some (.cells (blk k v l r d) 275 (0,0))):
  w.cell? ⟨b,0,none⟩=some (.string k)∧w.cell? ⟨b,2,none⟩=some (.pointer l)∧w.cell? ⟨b,3,none⟩=some (.pointer r)∧w.cell? ⟨b,4,none⟩=some (.int .i64 d)∧(∀o,w.frozen? ⟨b,o,none⟩=false):=AvlZ.za_cells
theorem deep (t:AT ByteArray Int) (w:World) (h:In w t):
  Calls prog 256 #[.pointer t.adr] w fun e w'=>e=.returned (.int .i64 t.dep)∧w'=w:=AvlZ.za_deep
theorem measure (b:Nat) (k:ByteArray) (v:Int) (l r:AT ByteArray Int) (d:Int) (w:World) (hb:w.heap[b]? =some (.cells (blk k v l.adr r.adr d) 275 (0,0)))
  (hl:In w l) (hr:In w r) (l0:0≤l.dep) (l1:l.dep<4611686018427387904) (r0:0≤r.dep) (r1:r.dep<4611686018427387904):
  Calls prog 234 #[.pointer (some ⟨b,0,none⟩)] w fun e w'=>e=.returned (.tuple #[])∧
   w'.heap[b]? =some (.cells (blk k v l.adr r.adr (1+max l.dep r.dep)) 275 (0,0))∧Fr (· =b) w w':=AvlZ.za_measure
theorem lean (b:Nat) (k:ByteArray) (v:Int) (l r:AT ByteArray Int) (d:Int) (w:World) (h:In w (.node b k v l r d)) (l0:0≤l.dep) (l1:l.dep<4611686018427387904) (r0:0≤r.dep) (r1:r.dep<4611686018427387904):
  Calls prog 235 #[.pointer (some ⟨b,0,none⟩)] w fun e w'=>e=.returned (.int .i64 (r.dep-l.dep))∧w.drew=w':=AvlZ.za_lean
end AvlSI
set_option maxRecDepth 100000
namespace AvlSI
open Tryz renaming func236→xFn_turnHigh,func237→xFn_turnLow,ntmps236→xTn_turnHigh,ntmps237→xTn_turnLow
theorem heap_other {w:World} {a:Addr} {u:Value} {b:Nat} {o:Obj} (h:w.heap[b]? =some o) (hne:b≠a.block):(w.setCell a u).heap[b]? =some o:=(Below.heap_setCell _ _ _ _ hne).trans h
theorem set_lo {w:World} {b:Nat} {k:ByteArray} {v:Int} {l r:Option Addr} {d:Int} (h:w.heap[b]? =some (.cells (blk k v l r d) 275 (0,0))) (u:Option Addr):
  (w.setCell ⟨b,2,none⟩ (.pointer u)).heap[b]? =some (.cells (blk k v u r d) 275 (0,0)):=heap_setCell_same h _
theorem set_hi {w:World} {b:Nat} {k:ByteArray} {v:Int} {l r:Option Addr} {d:Int} (h:w.heap[b]? =some (.cells (blk k v l r d) 275 (0,0))) (u:Option Addr):
  (w.setCell ⟨b,3,none⟩ (.pointer u)).heap[b]? =some (.cells (blk k v l u d) 275 (0,0)):=heap_setCell_same h _
theorem turnLow (b:Nat) (k:ByteArray) (v:Int) (l:AT ByteArray Int) (b':Nat) (k':ByteArray) (v':Int) (l' r':AT ByteArray Int) (d' d:Int) (w:World)
  (h:In w (.node b k v l (.node b' k' v' l' r' d') d)) (nd:(AT.node b k v l (.node b' k' v' l' r' d') d).fp.Nodup) (wl:l.wd) (wl':l'.wd) (wr':r'.wd) (sz:l.size+l'.size+r'.size<2305843009213693952):
  Calls prog 237 #[.pointer (some ⟨b,0,none⟩)] w fun e w'=>e=.returned (.pointer (some ⟨b',0,none⟩))∧
   In w' (AT.turnLow (.node b k v l (.node b' k' v' l' r' d') d))∧Fr (fun x=>x=b∨x=b') w w':=AvlZ.zb_turnLow
theorem turnHigh (b:Nat) (k:ByteArray) (v:Int) (b':Nat) (k':ByteArray) (v':Int) (l' r':AT ByteArray Int) (d':Int) (r:AT ByteArray Int) (d:Int) (w:World)
  (h:In w (.node b k v (.node b' k' v' l' r' d') r d)) (nd:(AT.node b k v (.node b' k' v' l' r' d') r d).fp.Nodup) (wr:r.wd) (wl':l'.wd) (wr':r'.wd) (sz:r.size+l'.size+r'.size<2305843009213693952):
  Calls prog 236 #[.pointer (some ⟨b,0,none⟩)] w fun e w'=>e=.returned (.pointer (some ⟨b',0,none⟩))∧
   In w' (AT.turnHigh (.node b k v (.node b' k' v' l' r' d') r d))∧Fr (fun x=>x=b∨x=b') w w':=AvlZ.zb_turnHigh
end AvlSI
set_option maxRecDepth 100000
namespace AvlSI
open Tryz renaming func211→xFn_level,ntmps211→xTn_level
theorem level_else (b:Nat) (k:ByteArray) (v:Int) (l r:AT ByteArray Int) (d:Int) (w:World)
  (h:In w (.node b k v l r d)) (nd:(AT.node b k v l r d).fp.Nodup) (wl:l.wd) (wr:r.wd) (sz:l.size+r.size<1152921504606846976) (e1:¬r.dep-l.dep=2) (e2:¬r.dep-l.dep= -2):
  Calls prog 211 #[.pointer (some ⟨b,0,none⟩)] w fun e w'=>e=.returned (.pointer (AT.level b k v l r).adr)∧In w' (AT.level b k v l r)∧Fr (fun x=>x∈(AT.node b k v l r d).fp) w w':=AvlZ.zc_level_else
theorem level_hi (b:Nat) (k:ByteArray) (v:Int) (l r:AT ByteArray Int) (d:Int) (w:World)
  (h:In w (.node b k v l r d)) (nd:(AT.node b k v l r d).fp.Nodup) (wl:l.wd) (wr:r.wd) (sz:l.size+r.size<1152921504606846976) (e1:r.dep-l.dep=2) (e2:¬r.lean<0):
  Calls prog 211 #[.pointer (some ⟨b,0,none⟩)] w fun e w'=>e=.returned (.pointer (AT.level b k v l r).adr)∧In w' (AT.level b k v l r)∧Fr (fun x=>x∈(AT.node b k v l r d).fp) w w':=AvlZ.zc_level_hi
theorem level_hilo (b:Nat) (k:ByteArray) (v:Int) (l r:AT ByteArray Int) (d:Int) (w:World)
  (h:In w (.node b k v l r d)) (nd:(AT.node b k v l r d).fp.Nodup) (wl:l.wd) (wr:r.wd) (sz:l.size+r.size<1152921504606846976) (e1:r.dep-l.dep=2) (e2:r.lean<0):
  Calls prog 211 #[.pointer (some ⟨b,0,none⟩)] w fun e w'=>e=.returned (.pointer (AT.level b k v l r).adr)∧In w' (AT.level b k v l r)∧Fr (fun x=>x∈(AT.node b k v l r d).fp) w w':=AvlZ.zc_level_hilo
theorem level_lo (b:Nat) (k:ByteArray) (v:Int) (l r:AT ByteArray Int) (d:Int) (w:World)
  (h:In w (.node b k v l r d)) (nd:(AT.node b k v l r d).fp.Nodup) (wl:l.wd) (wr:r.wd) (sz:l.size+r.size<1152921504606846976) (e1:r.dep-l.dep= -2) (e2:¬0<l.lean):
  Calls prog 211 #[.pointer (some ⟨b,0,none⟩)] w fun e w'=>e=.returned (.pointer (AT.level b k v l r).adr)∧In w' (AT.level b k v l r)∧Fr (fun x=>x∈(AT.node b k v l r d).fp) w w':=AvlZ.zc_level_lo
theorem level_lohi (b:Nat) (k:ByteArray) (v:Int) (l r:AT ByteArray Int) (d:Int) (w:World)
  (h:In w (.node b k v l r d)) (nd:(AT.node b k v l r d).fp.Nodup) (wl:l.wd) (wr:r.wd) (sz:l.size+r.size<1152921504606846976) (e1:r.dep-l.dep= -2) (e2:0<l.lean):
  Calls prog 211 #[.pointer (some ⟨b,0,none⟩)] w fun e w'=>e=.returned (.pointer (AT.level b k v l r).adr)∧In w' (AT.level b k v l r)∧Fr (fun x=>x∈(AT.node b k v l r d).fp) w w':=AvlZ.zc_level_lohi
theorem level (b:Nat) (k:ByteArray) (v:Int) (l r:AT ByteArray Int) (d:Int) (w:World)
  (h:In w (.node b k v l r d)) (nd:(AT.node b k v l r d).fp.Nodup) (wl:l.wd) (wr:r.wd) (sz:l.size+r.size<1152921504606846976):
  Calls prog 211 #[.pointer (some ⟨b,0,none⟩)] w fun e w'=>e=.returned (.pointer (AT.level b k v l r).adr)∧In w' (AT.level b k v l r)∧Fr (fun x=>x∈(AT.node b k v l r d).fp) w w':=AvlZ.zc_level
end AvlSI
set_option maxRecDepth 100000
namespace AvlSI
theorem set_v {w:World} {b:Nat} {k:ByteArray} {v:Int} {l r:Option Addr} {d:Int} (h:w.heap[b]? =some (.cells (blk k v l r d) 275 (0,0))) (v':Int):
  (w.setCell ⟨b,1,none⟩ (.int .i64 v')).heap[b]? =some (.cells (blk k v' l r d) 275 (0,0)):=heap_setCell_same h _
theorem put_nodup (n:Nat) (k:ByteArray) (v:Int) {t:AT ByteArray Int} (nd:t.fp.Nodup) (hn:∀x∈t.fp,x<n):(AT.put n k v t).1.fp.Nodup∧∀x∈(AT.put n k v t).1.fp,x=n∨x∈t.fp:=AvlZ.zd_put_nodup
theorem put_size (n:Nat) (k:ByteArray) (v:Int) (t:AT ByteArray Int):(AT.put n k v t).1.size≤t.size+1:=AvlZ.zd_put_size
theorem put_nil (k:ByteArray) (v:Int) (w:World):Calls prog 186 #[.pointer none,.string k,.int .i64 v] w fun e w'=>
  e=.returned (.tuple #[.pointer (some ⟨w.heap.size,0,none⟩),.bool true])∧w'=w.alloc (.cells (blk k v none none 1) 275 (0,0)):=by
 go_enter func186,ntmps186
 go_wp2_with fail
 go_ret2
 exact ⟨rfl,rfl⟩
def PutPost (k:ByteArray) (v:Int) (t:AT ByteArray Int) (w:World) (e:Ending) (w':World):Prop:=
 e=.returned (.tuple #[.pointer (AT.put w.heap.size k v t).1.adr,.bool (AT.put w.heap.size k v t).2])∧In w' (AT.put w.heap.size k v t).1∧Fr (fun x=>x∈t.fp) w w'
theorem put_low (k:ByteArray) (v:Int) (b:Nat) (k':ByteArray) (v':Int) (l r:AT ByteArray Int) (d:Int) (w:World)
  (h:In w (.node b k' v' l r d)) (nd:(AT.node b k' v' l r d).fp.Nodup) (wl:l.wd) (wr:r.wd) (sz:l.size+r.size<576460752303423488)
  (ih:Calls prog 186 #[.pointer l.adr,.string k,.int .i64 v] w (PutPost k v l w)) (hlt:Ord.lt k k'=true):
  Calls prog 186 #[.pointer (some ⟨b,0,none⟩),.string k,.int .i64 v] w (PutPost k v (.node b k' v' l r d) w):=by
 have hput:AT.put w.heap.size k v (.node b k' v' l r d)=(AT.level b k' v' (AT.put w.heap.size k v l).1 r,(AT.put w.heap.size k v l).2):=by rw [AT.put,if_pos hlt]
 have hlx:=put_nodup w.heap.size k v (AT.nodup_node.1 nd).2.2.1 (In.lt h.2.1)
 have hsx:=put_size w.heap.size k v l
 have hwx:(AT.put w.heap.size k v l).1.wd:=AT.wd_put _ k v wl
 have HP:=Lib.hid hput;have HX:=Lib.hid hlx;have HW:=Lib.hid hwx
 clear hput hlx hwx
 have IH:=Lib.hid ih
 clear ih
 obtain ⟨hb,hl,hr⟩:=h
 obtain ⟨nbl,nbr,ndl,ndr,ndx⟩:=AT.nodup_node.1 nd
 obtain ⟨c0,c2,c3,-,cf⟩:=cells hb
 have hbw:=lt_of_heap hb
 have HB:=Lib.hid hb;have ND:=Lib.hid nd
 clear hb nd
 have thlt:Op.bytesLess k.toList k'.toList=true:=hlt;have uhlt:Op.bytesLess k'.toList k.toList=false:=Ord.asymm hlt;have yhlt:(k.toList==k'.toList)=false:=Bl.ne hlt;have zhlt:(k'.toList==k.toList)=false:=Bl.ne' hlt
 go_enter func186,ntmps186
 go_wp2_with fail
 refine IH.out.mono ?_
 rintro e w1 ⟨rfl,hI,hF⟩
 have hB1:=(hF.block b hbw nbl).trans HB.out
 have hr1:In w1 r:=In.fr hr hF (fun x hx h=>ndx x h x hx rfl)
 obtain ⟨-,c2',-,-,cf'⟩:=cells hB1
 generalize (AT.put w.heap.size k v l).1=L at *
 generalize (AT.put w.heap.size k v l).2=q at *
 have HB2:=Lib.hid (set_lo hB1 L.adr)
 have hfx:=Fr.setCell w1 ⟨b,2,none⟩ (.pointer L.adr) (S:=(· =b)) rfl
 have nbL:b∉L.fp:=fun x=>by rcases HX.out.2 b x with e|e;exact absurd e (Nat.ne_of_lt hbw);exact nbl e
 have hI2:=Lib.hid (In.fr hI hfx (fun x hx e=>nbL (e▸hx)))
 have hr2:=Lib.hid (In.fr hr1 hfx (fun x hx e=>nbr (e▸hx)))
 have HF2:=Lib.hid (hF.trans hfx (T:=fun x=>x∈(AT.node b k' v' l r d).fp) (fun i _ h=>AT.mem_node.2 (.inr (.inl h))) (fun i _ h=>AT.mem_node.2 (.inl h)))
 have ND2:Hid ((AT.node b k' v' L r d).fp.Nodup):=AT.nodup_node.2 ⟨nbL,nbr,HX.out.1,ndr,fun x hx y hy e=>by
  rcases HX.out.2 x hx with e'|e'
  ·have:=In.lt hr y hy;omega
  ·exact ndx x e' y hy e⟩
 clear hI hF hB1 hr1 hfx c0 c2 c3 cf
 go_wp2_with fail
 clear c2' cf'
 generalize (w1.setCell ⟨b,2,none⟩ (.pointer L.adr))=w2 at *
 refine (level b k' v' L r d w2 ⟨HB2.out,hI2.out,hr2.out⟩ ND2.out HW.out wr (by omega)).mono ?_
 rintro e w3 ⟨rfl,HI,HF⟩
 have HI3:=Lib.hid HI;have HF3:=Lib.hid HF
 clear HI HF
 go_wp2_with fail
 go_ret2
 unfold PutPost
 rw [HP.out]
 refine ⟨rfl,HI3.out,HF2.out.trans HF3.out (fun i _ h=>h) (fun i hi h=>?_)⟩
 rcases AT.mem_node.1 h with h|h|h
 ·exact AT.mem_node.2 (.inl h)
 ·rcases HX.out.2 i h with e'|e'
  ·omega
  ·exact AT.mem_node.2 (.inr (.inl e'))
 ·exact AT.mem_node.2 (.inr (.inr h))
theorem put_high (k:ByteArray) (v:Int) (b:Nat) (k':ByteArray) (v':Int) (l r:AT ByteArray Int) (d:Int) (w:World)
  (h:In w (.node b k' v' l r d)) (nd:(AT.node b k' v' l r d).fp.Nodup) (wl:l.wd) (wr:r.wd) (sz:l.size+r.size<576460752303423488)
  (ih:Calls prog 186 #[.pointer r.adr,.string k,.int .i64 v] w (PutPost k v r w)) (hlt:Ord.lt k' k=true):
  Calls prog 186 #[.pointer (some ⟨b,0,none⟩),.string k,.int .i64 v] w (PutPost k v (.node b k' v' l r d) w):=by
 have hput:AT.put w.heap.size k v (.node b k' v' l r d)=(AT.level b k' v' l (AT.put w.heap.size k v r).1,(AT.put w.heap.size k v r).2):=by rw [AT.put,if_neg (by rw [Ord.asymm hlt];simp),if_pos hlt]
 have hlx:=put_nodup w.heap.size k v (AT.nodup_node.1 nd).2.2.2.1 (In.lt h.2.2)
 have hsx:=put_size w.heap.size k v r
 have hwx:(AT.put w.heap.size k v r).1.wd:=AT.wd_put _ k v wr
 have HP:=Lib.hid hput;have HX:=Lib.hid hlx;have HW:=Lib.hid hwx
 clear hput hlx hwx
 have IH:=Lib.hid ih
 clear ih
 obtain ⟨hb,hl,hr⟩:=h
 obtain ⟨nbl,nbr,ndl,ndr,ndx⟩:=AT.nodup_node.1 nd
 obtain ⟨c0,c2,c3,-,cf⟩:=cells hb
 have hbw:=lt_of_heap hb
 have HB:=Lib.hid hb;have ND:=Lib.hid nd
 clear hb nd
 have thlt:Op.bytesLess k'.toList k.toList=true:=hlt;have uhlt:Op.bytesLess k.toList k'.toList=false:=Ord.asymm hlt;have yhlt:(k'.toList==k.toList)=false:=Bl.ne hlt;have zhlt:(k.toList==k'.toList)=false:=Bl.ne' hlt
 go_enter func186,ntmps186
 go_wp2_with fail
 refine IH.out.mono ?_
 rintro e w1 ⟨rfl,hI,hF⟩
 have hB1:=(hF.block b hbw nbr).trans HB.out
 have hr1:In w1 l:=In.fr hl hF (fun x hx h=>ndx x hx x h rfl)
 obtain ⟨-,-,c2',-,cf'⟩:=cells hB1
 generalize (AT.put w.heap.size k v r).1=L at *
 generalize (AT.put w.heap.size k v r).2=q at *
 have HB2:=Lib.hid (set_hi hB1 L.adr)
 have hfx:=Fr.setCell w1 ⟨b,3,none⟩ (.pointer L.adr) (S:=(· =b)) rfl
 have nbL:b∉L.fp:=fun x=>by rcases HX.out.2 b x with e|e;exact absurd e (Nat.ne_of_lt hbw);exact nbr e
 have hI2:=Lib.hid (In.fr hI hfx (fun x hx e=>nbL (e▸hx)))
 have hr2:=Lib.hid (In.fr hr1 hfx (fun x hx e=>nbl (e▸hx)))
 have HF2:=Lib.hid (hF.trans hfx (T:=fun x=>x∈(AT.node b k' v' l r d).fp) (fun i _ h=>AT.mem_node.2 (.inr (.inr h))) (fun i _ h=>AT.mem_node.2 (.inl h)))
 have ND2:Hid ((AT.node b k' v' l L d).fp.Nodup):=AT.nodup_node.2 ⟨nbl,nbL,ndl,HX.out.1,fun x hx y hy e=>by
  rcases HX.out.2 y hy with e'|e'
  ·have:=In.lt hl x hx;omega
  ·exact ndx x hx y e' e⟩
 clear hI hF hB1 hr1 hfx c0 c2 c3 cf
 go_wp2_with fail
 clear c2' cf'
 generalize (w1.setCell ⟨b,3,none⟩ (.pointer L.adr))=w2 at *
 refine (level b k' v' l L d w2 ⟨HB2.out,hr2.out,hI2.out⟩ ND2.out wl HW.out (by omega)).mono ?_
 rintro e w3 ⟨rfl,HI,HF⟩
 have HI3:=Lib.hid HI;have HF3:=Lib.hid HF
 clear HI HF
 go_wp2_with fail
 go_ret2
 unfold PutPost
 rw [HP.out]
 refine ⟨rfl,HI3.out,HF2.out.trans HF3.out (fun i _ h=>h) (fun i hi h=>?_)⟩
 rcases AT.mem_node.1 h with h|h|h
 ·exact AT.mem_node.2 (.inl h)
 ·exact AT.mem_node.2 (.inr (.inl h))
 ·rcases HX.out.2 i h with e'|e'
  ·omega
  ·exact AT.mem_node.2 (.inr (.inr e'))
theorem put_eq (v:Int) (b:Nat) (k:ByteArray) (v':Int) (l r:AT ByteArray Int) (d:Int) (w:World)
  (h:In w (.node b k v' l r d)) (nd:(AT.node b k v' l r d).fp.Nodup) (wl:l.wd) (wr:r.wd) (sz:l.size+r.size<576460752303423488):
  Calls prog 186 #[.pointer (some ⟨b,0,none⟩),.string k,.int .i64 v] w (PutPost k v (.node b k v' l r d) w):=by
 have hput:AT.put w.heap.size k v (.node b k v' l r d)=(AT.level b k v l r,false):=by rw [AT.put,if_neg (by rw [Ord.irr];simp),if_neg (by rw [Ord.irr];simp)]
 have HP:=Lib.hid hput
 clear hput
 obtain ⟨hb,hl,hr⟩:=h
 obtain ⟨nbl,nbr,ndl,ndr,ndx⟩:=AT.nodup_node.1 nd
 obtain ⟨c0,c2,c3,-,cf⟩:=cells hb
 have c1:w.cell? ⟨b,1,none⟩=some (.int .i64 v'):=by rw [cell_of_block hb];rfl
 have tk:Op.bytesLess k.toList k.toList=false:=Ord.irr k
 have hfx:=Fr.setCell w ⟨b,1,none⟩ (.int .i64 v) (S:=(· =b)) rfl
 have HB2:=Lib.hid (set_v hb v)
 have hl2:=Lib.hid (In.fr hl hfx (fun x hx e=>nbl (e▸hx)))
 have hr2:=Lib.hid (In.fr hr hfx (fun x hx e=>nbr (e▸hx)))
 have HF2:=Lib.hid hfx
 have ND:=Lib.hid nd
 clear hb nd hfx hl hr
 go_enter func186,ntmps186
 go_wp2_with fail
 generalize (w.setCell ⟨b,1,none⟩ (.int .i64 v))=w2 at *
 refine (level b k v l r d w2 ⟨HB2.out,hl2.out,hr2.out⟩ ND.out wl wr (by omega)).mono ?_
 rintro e w3 ⟨rfl,HI,HF⟩
 have HI3:=Lib.hid HI;have HF3:=Lib.hid HF
 clear HI HF
 go_wp2_with fail
 go_ret2
 unfold PutPost
 rw [HP.out]
 exact ⟨rfl,HI3.out,HF2.out.trans HF3.out (fun i _ h=>AT.mem_node.2 (.inl h)) (fun i hi h=>h)⟩
theorem put (k:ByteArray) (v:Int) (t:AT ByteArray Int):∀ (w:World),In w t→t.fp.Nodup→t.wd→t.size<288230376151711744→
  Calls prog 186 #[.pointer t.adr,.string k,.int .i64 v] w (PutPost k v t w):=AvlZ.zd_put
end AvlSI
set_option maxRecDepth 100000
namespace AvlSI
open Tryz renaming func191→xFn_drop,func217→xFn_least,ntmps191→xTn_drop,ntmps217→xTn_least
def LeastPost (t:AT ByteArray Int) (w:World) (e:Ending) (w':World):Prop:=
 ∃ (b2:Nat) (k2:ByteArray) (v2:Int) (l2 r2:Option Addr) (d2:Int),t.first=some (b2,k2,v2)∧e=.returned (.tuple #[.pointer t.rest.adr,.pointer (some ⟨b2,0,none⟩)])∧In w' t.rest∧
  w'.heap[b2]? =some (.cells (blk k2 v2 l2 r2 d2) 275 (0,0))∧Fr (fun x=>x∈t.fp) w w'
theorem least_nil (b:Nat) (k:ByteArray) (v:Int) (r:AT ByteArray Int) (d:Int) (w:World) (h:In w (.node b k v .nil r d)):
  Calls prog 217 #[.pointer (some ⟨b,0,none⟩)] w (LeastPost (.node b k v .nil r d) w):=AvlZ.ze_least_nil
theorem rest_size {t:AT ByteArray Int} {b:Nat} {k:ByteArray} {v:Int} (h:t.first=some (b,k,v)):t.rest.size+1=t.size:=AvlZ.ze_rest_size
theorem rest_nodup {t:AT ByteArray Int} {b:Nat} {k:ByteArray} {v:Int} (h:t.first=some (b,k,v)) (nd:t.fp.Nodup):b∉t.rest.fp∧t.rest.fp.Nodup∧b∈t.fp∧∀x∈t.rest.fp,x∈t.fp:=AvlZ.ze_rest_nodup
theorem least_node (b:Nat) (k:ByteArray) (v:Int) (b':Nat) (k':ByteArray) (v':Int) (l' r':AT ByteArray Int) (d':Int) (r:AT ByteArray Int) (d:Int) (w:World)
  (h:In w (.node b k v (.node b' k' v' l' r' d') r d)) (nd:(AT.node b k v (.node b' k' v' l' r' d') r d).fp.Nodup) (wl:(AT.node b' k' v' l' r' d').wd) (wr:r.wd) (sz:(AT.node b' k' v' l' r' d').size+r.size<576460752303423488)
  (ih:Calls prog 217 #[.pointer (some ⟨b',0,none⟩)] w (LeastPost (.node b' k' v' l' r' d') w)):
  Calls prog 217 #[.pointer (some ⟨b,0,none⟩)] w (LeastPost (.node b k v (.node b' k' v' l' r' d') r d) w):=AvlZ.ze_least_node
theorem least:∀ (t:AT ByteArray Int) (w:World),t≠ .nil→In w t→t.fp.Nodup→t.wd→t.size<288230376151711744→
  Calls prog 217 #[.pointer t.adr] w (LeastPost t w)
 | .nil,_,h,_,_,_,_=>absurd rfl h
 | .node b k v .nil r d,w,_,h,_,_,_=>least_nil b k v r d w h
 | .node b k v (.node b' k' v' l' r' d') r d,w,_,h,nd,wd,sz=>by
  have sz':(AT.node b' k' v' l' r' d').size+r.size<288230376151711744:=by rw [AT.size] at sz;omega
  exact least_node b k v b' k' v' l' r' d' r d w h nd wd.1 wd.2.1 (by omega) (least (.node b' k' v' l' r' d') w (by simp) h.2.1 (AT.nodup_node.1 nd).2.2.1 wd.1 (by omega))
def DropPost (k:ByteArray) (t:AT ByteArray Int) (w:World) (e:Ending) (w':World):Prop:=
 e=.returned (.tuple #[.pointer (AT.drop k t).1.adr,.bool (AT.drop k t).2])∧In w' (AT.drop k t).1∧Fr (fun x=>x∈t.fp) w w'
theorem drop_size (k:ByteArray) {t:AT ByteArray Int} (_:t.fp.Nodup):(AT.drop k t).1.size≤t.size:=AT.size_drop k t
theorem drop_nil (k:ByteArray) (w:World):Calls prog 191 #[.pointer none,.string k] w (DropPost k .nil w):=AvlZ.ze_drop_nil
theorem drop_low (k:ByteArray) (b:Nat) (k':ByteArray) (v':Int) (l r:AT ByteArray Int) (d:Int) (w:World)
  (h:In w (.node b k' v' l r d)) (nd:(AT.node b k' v' l r d).fp.Nodup) (wl:l.wd) (wr:r.wd) (sz:l.size+r.size<576460752303423488)
  (ih:Calls prog 191 #[.pointer l.adr,.string k] w (DropPost k l w)) (hlt:Ord.lt k k'=true):
  Calls prog 191 #[.pointer (some ⟨b,0,none⟩),.string k] w (DropPost k (.node b k' v' l r d) w):=AvlZ.ze_drop_low
theorem drop_high (k:ByteArray) (b:Nat) (k':ByteArray) (v':Int) (l r:AT ByteArray Int) (d:Int) (w:World)
  (h:In w (.node b k' v' l r d)) (nd:(AT.node b k' v' l r d).fp.Nodup) (wl:l.wd) (wr:r.wd) (sz:l.size+r.size<576460752303423488)
  (ih:Calls prog 191 #[.pointer r.adr,.string k] w (DropPost k r w)) (hlt:Ord.lt k' k=true):
  Calls prog 191 #[.pointer (some ⟨b,0,none⟩),.string k] w (DropPost k (.node b k' v' l r d) w):=AvlZ.ze_drop_high
theorem drop_last (b:Nat) (k:ByteArray) (v':Int) (l:AT ByteArray Int) (d:Int) (w:World) (h:In w (.node b k v' l .nil d)):
  Calls prog 191 #[.pointer (some ⟨b,0,none⟩),.string k] w (DropPost k (.node b k v' l .nil d) w):=AvlZ.ze_drop_last
theorem set_both {w:World} {b:Nat} {k:ByteArray} {v:Int} {l r:Option Addr} {d:Int} (h:w.heap[b]? =some (.cells (blk k v l r d) 275 (0,0))) (u x:Option Addr):
  ((w.setCell ⟨b,2,none⟩ (.pointer u)).setCell ⟨b,3,none⟩ (.pointer x)).heap[b]? =some (.cells (blk k v u x d) 275 (0,0)):=set_hi (set_lo h u) x
theorem drop_mid (b:Nat) (k:ByteArray) (v':Int) (l r:AT ByteArray Int) (d:Int) (w:World) (h:In w (.node b k v' l r d)) (nd:(AT.node b k v' l r d).fp.Nodup) (wl:l.wd) (wr:r.wd) (sz:l.size+r.size<288230376151711744) (hne:r≠ .nil):
  Calls prog 191 #[.pointer (some ⟨b,0,none⟩),.string k] w (DropPost k (.node b k v' l r d) w):=AvlZ.ze_drop_mid
theorem drop (k:ByteArray) (t:AT ByteArray Int):∀ (w:World),In w t→t.fp.Nodup→t.wd→t.size<288230376151711744→
  Calls prog 191 #[.pointer t.adr,.string k] w (DropPost k t w):=AvlZ.ze_drop
end AvlSI
set_option maxRecDepth 100000
namespace AvlSI
open Tryz renaming func135→xFm_Drop,func130→xFm_Put,func140→xFm_top,ntmps135→xTm_Drop,ntmps130→xTm_Put,ntmps140→xTm_top
def MapIn (w:World) (r:Option Addr) (L:List (ByteArray × Int)) (F:List Nat):Prop:=
 ∃t:AT ByteArray Int,t.adr=r∧t.toL=L∧t.fp=F∧In w t∧F.Nodup∧t.wd∧t.bal∧Srt L
theorem MapIn.fr {S:Nat→Prop} {w w':World} {r:Option Addr} {L:List (ByteArray × Int)} {F:List Nat} (h:MapIn w r L F) (hf:Fr S w w') (hs:∀b∈F,¬S b):MapIn w' r L F:=AvlZ.zf_MapIn_fr
theorem MapIn.lt {w:World} {r:Option Addr} {L:List (ByteArray × Int)} {F:List Nat} (h:MapIn w r L F):∀b∈F,b<w.heap.size:=AvlZ.zf_MapIn_lt
theorem MapIn.nil (w:World):MapIn w none [] []:=⟨.nil,rfl,rfl,rfl,trivial,List.nodup_nil,trivial,trivial,List.Pairwise.nil⟩
theorem insL_length (k:ByteArray) (v:Int) (n:Nat) {t:AT ByteArray Int} (hs:Srt t.toL):(insL k v t.toL).length=if (AT.put n k v t).2 then t.toL.length+1 else t.toL.length:=AvlZ.zf_insL_length
theorem delL_length (k:ByteArray) {t:AT ByteArray Int} (hs:Srt t.toL):(delL k t.toL).length=if (AT.drop k t).2 then t.toL.length-1 else t.toL.length:=AvlZ.zf_delL_length
def PutMPost (B off:Nat) (c:Array Value) (TB:TypeId) (k:ByteArray) (v:Int) (L:List (ByteArray × Int)) (F:List Nat) (w:World) (e:Ending) (w':World):Prop:=
 ∃ (r':Option Addr) (F':List Nat),e=.returned (.bool (!hasL k L))∧w'.heap[B]? =some (.cells ((c.setIfInBounds off (.pointer r')).setIfInBounds (off+1) (.int .i64 (insL k v L).length)) TB (0,0))∧
  MapIn w' r' (insL k v L) F'∧(∀x∈F',x∈F∨w.heap.size≤x)∧Fr (fun x=>x=B∨x∈F) w w'
theorem set_same {c:Array Value} {i:Nat} {u:Value} (h:c[i]? =some u):c.setIfInBounds i u=c:=AvlZ.zf_set_same
theorem Put (B off:Nat) (c:Array Value) (TB:TypeId) (k:ByteArray) (v:Int) (r:Option Addr) (L:List (ByteArray × Int)) (F:List Nat) (w:World)
  (hB:w.heap[B]? =some (.cells c TB (0,0))) (h0:c[off]? =some (.pointer r)) (h1:c[off+1]? =some (.int .i64 L.length)) (hM:MapIn w r L F) (hBF:B∉F) (sz:L.length<144115188075855872):
  Calls prog 130 #[.pointer (some ⟨B,off,none⟩),.string k,.int .i64 v] w (PutMPost B off c TB k v L F w):=AvlZ.zf_Put
def DropMPost (B off:Nat) (c:Array Value) (TB:TypeId) (k:ByteArray) (L:List (ByteArray × Int)) (F:List Nat) (w:World) (e:Ending) (w':World):Prop:=
 ∃ (r':Option Addr) (F':List Nat),e=.returned (.bool (hasL k L))∧w'.heap[B]? =some (.cells ((c.setIfInBounds off (.pointer r')).setIfInBounds (off+1) (.int .i64 (delL k L).length)) TB (0,0))∧
  MapIn w' r' (delL k L) F'∧(∀x∈F',x∈F)∧Fr (fun x=>x=B∨x∈F) w w'
theorem Drop (B off:Nat) (c:Array Value) (TB:TypeId) (k:ByteArray) (r:Option Addr) (L:List (ByteArray × Int)) (F:List Nat) (w:World)
  (hB:w.heap[B]? =some (.cells c TB (0,0))) (h0:c[off]? =some (.pointer r)) (h1:c[off+1]? =some (.int .i64 L.length)) (hM:MapIn w r L F) (hBF:B∉F) (sz:L.length<144115188075855872):
  Calls prog 135 #[.pointer (some ⟨B,off,none⟩),.string k] w (DropMPost B off c TB k L F w):=AvlZ.zf_Drop
theorem top_none (w:World):Calls prog 140 #[.pointer none] w fun e w'=>e=.returned (.pointer none)∧w=w':=AvlZ.zf_top_none
theorem top (a:Addr) (r:Option Addr) (w:World) (ha:a.spot=none) (h:w.cell? a=some (.pointer r)):Calls prog 140 #[.pointer (some a)] w fun e w'=>e=.returned (.pointer r)∧w=w':=AvlZ.zf_top
end AvlSI
end Go.Proofs.YtgfjpnpbkkadpaaGreat
