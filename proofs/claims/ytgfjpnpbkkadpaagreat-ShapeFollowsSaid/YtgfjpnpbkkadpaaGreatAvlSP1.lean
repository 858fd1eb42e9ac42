/- The maps in order (avl) at one instance: the nodes in memory, and what each method does to them. -/
import Derived.Test.YtgfjpnpbkkadpaaGreatAvlZ
namespace Go.Proofs.YtgfjpnpbkkadpaaGreat
open Tryz
set_option maxRecDepth 100000
open Go.RowKit
namespace AvlSP
abbrev oD:Nat:=9
abbrev oL:Nat:=7
abbrev oR:Nat:=8
abbrev xN:TypeId:=218
open Tryz renaming func257→xFn_deep,func239→xFn_lean,func238→xFn_measure,ntmps257→xTn_deep,ntmps239→xTn_lean,ntmps238→xTn_measure
abbrev blk (k:ByteArray) (v:Pq) (l r:Option Addr) (d:Int):Array Value:= #[.string k,.int .i64 v.t,.int .i64 v.i,.int .i64 v.c,.int .i64 v.d,.int .i64 v.p,.int .i64 v.f,.pointer l,.pointer r,.int .i64 d]
def In (w:World) (t:AT ByteArray Pq):Prop:=t.In blk 218 w
theorem In.fr {S:Nat→Prop} {w w':World} {t:AT ByteArray Pq} (h:In w t) (hf:Fr S w w') (hs:∀b∈t.fp,¬S b):In w' t:=AT.In.fr h hf hs
theorem In.lt {w:World} {t:AT ByteArray Pq} (h:In w t):∀b∈t.fp,b<w.heap.size:=AT.In.lt h
theorem cells {w:World} {b:Nat} {k:ByteArray} {v:Pq} {l r:Option Addr} {d:Int} (h:w.heap[b]? =some (.cells (blk k v l r d) 218 (0,0))):
  w.cell? ⟨b,0,none⟩=some (.string k)∧w.cell? ⟨b,7,none⟩=some (.pointer l)∧w.cell? ⟨b,8,none⟩=some (.pointer r)∧w.cell? ⟨b,9,none⟩=some (.int .i64 d)∧(∀o,w.frozen? ⟨b,o,none⟩=false):=AvlZ.za_cells
theorem deep (t:AT ByteArray Pq) (w:World) (h:In w t):
  Calls prog 257 #[.pointer t.adr] w fun e w'=>e=.returned (.int .i64 t.dep)∧w'=w:=AvlZ.za_deep
theorem measure (b:Nat) (k:ByteArray) (v:Pq) (l r:AT ByteArray Pq) (d:Int) (w:World) (hb:w.heap[b]? =some (.cells (blk k v l.adr r.adr d) 218 (0,0)))
  (hl:In w l) (hr:In w r) (l0:0≤l.dep) (l1:l.dep<4611686018427387904) (r0:0≤r.dep) (r1:r.dep<4611686018427387904):
  Calls prog 238 #[.pointer (some ⟨b,0,none⟩)] w fun e w'=>e=.returned (.tuple #[])∧
   w'.heap[b]? =some (.cells (blk k v l.adr r.adr (1+max l.dep r.dep)) 218 (0,0))∧Fr (· =b) w w':=AvlZ.za_measure
theorem lean (b:Nat) (k:ByteArray) (v:Pq) (l r:AT ByteArray Pq) (d:Int) (w:World) (h:In w (.node b k v l r d)) (l0:0≤l.dep) (l1:l.dep<4611686018427387904) (r0:0≤r.dep) (r1:r.dep<4611686018427387904):
  Calls prog 239 #[.pointer (some ⟨b,0,none⟩)] w fun e w'=>e=.returned (.int .i64 (r.dep-l.dep))∧w.drew=w':=AvlZ.za_lean
end AvlSP
set_option maxRecDepth 100000
namespace AvlSP
open Tryz renaming func240→xFn_turnHigh,func241→xFn_turnLow,ntmps240→xTn_turnHigh,ntmps241→xTn_turnLow
theorem heap_other {w:World} {a:Addr} {u:Value} {b:Nat} {o:Obj} (h:w.heap[b]? =some o) (hne:b≠a.block):(w.setCell a u).heap[b]? =some o:=(Below.heap_setCell _ _ _ _ hne).trans h
theorem set_lo {w:World} {b:Nat} {k:ByteArray} {v:Pq} {l r:Option Addr} {d:Int} (h:w.heap[b]? =some (.cells (blk k v l r d) 218 (0,0))) (u:Option Addr):
  (w.setCell ⟨b,7,none⟩ (.pointer u)).heap[b]? =some (.cells (blk k v u r d) 218 (0,0)):=heap_setCell_same h _
theorem set_hi {w:World} {b:Nat} {k:ByteArray} {v:Pq} {l r:Option Addr} {d:Int} (h:w.heap[b]? =some (.cells (blk k v l r d) 218 (0,0))) (u:Option Addr):
  (w.setCell ⟨b,8,none⟩ (.pointer u)).heap[b]? =some (.cells (blk k v l u d) 218 (0,0)):=heap_setCell_same h _
theorem turnLow (b:Nat) (k:ByteArray) (v:Pq) (l:AT ByteArray Pq) (b':Nat) (k':ByteArray) (v':Pq) (l' r':AT ByteArray Pq) (d' d:Int) (w:World)
  (h:In w (.node b k v l (.node b' k' v' l' r' d') d)) (nd:(AT.node b k v l (.node b' k' v' l' r' d') d).fp.Nodup) (wl:l.wd) (wl':l'.wd) (wr':r'.wd) (sz:l.size+l'.size+r'.size<2305843009213693952):
  Calls prog 241 #[.pointer (some ⟨b,0,none⟩)] w fun e w'=>e=.returned (.pointer (some ⟨b',0,none⟩))∧
   In w' (AT.turnLow (.node b k v l (.node b' k' v' l' r' d') d))∧Fr (fun x=>x=b∨x=b') w w':=AvlZ.zb_turnLow
theorem turnHigh (b:Nat) (k:ByteArray) (v:Pq) (b':Nat) (k':ByteArray) (v':Pq) (l' r':AT ByteArray Pq) (d':Int) (r:AT ByteArray Pq) (d:Int) (w:World)
  (h:In w (.node b k v (.node b' k' v' l' r' d') r d)) (nd:(AT.node b k v (.node b' k' v' l' r' d') r d).fp.Nodup) (wr:r.wd) (wl':l'.wd) (wr':r'.wd) (sz:r.size+l'.size+r'.size<2305843009213693952):
  Calls prog 240 #[.pointer (some ⟨b,0,none⟩)] w fun e w'=>e=.returned (.pointer (some ⟨b',0,none⟩))∧
   In w' (AT.turnHigh (.node b k v (.node b' k' v' l' r' d') r d))∧Fr (fun x=>x=b∨x=b') w w':=AvlZ.zb_turnHigh
end AvlSP
set_option maxRecDepth 100000
namespace AvlSP
open Tryz renaming func213→xFn_level,ntmps213→xTn_level
theorem level_else (b:Nat) (k:ByteArray) (v:Pq) (l r:AT ByteArray Pq) (d:Int) (w:World)
  (h:In w (.node b k v l r d)) (nd:(AT.node b k v l r d).fp.Nodup) (wl:l.wd) (wr:r.wd) (sz:l.size+r.size<1152921504606846976) (e1:¬r.dep-l.dep=2) (e2:¬r.dep-l.dep= -2):
  Calls prog 213 #[.pointer (some ⟨b,0,none⟩)] w fun e w'=>e=.returned (.pointer (AT.level b k v l r).adr)∧In w' (AT.level b k v l r)∧Fr (fun x=>x∈(AT.node b k v l r d).fp) w w':=AvlZ.zc_level_else
theorem level_hi (b:Nat) (k:ByteArray) (v:Pq) (l r:AT ByteArray Pq) (d:Int) (w:World)
  (h:In w (.node b k v l r d)) (nd:(AT.node b k v l r d).fp.Nodup) (wl:l.wd) (wr:r.wd) (sz:l.size+r.size<1152921504606846976) (e1:r.dep-l.dep=2) (e2:¬r.lean<0):
  Calls prog 213 #[.pointer (some ⟨b,0,none⟩)] w fun e w'=>e=.returned (.pointer (AT.level b k v l r).adr)∧In w' (AT.level b k v l r)∧Fr (fun x=>x∈(AT.node b k v l r d).fp) w w':=AvlZ.zc_level_hi
theorem level_hilo (b:Nat) (k:ByteArray) (v:Pq) (l r:AT ByteArray Pq) (d:Int) (w:World)
  (h:In w (.node b k v l r d)) (nd:(AT.node b k v l r d).fp.Nodup) (wl:l.wd) (wr:r.wd) (sz:l.size+r.size<1152921504606846976) (e1:r.dep-l.dep=2) (e2:r.lean<0):
  Calls prog 213 #[.pointer (some ⟨b,0,none⟩)] w fun e w'=>e=.returned (.pointer (AT.level b k v l r).adr)∧In w' (AT.level b k v l r)∧Fr (fun x=>x∈(AT.node b k v l r d).fp) w w':=AvlZ.zc_level_hilo
theorem level_lo (b:Nat) (k:ByteArray) (v:Pq) (l r:AT ByteArray Pq) (d:Int) (w:World)
  (h:In w (.node b k v l r d)) (nd:(AT.node b k v l r d).fp.Nodup) (wl:l.wd) (wr:r.wd) (sz:l.size+r.size<1152921504606846976) (e1:r.dep-l.dep= -2) (e2:¬0<l.lean):
  Calls prog 213 #[.pointer (some ⟨b,0,none⟩)] w fun e w'=>e=.returned (.pointer (AT.level b k v l r).adr)∧In w' (AT.level b k v l r)∧Fr (fun x=>x∈(AT.node b k v l r d).fp) w w':=AvlZ.zc_level_lo
theorem level_lohi (b:Nat) (k:ByteArray) (v:Pq) (l r:AT ByteArray Pq) (d:Int) (w:World)
  (h:In w (.node b k v l r d)) (nd:(AT.node b k v l r d).fp.Nodup) (wl:l.wd) (wr:r.wd) (sz:l.size+r.size<1152921504606846976) (e1:r.dep-l.dep= -2) (e2:0<l.lean):
  Calls prog 213 #[.pointer (some ⟨b,0,none⟩)] w fun e w'=>e=.returned (.pointer (AT.level b k v l r).adr)∧In w' (AT.level b k v l r)∧Fr (fun x=>x∈(AT.node b k v l r d).fp) w w':=AvlZ.zc_level_lohi
theorem level (b:Nat) (k:ByteArray) (v:Pq) (l r:AT ByteArray Pq) (d:Int) (w:World)
  (h:In w (.node b k v l r d)) (nd:(AT.node b k v l r d).fp.Nodup) (wl:l.wd) (wr:r.wd) (sz:l.size+r.size<1152921504606846976):
  Calls prog 213 #[.pointer (some ⟨b,0,none⟩)] w fun e w'=>e=.returned (.pointer (AT.level b k v l r).adr)∧In w' (AT.level b k v l r)∧Fr (fun x=>x∈(AT.node b k v l r d).fp) w w':=AvlZ.zc_level
end AvlSP
set_option maxRecDepth 100000
set_option maxHeartbeats 1000000
namespace AvlSP
open Tryz renaming func197→xFn_put,ntmps197→xTn_put
theorem put_nodup (n:Nat) (k:ByteArray) (v:Pq) {t:AT ByteArray Pq} (nd:t.fp.Nodup) (hn:∀x∈t.fp,x<n):(AT.put n k v t).1.fp.Nodup∧∀x∈(AT.put n k v t).1.fp,x=n∨x∈t.fp:=AvlZ.zd_put_nodup
theorem put_size (n:Nat) (k:ByteArray) (v:Pq) (t:AT ByteArray Pq):(AT.put n k v t).1.size≤t.size+1:=AvlZ.zd_put_size
def PutPost (k:ByteArray) (v:Pq) (t:AT ByteArray Pq) (w:World) (e:Ending) (w':World):Prop:=
 ∃n,w.heap.size≤n∧e=.returned (.tuple #[.pointer (AT.put n k v t).1.adr,.bool (AT.put n k v t).2])∧In w' (AT.put n k v t).1∧Fr (fun x=>x∈t.fp) w w'
abbrev box (v:Pq) (w:World):World:=w.alloc (.cells #[.int .i64 v.t,.int .i64 v.i,.int .i64 v.c,.int .i64 v.d,.int .i64 v.p,.int .i64 v.f] 91)
theorem box_fr (v:Pq) (w:World):Fr (fun _=>False) w (box v w):=Fr.alloc _ _ _
theorem put_nil (k:ByteArray) (v:Pq) (w:World):Calls prog 197 #[.pointer none,.string k,.agg #[.int .i64 v.t,.int .i64 v.i,.int .i64 v.c,.int .i64 v.d,.int .i64 v.p,.int .i64 v.f]] w (PutPost k v .nil w):=AvlZ.zd_put_nil
def Plow (k:ByteArray) (v:Pq) (b:Nat) (k':ByteArray) (v':Pq) (l r:AT ByteArray Pq) (d:Int) (w:World) (n:Nat) (wc:World):Prop:=
 w.heap.size≤n∧In wc (.node b k' v' (AT.put n k v l).1 r d)∧(AT.node b k' v' l r d).fp.Nodup∧(.node b k' v' (AT.put n k v l).1 r d:AT ByteArray Pq).fp.Nodup∧Fr (fun x=>x∈(AT.node b k' v' l r d).fp) w wc∧∀x∈(.node b k' v' (AT.put n k v l).1 r d:AT ByteArray Pq).fp,x=n∨x∈(AT.node b k' v' l r d).fp
theorem fin_low {k:ByteArray} {v:Pq} {b:Nat} {k':ByteArray} {v':Pq} {l r:AT ByteArray Pq} {d:Int} {w W w1:World} (h:In w (.node b k' v' l r d)) (nd:(AT.node b k' v' l r d).fp.Nodup) (hf:Fr (fun _=>False) w W) {n:Nat} (hn:W.heap.size≤n) (hI:In w1 (AT.put n k v l).1) (hF:Fr (fun x=>x∈l.fp) W w1):
  Plow k v b k' v' l r d w n (w1.setCell ⟨b,7,none⟩ (.pointer (AT.put n k v l).1.adr)):=AvlZ.zd_fin_low
theorem put_low (k:ByteArray) (v:Pq) (b:Nat) (k':ByteArray) (v':Pq) (l r:AT ByteArray Pq) (d:Int) (w:World)
  (h:In w (.node b k' v' l r d)) (nd:(AT.node b k' v' l r d).fp.Nodup) (wl:l.wd) (wr:r.wd) (sz:l.size+r.size<576460752303423488)
  (ih:∀W,In W l→Calls prog 197 #[.pointer l.adr,.string k,.agg #[.int .i64 v.t,.int .i64 v.i,.int .i64 v.c,.int .i64 v.d,.int .i64 v.p,.int .i64 v.f]] W (PutPost k v l W)) (hlt:Ord.lt k k'=true):
  Calls prog 197 #[.pointer (some ⟨b,0,none⟩),.string k,.agg #[.int .i64 v.t,.int .i64 v.i,.int .i64 v.c,.int .i64 v.d,.int .i64 v.p,.int .i64 v.f]] w (PutPost k v (.node b k' v' l r d) w):=by
 have HPut:Hid (∀n,AT.put n k v (.node b k' v' l r d)=(AT.level b k' v' (AT.put n k v l).1 r,(AT.put n k v l).2)):=fun n=>by rw [AT.put,if_pos hlt]
 have hf:=box_fr v w
 have HIH:=Lib.hid (ih (box v w).drew (In.fr (h.2.1) (hf.trans (Fr.drew (fun _=>False) _) (T:=fun _=>False) (fun _ _ h=>h) (fun _ _ h=>h)) (fun _ _ h=>h)))
 have HFin:=Lib.hid (fun (w1:World) (n:Nat) (hn:(box v w).drew.heap.size≤n) (hI:In w1 (AT.put n k v l).1) (hF:Fr (fun x=>x∈l.fp) (box v w).drew w1)=>fin_low h nd (hf.trans (Fr.drew (fun _=>False) _) (T:=fun _=>False) (fun _ _ h=>h) (fun _ _ h=>h)) hn hI hF)
 have hbx:=h.1
 have nbA:=(AT.nodup_node.1 nd).1
 have HSt:=Lib.hid (fun (w1:World) (hF:Fr (fun x=>x∈l.fp) (box v w).drew w1)=>(cells ((hF.block b (Nat.lt_of_lt_of_le (lt_of_heap hbx) hf.size) nbA).trans ((hf.block b (lt_of_heap hbx) (fun h=>h)).trans hbx))))
 obtain ⟨c0,c2,c3,-,cf⟩:=cells ((hf.block b (lt_of_heap hbx) (fun h=>h)).trans hbx)
 have x0:(box v w).cell? ⟨w.heap.size,0,none⟩=some (.int .i64 v.t):=cell_of_block (heap_new w _) 0
 have x1:(box v w).cell? ⟨w.heap.size,1,none⟩=some (.int .i64 v.i):=cell_of_block (heap_new w _) 1
 have x2:(box v w).cell? ⟨w.heap.size,2,none⟩=some (.int .i64 v.c):=cell_of_block (heap_new w _) 2
 have x3:(box v w).cell? ⟨w.heap.size,3,none⟩=some (.int .i64 v.d):=cell_of_block (heap_new w _) 3
 have x4:(box v w).cell? ⟨w.heap.size,4,none⟩=some (.int .i64 v.p):=cell_of_block (heap_new w _) 4
 have x5:(box v w).cell? ⟨w.heap.size,5,none⟩=some (.int .i64 v.f):=cell_of_block (heap_new w _) 5
 have HF:=Lib.hid hf
 have HSz:Hid (∀n,(AT.put n k v l).1.size≤l.size+1):=fun n=>put_size n k v l
 have HW:Hid (∀n,(AT.put n k v l).1.wd):=fun n=>AT.wd_put n k v wl
 clear ih hf hbx nbA h nd
 have thlt:Op.bytesLess k.toList k'.toList=true:=hlt;have uhlt:Op.bytesLess k'.toList k.toList=false:=Ord.asymm hlt;have yhlt:(k.toList==k'.toList)=false:=Bl.ne hlt;have zhlt:(k'.toList==k.toList)=false:=Bl.ne' hlt
 go_enter func197,ntmps197
 go_upto_region 6 with (fail)
 go_region_with (go_at_call 197;(with_reducible refine HIH.out.mono ?_);rintro e w1 ⟨n,hn,rfl,hI,hF⟩;obtain ⟨-,p2,p3,-,pf⟩:=HSt.out w1 hF)
 all_goals
  have HFn:=Lib.hid (HFin.out _ _ hn hI hF)
  clear hn hI hF
  go_wp2_with fail
  clear p2 p3 pf
  generalize (w1.setCell ⟨b,7,none⟩ (.pointer (AT.put n k v l).1.adr))=wc at *
  obtain ⟨hn,hI,nd,nd2,hF,hsub⟩:=HFn.out
  have HI:=Lib.hid hI;have HN2:=Lib.hid nd2;have HFr:=Lib.hid hF;have HS:=Lib.hid hsub;have HN:=Lib.hid hn;have HND:=Lib.hid nd
  have hz:=HSz.out n
  have hw:=HW.out n
  clear hI nd2 hF hsub hn nd HFn
  have HLv:=Lib.hid (level b k' v' (AT.put n k v l).1 r d wc HI.out HN2.out hw wr (by omega))
  clear hw
  refine HLv.out.mono ?_
  rintro e w3 ⟨rfl,hI3,hF3⟩
  have HI3:=Lib.hid hI3;have HF3:=Lib.hid hF3
  clear hI3 hF3
  go_wp2_with fail
  go_ret2
  refine ⟨n,HN.out,by rw [HPut.out];rfl,by rw [HPut.out];exact HI3.out,HFr.out.trans HF3.out (fun i _ h=>h) (fun i hi h=>?_)⟩
  rcases HS.out i h with e|e
  ·have:=HN.out;omega
  ·exact e
def Phigh (k:ByteArray) (v:Pq) (b:Nat) (k':ByteArray) (v':Pq) (l r:AT ByteArray Pq) (d:Int) (w:World) (n:Nat) (wc:World):Prop:=
 w.heap.size≤n∧In wc (.node b k' v' l (AT.put n k v r).1 d)∧(AT.node b k' v' l r d).fp.Nodup∧(.node b k' v' l (AT.put n k v r).1 d:AT ByteArray Pq).fp.Nodup∧Fr (fun x=>x∈(AT.node b k' v' l r d).fp) w wc∧∀x∈(.node b k' v' l (AT.put n k v r).1 d:AT ByteArray Pq).fp,x=n∨x∈(AT.node b k' v' l r d).fp
theorem fin_high {k:ByteArray} {v:Pq} {b:Nat} {k':ByteArray} {v':Pq} {l r:AT ByteArray Pq} {d:Int} {w W w1:World} (h:In w (.node b k' v' l r d)) (nd:(AT.node b k' v' l r d).fp.Nodup) (hf:Fr (fun _=>False) w W) {n:Nat} (hn:W.heap.size≤n) (hI:In w1 (AT.put n k v r).1) (hF:Fr (fun x=>x∈r.fp) W w1):
  Phigh k v b k' v' l r d w n (w1.setCell ⟨b,8,none⟩ (.pointer (AT.put n k v r).1.adr)):=AvlZ.zd_fin_high
theorem put_high (k:ByteArray) (v:Pq) (b:Nat) (k':ByteArray) (v':Pq) (l r:AT ByteArray Pq) (d:Int) (w:World)
  (h:In w (.node b k' v' l r d)) (nd:(AT.node b k' v' l r d).fp.Nodup) (wl:l.wd) (wr:r.wd) (sz:l.size+r.size<576460752303423488)
  (ih:∀W,In W r→Calls prog 197 #[.pointer r.adr,.string k,.agg #[.int .i64 v.t,.int .i64 v.i,.int .i64 v.c,.int .i64 v.d,.int .i64 v.p,.int .i64 v.f]] W (PutPost k v r W)) (hlt:Ord.lt k' k=true):
  Calls prog 197 #[.pointer (some ⟨b,0,none⟩),.string k,.agg #[.int .i64 v.t,.int .i64 v.i,.int .i64 v.c,.int .i64 v.d,.int .i64 v.p,.int .i64 v.f]] w (PutPost k v (.node b k' v' l r d) w):=by
 have HPut:Hid (∀n,AT.put n k v (.node b k' v' l r d)=(AT.level b k' v' l (AT.put n k v r).1,(AT.put n k v r).2)):=fun n=>by rw [AT.put,if_neg (by rw [Ord.asymm hlt];simp),if_pos hlt]
 have hf:=box_fr v w
 have HIH:=Lib.hid (ih (box v w).drew (In.fr (h.2.2) (hf.trans (Fr.drew (fun _=>False) _) (T:=fun _=>False) (fun _ _ h=>h) (fun _ _ h=>h)) (fun _ _ h=>h)))
 have HFin:=Lib.hid (fun (w1:World) (n:Nat) (hn:(box v w).drew.heap.size≤n) (hI:In w1 (AT.put n k v r).1) (hF:Fr (fun x=>x∈r.fp) (box v w).drew w1)=>fin_high h nd (hf.trans (Fr.drew (fun _=>False) _) (T:=fun _=>False) (fun _ _ h=>h) (fun _ _ h=>h)) hn hI hF)
 have hbx:=h.1
 have nbA:=(AT.nodup_node.1 nd).2.1
 have HSt:=Lib.hid (fun (w1:World) (hF:Fr (fun x=>x∈r.fp) (box v w).drew w1)=>(cells ((hF.block b (Nat.lt_of_lt_of_le (lt_of_heap hbx) hf.size) nbA).trans ((hf.block b (lt_of_heap hbx) (fun h=>h)).trans hbx))))
 obtain ⟨c0,c2,c3,-,cf⟩:=cells ((hf.block b (lt_of_heap hbx) (fun h=>h)).trans hbx)
 have x0:(box v w).cell? ⟨w.heap.size,0,none⟩=some (.int .i64 v.t):=cell_of_block (heap_new w _) 0
 have x1:(box v w).cell? ⟨w.heap.size,1,none⟩=some (.int .i64 v.i):=cell_of_block (heap_new w _) 1
 have x2:(box v w).cell? ⟨w.heap.size,2,none⟩=some (.int .i64 v.c):=cell_of_block (heap_new w _) 2
 have x3:(box v w).cell? ⟨w.heap.size,3,none⟩=some (.int .i64 v.d):=cell_of_block (heap_new w _) 3
 have x4:(box v w).cell? ⟨w.heap.size,4,none⟩=some (.int .i64 v.p):=cell_of_block (heap_new w _) 4
 have x5:(box v w).cell? ⟨w.heap.size,5,none⟩=some (.int .i64 v.f):=cell_of_block (heap_new w _) 5
 have HF:=Lib.hid hf
 have HSz:Hid (∀n,(AT.put n k v r).1.size≤r.size+1):=fun n=>put_size n k v r
 have HW:Hid (∀n,(AT.put n k v r).1.wd):=fun n=>AT.wd_put n k v wr
 clear ih hf hbx nbA h nd
 have thlt:Op.bytesLess k'.toList k.toList=true:=hlt;have uhlt:Op.bytesLess k.toList k'.toList=false:=Ord.asymm hlt;have yhlt:(k'.toList==k.toList)=false:=Bl.ne hlt;have zhlt:(k.toList==k'.toList)=false:=Bl.ne' hlt
 go_enter func197,ntmps197
 go_upto_region 8 with (fail)
 go_region_with (go_at_call 197;(with_reducible refine HIH.out.mono ?_);rintro e w1 ⟨n,hn,rfl,hI,hF⟩;obtain ⟨-,p2,p3,-,pf⟩:=HSt.out w1 hF)
 all_goals
  have HFn:=Lib.hid (HFin.out _ _ hn hI hF)
  clear hn hI hF
  go_wp2_with fail
  clear p2 p3 pf
  generalize (w1.setCell ⟨b,8,none⟩ (.pointer (AT.put n k v r).1.adr))=wc at *
  obtain ⟨hn,hI,nd,nd2,hF,hsub⟩:=HFn.out
  have HI:=Lib.hid hI;have HN2:=Lib.hid nd2;have HFr:=Lib.hid hF;have HS:=Lib.hid hsub;have HN:=Lib.hid hn;have HND:=Lib.hid nd
  have hz:=HSz.out n
  have hw:=HW.out n
  clear hI nd2 hF hsub hn nd HFn
  have HLv:=Lib.hid (level b k' v' l (AT.put n k v r).1 d wc HI.out HN2.out wl hw (by omega))
  clear hw
  refine HLv.out.mono ?_
  rintro e w3 ⟨rfl,hI3,hF3⟩
  have HI3:=Lib.hid hI3;have HF3:=Lib.hid hF3
  clear hI3 hF3
  go_wp2_with fail
  go_ret2
  refine ⟨n,HN.out,by rw [HPut.out];rfl,by rw [HPut.out];exact HI3.out,HFr.out.trans HF3.out (fun i _ h=>h) (fun i hi h=>?_)⟩
  rcases HS.out i h with e|e
  ·have:=HN.out;omega
  ·exact e
theorem set_v {w:World} {b:Nat} {k:ByteArray} {v:Pq} {l r:Option Addr} {d:Int} (h:w.heap[b]? =some (.cells (blk k v l r d) 218 (0,0))) (v':Pq):
  (((((((w.setCell ⟨b,1,none⟩ (.int .i64 v'.t)).setCell ⟨b,2,none⟩ (.int .i64 v'.i)).setCell ⟨b,3,none⟩ (.int .i64 v'.c)).setCell ⟨b,4,none⟩ (.int .i64 v'.d)).setCell ⟨b,5,none⟩ (.int .i64 v'.p)).setCell ⟨b,6,none⟩ (.int .i64 v'.f))).heap[b]? =some (.cells (blk k v' l r d) 218 (0,0))∧Fr (· =b) w (((((((w.setCell ⟨b,1,none⟩ (.int .i64 v'.t)).setCell ⟨b,2,none⟩ (.int .i64 v'.i)).setCell ⟨b,3,none⟩ (.int .i64 v'.c)).setCell ⟨b,4,none⟩ (.int .i64 v'.d)).setCell ⟨b,5,none⟩ (.int .i64 v'.p)).setCell ⟨b,6,none⟩ (.int .i64 v'.f))):=by
 have fs:∀ (w:World) (o:Nat) (u:Value),Fr (· =b) w (w.setCell ⟨b,o,none⟩ u):=fun w o u=>Fr.setCell w ⟨b,o,none⟩ u rfl
 have tr:∀ {x y z:World},Fr (· =b) x y→Fr (· =b) y z→Fr (· =b) x z:=fun h k=>h.trans k (fun _ _ h=>h) (fun _ _ h=>h)
 have h1:=(heap_setCell_same (o:=6) (heap_setCell_same (o:=5) (heap_setCell_same (o:=4) (heap_setCell_same (o:=3) (heap_setCell_same (o:=2) (heap_setCell_same (o:=1) h (.int .i64 v'.t)) (.int .i64 v'.i)) (.int .i64 v'.c)) (.int .i64 v'.d)) (.int .i64 v'.p)) (.int .i64 v'.f))
 simp only [blk,List.setIfInBounds_toArray,List.set_cons_succ,List.set_cons_zero] at h1
 exact ⟨h1,(tr (tr (tr (tr (tr (fs _ _ _) (fs _ _ _)) (fs _ _ _)) (fs _ _ _)) (fs _ _ _)) (fs _ _ _))⟩
theorem put_eq (v:Pq) (b:Nat) (k:ByteArray) (v':Pq) (l r:AT ByteArray Pq) (d:Int) (w:World)
  (h:In w (.node b k v' l r d)) (nd:(AT.node b k v' l r d).fp.Nodup) (wl:l.wd) (wr:r.wd) (sz:l.size+r.size<576460752303423488):
  Calls prog 197 #[.pointer (some ⟨b,0,none⟩),.string k,.agg #[.int .i64 v.t,.int .i64 v.i,.int .i64 v.c,.int .i64 v.d,.int .i64 v.p,.int .i64 v.f]] w (PutPost k v (.node b k v' l r d) w):=by
 have hput:∀n,AT.put n k v (.node b k v' l r d)=(AT.level b k v l r,false):=fun n=>by rw [AT.put,if_neg (by rw [Ord.irr];simp),if_neg (by rw [Ord.irr];simp)]
 have HP:=Lib.hid hput
 have hf:=box_fr v w
 have h:=In.fr h hf (fun _ _ h=>h)
 have x0:(box v w).cell? ⟨w.heap.size,0,none⟩=some (.int .i64 v.t):=cell_of_block (heap_new w _) 0
 have x1:(box v w).cell? ⟨w.heap.size,1,none⟩=some (.int .i64 v.i):=cell_of_block (heap_new w _) 1
 have x2:(box v w).cell? ⟨w.heap.size,2,none⟩=some (.int .i64 v.c):=cell_of_block (heap_new w _) 2
 have x3:(box v w).cell? ⟨w.heap.size,3,none⟩=some (.int .i64 v.d):=cell_of_block (heap_new w _) 3
 have x4:(box v w).cell? ⟨w.heap.size,4,none⟩=some (.int .i64 v.p):=cell_of_block (heap_new w _) 4
 have x5:(box v w).cell? ⟨w.heap.size,5,none⟩=some (.int .i64 v.f):=cell_of_block (heap_new w _) 5
 clear hput
 obtain ⟨hb,hl,hr⟩:=h
 obtain ⟨nbl,nbr,ndl,ndr,ndx⟩:=AT.nodup_node.1 nd
 obtain ⟨c0,c2,c3,-,cf⟩:=cells hb
 have o0:(box v w).cell? ⟨b,1,none⟩=some (.int .i64 v'.t):=cell_of_block hb 1
 have o1:(box v w).cell? ⟨b,2,none⟩=some (.int .i64 v'.i):=cell_of_block hb 2
 have o2:(box v w).cell? ⟨b,3,none⟩=some (.int .i64 v'.c):=cell_of_block hb 3
 have o3:(box v w).cell? ⟨b,4,none⟩=some (.int .i64 v'.d):=cell_of_block hb 4
 have o4:(box v w).cell? ⟨b,5,none⟩=some (.int .i64 v'.p):=cell_of_block hb 5
 have o5:(box v w).cell? ⟨b,6,none⟩=some (.int .i64 v'.f):=cell_of_block hb 6
 have _kp:True:=trivial
 have tk:Op.bytesLess k.toList k.toList=false:=Ord.irr k
 obtain ⟨hb2,hfx⟩:=set_v hb v
 have HB2:=Lib.hid hb2
 have hl2:=Lib.hid (In.fr hl hfx (fun x hx e=>nbl (e▸hx)))
 have hr2:=Lib.hid (In.fr hr hfx (fun x hx e=>nbr (e▸hx)))
 have HF2:=Lib.hid (hf.trans hfx (T:=(· =b)) (fun _ _ h=>h.elim) (fun _ _ h=>h))
 have ND:=Lib.hid nd
 clear hb nd hfx hl hr hf hb2
 go_enter func197,ntmps197
 go_wp2_with fail
 generalize (((((((box v w).setCell ⟨b,1,none⟩ (.int .i64 v.t)).setCell ⟨b,2,none⟩ (.int .i64 v.i)).setCell ⟨b,3,none⟩ (.int .i64 v.c)).setCell ⟨b,4,none⟩ (.int .i64 v.d)).setCell ⟨b,5,none⟩ (.int .i64 v.p)).setCell ⟨b,6,none⟩ (.int .i64 v.f))=w2 at *
 refine (level b k v l r d w2 ⟨HB2.out,hl2.out,hr2.out⟩ ND.out wl wr (by omega)).mono ?_
 rintro e w3 ⟨rfl,HI,HF⟩
 have HI3:=Lib.hid HI;have HF3:=Lib.hid HF
 clear HI HF
 go_wp2_with fail
 go_ret2
 refine ⟨w.heap.size,Nat.le_refl _,by rw [HP.out];rfl,by rw [HP.out];exact HI3.out,HF2.out.trans HF3.out (fun i _ h=>AT.mem_node.2 (.inl h)) (fun i hi h=>h)⟩
theorem put (k:ByteArray) (v:Pq) (t:AT ByteArray Pq):∀ (w:World),In w t→t.fp.Nodup→t.wd→t.size<288230376151711744→
  Calls prog 197 #[.pointer t.adr,.string k,.agg #[.int .i64 v.t,.int .i64 v.i,.int .i64 v.c,.int .i64 v.d,.int .i64 v.p,.int .i64 v.f]] w (PutPost k v t w):=AvlZ.zd_put_
end AvlSP
set_option maxRecDepth 100000
namespace AvlSP
open Tryz renaming func187→xFn_drop,func212→xFn_least,ntmps187→xTn_drop,ntmps212→xTn_least
def LeastPost (t:AT ByteArray Pq) (w:World) (e:Ending) (w':World):Prop:=
 ∃ (b2:Nat) (k2:ByteArray) (v2:Pq) (l2 r2:Option Addr) (d2:Int),t.first=some (b2,k2,v2)∧e=.returned (.tuple #[.pointer t.rest.adr,.pointer (some ⟨b2,0,none⟩)])∧In w' t.rest∧
  w'.heap[b2]? =some (.cells (blk k2 v2 l2 r2 d2) 218 (0,0))∧Fr (fun x=>x∈t.fp) w w'
theorem least_nil (b:Nat) (k:ByteArray) (v:Pq) (r:AT ByteArray Pq) (d:Int) (w:World) (h:In w (.node b k v .nil r d)):
  Calls prog 212 #[.pointer (some ⟨b,0,none⟩)] w (LeastPost (.node b k v .nil r d) w):=AvlZ.ze_least_nil
theorem rest_size {t:AT ByteArray Pq} {b:Nat} {k:ByteArray} {v:Pq} (h:t.first=some (b,k,v)):t.rest.size+1=t.size:=AvlZ.ze_rest_size
theorem rest_nodup {t:AT ByteArray Pq} {b:Nat} {k:ByteArray} {v:Pq} (h:t.first=some (b,k,v)) (nd:t.fp.Nodup):b∉t.rest.fp∧t.rest.fp.Nodup∧b∈t.fp∧∀x∈t.rest.fp,x∈t.fp:=AvlZ.ze_rest_nodup
theorem least_node (b:Nat) (k:ByteArray) (v:Pq) (b':Nat) (k':ByteArray) (v':Pq) (l' r':AT ByteArray Pq) (d':Int) (r:AT ByteArray Pq) (d:Int) (w:World)
  (h:In w (.node b k v (.node b' k' v' l' r' d') r d)) (nd:(AT.node b k v (.node b' k' v' l' r' d') r d).fp.Nodup) (wl:(AT.node b' k' v' l' r' d').wd) (wr:r.wd) (sz:(AT.node b' k' v' l' r' d').size+r.size<576460752303423488)
  (ih:Calls prog 212 #[.pointer (some ⟨b',0,none⟩)] w (LeastPost (.node b' k' v' l' r' d') w)):
  Calls prog 212 #[.pointer (some ⟨b,0,none⟩)] w (LeastPost (.node b k v (.node b' k' v' l' r' d') r d) w):=AvlZ.ze_least_node
theorem least:∀ (t:AT ByteArray Pq) (w:World),t≠ .nil→In w t→t.fp.Nodup→t.wd→t.size<288230376151711744→
  Calls prog 212 #[.pointer t.adr] w (LeastPost t w)
 | .nil,_,h,_,_,_,_=>absurd rfl h
 | .node b k v .nil r d,w,_,h,_,_,_=>least_nil b k v r d w h
 | .node b k v (.node b' k' v' l' r' d') r d,w,_,h,nd,wd,sz=>by
  have sz':(AT.node b' k' v' l' r' d').size+r.size<288230376151711744:=by rw [AT.size] at sz;omega
  exact least_node b k v b' k' v' l' r' d' r d w h nd wd.1 wd.2.1 (by omega) (least (.node b' k' v' l' r' d') w (by simp) h.2.1 (AT.nodup_node.1 nd).2.2.1 wd.1 (by omega))
def DropPost (k:ByteArray) (t:AT ByteArray Pq) (w:World) (e:Ending) (w':World):Prop:=
 e=.returned (.tuple #[.pointer (AT.drop k t).1.adr,.bool (AT.drop k t).2])∧In w' (AT.drop k t).1∧Fr (fun x=>x∈t.fp) w w'
theorem drop_size (k:ByteArray) {t:AT ByteArray Pq} (_:t.fp.Nodup):(AT.drop k t).1.size≤t.size:=AT.size_drop k t
theorem drop_nil (k:ByteArray) (w:World):Calls prog 187 #[.pointer none,.string k] w (DropPost k .nil w):=AvlZ.ze_drop_nil
theorem drop_low (k:ByteArray) (b:Nat) (k':ByteArray) (v':Pq) (l r:AT ByteArray Pq) (d:Int) (w:World)
  (h:In w (.node b k' v' l r d)) (nd:(AT.node b k' v' l r d).fp.Nodup) (wl:l.wd) (wr:r.wd) (sz:l.size+r.size<576460752303423488)
  (ih:Calls prog 187 #[.pointer l.adr,.string k] w (DropPost k l w)) (hlt:Ord.lt k k'=true):
  Calls prog 187 #[.pointer (some ⟨b,0,none⟩),.string k] w (DropPost k (.node b k' v' l r d) w):=AvlZ.ze_drop_low
theorem drop_high (k:ByteArray) (b:Nat) (k':ByteArray) (v':Pq) (l r:AT ByteArray Pq) (d:Int) (w:World)
  (h:In w (.node b k' v' l r d)) (nd:(AT.node b k' v' l r d).fp.Nodup) (wl:l.wd) (wr:r.wd) (sz:l.size+r.size<576460752303423488)
  (ih:Calls prog 187 #[.pointer r.adr,.string k] w (DropPost k r w)) (hlt:Ord.lt k' k=true):
  Calls prog 187 #[.pointer (some ⟨b,0,none⟩),.string k] w (DropPost k (.node b k' v' l r d) w):=AvlZ.ze_drop_high
theorem drop_last (b:Nat) (k:ByteArray) (v':Pq) (l:AT ByteArray Pq) (d:Int) (w:World) (h:In w (.node b k v' l .nil d)):
  Calls prog 187 #[.pointer (some ⟨b,0,none⟩),.string k] w (DropPost k (.node b k v' l .nil d) w):=AvlZ.ze_drop_last
theorem set_both {w:World} {b:Nat} {k:ByteArray} {v:Pq} {l r:Option Addr} {d:Int} (h:w.heap[b]? =some (.cells (blk k v l r d) 218 (0,0))) (u x:Option Addr):
  ((w.setCell ⟨b,7,none⟩ (.pointer u)).setCell ⟨b,8,none⟩ (.pointer x)).heap[b]? =some (.cells (blk k v u x d) 218 (0,0)):=set_hi (set_lo h u) x
theorem drop_mid (b:Nat) (k:ByteArray) (v':Pq) (l r:AT ByteArray Pq) (d:Int) (w:World) (h:In w (.node b k v' l r d)) (nd:(AT.node b k v' l r d).fp.Nodup) (wl:l.wd) (wr:r.wd) (sz:l.size+r.size<288230376151711744) (hne:r≠ .nil):
  Calls prog 187 #[.pointer (some ⟨b,0,none⟩),.string k] w (DropPost k (.node b k v' l r d) w):=AvlZ.ze_drop_mid
theorem drop (k:ByteArray) (t:AT ByteArray Pq):∀ (w:World),In w t→t.fp.Nodup→t.wd→t.size<288230376151711744→
  Calls prog 187 #[.pointer t.adr,.string k] w (DropPost k t w):=AvlZ.ze_drop
end AvlSP
set_option maxRecDepth 100000
set_option maxHeartbeats 400000
namespace AvlSP
open Tryz renaming func132→xFm_Drop,func148→xFm_Put,func143→xFm_top,ntmps132→xTm_Drop,ntmps148→xTm_Put,ntmps143→xTm_top
attribute [local go_sem] Eng.ev Eng.getO_cons Eng.getO_nil
def MapIn (w:World) (r:Option Addr) (L:List (ByteArray × Pq)) (F:List Nat):Prop:=
 ∃t:AT ByteArray Pq,t.adr=r∧t.toL=L∧t.fp=F∧In w t∧F.Nodup∧t.wd∧t.bal∧Srt L
theorem MapIn.fr {S:Nat→Prop} {w w':World} {r:Option Addr} {L:List (ByteArray × Pq)} {F:List Nat} (h:MapIn w r L F) (hf:Fr S w w') (hs:∀b∈F,¬S b):MapIn w' r L F:=AvlZ.zf_MapIn_fr
theorem MapIn.lt {w:World} {r:Option Addr} {L:List (ByteArray × Pq)} {F:List Nat} (h:MapIn w r L F):∀b∈F,b<w.heap.size:=AvlZ.zf_MapIn_lt
theorem MapIn.srt {w:World} {r:Option Addr} {L:List (ByteArray × Pq)} {F:List Nat} (h:MapIn w r L F):Srt L:=by
 obtain ⟨t,-,-,-,-,-,-,-,h⟩:=h
 exact h
theorem MapIn.nil (w:World):MapIn w none [] []:=⟨.nil,rfl,rfl,rfl,trivial,List.nodup_nil,trivial,trivial,List.Pairwise.nil⟩
theorem insL_length (k:ByteArray) (v:Pq) (n:Nat) {t:AT ByteArray Pq} (hs:Srt t.toL):(insL k v t.toL).length=if (AT.put n k v t).2 then t.toL.length+1 else t.toL.length:=AvlZ.zf_insL_length
theorem delL_length (k:ByteArray) {t:AT ByteArray Pq} (hs:Srt t.toL):(delL k t.toL).length=if (AT.drop k t).2 then t.toL.length-1 else t.toL.length:=AvlZ.zf_delL_length
def PutMPost (B off:Nat) (c:Array Value) (TB:TypeId) (k:ByteArray) (v:Pq) (L:List (ByteArray × Pq)) (F:List Nat) (w:World) (e:Ending) (w':World):Prop:=
 ∃ (r':Option Addr) (F':List Nat),e=.returned (.bool (!hasL k L))∧w'.heap[B]? =some (.cells ((c.setIfInBounds off (.pointer r')).setIfInBounds (off+1) (.int .i64 (insL k v L).length)) TB (0,0))∧
  MapIn w' r' (insL k v L) F'∧(∀x∈F',x∈F∨w.heap.size≤x)∧Fr (fun x=>x=B∨x∈F) w w'
theorem set_same {c:Array Value} {i:Nat} {u:Value} (h:c[i]? =some u):c.setIfInBounds i u=c:=AvlZ.zf_set_same
structure Sees (B off:Nat) (v:Pq) (t:AT ByteArray Pq) (b:Nat) (w:World):Prop where
 one:w.cell? ⟨B,off,none⟩=some (.pointer t.adr)
 two:w.cell? ⟨b,0,none⟩=some (.int .i64 v.t)∧w.cell? ⟨b,1,none⟩=some (.int .i64 v.i)∧w.cell? ⟨b,2,none⟩=some (.int .i64 v.c)∧w.cell? ⟨b,3,none⟩=some (.int .i64 v.d)∧w.cell? ⟨b,4,none⟩=some (.int .i64 v.p)∧w.cell? ⟨b,5,none⟩=some (.int .i64 v.f)
theorem Sees.fr {S:Nat→Prop} {B off:Nat} {v:Pq} {t:AT ByteArray Pq} {b:Nat} {w w':World} (h:Sees B off v t b w) (hf:Fr S w w') (h1:¬S B) (h2:¬S b) (hB:B<w.heap.size) (hb:b<w.heap.size):Sees B off v t b w':=AvlZ.zf_Sees_fr
theorem put3 {ops:Array Oper} (hops:Eng.fnOps Tryz.f148 3=ops) (a0:Act) (Q:Exit→Act→World→Prop) (B off:Nat) (k:ByteArray) (v:Pq) (t:AT ByteArray Pq) (w0:World) (c:Array Value) (TB:TypeId) (hB:w0.heap[B]? =some (.cells c TB (0,0))) (h0:c[off]? =some (.pointer t.adr)) (hBF:B∉t.fp) (hI:In w0 t) (nd:t.fp.Nodup) (wd:t.wd) (sz:t.size<288230376151711744)
  (hn:a0.tmps.size=34) (h_0:a0.tmps.getD 0 undef=.pointer (some ⟨B,off,none⟩)) (h_1:a0.tmps.getD 1 undef=.string k) (h_5:a0.tmps.getD 5 undef=.pointer (some ⟨w0.heap.size,0,none⟩))
  (hpost:∀ (x:Nat→Value) (w':World) (n:Nat),x 7=.pointer (AT.put n k v t).1.adr→x 8=.bool (AT.put n k v t).2→(box v w0).drew.heap.size≤n→In w' (AT.put n k v t).1→Fr (fun x=>x∈t.fp) (box v w0).drew w'→Q .normal (Eng.setAll a0 [7,8,11,12,13,14,15,16,17,18,19,20] x) w'):
  (Code.region 3 ops true).wp prog Q a0 (box v w0):=by
 simp only [Eng.fnOps,Eng.regOps,Tryz.f148,Option.bind_some,Option.getD_some,Nat.reduceEqDiff,↓reduceIte] at hops
 subst hops
 have hlt:=lt_of_heap hB
 have hf:=(box_fr v w0).trans (Fr.drew (fun _=>False) _) (T:=fun _=>False) (fun _ _ h=>h) (fun _ _ h=>h)
 have HIt:=Lib.hid (In.fr hI hf (fun _ _ h=>h))
 have hsz:(box v w0).drew.heap.size=w0.heap.size+1:=by show (box v w0).heap.size=_;simp
 have hbt:B∉t.fp∧w0.heap.size∉t.fp∧B<(box v w0).drew.heap.size∧w0.heap.size<(box v w0).drew.heap.size:=⟨hBF,fun e=>Nat.lt_irrefl _ (In.lt hI _ e),by omega,by omega⟩
 have x0:(box v w0).cell? ⟨w0.heap.size,0,none⟩=some (.int .i64 v.t):=cell_of_block (heap_new w0 _) 0
 have x1:(box v w0).cell? ⟨w0.heap.size,1,none⟩=some (.int .i64 v.i):=cell_of_block (heap_new w0 _) 1
 have x2:(box v w0).cell? ⟨w0.heap.size,2,none⟩=some (.int .i64 v.c):=cell_of_block (heap_new w0 _) 2
 have x3:(box v w0).cell? ⟨w0.heap.size,3,none⟩=some (.int .i64 v.d):=cell_of_block (heap_new w0 _) 3
 have x4:(box v w0).cell? ⟨w0.heap.size,4,none⟩=some (.int .i64 v.p):=cell_of_block (heap_new w0 _) 4
 have x5:(box v w0).cell? ⟨w0.heap.size,5,none⟩=some (.int .i64 v.f):=cell_of_block (heap_new w0 _) 5
 have hsee:Sees B off v t w0.heap.size (box v w0):=⟨(World.cell?_of_block (w:=w0) (a:=⟨B,off,none⟩) ((box_fr v w0).block B hlt (fun h=>h))).trans ((cell_of_block hB off).trans h0),⟨x0,x1,x2,x3,x4,x5⟩⟩
 clear hf hsz x0 x1 x2 x3 x4 x5
 have HSt:=Lib.hid (Sees.fr hsee (Fr.drew (fun _=>False) _) (fun h=>h) (fun h=>h) (by have:=hbt.2.2.1;exact this) (by have:=hbt.2.2.2;exact this))
 refine Eng.regionT (.take 0 (.take 1 (.take 2 (.take 3 (.take 4 (.take 5 (.alt 6 (.take 7 (.take 8 (.take 9 (.take 10 (.take 11 (.done)))))) (.stop)))))))) (fun w'=>w'.cell? ⟨B,off,none⟩=some (.pointer t.adr)∧(w'.cell? ⟨w0.heap.size,0,none⟩=some (.int .i64 v.t)∧w'.cell? ⟨w0.heap.size,1,none⟩=some (.int .i64 v.i)∧w'.cell? ⟨w0.heap.size,2,none⟩=some (.int .i64 v.c)∧w'.cell? ⟨w0.heap.size,3,none⟩=some (.int .i64 v.d)∧w'.cell? ⟨w0.heap.size,4,none⟩=some (.int .i64 v.p)∧w'.cell? ⟨w0.heap.size,5,none⟩=some (.int .i64 v.f))) (by kernel_rfl) 34 hn (by kernel_rfl) (by kernel_rfl) (by kernel_rfl) (⟨HSt.out.one,HSt.out.two⟩) (fun a b ha hb=>?_)
 subst ha
 have hb0:b 0=.pointer (some ⟨B,off,none⟩):=(hb 0).symm.trans h_0
 have hb1:b 1=.string k:=(hb 1).symm.trans h_1
 have hb5:b 5=.pointer (some ⟨w0.heap.size,0,none⟩):=(hb 5).symm.trans h_5
 clear hb h_0 h_1 h_5
 have HP:=Lib.hid hpost;have HN:=Lib.hid hn
 clear hpost hn
 iterate 6 (refine Eng.TW.tk ?_)
 refine Eng.TW.call rfl rfl (by decide) (by kernel_rfl) ?_ (put k v t _ HIt.out nd wd sz) ?_
 ·go_simp
 rintro e w2 ⟨n,hn,rfl,hI1,hF⟩
 have HNn:=Lib.hid hn;have HI1:=Lib.hid hI1;have HFr:=Lib.hid hF
 have HSt2:=Lib.hid (HSt.out.fr hF hbt.1 hbt.2.1 hbt.2.2.1 hbt.2.2.2)
 clear hn hI1 hF
 refine ⟨_,rfl,⟨HSt2.out.one,HSt2.out.two⟩,?_⟩
 iterate 5 (refine Eng.TW.tk ?_)
 refine Eng.TW.end_ [7,8,11,12,13,14,15,16,17,18,19,20] HN.out (by kernel_rfl) (by kernel_rfl) ?_
 exact HP.out _ _ n rfl rfl HNn.out HI1.out HFr.out
theorem Put (B off:Nat) (c:Array Value) (TB:TypeId) (k:ByteArray) (v:Pq) (r:Option Addr) (L:List (ByteArray × Pq)) (F:List Nat) (w:World)
  (hB:w.heap[B]? =some (.cells c TB (0,0))) (h0:c[off]? =some (.pointer r)) (h1:c[off+1]? =some (.int .i64 L.length)) (hM:MapIn w r L F) (hBF:B∉F) (sz:L.length<144115188075855872):
  Calls prog 148 #[.pointer (some ⟨B,off,none⟩),.string k,.agg #[.int .i64 v.t,.int .i64 v.i,.int .i64 v.c,.int .i64 v.d,.int .i64 v.p,.int .i64 v.f]] w (PutMPost B off c TB k v L F w):=AvlZ.zf_Put_
def DropMPost (B off:Nat) (c:Array Value) (TB:TypeId) (k:ByteArray) (L:List (ByteArray × Pq)) (F:List Nat) (w:World) (e:Ending) (w':World):Prop:=
 ∃ (r':Option Addr) (F':List Nat),e=.returned (.bool (hasL k L))∧w'.heap[B]? =some (.cells ((c.setIfInBounds off (.pointer r')).setIfInBounds (off+1) (.int .i64 (delL k L).length)) TB (0,0))∧
  MapIn w' r' (delL k L) F'∧(∀x∈F',x∈F)∧Fr (fun x=>x=B∨x∈F) w w'
theorem Drop (B off:Nat) (c:Array Value) (TB:TypeId) (k:ByteArray) (r:Option Addr) (L:List (ByteArray × Pq)) (F:List Nat) (w:World)
  (hB:w.heap[B]? =some (.cells c TB (0,0))) (h0:c[off]? =some (.pointer r)) (h1:c[off+1]? =some (.int .i64 L.length)) (hM:MapIn w r L F) (hBF:B∉F) (sz:L.length<144115188075855872):
  Calls prog 132 #[.pointer (some ⟨B,off,none⟩),.string k] w (DropMPost B off c TB k L F w):=AvlZ.zf_Drop
theorem top_none (w:World):Calls prog 143 #[.pointer none] w fun e w'=>e=.returned (.pointer none)∧w=w':=AvlZ.zf_top_none
theorem top (a:Addr) (r:Option Addr) (w:World) (ha:a.spot=none) (h:w.cell? a=some (.pointer r)):Calls prog 143 #[.pointer (some a)] w fun e w'=>e=.returned (.pointer r)∧w=w':=AvlZ.zf_top
end AvlSP
end Go.Proofs.YtgfjpnpbkkadpaaGreat
