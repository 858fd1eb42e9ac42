/- The maps in order (avl) at one instance: the nodes in memory, and what each method does to them. -/
import Derived.Test.YtdpngmgaomghoaaGreatDoorKeys
import Derived.Test.YtdpngmgaomghoaaGreatDoorRngs
import Derived.Test.YtdpngmgaomghoaaGreatDoorProg
import Derived.StillTailTactics
namespace Go.Proofs.YtdpngmgaomghoaaGreatDoor
open Tryz
set_option maxRecDepth 100000
open Go.RowKit
namespace AvlSS
abbrev blk (k:ByteArray) (v:Sn) (l r:Option Addr) (d:Int):Array Value:= #[.string k,.int .i64 v.t,.int .i64 v.i,.int .i64 v.p,.int .i64 v.r,.string v.s,.string v.o,.int .i64 v.b,.int .i64 v.d,.bool v.g,.pointer l,.pointer r,.int .i64 d]
def In (w:World) (t:AT ByteArray Sn):Prop:=t.In blk 126 w
theorem In.fr {S:Nat→Prop} {w w':World} {t:AT ByteArray Sn} (h:In w t) (hf:Fr S w w') (hs:∀b∈t.fp,¬S b):In w' t:=AT.In.fr h hf hs
theorem In.lt {w:World} {t:AT ByteArray Sn} (h:In w t):∀b∈t.fp,b<w.heap.size:=AT.In.lt h
theorem cells {w:World} {b:Nat} {k:ByteArray} {v:Sn} {l r:Option Addr} {d:Int} (h:w.heap[b]? =some (.cells (blk k v l r d) 126 (0,0))):
  w.cell? ⟨b,0,none⟩=some (.string k)∧w.cell? ⟨b,10,none⟩=some (.pointer l)∧w.cell? ⟨b,11,none⟩=some (.pointer r)∧w.cell? ⟨b,12,none⟩=some (.int .i64 d)∧(∀o,w.frozen? ⟨b,o,none⟩=false):=by
 refine ⟨?_,?_,?_,?_,free_of_block h⟩<;>rw [cell_of_block h]<;>rfl
theorem deep (t:AT ByteArray Sn) (w:World) (h:In w t):
  Calls prog 132 #[.pointer t.adr] w fun e w'=>e=.returned (.int .i64 t.dep)∧w'=w:=by
 cases t with
 |nil=>
  simp only [AT.adr,AT.dep]
  go_enter func132,ntmps132
  go_wp2
  go_ret
  exact ⟨rfl,rfl⟩
 |node b k v l r d=>
  obtain ⟨-,-,-,c4,-⟩:=cells h.1
  simp only [AT.adr,AT.dep]
  clear h
  go_enter func132,ntmps132
  go_wp2
  go_ret
  exact ⟨rfl,rfl⟩
theorem measure (b:Nat) (k:ByteArray) (v:Sn) (l r:AT ByteArray Sn) (d:Int) (w:World) (hb:w.heap[b]? =some (.cells (blk k v l.adr r.adr d) 126 (0,0)))
  (hl:In w l) (hr:In w r) (l0:0≤l.dep) (l1:l.dep<4611686018427387904) (r0:0≤r.dep) (r1:r.dep<4611686018427387904):
  Calls prog 118 #[.pointer (some ⟨b,0,none⟩)] w fun e w'=>e=.returned (.tuple #[])∧
   w'.heap[b]? =some (.cells (blk k v l.adr r.adr (1+max l.dep r.dep)) 126 (0,0))∧Fr (· =b) w w':=by
 obtain ⟨-,c2,c3,c4,cf⟩:=cells hb
 have HB:=Lib.hid hb
 clear hb
 have e2:w.drew.cell? ⟨b,10,none⟩=some (.pointer l.adr):=c2
 have e3:w.drew.cell? ⟨b,11,none⟩=some (.pointer r.adr):=c3
 have el:=deep l w.drew (hl.fr (Fr.drew (fun _=>False) w) (fun _ _ h=>h))
 have er:=deep r w.drew (hr.fr (Fr.drew (fun _=>False) w) (fun _ _ h=>h))
 clear hl hr
 go_enter func118,ntmps118
 refine wp_region_still_tail 15 (by kernel_rfl) (by kernel_rfl) ?_
 simp only [List.take_succ_cons,List.take_zero,List.drop_succ_cons,List.drop_zero]
 change wpStill _ _ w.drew (fun a'=>wpList _ _ _ _ a' w.drew) _ _
 iterate 5 still_step
 still_call el
 iterate 4 still_step
 still_call er
 iterate 4 still_step
 refine wpStill_nil ?_
 clear el er
 go_wp2
 all_goals
  go_end0
  refine ⟨rfl,?_,?_⟩
  ·refine (heap_setCell_same HB.out _).trans ?_
   simp only [blk,List.setIfInBounds_toArray,List.set_cons_succ,List.set_cons_zero]
   first|rw [show max l.dep r.dep=r.dep by omega]|rw [show max l.dep r.dep=l.dep by omega]
  ·exact (Fr.setCell w ⟨b,12,none⟩ _ (S:=(· =b)) rfl).trans (Fr.drew (fun _=>False) _) (fun _ _ h=>h) (fun _ _ h=>h.elim)
theorem lean (b:Nat) (k:ByteArray) (v:Sn) (l r:AT ByteArray Sn) (d:Int) (w:World) (h:In w (.node b k v l r d)) (l0:0≤l.dep) (l1:l.dep<4611686018427387904) (r0:0≤r.dep) (r1:r.dep<4611686018427387904):
  Calls prog 119 #[.pointer (some ⟨b,0,none⟩)] w fun e w'=>e=.returned (.int .i64 (r.dep-l.dep))∧w.drew=w':=by
 obtain ⟨hb,hl,hr⟩:=h
 obtain ⟨-,c2,c3,c4,cf⟩:=cells hb
 clear hb
 have e2:w.drew.cell? ⟨b,10,none⟩=some (.pointer l.adr):=c2
 have e3:w.drew.cell? ⟨b,11,none⟩=some (.pointer r.adr):=c3
 have el:=deep l w.drew (In.fr hl (Fr.drew (fun _=>False) w) (fun _ _ h=>h))
 have er:=deep r w.drew (In.fr hr (Fr.drew (fun _=>False) w) (fun _ _ h=>h))
 have hw:IntKind.i64.wrap (r.dep-l.dep)=r.dep-l.dep:=IntWalk.i64_in _ (by omega)
 clear hl hr
 go_enter func119,ntmps119
 go_wp2_with fail
 refine wp_region_still_lit (by kernel_rfl) (by kernel_rfl) ?_
 change wpStill _ _ w.drew (fun a'=>_) _ _
 iterate 4 still_step
 still_call er
 iterate 4 still_step
 still_call el
 iterate 2 still_step
 refine wpStill_nil ?_
 clear el er
 go_wp2
 go_ret
 exact ⟨rfl,rfl⟩
end AvlSS
set_option maxRecDepth 100000
namespace AvlSS
theorem heap_other {w:World} {a:Addr} {u:Value} {b:Nat} {o:Obj} (h:w.heap[b]? =some o) (hne:b≠a.block):(w.setCell a u).heap[b]? =some o:=(Below.heap_setCell _ _ _ _ hne).trans h
theorem set_lo {w:World} {b:Nat} {k:ByteArray} {v:Sn} {l r:Option Addr} {d:Int} (h:w.heap[b]? =some (.cells (blk k v l r d) 126 (0,0))) (u:Option Addr):
  (w.setCell ⟨b,10,none⟩ (.pointer u)).heap[b]? =some (.cells (blk k v u r d) 126 (0,0)):=heap_setCell_same h _
theorem set_hi {w:World} {b:Nat} {k:ByteArray} {v:Sn} {l r:Option Addr} {d:Int} (h:w.heap[b]? =some (.cells (blk k v l r d) 126 (0,0))) (u:Option Addr):
  (w.setCell ⟨b,11,none⟩ (.pointer u)).heap[b]? =some (.cells (blk k v l u d) 126 (0,0)):=heap_setCell_same h _
theorem turnLow (b:Nat) (k:ByteArray) (v:Sn) (l:AT ByteArray Sn) (b':Nat) (k':ByteArray) (v':Sn) (l' r':AT ByteArray Sn) (d' d:Int) (w:World)
  (h:In w (.node b k v l (.node b' k' v' l' r' d') d)) (nd:(AT.node b k v l (.node b' k' v' l' r' d') d).fp.Nodup) (wl:l.wd) (wl':l'.wd) (wr':r'.wd) (sz:l.size+l'.size+r'.size<2305843009213693952):
  Calls prog 121 #[.pointer (some ⟨b,0,none⟩)] w fun e w'=>e=.returned (.pointer (some ⟨b',0,none⟩))∧
   In w' (AT.turnLow (.node b k v l (.node b' k' v' l' r' d') d))∧Fr (fun x=>x=b∨x=b') w w':=by
 rw [AT.turnLow_node]
 obtain ⟨hb,hl,hb',hl',hr'⟩:=h
 simp only [AT.fp,List.nodup_cons,List.mem_append,List.mem_cons,not_or,List.nodup_append] at nd
 obtain ⟨⟨nbl,nbb,nbl',nbr'⟩,ndl,⟨⟨nbl2,nbr2⟩,ndl',ndr',ndlr⟩,ndx⟩:=nd
 have nb'l:b'∉l.fp:=fun x=>ndx b' x b' (.inl rfl) rfl
 have D0:=wl.dep0;have D1:=wl.dep_le;have D2:=wl'.dep0;have D3:=wl'.dep_le;have D4:=wr'.dep0;have D5:=wr'.dep_le
 rw [AT.adr_node] at hb
 obtain ⟨-,-,c3,-,cf⟩:=cells hb
 obtain ⟨-,c2',c3',-,cf'⟩:=cells hb'
 -- the world behind the two stores
 have hf1:Fr (fun x=>x=b∨x=b') w ((w.setCell ⟨b,11,none⟩ (.pointer l'.adr)).setCell ⟨b',10,none⟩ (.pointer (some ⟨b,0,none⟩))):=
  (Fr.setCell w ⟨b,11,none⟩ _ (S:=fun x=>x=b∨x=b') (.inl rfl)).trans (Fr.setCell _ ⟨b',10,none⟩ _ (S:=fun x=>x=b∨x=b') (.inr rfl)) (fun _ _ h=>h) (fun _ _ h=>h)
 have hB1:((w.setCell ⟨b,11,none⟩ (.pointer l'.adr)).setCell ⟨b',10,none⟩ (.pointer (some ⟨b,0,none⟩))).heap[b]? =some (.cells (blk k v l.adr l'.adr d) 126 (0,0)):=heap_other (set_hi hb _) nbb
 have hB1':((w.setCell ⟨b,11,none⟩ (.pointer l'.adr)).setCell ⟨b',10,none⟩ (.pointer (some ⟨b,0,none⟩))).heap[b']? =some (.cells (blk k' v' (some ⟨b,0,none⟩) r'.adr d') 126 (0,0)):=set_lo (heap_other hb' (Ne.symm nbb)) _
 have HF1:=Lib.hid hf1;have HB1:=Lib.hid hB1;have HB1':=Lib.hid hB1'
 clear hf1 hB1 hB1' hb hb'
 go_enter func121,ntmps121
 go_wp2_with fail
 refine (measure b k v l l' d _ HB1.out (In.fr hl HF1.out (fun x hx h=>h.elim (fun e=>nbl (e▸hx)) (fun e=>nb'l (e▸hx)))) (In.fr hl' HF1.out (fun x hx h=>h.elim (fun e=>nbl' (e▸hx)) (fun e=>nbl2 (e▸hx)))) (by omega) (by omega) (by omega) (by omega)).mono ?_
 rintro e w2 ⟨rfl,hB2,hF2⟩
 have hB2':=(hF2.block b' (lt_of_heap HB1'.out) (Ne.symm nbb)).trans HB1'.out
 have hF12:=HF1.out.trans hF2 (T:=fun x=>x=b∨x=b') (fun _ _ h=>h) (fun _ _ h=>.inl h)
 have il2:In w2 l:=In.fr hl hF12 (fun x hx h=>h.elim (fun e=>nbl (e▸hx)) (fun e=>nb'l (e▸hx)))
 have il2':In w2 l':=In.fr hl' hF12 (fun x hx h=>h.elim (fun e=>nbl' (e▸hx)) (fun e=>nbl2 (e▸hx)))
 have ir2':In w2 r':=In.fr hr' hF12 (fun x hx h=>h.elim (fun e=>nbr' (e▸hx)) (fun e=>nbr2 (e▸hx)))
 have HB2:=Lib.hid hB2;have HB2':=Lib.hid hB2';have HF12:=Lib.hid hF12
 clear hB2 hB2' hF12 hF2 HF1 HB1 HB1' c3 cf c2' c3' cf' hl hl' hr'
 have im:In w2 (AT.mk b k v l l'):=⟨HB2.out,il2,il2'⟩
 go_wp2_with fail
 refine (measure b' k' v' (AT.mk b k v l l') r' d' w2 HB2'.out im ir2' (by rw [AT.dep_mk];omega) (by rw [AT.dep_mk];omega) (by omega) (by omega)).mono ?_
 rintro e w3 ⟨rfl,hB3,hF3⟩
 have HB3:=Lib.hid hB3;have HF3:=Lib.hid hF3
 clear hB3 hF3
 go_wp2_with fail
 go_ret
 refine ⟨rfl,⟨HB3.out,In.fr im HF3.out ?_,In.fr ir2' HF3.out ?_⟩,HF12.out.trans HF3.out (fun _ _ h=>h) (fun _ _ h=>.inr h)⟩
 ·intro x hx e
  subst e
  simp only [AT.mk,AT.fp,List.mem_cons,List.mem_append] at hx
  rcases hx with e|hx|hx
  ·exact nbb e.symm
  ·exact nb'l hx
  ·exact nbl2 hx
 ·intro x hx e
  subst e
  exact nbr2 hx
theorem turnHigh (b:Nat) (k:ByteArray) (v:Sn) (b':Nat) (k':ByteArray) (v':Sn) (l' r':AT ByteArray Sn) (d':Int) (r:AT ByteArray Sn) (d:Int) (w:World)
  (h:In w (.node b k v (.node b' k' v' l' r' d') r d)) (nd:(AT.node b k v (.node b' k' v' l' r' d') r d).fp.Nodup) (wr:r.wd) (wl':l'.wd) (wr':r'.wd) (sz:r.size+l'.size+r'.size<2305843009213693952):
  Calls prog 120 #[.pointer (some ⟨b,0,none⟩)] w fun e w'=>e=.returned (.pointer (some ⟨b',0,none⟩))∧
   In w' (AT.turnHigh (.node b k v (.node b' k' v' l' r' d') r d))∧Fr (fun x=>x=b∨x=b') w w':=by
 rw [AT.turnHigh_node]
 obtain ⟨hb,⟨hb',hl',hr'⟩,hr⟩:=h
 simp only [AT.fp,List.nodup_cons,List.mem_append,List.mem_cons,not_or,List.nodup_append] at nd
 obtain ⟨⟨⟨nbb,nbl',nbr'⟩,nbr⟩,⟨⟨nbl2,nbr2⟩,ndl',ndr',ndlr⟩,ndr,ndx⟩:=nd
 have nb'r:b'∉r.fp:=fun x=>ndx b' (.inl rfl) b' x rfl
 have D0:=wr.dep0;have D1:=wr.dep_le;have D2:=wl'.dep0;have D3:=wl'.dep_le;have D4:=wr'.dep0;have D5:=wr'.dep_le
 rw [AT.adr_node] at hb
 obtain ⟨-,c2,-,-,cf⟩:=cells hb
 obtain ⟨-,c2',c3',-,cf'⟩:=cells hb'
 have hf1:Fr (fun x=>x=b∨x=b') w ((w.setCell ⟨b,10,none⟩ (.pointer r'.adr)).setCell ⟨b',11,none⟩ (.pointer (some ⟨b,0,none⟩))):=
  (Fr.setCell w ⟨b,10,none⟩ _ (S:=fun x=>x=b∨x=b') (.inl rfl)).trans (Fr.setCell _ ⟨b',11,none⟩ _ (S:=fun x=>x=b∨x=b') (.inr rfl)) (fun _ _ h=>h) (fun _ _ h=>h)
 have hB1:((w.setCell ⟨b,10,none⟩ (.pointer r'.adr)).setCell ⟨b',11,none⟩ (.pointer (some ⟨b,0,none⟩))).heap[b]? =some (.cells (blk k v r'.adr r.adr d) 126 (0,0)):=heap_other (set_lo hb _) nbb
 have hB1':((w.setCell ⟨b,10,none⟩ (.pointer r'.adr)).setCell ⟨b',11,none⟩ (.pointer (some ⟨b,0,none⟩))).heap[b']? =some (.cells (blk k' v' l'.adr (some ⟨b,0,none⟩) d') 126 (0,0)):=set_hi (heap_other hb' (Ne.symm nbb)) _
 have HF1:=Lib.hid hf1;have HB1:=Lib.hid hB1;have HB1':=Lib.hid hB1'
 clear hf1 hB1 hB1' hb hb'
 go_enter func120,ntmps120
 go_wp2_with fail
 refine (measure b k v r' r d _ HB1.out (In.fr hr' HF1.out (fun x hx h=>h.elim (fun e=>nbr' (e▸hx)) (fun e=>nbr2 (e▸hx)))) (In.fr hr HF1.out (fun x hx h=>h.elim (fun e=>nbr (e▸hx)) (fun e=>nb'r (e▸hx)))) (by omega) (by omega) (by omega) (by omega)).mono ?_
 rintro e w2 ⟨rfl,hB2,hF2⟩
 have hB2':=(hF2.block b' (lt_of_heap HB1'.out) (Ne.symm nbb)).trans HB1'.out
 have hF12:=HF1.out.trans hF2 (T:=fun x=>x=b∨x=b') (fun _ _ h=>h) (fun _ _ h=>.inl h)
 have ir2:In w2 r:=In.fr hr hF12 (fun x hx h=>h.elim (fun e=>nbr (e▸hx)) (fun e=>nb'r (e▸hx)))
 have il2':In w2 l':=In.fr hl' hF12 (fun x hx h=>h.elim (fun e=>nbl' (e▸hx)) (fun e=>nbl2 (e▸hx)))
 have ir2':In w2 r':=In.fr hr' hF12 (fun x hx h=>h.elim (fun e=>nbr' (e▸hx)) (fun e=>nbr2 (e▸hx)))
 have HB2:=Lib.hid hB2;have HB2':=Lib.hid hB2';have HF12:=Lib.hid hF12
 clear hB2 hB2' hF12 hF2 HF1 HB1 HB1' c2 cf c2' c3' cf' hr hl' hr'
 have im:In w2 (AT.mk b k v r' r):=⟨HB2.out,ir2',ir2⟩
 go_wp2_with fail
 refine (measure b' k' v' l' (AT.mk b k v r' r) d' w2 HB2'.out il2' im (by omega) (by omega) (by rw [AT.dep_mk];omega) (by rw [AT.dep_mk];omega)).mono ?_
 rintro e w3 ⟨rfl,hB3,hF3⟩
 have HB3:=Lib.hid hB3;have HF3:=Lib.hid hF3
 clear hB3 hF3
 go_wp2_with fail
 go_ret
 refine ⟨rfl,⟨HB3.out,In.fr il2' HF3.out ?_,In.fr im HF3.out ?_⟩,HF12.out.trans HF3.out (fun _ _ h=>h) (fun _ _ h=>.inr h)⟩
 ·intro x hx e
  subst e
  exact nbl2 hx
 ·intro x hx e
  subst e
  simp only [AT.mk,AT.fp,List.mem_cons,List.mem_append] at hx
  rcases hx with e|hx|hx
  ·exact nbb e.symm
  ·exact nbr2 hx
  ·exact nb'r hx
end AvlSS
set_option maxRecDepth 100000
namespace AvlSS
theorem level_else (b:Nat) (k:ByteArray) (v:Sn) (l r:AT ByteArray Sn) (d:Int) (w:World)
  (h:In w (.node b k v l r d)) (nd:(AT.node b k v l r d).fp.Nodup) (wl:l.wd) (wr:r.wd) (sz:l.size+r.size<1152921504606846976) (e1:¬r.dep-l.dep=2) (e2:¬r.dep-l.dep= -2):
  Calls prog 102 #[.pointer (some ⟨b,0,none⟩)] w fun e w'=>e=.returned (.pointer (AT.level b k v l r).adr)∧In w' (AT.level b k v l r)∧Fr (fun x=>x∈(AT.node b k v l r d).fp) w w':=by
 have hlev:AT.level b k v l r=AT.mk b k v l r:=by rw [AT.level,if_neg e1,if_neg e2]
 have t1:((r.dep-l.dep)==2)=false:=beq_eq_false_iff_ne.2 e1
 have t2:((r.dep-l.dep)== -2)=false:=beq_eq_false_iff_ne.2 e2
 rw [hlev]
 clear hlev
 obtain ⟨hb,hl,hr⟩:=h
 have nd0:=Lib.hid nd
 obtain ⟨nbl,nbr,ndl,ndr,ndx⟩:=AT.nodup_node.1 nd
 clear nd
 have D0:=wl.dep0;have D1:=wl.dep_le;have D2:=wr.dep0;have D3:=wr.dep_le
 have HB:=Lib.hid hb
 clear hb
 go_enter func102,ntmps102
 go_wp2_with fail
 refine (measure b k v l r d w HB.out hl hr (by omega) (by omega) (by omega) (by omega)).mono ?_
 rintro e w1 ⟨rfl,hB1,hF1⟩
 have hl1:In w1 l:=In.fr hl hF1 (fun x hx e=>nbl (e▸hx))
 have hr1:In w1 r:=In.fr hr hF1 (fun x hx e=>nbr (e▸hx))
 have hm1:In w1 (.node b k v l r (1+max l.dep r.dep)):=⟨hB1,hl1,hr1⟩
 have HF1:=Lib.hid hF1
 clear hF1 hB1 hl hr HB
 go_wp2_with fail
 refine (lean b k v l r _ w1 hm1 (by omega) (by omega) (by omega) (by omega)).mono ?_
 rintro e w2 ⟨rfl,rfl⟩
 have HF2:Hid (Fr (· =b) w w1.drew):=HF1.out.trans (Fr.drew (fun _=>False) _) (fun _ _ h=>h) (fun _ _ h=>h.elim)
 have hm2:In w1.drew (.node b k v l r (1+max l.dep r.dep)):=In.fr hm1 (Fr.drew (fun _=>False) _) (fun _ _ h=>h)
 clear HF1 hl1 hr1 hm1
 generalize w1.drew=w2 at *
 clear w1
 have HM2:=Lib.hid hm2
 clear hm2
 go_wp2_with fail
 go_ret
 exact ⟨rfl,HM2.out,HF2.out.mono (fun i _ h=>by rw [h];simp [AT.fp])⟩
theorem level_hi (b:Nat) (k:ByteArray) (v:Sn) (l r:AT ByteArray Sn) (d:Int) (w:World)
  (h:In w (.node b k v l r d)) (nd:(AT.node b k v l r d).fp.Nodup) (wl:l.wd) (wr:r.wd) (sz:l.size+r.size<1152921504606846976) (e1:r.dep-l.dep=2) (e2:¬r.lean<0):
  Calls prog 102 #[.pointer (some ⟨b,0,none⟩)] w fun e w'=>e=.returned (.pointer (AT.level b k v l r).adr)∧In w' (AT.level b k v l r)∧Fr (fun x=>x∈(AT.node b k v l r d).fp) w w':=by
 have hlev:AT.level b k v l r=AT.turnLow (AT.mk b k v l r):=by rw [AT.level,if_pos e1,if_neg e2]
 have t1:((r.dep-l.dep)==2)=true:=beq_iff_eq.2 e1
 have l0:=wl.dep0
 rw [hlev]
 clear hlev
 cases r with
 |nil=>rw [AT.dep_nil] at e1;omega
 |node b1 k1 v1 l1 r1 d1=>
 obtain ⟨wd1,wd2,wd3⟩:=id wr
 have E1:=Lib.hid e1
 rw [AT.lean_node] at e2
 have e3:0≤r1.dep-l1.dep:=by omega
 have F0:=wd1.dep0;have F1:=wd1.dep_le;have F2:=wd2.dep0;have F3:=wd2.dep_le
 have S1:(AT.node b1 k1 v1 l1 r1 d1).size=l1.size+r1.size+1:=rfl
 have sz':l.size+l1.size+r1.size<1152921504606846976:=by omega
 clear wd3 e1
 obtain ⟨hb,hl,hr⟩:=h
 have nd0:=Lib.hid nd
 obtain ⟨nbl,nbr,ndl,ndr,ndx⟩:=AT.nodup_node.1 nd
 clear nd
 have D0:=wl.dep0;have D1:=wl.dep_le;have D2:=wr.dep0;have D3:=wr.dep_le
 have HB:=Lib.hid hb
 clear hb
 go_enter func102,ntmps102
 go_wp2_with fail
 refine (measure b k v l (AT.node b1 k1 v1 l1 r1 d1) d w HB.out hl hr (by omega) (by omega) (by omega) (by omega)).mono ?_
 rintro e w1 ⟨rfl,hB1,hF1⟩
 have hl1:In w1 l:=In.fr hl hF1 (fun x hx e=>nbl (e▸hx))
 have hr1:In w1 (AT.node b1 k1 v1 l1 r1 d1):=In.fr hr hF1 (fun x hx e=>nbr (e▸hx))
 have hm1:In w1 (.node b k v l (AT.node b1 k1 v1 l1 r1 d1) (1+max l.dep (AT.node b1 k1 v1 l1 r1 d1).dep)):=⟨hB1,hl1,hr1⟩
 have HF1:=Lib.hid hF1
 clear hF1 hB1 hl hr HB
 go_wp2_with fail
 refine (lean b k v l (AT.node b1 k1 v1 l1 r1 d1) _ w1 hm1 (by omega) (by omega) (by omega) (by omega)).mono ?_
 rintro e w2 ⟨rfl,rfl⟩
 have HF2:Hid (Fr (· =b) w w1.drew):=HF1.out.trans (Fr.drew (fun _=>False) _) (fun _ _ h=>h) (fun _ _ h=>h.elim)
 have hm2:In w1.drew (.node b k v l (AT.node b1 k1 v1 l1 r1 d1) (1+max l.dep (AT.node b1 k1 v1 l1 r1 d1).dep)):=In.fr hm1 (Fr.drew (fun _=>False) _) (fun _ _ h=>h)
 clear HF1 hl1 hr1 hm1
 generalize w1.drew=w2 at *
 clear w1
 have hm3:=Lib.hid hm2
 obtain ⟨hb2,hl2,hr2⟩:=hm2
 rw [AT.adr_node] at hb2
 obtain ⟨-,-,c3,-,-⟩:=cells hb2
 clear hb2 S1
 go_wp2_with fail
 refine (lean b1 k1 v1 l1 r1 d1 w2 hr2 (by omega) (by omega) (by omega) (by omega)).mono ?_
 rintro e w3 ⟨rfl,rfl⟩
 have HF3:Hid (Fr (· =b) w w2.drew):=HF2.out.trans (Fr.drew (fun _=>False) _) (fun _ _ h=>h) (fun _ _ h=>h.elim)
 have HM3:Hid (In w2.drew (.node b k v l (AT.node b1 k1 v1 l1 r1 d1) (1+max l.dep (AT.node b1 k1 v1 l1 r1 d1).dep))):=In.fr hm3.out (Fr.drew (fun _=>False) _) (fun _ _ h=>h)
 clear HF2 hm3 hl2 hr2 c3
 generalize w2.drew=w3 at *
 clear w2
 go_wp2_with fail
 refine (turnLow b k v l b1 k1 v1 l1 r1 d1 _ w3 HM3.out (nd0.out) wl wd1 wd2 (by omega)).mono ?_
 rintro e w4 ⟨rfl,HI,HF⟩
 have HI4:=Lib.hid HI;have HF4:=Lib.hid HF
 clear HI HF
 go_wp2_with fail
 go_ret
 refine ⟨rfl,HI4.out,HF3.out.trans HF4.out (fun i _ h=>by rw [h];simp [AT.fp]) (fun i _ h=>by rcases h with h|h<;>rw [h]<;>simp [AT.fp])⟩
theorem level_hilo (b:Nat) (k:ByteArray) (v:Sn) (l r:AT ByteArray Sn) (d:Int) (w:World)
  (h:In w (.node b k v l r d)) (nd:(AT.node b k v l r d).fp.Nodup) (wl:l.wd) (wr:r.wd) (sz:l.size+r.size<1152921504606846976) (e1:r.dep-l.dep=2) (e2:r.lean<0):
  Calls prog 102 #[.pointer (some ⟨b,0,none⟩)] w fun e w'=>e=.returned (.pointer (AT.level b k v l r).adr)∧In w' (AT.level b k v l r)∧Fr (fun x=>x∈(AT.node b k v l r d).fp) w w':=by
 have hlev:AT.level b k v l r=AT.turnLow (AT.mk b k v l (AT.turnHigh r)):=by rw [AT.level,if_pos e1,if_pos e2]
 have t1:((r.dep-l.dep)==2)=true:=beq_iff_eq.2 e1
 have l0:=wl.dep0
 rw [hlev]
 clear hlev
 cases r with
 |nil=>rw [AT.dep_nil] at e1;omega
 |node b1 k1 v1 l1 r1 d1=>
 obtain ⟨wd1,wd2,wd3⟩:=id wr
 have E1:=Lib.hid e1
 rw [AT.lean_node] at e2
 have F0:=wd1.dep0;have F1:=wd1.dep_le;have F2:=wd2.dep0;have F3:=wd2.dep_le
 have S1:(AT.node b1 k1 v1 l1 r1 d1).size=l1.size+r1.size+1:=rfl
 have sz':l.size+l1.size+r1.size<1152921504606846976:=by omega
 clear wd3 e1
 obtain ⟨hb,hl,hr⟩:=h
 have nd0:=Lib.hid nd
 obtain ⟨nbl,nbr,ndl,ndr,ndx⟩:=AT.nodup_node.1 nd
 clear nd
 have D0:=wl.dep0;have D1:=wl.dep_le;have D2:=wr.dep0;have D3:=wr.dep_le
 have HB:=Lib.hid hb
 clear hb
 go_enter func102,ntmps102
 go_wp2_with fail
 refine (measure b k v l (AT.node b1 k1 v1 l1 r1 d1) d w HB.out hl hr (by omega) (by omega) (by omega) (by omega)).mono ?_
 rintro e w1 ⟨rfl,hB1,hF1⟩
 have hl1:In w1 l:=In.fr hl hF1 (fun x hx e=>nbl (e▸hx))
 have hr1:In w1 (AT.node b1 k1 v1 l1 r1 d1):=In.fr hr hF1 (fun x hx e=>nbr (e▸hx))
 have hm1:In w1 (.node b k v l (AT.node b1 k1 v1 l1 r1 d1) (1+max l.dep (AT.node b1 k1 v1 l1 r1 d1).dep)):=⟨hB1,hl1,hr1⟩
 have HF1:=Lib.hid hF1
 clear hF1 hB1 hl hr HB
 go_wp2_with fail
 refine (lean b k v l (AT.node b1 k1 v1 l1 r1 d1) _ w1 hm1 (by omega) (by omega) (by omega) (by omega)).mono ?_
 rintro e w2 ⟨rfl,rfl⟩
 have HF2:Hid (Fr (· =b) w w1.drew):=HF1.out.trans (Fr.drew (fun _=>False) _) (fun _ _ h=>h) (fun _ _ h=>h.elim)
 have hm2:In w1.drew (.node b k v l (AT.node b1 k1 v1 l1 r1 d1) (1+max l.dep (AT.node b1 k1 v1 l1 r1 d1).dep)):=In.fr hm1 (Fr.drew (fun _=>False) _) (fun _ _ h=>h)
 clear HF1 hl1 hr1 hm1
 generalize w1.drew=w2 at *
 clear w1
 have hm3:=Lib.hid hm2
 obtain ⟨hb2,hl2,hr2⟩:=hm2
 rw [AT.adr_node] at hb2
 obtain ⟨-,-,c3,-,-⟩:=cells hb2
 clear hb2 S1
 go_wp2_with fail
 refine (lean b1 k1 v1 l1 r1 d1 w2 hr2 (by omega) (by omega) (by omega) (by omega)).mono ?_
 rintro e w3 ⟨rfl,rfl⟩
 have HF3:Hid (Fr (· =b) w w2.drew):=HF2.out.trans (Fr.drew (fun _=>False) _) (fun _ _ h=>h) (fun _ _ h=>h.elim)
 have HM3:Hid (In w2.drew (.node b k v l (AT.node b1 k1 v1 l1 r1 d1) (1+max l.dep (AT.node b1 k1 v1 l1 r1 d1).dep))):=In.fr hm3.out (Fr.drew (fun _=>False) _) (fun _ _ h=>h)
 clear HF2 hm3 hl2 hr2 c3
 generalize w2.drew=w3 at *
 clear w2
 cases l1 with
 |nil=>rw [AT.dep_nil] at e2;omega
 |node b2 k2 v2 l2 r2 d2=>
 obtain ⟨wd3,wd4,wd5⟩:=id wd1
 have G0:=wd3.dep0;have G1:=wd3.dep_le;have G2:=wd4.dep0;have G3:=wd4.dep_le
 have S2:(AT.node b2 k2 v2 l2 r2 d2).size=l2.size+r2.size+1:=rfl
 have sz2:l.size+l2.size+r2.size+r1.size<1152921504606846976:=by omega
 clear S2 wd5
 obtain ⟨hb3,hl3,hr3⟩:=HM3.out
 rw [AT.adr_node] at hb3
 obtain ⟨-,-,c3,-,-⟩:=cells hb3
 have HB3:=Lib.hid hb3
 clear hb3
 have ndr2:=Lib.hid ndr
 go_wp2_with fail
 refine (turnHigh b1 k1 v1 b2 k2 v2 l2 r2 d2 r1 d1 w3 hr3 ndr2.out wd2 wd3 wd4 (by omega)).mono ?_
 rintro e w4 ⟨rfl,HI,HF⟩
 have nb1:b≠b1:=fun e=>nbr (by rw [e];simp [AT.fp])
 have nb2:b≠b2:=fun e=>nbr (by rw [e];simp [AT.fp])
 have hB4:=(HF.block b (lt_of_heap HB3.out) (fun h=>h.elim nb1 nb2)).trans HB3.out
 have hl4:In w4 l:=In.fr hl3 HF (fun x hx h=>by rcases h with h|h<;>exact ndx x hx x (by rw [h];simp [AT.fp]) rfl)
 have HI4:=Lib.hid HI;have HF4:=Lib.hid (HF3.out.trans HF (T:=fun x=>x=b∨x=b1∨x=b2) (fun i _ h=>.inl h) (fun i _ h=>.inr h))
 obtain ⟨-,-,c4,-,cf4⟩:=cells hB4
 have HB5:=Lib.hid (set_hi hB4 (some ⟨b2,0,none⟩))
 have HF5:Hid (Fr (fun x=>x=b∨x=b1∨x=b2) w (w4.setCell ⟨b,11,none⟩ (.pointer (some ⟨b2,0,none⟩)))):=HF4.out.trans (Fr.setCell w4 ⟨b,11,none⟩ _ (S:=(· =b)) rfl) (fun i _ h=>h) (fun i _ h=>.inl h)
 have HL5:Hid (In (w4.setCell ⟨b,11,none⟩ (.pointer (some ⟨b2,0,none⟩))) l):=In.fr hl4 (Fr.setCell w4 ⟨b,11,none⟩ _ (S:=(· =b)) rfl) (fun x hx h=>nbl (h▸hx))
 have HR5:Hid (In (w4.setCell ⟨b,11,none⟩ (.pointer (some ⟨b2,0,none⟩))) (AT.turnHigh (.node b1 k1 v1 (.node b2 k2 v2 l2 r2 d2) r1 d1))):=In.fr HI4.out (Fr.setCell w4 ⟨b,11,none⟩ _ (S:=(· =b)) rfl) (fun x hx h=>nbr (h▸((AT.perm_turnHigh _).mem_iff.1 hx)))
 clear HI HF hB4 hl4 hl3 hr3 c3 HB3 HM3 HF3 HF4 HI4
 go_wp2_with fail
 clear c4 cf4
 generalize (w4.setCell ⟨b,11,none⟩ (.pointer (some ⟨b2,0,none⟩)))=w5 at *
 refine (turnLow b k v l b2 k2 v2 l2 (AT.mk b1 k1 v1 r2 r1) _ _ w5 ⟨HB5.out,HL5.out,HR5.out⟩ ?_ wl wd3 (AT.wd_mk wd4 wd2) ?_).mono ?_
 ·have hp:=(AT.perm_turnHigh (.node b1 k1 v1 (.node b2 k2 v2 l2 r2 d2) r1 d1)).nodup_iff.2 ndr2.out
  have hm:=fun x=>(AT.perm_turnHigh (.node b1 k1 v1 (.node b2 k2 v2 l2 r2 d2) r1 d1)).mem_iff (a:=x)
  rw [AT.turnHigh_node] at hp hm
  show (b::(l.fp++(AT.mk b2 k2 v2 l2 (AT.mk b1 k1 v1 r2 r1)).fp)).Nodup
  simp only [List.nodup_cons,List.mem_append,not_or,List.nodup_append]
  exact ⟨⟨nbl,fun h=>nbr ((hm b).1 h)⟩,ndl,hp,fun x hx y hy=>ndx x hx y ((hm y).1 hy)⟩
 ·simp only [AT.mk,AT.size];omega
 rintro e w6 ⟨rfl,HI,HF⟩
 have HI6:=Lib.hid HI;have HF6:=Lib.hid HF
 clear HI HF
 go_wp2_with fail
 go_ret
 refine ⟨rfl,HI6.out,HF5.out.trans HF6.out (fun i _ h=>by rcases h with h|h|h<;>rw [h]<;>simp [AT.fp]) (fun i _ h=>by rcases h with h|h<;>rw [h]<;>simp [AT.fp])⟩
theorem level_lo (b:Nat) (k:ByteArray) (v:Sn) (l r:AT ByteArray Sn) (d:Int) (w:World)
  (h:In w (.node b k v l r d)) (nd:(AT.node b k v l r d).fp.Nodup) (wl:l.wd) (wr:r.wd) (sz:l.size+r.size<1152921504606846976) (e1:r.dep-l.dep= -2) (e2:¬0<l.lean):
  Calls prog 102 #[.pointer (some ⟨b,0,none⟩)] w fun e w'=>e=.returned (.pointer (AT.level b k v l r).adr)∧In w' (AT.level b k v l r)∧Fr (fun x=>x∈(AT.node b k v l r d).fp) w w':=by
 have hlev:AT.level b k v l r=AT.turnHigh (AT.mk b k v l r):=by rw [AT.level,if_neg (by omega),if_pos e1,if_neg e2]
 have t1:((r.dep-l.dep)==2)=false:=beq_eq_false_iff_ne.2 (by omega)
 have t2:((r.dep-l.dep)== -2)=true:=beq_iff_eq.2 e1
 have r0:=wr.dep0
 rw [hlev]
 clear hlev
 cases l with
 |nil=>rw [AT.dep_nil] at e1;omega
 |node b1 k1 v1 l1 r1 d1=>
 obtain ⟨wd1,wd2,wd3⟩:=id wl
 have E1:=Lib.hid e1
 rw [AT.lean_node] at e2
 have e3:r1.dep-l1.dep≤0:=by omega
 have F0:=wd1.dep0;have F1:=wd1.dep_le;have F2:=wd2.dep0;have F3:=wd2.dep_le
 have S1:(AT.node b1 k1 v1 l1 r1 d1).size=l1.size+r1.size+1:=rfl
 have sz':r.size+l1.size+r1.size<1152921504606846976:=by omega
 clear wd3 e1
 obtain ⟨hb,hl,hr⟩:=h
 have nd0:=Lib.hid nd
 obtain ⟨nbl,nbr,ndl,ndr,ndx⟩:=AT.nodup_node.1 nd
 clear nd
 have D0:=wl.dep0;have D1:=wl.dep_le;have D2:=wr.dep0;have D3:=wr.dep_le
 have HB:=Lib.hid hb
 clear hb
 go_enter func102,ntmps102
 go_wp2_with fail
 refine (measure b k v (AT.node b1 k1 v1 l1 r1 d1) r d w HB.out hl hr (by omega) (by omega) (by omega) (by omega)).mono ?_
 rintro e w1 ⟨rfl,hB1,hF1⟩
 have hl1:In w1 (AT.node b1 k1 v1 l1 r1 d1):=In.fr hl hF1 (fun x hx e=>nbl (e▸hx))
 have hr1:In w1 r:=In.fr hr hF1 (fun x hx e=>nbr (e▸hx))
 have hm1:In w1 (.node b k v (AT.node b1 k1 v1 l1 r1 d1) r (1+max (AT.node b1 k1 v1 l1 r1 d1).dep r.dep)):=⟨hB1,hl1,hr1⟩
 have HF1:=Lib.hid hF1
 clear hF1 hB1 hl hr HB
 go_wp2_with fail
 refine (lean b k v (AT.node b1 k1 v1 l1 r1 d1) r _ w1 hm1 (by omega) (by omega) (by omega) (by omega)).mono ?_
 rintro e w2 ⟨rfl,rfl⟩
 have HF2:Hid (Fr (· =b) w w1.drew):=HF1.out.trans (Fr.drew (fun _=>False) _) (fun _ _ h=>h) (fun _ _ h=>h.elim)
 have hm2:In w1.drew (.node b k v (AT.node b1 k1 v1 l1 r1 d1) r (1+max (AT.node b1 k1 v1 l1 r1 d1).dep r.dep)):=In.fr hm1 (Fr.drew (fun _=>False) _) (fun _ _ h=>h)
 clear HF1 hl1 hr1 hm1
 generalize w1.drew=w2 at *
 clear w1
 have hm3:=Lib.hid hm2
 obtain ⟨hb2,hl2,hr2⟩:=hm2
 rw [AT.adr_node] at hb2
 obtain ⟨-,c3,-,-,-⟩:=cells hb2
 clear hb2 S1
 go_wp2_with fail
 refine (lean b1 k1 v1 l1 r1 d1 w2 hl2 (by omega) (by omega) (by omega) (by omega)).mono ?_
 rintro e w3 ⟨rfl,rfl⟩
 have HF3:Hid (Fr (· =b) w w2.drew):=HF2.out.trans (Fr.drew (fun _=>False) _) (fun _ _ h=>h) (fun _ _ h=>h.elim)
 have HM3:Hid (In w2.drew (.node b k v (AT.node b1 k1 v1 l1 r1 d1) r (1+max (AT.node b1 k1 v1 l1 r1 d1).dep r.dep))):=In.fr hm3.out (Fr.drew (fun _=>False) _) (fun _ _ h=>h)
 clear HF2 hm3 hl2 hr2 c3
 generalize w2.drew=w3 at *
 clear w2
 go_wp2_with fail
 refine (turnHigh b k v b1 k1 v1 l1 r1 d1 r _ w3 HM3.out (nd0.out) wr wd1 wd2 (by omega)).mono ?_
 rintro e w4 ⟨rfl,HI,HF⟩
 have HI4:=Lib.hid HI;have HF4:=Lib.hid HF
 clear HI HF
 go_wp2_with fail
 go_ret
 refine ⟨rfl,HI4.out,HF3.out.trans HF4.out (fun i _ h=>by rw [h];simp [AT.fp]) (fun i _ h=>by rcases h with h|h<;>rw [h]<;>simp [AT.fp])⟩
theorem level_lohi (b:Nat) (k:ByteArray) (v:Sn) (l r:AT ByteArray Sn) (d:Int) (w:World)
  (h:In w (.node b k v l r d)) (nd:(AT.node b k v l r d).fp.Nodup) (wl:l.wd) (wr:r.wd) (sz:l.size+r.size<1152921504606846976) (e1:r.dep-l.dep= -2) (e2:0<l.lean):
  Calls prog 102 #[.pointer (some ⟨b,0,none⟩)] w fun e w'=>e=.returned (.pointer (AT.level b k v l r).adr)∧In w' (AT.level b k v l r)∧Fr (fun x=>x∈(AT.node b k v l r d).fp) w w':=by
 have hlev:AT.level b k v l r=AT.turnHigh (AT.mk b k v (AT.turnLow l) r):=by rw [AT.level,if_neg (by omega),if_pos e1,if_pos e2]
 have t1:((r.dep-l.dep)==2)=false:=beq_eq_false_iff_ne.2 (by omega)
 have t2:((r.dep-l.dep)== -2)=true:=beq_iff_eq.2 e1
 have r0:=wr.dep0
 rw [hlev]
 clear hlev
 cases l with
 |nil=>rw [AT.dep_nil] at e1;omega
 |node b1 k1 v1 l1 r1 d1=>
 obtain ⟨wd1,wd2,wd3⟩:=id wl
 have E1:=Lib.hid e1
 rw [AT.lean_node] at e2
 have F0:=wd1.dep0;have F1:=wd1.dep_le;have F2:=wd2.dep0;have F3:=wd2.dep_le
 have S1:(AT.node b1 k1 v1 l1 r1 d1).size=l1.size+r1.size+1:=rfl
 have sz':r.size+l1.size+r1.size<1152921504606846976:=by omega
 clear wd3 e1
 obtain ⟨hb,hl,hr⟩:=h
 have nd0:=Lib.hid nd
 obtain ⟨nbl,nbr,ndl,ndr,ndx⟩:=AT.nodup_node.1 nd
 clear nd
 have D0:=wl.dep0;have D1:=wl.dep_le;have D2:=wr.dep0;have D3:=wr.dep_le
 have HB:=Lib.hid hb
 clear hb
 go_enter func102,ntmps102
 go_wp2_with fail
 refine (measure b k v (AT.node b1 k1 v1 l1 r1 d1) r d w HB.out hl hr (by omega) (by omega) (by omega) (by omega)).mono ?_
 rintro e w1 ⟨rfl,hB1,hF1⟩
 have hl1:In w1 (AT.node b1 k1 v1 l1 r1 d1):=In.fr hl hF1 (fun x hx e=>nbl (e▸hx))
 have hr1:In w1 r:=In.fr hr hF1 (fun x hx e=>nbr (e▸hx))
 have hm1:In w1 (.node b k v (AT.node b1 k1 v1 l1 r1 d1) r (1+max (AT.node b1 k1 v1 l1 r1 d1).dep r.dep)):=⟨hB1,hl1,hr1⟩
 have HF1:=Lib.hid hF1
 clear hF1 hB1 hl hr HB
 go_wp2_with fail
 refine (lean b k v (AT.node b1 k1 v1 l1 r1 d1) r _ w1 hm1 (by omega) (by omega) (by omega) (by omega)).mono ?_
 rintro e w2 ⟨rfl,rfl⟩
 have HF2:Hid (Fr (· =b) w w1.drew):=HF1.out.trans (Fr.drew (fun _=>False) _) (fun _ _ h=>h) (fun _ _ h=>h.elim)
 have hm2:In w1.drew (.node b k v (AT.node b1 k1 v1 l1 r1 d1) r (1+max (AT.node b1 k1 v1 l1 r1 d1).dep r.dep)):=In.fr hm1 (Fr.drew (fun _=>False) _) (fun _ _ h=>h)
 clear HF1 hl1 hr1 hm1
 generalize w1.drew=w2 at *
 clear w1
 have hm3:=Lib.hid hm2
 obtain ⟨hb2,hl2,hr2⟩:=hm2
 rw [AT.adr_node] at hb2
 obtain ⟨-,c3,-,-,-⟩:=cells hb2
 clear hb2 S1
 go_wp2_with fail
 refine (lean b1 k1 v1 l1 r1 d1 w2 hl2 (by omega) (by omega) (by omega) (by omega)).mono ?_
 rintro e w3 ⟨rfl,rfl⟩
 have HF3:Hid (Fr (· =b) w w2.drew):=HF2.out.trans (Fr.drew (fun _=>False) _) (fun _ _ h=>h) (fun _ _ h=>h.elim)
 have HM3:Hid (In w2.drew (.node b k v (AT.node b1 k1 v1 l1 r1 d1) r (1+max (AT.node b1 k1 v1 l1 r1 d1).dep r.dep))):=In.fr hm3.out (Fr.drew (fun _=>False) _) (fun _ _ h=>h)
 clear HF2 hm3 hl2 hr2 c3
 generalize w2.drew=w3 at *
 clear w2
 cases r1 with
 |nil=>rw [AT.dep_nil] at e2;omega
 |node b2 k2 v2 l2 r2 d2=>
 obtain ⟨wd3,wd4,wd5⟩:=id wd2
 have G0:=wd3.dep0;have G1:=wd3.dep_le;have G2:=wd4.dep0;have G3:=wd4.dep_le
 have S2:(AT.node b2 k2 v2 l2 r2 d2).size=l2.size+r2.size+1:=rfl
 have sz2:r.size+l2.size+r2.size+l1.size<1152921504606846976:=by omega
 clear S2 wd5
 obtain ⟨hb3,hl3,hr3⟩:=HM3.out
 rw [AT.adr_node] at hb3
 obtain ⟨-,c3,-,-,-⟩:=cells hb3
 have HB3:=Lib.hid hb3
 clear hb3
 have ndl2:=Lib.hid ndl
 go_wp2_with fail
 refine (turnLow b1 k1 v1 l1 b2 k2 v2 l2 r2 d2 d1 w3 hl3 ndl2.out wd1 wd3 wd4 (by omega)).mono ?_
 rintro e w4 ⟨rfl,HI,HF⟩
 have nb1:b≠b1:=fun e=>nbl (by rw [e];simp [AT.fp])
 have nb2:b≠b2:=fun e=>nbl (by rw [e];simp [AT.fp])
 have hB4:=(HF.block b (lt_of_heap HB3.out) (fun h=>h.elim nb1 nb2)).trans HB3.out
 have hr4:In w4 r:=In.fr hr3 HF (fun x hx h=>by rcases h with h|h<;>exact ndx x (by rw [h];simp [AT.fp]) x hx rfl)
 have HI4:=Lib.hid HI;have HF4:=Lib.hid (HF3.out.trans HF (T:=fun x=>x=b∨x=b1∨x=b2) (fun i _ h=>.inl h) (fun i _ h=>.inr h))
 obtain ⟨-,c4,-,-,cf4⟩:=cells hB4
 have HB5:=Lib.hid (set_lo hB4 (some ⟨b2,0,none⟩))
 have HF5:Hid (Fr (fun x=>x=b∨x=b1∨x=b2) w (w4.setCell ⟨b,10,none⟩ (.pointer (some ⟨b2,0,none⟩)))):=HF4.out.trans (Fr.setCell w4 ⟨b,10,none⟩ _ (S:=(· =b)) rfl) (fun i _ h=>h) (fun i _ h=>.inl h)
 have HR5:Hid (In (w4.setCell ⟨b,10,none⟩ (.pointer (some ⟨b2,0,none⟩))) r):=In.fr hr4 (Fr.setCell w4 ⟨b,10,none⟩ _ (S:=(· =b)) rfl) (fun x hx h=>nbr (h▸hx))
 have HL5:Hid (In (w4.setCell ⟨b,10,none⟩ (.pointer (some ⟨b2,0,none⟩))) (AT.turnLow (.node b1 k1 v1 l1 (.node b2 k2 v2 l2 r2 d2) d1))):=In.fr HI4.out (Fr.setCell w4 ⟨b,10,none⟩ _ (S:=(· =b)) rfl) (fun x hx h=>nbl (h▸((AT.perm_turnLow _).mem_iff.1 hx)))
 clear HI HF hB4 hr4 hl3 hr3 c3 HB3 HM3 HF3 HF4 HI4
 go_wp2_with fail
 clear c4 cf4
 generalize (w4.setCell ⟨b,10,none⟩ (.pointer (some ⟨b2,0,none⟩)))=w5 at *
 refine (turnHigh b k v b2 k2 v2 (AT.mk b1 k1 v1 l1 l2) r2 _ r _ w5 ⟨HB5.out,HL5.out,HR5.out⟩ ?_ wr (AT.wd_mk wd1 wd3) wd4 ?_).mono ?_
 ·have hp:=(AT.perm_turnLow (.node b1 k1 v1 l1 (.node b2 k2 v2 l2 r2 d2) d1)).nodup_iff.2 ndl2.out
  have hm:=fun x=>(AT.perm_turnLow (.node b1 k1 v1 l1 (.node b2 k2 v2 l2 r2 d2) d1)).mem_iff (a:=x)
  rw [AT.turnLow_node] at hp hm
  show (b::((AT.mk b2 k2 v2 (AT.mk b1 k1 v1 l1 l2) r2).fp++r.fp)).Nodup
  rw [List.nodup_cons,List.mem_append,not_or,List.nodup_append]
  exact ⟨⟨fun h=>nbl ((hm b).1 h),nbr⟩,hp,ndr,fun x hx y hy=>ndx x ((hm x).1 hx) y hy⟩
 ·simp only [AT.mk,AT.size];omega
 rintro e w6 ⟨rfl,HI,HF⟩
 have HI6:=Lib.hid HI;have HF6:=Lib.hid HF
 clear HI HF
 go_wp2_with fail
 go_ret
 refine ⟨rfl,HI6.out,HF5.out.trans HF6.out (fun i _ h=>by rcases h with h|h|h<;>rw [h]<;>simp [AT.fp]) (fun i _ h=>by rcases h with h|h<;>rw [h]<;>simp [AT.fp])⟩
theorem level (b:Nat) (k:ByteArray) (v:Sn) (l r:AT ByteArray Sn) (d:Int) (w:World)
  (h:In w (.node b k v l r d)) (nd:(AT.node b k v l r d).fp.Nodup) (wl:l.wd) (wr:r.wd) (sz:l.size+r.size<1152921504606846976):
  Calls prog 102 #[.pointer (some ⟨b,0,none⟩)] w fun e w'=>e=.returned (.pointer (AT.level b k v l r).adr)∧In w' (AT.level b k v l r)∧Fr (fun x=>x∈(AT.node b k v l r d).fp) w w':=by
 by_cases e1:r.dep-l.dep=2
 ·by_cases e2:r.lean<0
  ·exact level_hilo b k v l r d w h nd wl wr sz e1 e2
  ·exact level_hi b k v l r d w h nd wl wr sz e1 e2
 ·by_cases e3:r.dep-l.dep= -2
  ·by_cases e2:0<l.lean
   ·exact level_lohi b k v l r d w h nd wl wr sz e3 e2
   ·exact level_lo b k v l r d w h nd wl wr sz e3 e2
  ·exact level_else b k v l r d w h nd wl wr sz e1 e3
end AvlSS
set_option maxRecDepth 100000
set_option maxHeartbeats 1000000
namespace AvlSS
theorem put_nodup (n:Nat) (k:ByteArray) (v:Sn) {t:AT ByteArray Sn} (nd:t.fp.Nodup) (hn:∀x∈t.fp,x<n):(AT.put n k v t).1.fp.Nodup∧∀x∈(AT.put n k v t).1.fp,x=n∨x∈t.fp:=by
 have hp:=AT.perm_put n k v t
 cases h:(AT.put n k v t).2 with
 |true=>
  rw [h,if_pos rfl] at hp
  refine ⟨hp.nodup_iff.2 (List.nodup_cons.2 ⟨fun x=>Nat.lt_irrefl _ (hn _ x),nd⟩),fun x hx=>?_⟩
  have:=hp.mem_iff.1 hx
  simpa using this
 |false=>
  rw [h,if_neg (by simp)] at hp
  exact ⟨hp.nodup_iff.2 nd,fun x hx=>.inr (hp.mem_iff.1 hx)⟩
theorem put_size (n:Nat) (k:ByteArray) (v:Sn) (t:AT ByteArray Sn):(AT.put n k v t).1.size≤t.size+1:=by
 have hp:=(AT.perm_put n k v t).length_eq
 rw [AT.fp_length] at hp
 cases h:(AT.put n k v t).2 with
 |true=>rw [h,if_pos rfl,List.length_cons,AT.fp_length] at hp;omega
 |false=>rw [h,if_neg (by simp),AT.fp_length] at hp;omega
def PutPost (k:ByteArray) (v:Sn) (t:AT ByteArray Sn) (w:World) (e:Ending) (w':World):Prop:=
 ∃n,w.heap.size≤n∧e=.returned (.tuple #[.pointer (AT.put n k v t).1.adr,.bool (AT.put n k v t).2])∧In w' (AT.put n k v t).1∧Fr (fun x=>x∈t.fp) w w'
abbrev box (v:Sn) (w:World):World:=w.alloc (.cells #[.int .i64 v.t,.int .i64 v.i,.int .i64 v.p,.int .i64 v.r,.string v.s,.string v.o,.int .i64 v.b,.int .i64 v.d,.bool v.g] 48)
theorem box_fr (v:Sn) (w:World):Fr (fun _=>False) w (box v w):=Fr.alloc _ _ _
theorem put_nil (k:ByteArray) (v:Sn) (w:World):Calls prog 88 #[.pointer none,.string k,.agg #[.int .i64 v.t,.int .i64 v.i,.int .i64 v.p,.int .i64 v.r,.string v.s,.string v.o,.int .i64 v.b,.int .i64 v.d,.bool v.g]] w (PutPost k v .nil w):=by
 have HP:Hid (PutPost k v .nil w (.returned (.tuple #[.pointer (some ⟨w.heap.size+1,0,none⟩),.bool true])) ((box v w).alloc (.cells (blk k v none none 1) 126 (0,0)))):=by
  refine ⟨w.heap.size+1,by omega,rfl,⟨?_,trivial,trivial⟩,(box_fr v w).trans (Fr.alloc (fun _=>False) _ _) (fun _ _ h=>h.elim) (fun _ _ h=>h.elim)⟩
  have:=heap_new (box v w) (.cells (blk k v none none 1) 126 (0,0))
  rwa [World.size_alloc] at this
 go_enter func88,ntmps88
 go_wp2_with fail
 go_ret2
 exact HP.out
def Plow (k:ByteArray) (v:Sn) (b:Nat) (k':ByteArray) (v':Sn) (l r:AT ByteArray Sn) (d:Int) (w:World) (n:Nat) (wc:World):Prop:=
 w.heap.size≤n∧In wc (.node b k' v' (AT.put n k v l).1 r d)∧(AT.node b k' v' l r d).fp.Nodup∧(.node b k' v' (AT.put n k v l).1 r d:AT ByteArray Sn).fp.Nodup∧Fr (fun x=>x∈(AT.node b k' v' l r d).fp) w wc∧∀x∈(.node b k' v' (AT.put n k v l).1 r d:AT ByteArray Sn).fp,x=n∨x∈(AT.node b k' v' l r d).fp
theorem fin_low {k:ByteArray} {v:Sn} {b:Nat} {k':ByteArray} {v':Sn} {l r:AT ByteArray Sn} {d:Int} {w W w1:World} (h:In w (.node b k' v' l r d)) (nd:(AT.node b k' v' l r d).fp.Nodup) (hf:Fr (fun _=>False) w W) {n:Nat} (hn:W.heap.size≤n) (hI:In w1 (AT.put n k v l).1) (hF:Fr (fun x=>x∈l.fp) W w1):
  Plow k v b k' v' l r d w n (w1.setCell ⟨b,10,none⟩ (.pointer (AT.put n k v l).1.adr)):=by
 have hsz:=hf.size
 have hlt:=In.lt h
 obtain ⟨hb,hl,hr⟩:=h
 obtain ⟨nbl,nbr,ndl,ndr,ndx⟩:=AT.nodup_node.1 nd
 have hbw:=lt_of_heap hb
 have hx:=put_nodup n k v (t:=l) ndl (fun x hx=>by have:=hlt x (AT.mem_node.2 (.inr (.inl hx)));omega)
 have hF0:Fr (fun x=>x∈l.fp) w w1:=hf.trans hF (fun _ _ h=>h.elim) (fun _ _ h=>h)
 have hB1:=(hF0.block b hbw nbl).trans hb
 have ho:In w1 r:=In.fr hr hF0 (fun x hx h=>ndx x h x hx rfl)
 have hfx:=Fr.setCell w1 ⟨b,10,none⟩ (.pointer (AT.put n k v l).1.adr) (S:=(· =b)) rfl
 have nbL:b∉(AT.put n k v l).1.fp:=fun x=>by rcases hx.2 b x with e|e;omega;exact nbl e
 refine ⟨by omega,⟨set_lo hB1 _,In.fr hI hfx (fun x hx e=>nbL (e▸hx)),In.fr ho hfx (fun x hx e=>nbr (e▸hx))⟩,nd,AT.nodup_node.2 ⟨nbL,nbr,hx.1,ndr,fun x hm y hy e=>by
  rcases hx.2 x hm with e'|e'
  ·have:=hlt y (AT.mem_node.2 (.inr (.inr hy)));omega
  ·exact ndx x e' y hy e⟩,hF0.trans hfx (fun i _ h=>AT.mem_node.2 (.inr (.inl h))) (fun i _ h=>AT.mem_node.2 (.inl h)),fun x hm=>?_⟩
 rcases AT.mem_node.1 hm with e|e|e
 ·exact .inr (AT.mem_node.2 (.inl e))
 ·exact (hx.2 x e).elim .inl (fun e=>.inr (AT.mem_node.2 (.inr (.inl e))))
 ·exact .inr (AT.mem_node.2 (.inr (.inr e)))
theorem put_low (k:ByteArray) (v:Sn) (b:Nat) (k':ByteArray) (v':Sn) (l r:AT ByteArray Sn) (d:Int) (w:World)
  (h:In w (.node b k' v' l r d)) (nd:(AT.node b k' v' l r d).fp.Nodup) (wl:l.wd) (wr:r.wd) (sz:l.size+r.size<576460752303423488)
  (ih:∀W,In W l→Calls prog 88 #[.pointer l.adr,.string k,.agg #[.int .i64 v.t,.int .i64 v.i,.int .i64 v.p,.int .i64 v.r,.string v.s,.string v.o,.int .i64 v.b,.int .i64 v.d,.bool v.g]] W (PutPost k v l W)) (hlt:Ord.lt k k'=true):
  Calls prog 88 #[.pointer (some ⟨b,0,none⟩),.string k,.agg #[.int .i64 v.t,.int .i64 v.i,.int .i64 v.p,.int .i64 v.r,.string v.s,.string v.o,.int .i64 v.b,.int .i64 v.d,.bool v.g]] w (PutPost k v (.node b k' v' l r d) w):=by
 have HPut:Hid (∀n,AT.put n k v (.node b k' v' l r d)=(AT.level b k' v' (AT.put n k v l).1 r,(AT.put n k v l).2)):=fun n=>by rw [AT.put,if_pos hlt]
 have hf:=box_fr v w
 have HIH:=Lib.hid (ih (box v w).drew (In.fr (h.2.1) (hf.trans (Fr.drew (fun _=>False) _) (T:=fun _=>False) (fun _ _ h=>h) (fun _ _ h=>h)) (fun _ _ h=>h)))
 have HFin:=Lib.hid (fun (w1:World) (n:Nat) (hn:(box v w).drew.heap.size≤n) (hI:In w1 (AT.put n k v l).1) (hF:Fr (fun x=>x∈l.fp) (box v w).drew w1)=>fin_low h nd (hf.trans (Fr.drew (fun _=>False) _) (T:=fun _=>False) (fun _ _ h=>h) (fun _ _ h=>h)) hn hI hF)
 have hbx:=h.1
 have nbA:=(AT.nodup_node.1 nd).1
 have HSt:=Lib.hid (fun (w1:World) (hF:Fr (fun x=>x∈l.fp) (box v w).drew w1)=>(cells ((hF.block b (Nat.lt_of_lt_of_le (lt_of_heap hbx) hf.size) nbA).trans ((hf.block b (lt_of_heap hbx) (fun h=>h)).trans hbx))))
 obtain ⟨c0,c2,c3,-,cf⟩:=cells ((hf.block b (lt_of_heap hbx) (fun h=>h)).trans hbx)
 have x0:(box v w).cell? ⟨w.heap.size,0,none⟩=some (.int .i64 v.t):=cell_of_block (heap_new w _) 0
 have x1:(box v w).cell? ⟨w.heap.size,1,none⟩=some (.int .i64 v.i):=cell_of_block (heap_new w _) 1
 have x2:(box v w).cell? ⟨w.heap.size,2,none⟩=some (.int .i64 v.p):=cell_of_block (heap_new w _) 2
 have x3:(box v w).cell? ⟨w.heap.size,3,none⟩=some (.int .i64 v.r):=cell_of_block (heap_new w _) 3
 have x4:(box v w).cell? ⟨w.heap.size,4,none⟩=some (.string v.s):=cell_of_block (heap_new w _) 4
 have x5:(box v w).cell? ⟨w.heap.size,5,none⟩=some (.string v.o):=cell_of_block (heap_new w _) 5
 have x6:(box v w).cell? ⟨w.heap.size,6,none⟩=some (.int .i64 v.b):=cell_of_block (heap_new w _) 6
 have x7:(box v w).cell? ⟨w.heap.size,7,none⟩=some (.int .i64 v.d):=cell_of_block (heap_new w _) 7
 have x8:(box v w).cell? ⟨w.heap.size,8,none⟩=some (.bool v.g):=cell_of_block (heap_new w _) 8
 have HF:=Lib.hid hf
 have HSz:Hid (∀n,(AT.put n k v l).1.size≤l.size+1):=fun n=>put_size n k v l
 have HW:Hid (∀n,(AT.put n k v l).1.wd):=fun n=>AT.wd_put n k v wl
 clear ih hf hbx nbA h nd
 have thlt:Op.bytesLess k.toList k'.toList=true:=hlt;have uhlt:Op.bytesLess k'.toList k.toList=false:=Ord.asymm hlt;have yhlt:(k.toList==k'.toList)=false:=Bl.ne hlt;have zhlt:(k'.toList==k.toList)=false:=Bl.ne' hlt
 go_enter func88,ntmps88
 go_upto_region 6 with (fail)
 go_region_with (go_at_call 88;(with_reducible refine HIH.out.mono ?_);rintro e w1 ⟨n,hn,rfl,hI,hF⟩;obtain ⟨-,p2,p3,-,pf⟩:=HSt.out w1 hF)
 all_goals
  have HFn:=Lib.hid (HFin.out _ _ hn hI hF)
  clear hn hI hF
  go_wp2_with fail
  clear p2 p3 pf
  generalize (w1.setCell ⟨b,10,none⟩ (.pointer (AT.put n k v l).1.adr))=wc at *
  obtain ⟨hn,hI,nd,nd2,hF,hsub⟩:=HFn.out
  have HI:=Lib.hid hI;have HN2:=Lib.hid nd2;have HFr:=Lib.hid hF;have HS:=Lib.hid hsub;have HN:=Lib.hid hn;have HND:=Lib.hid nd
  have hz:=HSz.out n
  have hw:=HW.out n
  clear hI nd2 hF hsub hn nd HFn
  have HLv:=Lib.hid (level b k' v' (AT.put n k v l).1 r d wc HI.out HN2.out hw wr (by omega))
  clear hw
  refine HLv.out.mono ?_
  rintro e w3 ⟨rfl,hI3,hF3⟩
  have HI3:=Lib.hid hI3;have HF3:=Lib.hid hF3
  clear hI3 hF3
  go_wp2_with fail
  go_ret2
  refine ⟨n,HN.out,by rw [HPut.out];rfl,by rw [HPut.out];exact HI3.out,HFr.out.trans HF3.out (fun i _ h=>h) (fun i hi h=>?_)⟩
  rcases HS.out i h with e|e
  ·have:=HN.out;omega
  ·exact e
def Phigh (k:ByteArray) (v:Sn) (b:Nat) (k':ByteArray) (v':Sn) (l r:AT ByteArray Sn) (d:Int) (w:World) (n:Nat) (wc:World):Prop:=
 w.heap.size≤n∧In wc (.node b k' v' l (AT.put n k v r).1 d)∧(AT.node b k' v' l r d).fp.Nodup∧(.node b k' v' l (AT.put n k v r).1 d:AT ByteArray Sn).fp.Nodup∧Fr (fun x=>x∈(AT.node b k' v' l r d).fp) w wc∧∀x∈(.node b k' v' l (AT.put n k v r).1 d:AT ByteArray Sn).fp,x=n∨x∈(AT.node b k' v' l r d).fp
theorem fin_high {k:ByteArray} {v:Sn} {b:Nat} {k':ByteArray} {v':Sn} {l r:AT ByteArray Sn} {d:Int} {w W w1:World} (h:In w (.node b k' v' l r d)) (nd:(AT.node b k' v' l r d).fp.Nodup) (hf:Fr (fun _=>False) w W) {n:Nat} (hn:W.heap.size≤n) (hI:In w1 (AT.put n k v r).1) (hF:Fr (fun x=>x∈r.fp) W w1):
  Phigh k v b k' v' l r d w n (w1.setCell ⟨b,11,none⟩ (.pointer (AT.put n k v r).1.adr)):=by
 have hsz:=hf.size
 have hlt:=In.lt h
 obtain ⟨hb,hl,hr⟩:=h
 obtain ⟨nbl,nbr,ndl,ndr,ndx⟩:=AT.nodup_node.1 nd
 have hbw:=lt_of_heap hb
 have hx:=put_nodup n k v (t:=r) ndr (fun x hx=>by have:=hlt x (AT.mem_node.2 (.inr (.inr hx)));omega)
 have hF0:Fr (fun x=>x∈r.fp) w w1:=hf.trans hF (fun _ _ h=>h.elim) (fun _ _ h=>h)
 have hB1:=(hF0.block b hbw nbr).trans hb
 have ho:In w1 l:=In.fr hl hF0 (fun x hx h=>ndx x hx x h rfl)
 have hfx:=Fr.setCell w1 ⟨b,11,none⟩ (.pointer (AT.put n k v r).1.adr) (S:=(· =b)) rfl
 have nbL:b∉(AT.put n k v r).1.fp:=fun x=>by rcases hx.2 b x with e|e;omega;exact nbr e
 refine ⟨by omega,⟨set_hi hB1 _,In.fr ho hfx (fun x hx e=>nbl (e▸hx)),In.fr hI hfx (fun x hx e=>nbL (e▸hx))⟩,nd,AT.nodup_node.2 ⟨nbl,nbL,ndl,hx.1,fun x hm y hy e=>by
  rcases hx.2 y hy with e'|e'
  ·have:=hlt x (AT.mem_node.2 (.inr (.inl hm)));omega
  ·exact ndx x hm y e' e⟩,hF0.trans hfx (fun i _ h=>AT.mem_node.2 (.inr (.inr h))) (fun i _ h=>AT.mem_node.2 (.inl h)),fun x hm=>?_⟩
 rcases AT.mem_node.1 hm with e|e|e
 ·exact .inr (AT.mem_node.2 (.inl e))
 ·exact .inr (AT.mem_node.2 (.inr (.inl e)))
 ·exact (hx.2 x e).elim .inl (fun e=>.inr (AT.mem_node.2 (.inr (.inr e))))
theorem put_high (k:ByteArray) (v:Sn) (b:Nat) (k':ByteArray) (v':Sn) (l r:AT ByteArray Sn) (d:Int) (w:World)
  (h:In w (.node b k' v' l r d)) (nd:(AT.node b k' v' l r d).fp.Nodup) (wl:l.wd) (wr:r.wd) (sz:l.size+r.size<576460752303423488)
  (ih:∀W,In W r→Calls prog 88 #[.pointer r.adr,.string k,.agg #[.int .i64 v.t,.int .i64 v.i,.int .i64 v.p,.int .i64 v.r,.string v.s,.string v.o,.int .i64 v.b,.int .i64 v.d,.bool v.g]] W (PutPost k v r W)) (hlt:Ord.lt k' k=true):
  Calls prog 88 #[.pointer (some ⟨b,0,none⟩),.string k,.agg #[.int .i64 v.t,.int .i64 v.i,.int .i64 v.p,.int .i64 v.r,.string v.s,.string v.o,.int .i64 v.b,.int .i64 v.d,.bool v.g]] w (PutPost k v (.node b k' v' l r d) w):=by
 have HPut:Hid (∀n,AT.put n k v (.node b k' v' l r d)=(AT.level b k' v' l (AT.put n k v r).1,(AT.put n k v r).2)):=fun n=>by rw [AT.put,if_neg (by rw [Ord.asymm hlt];simp),if_pos hlt]
 have hf:=box_fr v w
 have HIH:=Lib.hid (ih (box v w).drew (In.fr (h.2.2) (hf.trans (Fr.drew (fun _=>False) _) (T:=fun _=>False) (fun _ _ h=>h) (fun _ _ h=>h)) (fun _ _ h=>h)))
 have HFin:=Lib.hid (fun (w1:World) (n:Nat) (hn:(box v w).drew.heap.size≤n) (hI:In w1 (AT.put n k v r).1) (hF:Fr (fun x=>x∈r.fp) (box v w).drew w1)=>fin_high h nd (hf.trans (Fr.drew (fun _=>False) _) (T:=fun _=>False) (fun _ _ h=>h) (fun _ _ h=>h)) hn hI hF)
 have hbx:=h.1
 have nbA:=(AT.nodup_node.1 nd).2.1
 have HSt:=Lib.hid (fun (w1:World) (hF:Fr (fun x=>x∈r.fp) (box v w).drew w1)=>(cells ((hF.block b (Nat.lt_of_lt_of_le (lt_of_heap hbx) hf.size) nbA).trans ((hf.block b (lt_of_heap hbx) (fun h=>h)).trans hbx))))
 obtain ⟨c0,c2,c3,-,cf⟩:=cells ((hf.block b (lt_of_heap hbx) (fun h=>h)).trans hbx)
 have x0:(box v w).cell? ⟨w.heap.size,0,none⟩=some (.int .i64 v.t):=cell_of_block (heap_new w _) 0
 have x1:(box v w).cell? ⟨w.heap.size,1,none⟩=some (.int .i64 v.i):=cell_of_block (heap_new w _) 1
 have x2:(box v w).cell? ⟨w.heap.size,2,none⟩=some (.int .i64 v.p):=cell_of_block (heap_new w _) 2
 have x3:(box v w).cell? ⟨w.heap.size,3,none⟩=some (.int .i64 v.r):=cell_of_block (heap_new w _) 3
 have x4:(box v w).cell? ⟨w.heap.size,4,none⟩=some (.string v.s):=cell_of_block (heap_new w _) 4
 have x5:(box v w).cell? ⟨w.heap.size,5,none⟩=some (.string v.o):=cell_of_block (heap_new w _) 5
 have x6:(box v w).cell? ⟨w.heap.size,6,none⟩=some (.int .i64 v.b):=cell_of_block (heap_new w _) 6
 have x7:(box v w).cell? ⟨w.heap.size,7,none⟩=some (.int .i64 v.d):=cell_of_block (heap_new w _) 7
 have x8:(box v w).cell? ⟨w.heap.size,8,none⟩=some (.bool v.g):=cell_of_block (heap_new w _) 8
 have HF:=Lib.hid hf
 have HSz:Hid (∀n,(AT.put n k v r).1.size≤r.size+1):=fun n=>put_size n k v r
 have HW:Hid (∀n,(AT.put n k v r).1.wd):=fun n=>AT.wd_put n k v wr
 clear ih hf hbx nbA h nd
 have thlt:Op.bytesLess k'.toList k.toList=true:=hlt;have uhlt:Op.bytesLess k.toList k'.toList=false:=Ord.asymm hlt;have yhlt:(k'.toList==k.toList)=false:=Bl.ne hlt;have zhlt:(k.toList==k'.toList)=false:=Bl.ne' hlt
 go_enter func88,ntmps88
 go_upto_region 8 with (fail)
 go_region_with (go_at_call 88;(with_reducible refine HIH.out.mono ?_);rintro e w1 ⟨n,hn,rfl,hI,hF⟩;obtain ⟨-,p2,p3,-,pf⟩:=HSt.out w1 hF)
 all_goals
  have HFn:=Lib.hid (HFin.out _ _ hn hI hF)
  clear hn hI hF
  go_wp2_with fail
  clear p2 p3 pf
  generalize (w1.setCell ⟨b,11,none⟩ (.pointer (AT.put n k v r).1.adr))=wc at *
  obtain ⟨hn,hI,nd,nd2,hF,hsub⟩:=HFn.out
  have HI:=Lib.hid hI;have HN2:=Lib.hid nd2;have HFr:=Lib.hid hF;have HS:=Lib.hid hsub;have HN:=Lib.hid hn;have HND:=Lib.hid nd
  have hz:=HSz.out n
  have hw:=HW.out n
  clear hI nd2 hF hsub hn nd HFn
  have HLv:=Lib.hid (level b k' v' l (AT.put n k v r).1 d wc HI.out HN2.out wl hw (by omega))
  clear hw
  refine HLv.out.mono ?_
  rintro e w3 ⟨rfl,hI3,hF3⟩
  have HI3:=Lib.hid hI3;have HF3:=Lib.hid hF3
  clear hI3 hF3
  go_wp2_with fail
  go_ret2
  refine ⟨n,HN.out,by rw [HPut.out];rfl,by rw [HPut.out];exact HI3.out,HFr.out.trans HF3.out (fun i _ h=>h) (fun i hi h=>?_)⟩
  rcases HS.out i h with e|e
  ·have:=HN.out;omega
  ·exact e
theorem set_v {w:World} {b:Nat} {k:ByteArray} {v:Sn} {l r:Option Addr} {d:Int} (h:w.heap[b]? =some (.cells (blk k v l r d) 126 (0,0))) (v':Sn):
  ((((((((((w.setCell ⟨b,1,none⟩ (.int .i64 v'.t)).setCell ⟨b,2,none⟩ (.int .i64 v'.i)).setCell ⟨b,3,none⟩ (.int .i64 v'.p)).setCell ⟨b,4,none⟩ (.int .i64 v'.r)).setCell ⟨b,5,none⟩ (.string v'.s)).setCell ⟨b,6,none⟩ (.string v'.o)).setCell ⟨b,7,none⟩ (.int .i64 v'.b)).setCell ⟨b,8,none⟩ (.int .i64 v'.d)).setCell ⟨b,9,none⟩ (.bool v'.g))).heap[b]? =some (.cells (blk k v' l r d) 126 (0,0))∧Fr (· =b) w ((((((((((w.setCell ⟨b,1,none⟩ (.int .i64 v'.t)).setCell ⟨b,2,none⟩ (.int .i64 v'.i)).setCell ⟨b,3,none⟩ (.int .i64 v'.p)).setCell ⟨b,4,none⟩ (.int .i64 v'.r)).setCell ⟨b,5,none⟩ (.string v'.s)).setCell ⟨b,6,none⟩ (.string v'.o)).setCell ⟨b,7,none⟩ (.int .i64 v'.b)).setCell ⟨b,8,none⟩ (.int .i64 v'.d)).setCell ⟨b,9,none⟩ (.bool v'.g))):=by
 have fs:∀ (w:World) (o:Nat) (u:Value),Fr (· =b) w (w.setCell ⟨b,o,none⟩ u):=fun w o u=>Fr.setCell w ⟨b,o,none⟩ u rfl
 have tr:∀ {x y z:World},Fr (· =b) x y→Fr (· =b) y z→Fr (· =b) x z:=fun h k=>h.trans k (fun _ _ h=>h) (fun _ _ h=>h)
 have h1:=(heap_setCell_same (o:=9) (heap_setCell_same (o:=8) (heap_setCell_same (o:=7) (heap_setCell_same (o:=6) (heap_setCell_same (o:=5) (heap_setCell_same (o:=4) (heap_setCell_same (o:=3) (heap_setCell_same (o:=2) (heap_setCell_same (o:=1) h (.int .i64 v'.t)) (.int .i64 v'.i)) (.int .i64 v'.p)) (.int .i64 v'.r)) (.string v'.s)) (.string v'.o)) (.int .i64 v'.b)) (.int .i64 v'.d)) (.bool v'.g))
 simp only [blk,List.setIfInBounds_toArray,List.set_cons_succ,List.set_cons_zero] at h1
 exact ⟨h1,(tr (tr (tr (tr (tr (tr (tr (tr (fs _ _ _) (fs _ _ _)) (fs _ _ _)) (fs _ _ _)) (fs _ _ _)) (fs _ _ _)) (fs _ _ _)) (fs _ _ _)) (fs _ _ _))⟩
theorem put_eq (v:Sn) (b:Nat) (k:ByteArray) (v':Sn) (l r:AT ByteArray Sn) (d:Int) (w:World)
  (h:In w (.node b k v' l r d)) (nd:(AT.node b k v' l r d).fp.Nodup) (wl:l.wd) (wr:r.wd) (sz:l.size+r.size<576460752303423488):
  Calls prog 88 #[.pointer (some ⟨b,0,none⟩),.string k,.agg #[.int .i64 v.t,.int .i64 v.i,.int .i64 v.p,.int .i64 v.r,.string v.s,.string v.o,.int .i64 v.b,.int .i64 v.d,.bool v.g]] w (PutPost k v (.node b k v' l r d) w):=by
 have hput:∀n,AT.put n k v (.node b k v' l r d)=(AT.level b k v l r,false):=fun n=>by rw [AT.put,if_neg (by rw [Ord.irr];simp),if_neg (by rw [Ord.irr];simp)]
 have HP:=Lib.hid hput
 have hf:=box_fr v w
 have h:=In.fr h hf (fun _ _ h=>h)
 have x0:(box v w).cell? ⟨w.heap.size,0,none⟩=some (.int .i64 v.t):=cell_of_block (heap_new w _) 0
 have x1:(box v w).cell? ⟨w.heap.size,1,none⟩=some (.int .i64 v.i):=cell_of_block (heap_new w _) 1
 have x2:(box v w).cell? ⟨w.heap.size,2,none⟩=some (.int .i64 v.p):=cell_of_block (heap_new w _) 2
 have x3:(box v w).cell? ⟨w.heap.size,3,none⟩=some (.int .i64 v.r):=cell_of_block (heap_new w _) 3
 have x4:(box v w).cell? ⟨w.heap.size,4,none⟩=some (.string v.s):=cell_of_block (heap_new w _) 4
 have x5:(box v w).cell? ⟨w.heap.size,5,none⟩=some (.string v.o):=cell_of_block (heap_new w _) 5
 have x6:(box v w).cell? ⟨w.heap.size,6,none⟩=some (.int .i64 v.b):=cell_of_block (heap_new w _) 6
 have x7:(box v w).cell? ⟨w.heap.size,7,none⟩=some (.int .i64 v.d):=cell_of_block (heap_new w _) 7
 have x8:(box v w).cell? ⟨w.heap.size,8,none⟩=some (.bool v.g):=cell_of_block (heap_new w _) 8
 clear hput
 obtain ⟨hb,hl,hr⟩:=h
 obtain ⟨nbl,nbr,ndl,ndr,ndx⟩:=AT.nodup_node.1 nd
 obtain ⟨c0,c2,c3,-,cf⟩:=cells hb
 have o0:(box v w).cell? ⟨b,1,none⟩=some (.int .i64 v'.t):=cell_of_block hb 1
 have o1:(box v w).cell? ⟨b,2,none⟩=some (.int .i64 v'.i):=cell_of_block hb 2
 have o2:(box v w).cell? ⟨b,3,none⟩=some (.int .i64 v'.p):=cell_of_block hb 3
 have o3:(box v w).cell? ⟨b,4,none⟩=some (.int .i64 v'.r):=cell_of_block hb 4
 have o4:(box v w).cell? ⟨b,5,none⟩=some (.string v'.s):=cell_of_block hb 5
 have o5:(box v w).cell? ⟨b,6,none⟩=some (.string v'.o):=cell_of_block hb 6
 have o6:(box v w).cell? ⟨b,7,none⟩=some (.int .i64 v'.b):=cell_of_block hb 7
 have o7:(box v w).cell? ⟨b,8,none⟩=some (.int .i64 v'.d):=cell_of_block hb 8
 have o8:(box v w).cell? ⟨b,9,none⟩=some (.bool v'.g):=cell_of_block hb 9
 have _kp:True:=trivial
 have tk:Op.bytesLess k.toList k.toList=false:=Ord.irr k
 obtain ⟨hb2,hfx⟩:=set_v hb v
 have HB2:=Lib.hid hb2
 have hl2:=Lib.hid (In.fr hl hfx (fun x hx e=>nbl (e▸hx)))
 have hr2:=Lib.hid (In.fr hr hfx (fun x hx e=>nbr (e▸hx)))
 have HF2:=Lib.hid (hf.trans hfx (T:=(· =b)) (fun _ _ h=>h.elim) (fun _ _ h=>h))
 have ND:=Lib.hid nd
 clear hb nd hfx hl hr hf hb2
 go_enter func88,ntmps88
 go_wp2_with fail
 generalize ((((((((((box v w).setCell ⟨b,1,none⟩ (.int .i64 v.t)).setCell ⟨b,2,none⟩ (.int .i64 v.i)).setCell ⟨b,3,none⟩ (.int .i64 v.p)).setCell ⟨b,4,none⟩ (.int .i64 v.r)).setCell ⟨b,5,none⟩ (.string v.s)).setCell ⟨b,6,none⟩ (.string v.o)).setCell ⟨b,7,none⟩ (.int .i64 v.b)).setCell ⟨b,8,none⟩ (.int .i64 v.d)).setCell ⟨b,9,none⟩ (.bool v.g))=w2 at *
 refine (level b k v l r d w2 ⟨HB2.out,hl2.out,hr2.out⟩ ND.out wl wr (by omega)).mono ?_
 rintro e w3 ⟨rfl,HI,HF⟩
 have HI3:=Lib.hid HI;have HF3:=Lib.hid HF
 clear HI HF
 go_wp2_with fail
 go_ret2
 refine ⟨w.heap.size,Nat.le_refl _,by rw [HP.out];rfl,by rw [HP.out];exact HI3.out,HF2.out.trans HF3.out (fun i _ h=>AT.mem_node.2 (.inl h)) (fun i hi h=>h)⟩
theorem put (k:ByteArray) (v:Sn) (t:AT ByteArray Sn):∀ (w:World),In w t→t.fp.Nodup→t.wd→t.size<288230376151711744→
  Calls prog 88 #[.pointer t.adr,.string k,.agg #[.int .i64 v.t,.int .i64 v.i,.int .i64 v.p,.int .i64 v.r,.string v.s,.string v.o,.int .i64 v.b,.int .i64 v.d,.bool v.g]] w (PutPost k v t w):=by
 induction t with
 |nil=>
  intro w _ _ _ _
  exact put_nil k v w
 |node b k' v' l r d ihl ihr=>
  intro w h nd wd sz
  obtain ⟨nbl,nbr,ndl,ndr,ndx⟩:=AT.nodup_node.1 nd
  have sz':l.size+r.size<288230376151711744:=by simp only [AT.size] at sz;omega
  by_cases h1:Ord.lt k k'=true
  ·exact put_low k v b k' v' l r d w h nd wd.1 wd.2.1 (by omega) (fun W hW=>ihl W hW ndl wd.1 (by omega)) h1
  ·by_cases h2:Ord.lt k' k=true
   ·exact put_high k v b k' v' l r d w h nd wd.1 wd.2.1 (by omega) (fun W hW=>ihr W hW ndr wd.2.1 (by omega)) h2
   ·obtain rfl:k=k':=Ord.tri _ _ (by simpa using h1) (by simpa using h2)
    exact put_eq v b k v' l r d w h nd wd.1 wd.2.1 (by omega)
end AvlSS
set_option maxRecDepth 100000
set_option maxHeartbeats 400000
namespace AvlSS
attribute [local go_sem] Eng.ev Eng.getO_cons Eng.getO_nil
def MapIn (w:World) (r:Option Addr) (L:List (ByteArray × Sn)) (F:List Nat):Prop:=
 ∃t:AT ByteArray Sn,t.adr=r∧t.toL=L∧t.fp=F∧In w t∧F.Nodup∧t.wd∧t.bal∧Srt L
theorem MapIn.fr {S:Nat→Prop} {w w':World} {r:Option Addr} {L:List (ByteArray × Sn)} {F:List Nat} (h:MapIn w r L F) (hf:Fr S w w') (hs:∀b∈F,¬S b):MapIn w' r L F:=by
 obtain ⟨t,h1,h2,h3,h4,h5⟩:=h
 exact ⟨t,h1,h2,h3,In.fr h4 hf (by rw [h3];exact hs),h5⟩
theorem MapIn.lt {w:World} {r:Option Addr} {L:List (ByteArray × Sn)} {F:List Nat} (h:MapIn w r L F):∀b∈F,b<w.heap.size:=by
 obtain ⟨t,h1,h2,rfl,h4,h5⟩:=h
 exact In.lt h4
theorem MapIn.nil (w:World):MapIn w none [] []:=⟨.nil,rfl,rfl,rfl,trivial,List.nodup_nil,trivial,trivial,List.Pairwise.nil⟩
theorem insL_length (k:ByteArray) (v:Sn) (n:Nat) {t:AT ByteArray Sn} (hs:Srt t.toL):(insL k v t.toL).length=if (AT.put n k v t).2 then t.toL.length+1 else t.toL.length:=by
 have h1:=(AT.toL_put n k v hs).1
 have h2:=(AT.perm_put n k v t).length_eq
 rw [←h1,AT.toL_length,AT.toL_length,←AT.fp_length,←AT.fp_length,h2]
 split<;>simp
def PutMPost (B off:Nat) (c:Array Value) (TB:TypeId) (k:ByteArray) (v:Sn) (L:List (ByteArray × Sn)) (F:List Nat) (w:World) (e:Ending) (w':World):Prop:=
 ∃ (r':Option Addr) (F':List Nat),e=.returned (.bool (!hasL k L))∧w'.heap[B]? =some (.cells ((c.setIfInBounds off (.pointer r')).setIfInBounds (off+1) (.int .i64 (insL k v L).length)) TB (0,0))∧
  MapIn w' r' (insL k v L) F'∧(∀x∈F',x∈F∨w.heap.size≤x)∧Fr (fun x=>x=B∨x∈F) w w'
theorem set_same {c:Array Value} {i:Nat} {u:Value} (h:c[i]? =some u):c.setIfInBounds i u=c:=by
 apply Array.ext_getElem?
 intro j
 rw [Array.getElem?_setIfInBounds]
 split
 ·rename_i e;subst e;split
  ·exact h.symm
  ·rename_i hn;rw [Array.getElem?_eq_none (by omega)] at h;cases h
 ·rfl
structure Sees (B off:Nat) (v:Sn) (t:AT ByteArray Sn) (b:Nat) (w:World):Prop where
 one:w.cell? ⟨B,off,none⟩=some (.pointer t.adr)
 two:w.cell? ⟨b,0,none⟩=some (.int .i64 v.t)∧w.cell? ⟨b,1,none⟩=some (.int .i64 v.i)∧w.cell? ⟨b,2,none⟩=some (.int .i64 v.p)∧w.cell? ⟨b,3,none⟩=some (.int .i64 v.r)∧w.cell? ⟨b,4,none⟩=some (.string v.s)∧w.cell? ⟨b,5,none⟩=some (.string v.o)∧w.cell? ⟨b,6,none⟩=some (.int .i64 v.b)∧w.cell? ⟨b,7,none⟩=some (.int .i64 v.d)∧w.cell? ⟨b,8,none⟩=some (.bool v.g)
theorem Sees.fr {S:Nat→Prop} {B off:Nat} {v:Sn} {t:AT ByteArray Sn} {b:Nat} {w w':World} (h:Sees B off v t b w) (hf:Fr S w w') (h1:¬S B) (h2:¬S b) (hB:B<w.heap.size) (hb:b<w.heap.size):Sees B off v t b w':=by
 obtain ⟨a,z⟩:=h
 have k1:∀o,w'.cell? ⟨B,o,none⟩=w.cell? ⟨B,o,none⟩:=fun o=>World.cell?_of_block (w:=w) (a:=⟨B,o,none⟩) (hf.block B hB h1)
 have k2:∀o,w'.cell? ⟨b,o,none⟩=w.cell? ⟨b,o,none⟩:=fun o=>World.cell?_of_block (w:=w) (a:=⟨b,o,none⟩) (hf.block b hb h2)
 exact ⟨(k1 off).trans a,by first|exact z| (simp only [k2];exact z)⟩
theorem put3 {ops:Array Oper} (hops:Eng.fnOps Tryz.f61 3=ops) (a0:Act) (Q:Exit→Act→World→Prop) (B off:Nat) (k:ByteArray) (v:Sn) (t:AT ByteArray Sn) (w0:World) (c:Array Value) (TB:TypeId) (hB:w0.heap[B]? =some (.cells c TB (0,0))) (h0:c[off]? =some (.pointer t.adr)) (hBF:B∉t.fp) (hI:In w0 t) (nd:t.fp.Nodup) (wd:t.wd) (sz:t.size<288230376151711744)
  (hn:a0.tmps.size=34) (h_0:a0.tmps.getD 0 undef=.pointer (some ⟨B,off,none⟩)) (h_1:a0.tmps.getD 1 undef=.string k) (h_5:a0.tmps.getD 5 undef=.pointer (some ⟨w0.heap.size,0,none⟩))
  (hpost:∀ (x:Nat→Value) (w':World) (n:Nat),x 7=.pointer (AT.put n k v t).1.adr→x 8=.bool (AT.put n k v t).2→(box v w0).drew.heap.size≤n→In w' (AT.put n k v t).1→Fr (fun x=>x∈t.fp) (box v w0).drew w'→Q .normal (Eng.setAll a0 [7,8,11,12,13,14,15,16,17,18,19,20] x) w'):
  (Code.region 3 ops true).wp prog Q a0 (box v w0):=by
 simp only [Eng.fnOps,Eng.regOps,Tryz.f61,Option.bind_some,Option.getD_some,Nat.reduceEqDiff,↓reduceIte] at hops
 subst hops
 have hlt:=lt_of_heap hB
 have hf:=(box_fr v w0).trans (Fr.drew (fun _=>False) _) (T:=fun _=>False) (fun _ _ h=>h) (fun _ _ h=>h)
 have HIt:=Lib.hid (In.fr hI hf (fun _ _ h=>h))
 have hsz:(box v w0).drew.heap.size=w0.heap.size+1:=by show (box v w0).heap.size=_;simp
 have hbt:B∉t.fp∧w0.heap.size∉t.fp∧B<(box v w0).drew.heap.size∧w0.heap.size<(box v w0).drew.heap.size:=⟨hBF,fun e=>Nat.lt_irrefl _ (In.lt hI _ e),by omega,by omega⟩
 have x0:(box v w0).cell? ⟨w0.heap.size,0,none⟩=some (.int .i64 v.t):=cell_of_block (heap_new w0 _) 0
 have x1:(box v w0).cell? ⟨w0.heap.size,1,none⟩=some (.int .i64 v.i):=cell_of_block (heap_new w0 _) 1
 have x2:(box v w0).cell? ⟨w0.heap.size,2,none⟩=some (.int .i64 v.p):=cell_of_block (heap_new w0 _) 2
 have x3:(box v w0).cell? ⟨w0.heap.size,3,none⟩=some (.int .i64 v.r):=cell_of_block (heap_new w0 _) 3
 have x4:(box v w0).cell? ⟨w0.heap.size,4,none⟩=some (.string v.s):=cell_of_block (heap_new w0 _) 4
 have x5:(box v w0).cell? ⟨w0.heap.size,5,none⟩=some (.string v.o):=cell_of_block (heap_new w0 _) 5
 have x6:(box v w0).cell? ⟨w0.heap.size,6,none⟩=some (.int .i64 v.b):=cell_of_block (heap_new w0 _) 6
 have x7:(box v w0).cell? ⟨w0.heap.size,7,none⟩=some (.int .i64 v.d):=cell_of_block (heap_new w0 _) 7
 have x8:(box v w0).cell? ⟨w0.heap.size,8,none⟩=some (.bool v.g):=cell_of_block (heap_new w0 _) 8
 have hsee:Sees B off v t w0.heap.size (box v w0):=⟨(World.cell?_of_block (w:=w0) (a:=⟨B,off,none⟩) ((box_fr v w0).block B hlt (fun h=>h))).trans ((cell_of_block hB off).trans h0),⟨x0,x1,x2,x3,x4,x5,x6,x7,x8⟩⟩
 clear hf hsz x0 x1 x2 x3 x4 x5 x6 x7 x8
 have HSt:=Lib.hid (Sees.fr hsee (Fr.drew (fun _=>False) _) (fun h=>h) (fun h=>h) (by have:=hbt.2.2.1;exact this) (by have:=hbt.2.2.2;exact this))
 refine Eng.regionT (.take 0 (.take 1 (.take 2 (.take 3 (.take 4 (.take 5 (.alt 6 (.take 7 (.take 8 (.take 9 (.take 10 (.take 11 (.done)))))) (.stop)))))))) (fun w'=>w'.cell? ⟨B,off,none⟩=some (.pointer t.adr)∧(w'.cell? ⟨w0.heap.size,0,none⟩=some (.int .i64 v.t)∧w'.cell? ⟨w0.heap.size,1,none⟩=some (.int .i64 v.i)∧w'.cell? ⟨w0.heap.size,2,none⟩=some (.int .i64 v.p)∧w'.cell? ⟨w0.heap.size,3,none⟩=some (.int .i64 v.r)∧w'.cell? ⟨w0.heap.size,4,none⟩=some (.string v.s)∧w'.cell? ⟨w0.heap.size,5,none⟩=some (.string v.o)∧w'.cell? ⟨w0.heap.size,6,none⟩=some (.int .i64 v.b)∧w'.cell? ⟨w0.heap.size,7,none⟩=some (.int .i64 v.d)∧w'.cell? ⟨w0.heap.size,8,none⟩=some (.bool v.g))) (by kernel_rfl) 34 hn (by kernel_rfl) (by kernel_rfl) (by kernel_rfl) (⟨HSt.out.one,HSt.out.two⟩) (fun a b ha hb=>?_)
 subst ha
 have hb0:b 0=.pointer (some ⟨B,off,none⟩):=(hb 0).symm.trans h_0
 have hb1:b 1=.string k:=(hb 1).symm.trans h_1
 have hb5:b 5=.pointer (some ⟨w0.heap.size,0,none⟩):=(hb 5).symm.trans h_5
 clear hb h_0 h_1 h_5
 have HP:=Lib.hid hpost;have HN:=Lib.hid hn
 clear hpost hn
 iterate 6 (refine Eng.TW.tk ?_)
 refine Eng.TW.call rfl rfl (by decide) (by kernel_rfl) ?_ (put k v t _ HIt.out nd wd sz) ?_
 ·go_simp
 rintro e w2 ⟨n,hn,rfl,hI1,hF⟩
 have HNn:=Lib.hid hn;have HI1:=Lib.hid hI1;have HFr:=Lib.hid hF
 have HSt2:=Lib.hid (HSt.out.fr hF hbt.1 hbt.2.1 hbt.2.2.1 hbt.2.2.2)
 clear hn hI1 hF
 refine ⟨_,rfl,⟨HSt2.out.one,HSt2.out.two⟩,?_⟩
 iterate 5 (refine Eng.TW.tk ?_)
 refine Eng.TW.end_ [7,8,11,12,13,14,15,16,17,18,19,20] HN.out (by kernel_rfl) (by kernel_rfl) ?_
 exact HP.out _ _ n rfl rfl HNn.out HI1.out HFr.out
theorem Put (B off:Nat) (c:Array Value) (TB:TypeId) (k:ByteArray) (v:Sn) (r:Option Addr) (L:List (ByteArray × Sn)) (F:List Nat) (w:World)
  (hB:w.heap[B]? =some (.cells c TB (0,0))) (h0:c[off]? =some (.pointer r)) (h1:c[off+1]? =some (.int .i64 L.length)) (hM:MapIn w r L F) (hBF:B∉F) (sz:L.length<144115188075855872):
  Calls prog 61 #[.pointer (some ⟨B,off,none⟩),.string k,.agg #[.int .i64 v.t,.int .i64 v.i,.int .i64 v.p,.int .i64 v.r,.string v.s,.string v.o,.int .i64 v.b,.int .i64 v.d,.bool v.g]] w (PutMPost B off c TB k v L F w):=by
 obtain ⟨t,rfl,rfl,rfl,hI,nd,wd,bal,srt⟩:=hM
 have hlen:=fun n=>insL_length k v n srt
 have hfp:=fun n (hn:w.heap.size≤n)=>put_nodup n k v nd (fun x hx=>Nat.lt_of_lt_of_le (In.lt hI x hx) hn)
 have hto:=fun n=>AT.toL_put n k v srt
 have hwd:∀n,(AT.put n k v t).1.wd:=fun n=>AT.wd_put n k v wd
 have hbal:=fun n=>(AT.bal_put n k v wd bal).1
 have hsrt:=(srt_insL (k:=k) v srt).1
 have hBw:=lt_of_heap hB
 have hsz:(box v w).drew.heap.size=w.heap.size+1:=by show (box v w).heap.size=_;simp
 have HL:=Lib.hid hlen;have HP:=Lib.hid hfp;have HT:=Lib.hid hto;have HW:=Lib.hid hwd;have HBal:=Lib.hid hbal;have HS:=Lib.hid hsrt;have HB:=Lib.hid hB
 have H1:=Lib.hid h1;have H0:=Lib.hid h0;have HI:=Lib.hid hI;have HWd:=Lib.hid wd
 have HSz:=Lib.hid hsz
 have szt:t.size<288230376151711744:=by rw [AT.toL_length] at sz;omega
 have HF:=Lib.hid ((box_fr v w).trans (Fr.drew (fun _=>False) _) (T:=fun _=>False) (fun _ _ h=>h) (fun _ _ h=>h))
 clear hlen hfp hto hwd hbal hsrt hB h0 h1 hI wd bal srt hsz
 go_enter func61,ntmps61
 go_upto_region 3 with (fail)
 refine put3 (by kernel_rfl) _ _ B off k v t w c TB HB.out H0.out hBF HI.out nd HWd.out szt rfl rfl rfl rfl ?_
 intro x w1 n e7 e8 hn hI1 hF
 simp only [Eng.setAll,Act.put,List.setIfInBounds_toArray,List.set_cons_succ,List.set_cons_zero]
 rw [e7,e8]
 have hF:Fr (fun x=>x∈t.fp) w w1:=HF.out.trans hF (fun _ _ h=>h.elim) (fun _ _ h=>h)
 have hB1:=(hF.block B hBw hBF).trans HB.out
 have c1':w1.cell? ⟨B,off+1,none⟩=some (.int .i64 t.toL.length):=(cell_of_block hB1 (off+1)).trans H1.out
 have c0':w1.cell? ⟨B,off,none⟩=some (.pointer t.adr):=(cell_of_block hB1 off).trans H0.out
 have cf':=free_of_block hB1
 have HB1:=Lib.hid hB1;have HF1:=Lib.hid hF;have HI1:=Lib.hid hI1
 have hn:w.heap.size≤n:=by have:=HSz.out;omega
 have HP:=Lib.hid (HP.out n hn);have HT:=Lib.hid (HT.out n);have HW:=Lib.hid (HW.out n);have HBal:=Lib.hid (HBal.out n);have HL:=Lib.hid (HL.out n)
 have HN:=Lib.hid hn
 clear e7 e8 hn
 generalize (AT.put n k v t).1=t' at *
 generalize (AT.put n k v t).2=q at *
 have hBt:B∉t'.fp:=fun x=>by rcases HP.out.2 B x with e|e;have:=HN.out;omega;exact hBF e
 clear hB1 hF hI1
 cases q with
 |true=>
  go_wp2_with fail
  go_ret
  have hlen:(insL k v t.toL).length=t.toL.length+1:=by simpa using HL.out
  refine ⟨t'.adr,t'.fp,?_,?_,⟨t',rfl,HT.out.1,rfl,In.fr HI1.out ((Fr.setCell w1 ⟨B,off,none⟩ _ (S:=(· =B)) rfl).trans (Fr.setCell _ ⟨B,off+1,none⟩ _ (S:=(· =B)) rfl) (T:=(· =B)) (fun _ _ h=>h) (fun _ _ h=>h)) (fun x hx e=>hBt (e▸hx)),HP.out.1,HW.out,HBal.out,HS.out⟩,?_,?_⟩
  ·rw [←HT.out.2];rfl
  ·refine (heap_setCell_same (heap_setCell_same HB1.out _) _).trans ?_
   rw [hlen];rfl
  ·intro x hx
   rcases HP.out.2 x hx with e|e
   ·exact .inr (by have:=HN.out;omega)
   ·exact .inl e
  ·exact (HF1.out.trans (Fr.setCell w1 ⟨B,off,none⟩ _ (S:=(· =B)) rfl) (T:=fun x=>x=B∨x∈t.fp) (fun _ _ h=>.inr h) (fun _ _ h=>.inl h)).trans (Fr.setCell _ ⟨B,off+1,none⟩ _ (S:=(· =B)) rfl) (fun _ _ h=>h) (fun _ _ h=>.inl h)
 |false=>
  go_wp2_with fail
  go_ret
  have hlen:(insL k v t.toL).length=t.toL.length:=by simpa using HL.out
  refine ⟨t'.adr,t'.fp,?_,?_,⟨t',rfl,HT.out.1,rfl,In.fr HI1.out (Fr.setCell w1 ⟨B,off,none⟩ _ (S:=(· =B)) rfl) (fun x hx e=>hBt (e▸hx)),HP.out.1,HW.out,HBal.out,HS.out⟩,?_,?_⟩
  ·rw [←HT.out.2];rfl
  ·refine (heap_setCell_same HB1.out _).trans ?_
   rw [hlen,set_same (i:=off+1)]
   rw [Array.getElem?_setIfInBounds,if_neg (by omega)]
   exact H1.out
  ·intro x hx
   rcases HP.out.2 x hx with e|e
   ·exact .inr (by have:=HN.out;omega)
   ·exact .inl e
  ·exact HF1.out.trans (Fr.setCell w1 ⟨B,off,none⟩ _ (S:=(· =B)) rfl) (fun _ _ h=>.inr h) (fun _ _ h=>.inl h)
theorem top_none (w:World):Calls prog 86 #[.pointer none] w fun e w'=>e=.returned (.pointer none)∧w=w':=by
 go_enter func86,ntmps86
 go_wp2_with fail
 go_ret
 exact ⟨rfl,rfl⟩
theorem top (a:Addr) (r:Option Addr) (w:World) (ha:a.spot=none) (h:w.cell? a=some (.pointer r)):Calls prog 86 #[.pointer (some a)] w fun e w'=>e=.returned (.pointer r)∧w=w':=by
 obtain ⟨b,o,s⟩:=a
 dsimp only at ha
 subst ha
 go_enter func86,ntmps86
 go_wp2_with fail
 go_ret
 exact ⟨rfl,rfl⟩
end AvlSS
end Go.Proofs.YtdpngmgaomghoaaGreatDoor
