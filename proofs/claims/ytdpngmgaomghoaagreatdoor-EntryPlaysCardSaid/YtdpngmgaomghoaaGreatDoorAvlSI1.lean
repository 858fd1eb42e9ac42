/- The maps in order (avl) at one instance: the nodes in memory, and what each method does to them. -/
import Derived.Test.YtdpngmgaomghoaaGreatDoorTrees
import Derived.Test.YtdpngmgaomghoaaGreatDoorProg
import Derived.StillTailTactics
import Derived.Lib.Hide
import Derived.WalkSpells
import Derived.WalkLawsBesides
import Derived.Deep.LoopGhost
namespace Go.Proofs.YtdpngmgaomghoaaGreatDoor
open Tryz
set_option maxRecDepth 100000
open Go.RowKit
namespace AvlSI
abbrev blk (k:ByteArray) (v:Int) (l r:Option Addr) (d:Int):Array Value:= #[.string k,.int .i64 v,.pointer l,.pointer r,.int .i64 d]
def In (w:World) (t:AT ByteArray Int):Prop:=t.In blk 109 w
theorem In.fr {S:Nat→Prop} {w w':World} {t:AT ByteArray Int} (h:In w t) (hf:Fr S w w') (hs:∀b∈t.fp,¬S b):In w' t:=AT.In.fr h hf hs
theorem In.lt {w:World} {t:AT ByteArray Int} (h:In w t):∀b∈t.fp,b<w.heap.size:=AT.In.lt h
theorem cells {w:World} {b:Nat} {k:ByteArray} {v:Int} {l r:Option Addr} {d:Int} (h:w.heap[b]? =some (.cells (blk k v l r d) 109 (0,0))):
  w.cell? ⟨b,0,none⟩=some (.string k)∧w.cell? ⟨b,2,none⟩=some (.pointer l)∧w.cell? ⟨b,3,none⟩=some (.pointer r)∧w.cell? ⟨b,4,none⟩=some (.int .i64 d)∧(∀o,w.frozen? ⟨b,o,none⟩=false):=by
 refine ⟨?_,?_,?_,?_,free_of_block h⟩<;>rw [cell_of_block h]<;>rfl
theorem deep (t:AT ByteArray Int) (w:World) (h:In w t):
  Calls prog 122 #[.pointer t.adr] w fun e w'=>e=.returned (.int .i64 t.dep)∧w'=w:=by
 cases t with
 |nil=>
  simp only [AT.adr,AT.dep]
  go_enter func122,ntmps122
  go_wp2
  go_ret
  exact ⟨rfl,rfl⟩
 |node b k v l r d=>
  obtain ⟨-,-,-,c4,-⟩:=cells h.1
  simp only [AT.adr,AT.dep]
  clear h
  go_enter func122,ntmps122
  go_wp2
  go_ret
  exact ⟨rfl,rfl⟩
theorem measure (b:Nat) (k:ByteArray) (v:Int) (l r:AT ByteArray Int) (d:Int) (w:World) (hb:w.heap[b]? =some (.cells (blk k v l.adr r.adr d) 109 (0,0)))
  (hl:In w l) (hr:In w r) (l0:0≤l.dep) (l1:l.dep<4611686018427387904) (r0:0≤r.dep) (r1:r.dep<4611686018427387904):
  Calls prog 103 #[.pointer (some ⟨b,0,none⟩)] w fun e w'=>e=.returned (.tuple #[])∧
   w'.heap[b]? =some (.cells (blk k v l.adr r.adr (1+max l.dep r.dep)) 109 (0,0))∧Fr (· =b) w w':=by
 obtain ⟨-,c2,c3,c4,cf⟩:=cells hb
 have HB:=Lib.hid hb
 clear hb
 have e2:w.drew.cell? ⟨b,2,none⟩=some (.pointer l.adr):=c2
 have e3:w.drew.cell? ⟨b,3,none⟩=some (.pointer r.adr):=c3
 have el:=deep l w.drew (hl.fr (Fr.drew (fun _=>False) w) (fun _ _ h=>h))
 have er:=deep r w.drew (hr.fr (Fr.drew (fun _=>False) w) (fun _ _ h=>h))
 clear hl hr
 go_enter func103,ntmps103
 refine wp_region_still_tail 15 (by kernel_rfl) (by kernel_rfl) ?_
 simp only [List.take_succ_cons,List.take_zero,List.drop_succ_cons,List.drop_zero]
 change wpStill _ _ w.drew (fun a'=>wpList _ _ _ _ a' w.drew) _ _
 iterate 5 still_step
 still_call el
 iterate 4 still_step
 still_call er
 iterate 4 still_step
 refine wpStill_nil ?_
 clear el er
 go_wp2
 all_goals
  go_end0
  refine ⟨rfl,?_,?_⟩
  ·refine (heap_setCell_same HB.out _).trans ?_
   simp only [blk,List.setIfInBounds_toArray,List.set_cons_succ,List.set_cons_zero]
   first|rw [show max l.dep r.dep=r.dep by omega]|rw [show max l.dep r.dep=l.dep by omega]
  ·exact (Fr.setCell w ⟨b,4,none⟩ _ (S:=(· =b)) rfl).trans (Fr.drew (fun _=>False) _) (fun _ _ h=>h) (fun _ _ h=>h.elim)
theorem lean (b:Nat) (k:ByteArray) (v:Int) (l r:AT ByteArray Int) (d:Int) (w:World) (h:In w (.node b k v l r d)) (l0:0≤l.dep) (l1:l.dep<4611686018427387904) (r0:0≤r.dep) (r1:r.dep<4611686018427387904):
  Calls prog 104 #[.pointer (some ⟨b,0,none⟩)] w fun e w'=>e=.returned (.int .i64 (r.dep-l.dep))∧w.drew=w':=by
 obtain ⟨hb,hl,hr⟩:=h
 obtain ⟨-,c2,c3,c4,cf⟩:=cells hb
 clear hb
 have e2:w.drew.cell? ⟨b,2,none⟩=some (.pointer l.adr):=c2
 have e3:w.drew.cell? ⟨b,3,none⟩=some (.pointer r.adr):=c3
 have el:=deep l w.drew (In.fr hl (Fr.drew (fun _=>False) w) (fun _ _ h=>h))
 have er:=deep r w.drew (In.fr hr (Fr.drew (fun _=>False) w) (fun _ _ h=>h))
 have hw:IntKind.i64.wrap (r.dep-l.dep)=r.dep-l.dep:=IntWalk.i64_in _ (by omega)
 clear hl hr
 go_enter func104,ntmps104
 go_wp2_with fail
 refine wp_region_still_lit (by kernel_rfl) (by kernel_rfl) ?_
 change wpStill _ _ w.drew (fun a'=>_) _ _
 iterate 4 still_step
 still_call er
 iterate 4 still_step
 still_call el
 iterate 2 still_step
 refine wpStill_nil ?_
 clear el er
 go_wp2
 go_ret
 exact ⟨rfl,rfl⟩
end AvlSI
set_option maxRecDepth 100000
namespace AvlSI
theorem heap_other {w:World} {a:Addr} {u:Value} {b:Nat} {o:Obj} (h:w.heap[b]? =some o) (hne:b≠a.block):(w.setCell a u).heap[b]? =some o:=(Below.heap_setCell _ _ _ _ hne).trans h
theorem set_lo {w:World} {b:Nat} {k:ByteArray} {v:Int} {l r:Option Addr} {d:Int} (h:w.heap[b]? =some (.cells (blk k v l r d) 109 (0,0))) (u:Option Addr):
  (w.setCell ⟨b,2,none⟩ (.pointer u)).heap[b]? =some (.cells (blk k v u r d) 109 (0,0)):=heap_setCell_same h _
theorem set_hi {w:World} {b:Nat} {k:ByteArray} {v:Int} {l r:Option Addr} {d:Int} (h:w.heap[b]? =some (.cells (blk k v l r d) 109 (0,0))) (u:Option Addr):
  (w.setCell ⟨b,3,none⟩ (.pointer u)).heap[b]? =some (.cells (blk k v l u d) 109 (0,0)):=heap_setCell_same h _
theorem turnLow (b:Nat) (k:ByteArray) (v:Int) (l:AT ByteArray Int) (b':Nat) (k':ByteArray) (v':Int) (l' r':AT ByteArray Int) (d' d:Int) (w:World)
  (h:In w (.node b k v l (.node b' k' v' l' r' d') d)) (nd:(AT.node b k v l (.node b' k' v' l' r' d') d).fp.Nodup) (wl:l.wd) (wl':l'.wd) (wr':r'.wd) (sz:l.size+l'.size+r'.size<2305843009213693952):
  Calls prog 106 #[.pointer (some ⟨b,0,none⟩)] w fun e w'=>e=.returned (.pointer (some ⟨b',0,none⟩))∧
   In w' (AT.turnLow (.node b k v l (.node b' k' v' l' r' d') d))∧Fr (fun x=>x=b∨x=b') w w':=by
 rw [AT.turnLow_node]
 obtain ⟨hb,hl,hb',hl',hr'⟩:=h
 simp only [AT.fp,List.nodup_cons,List.mem_append,List.mem_cons,not_or,List.nodup_append] at nd
 obtain ⟨⟨nbl,nbb,nbl',nbr'⟩,ndl,⟨⟨nbl2,nbr2⟩,ndl',ndr',ndlr⟩,ndx⟩:=nd
 have nb'l:b'∉l.fp:=fun x=>ndx b' x b' (.inl rfl) rfl
 have D0:=wl.dep0;have D1:=wl.dep_le;have D2:=wl'.dep0;have D3:=wl'.dep_le;have D4:=wr'.dep0;have D5:=wr'.dep_le
 rw [AT.adr_node] at hb
 obtain ⟨-,-,c3,-,cf⟩:=cells hb
 obtain ⟨-,c2',c3',-,cf'⟩:=cells hb'
 -- the world behind the two stores
 have hf1:Fr (fun x=>x=b∨x=b') w ((w.setCell ⟨b,3,none⟩ (.pointer l'.adr)).setCell ⟨b',2,none⟩ (.pointer (some ⟨b,0,none⟩))):=
  (Fr.setCell w ⟨b,3,none⟩ _ (S:=fun x=>x=b∨x=b') (.inl rfl)).trans (Fr.setCell _ ⟨b',2,none⟩ _ (S:=fun x=>x=b∨x=b') (.inr rfl)) (fun _ _ h=>h) (fun _ _ h=>h)
 have hB1:((w.setCell ⟨b,3,none⟩ (.pointer l'.adr)).setCell ⟨b',2,none⟩ (.pointer (some ⟨b,0,none⟩))).heap[b]? =some (.cells (blk k v l.adr l'.adr d) 109 (0,0)):=heap_other (set_hi hb _) nbb
 have hB1':((w.setCell ⟨b,3,none⟩ (.pointer l'.adr)).setCell ⟨b',2,none⟩ (.pointer (some ⟨b,0,none⟩))).heap[b']? =some (.cells (blk k' v' (some ⟨b,0,none⟩) r'.adr d') 109 (0,0)):=set_lo (heap_other hb' (Ne.symm nbb)) _
 have HF1:=Lib.hid hf1;have HB1:=Lib.hid hB1;have HB1':=Lib.hid hB1'
 clear hf1 hB1 hB1' hb hb'
 go_enter func106,ntmps106
 go_wp2_with fail
 refine (measure b k v l l' d _ HB1.out (In.fr hl HF1.out (fun x hx h=>h.elim (fun e=>nbl (e▸hx)) (fun e=>nb'l (e▸hx)))) (In.fr hl' HF1.out (fun x hx h=>h.elim (fun e=>nbl' (e▸hx)) (fun e=>nbl2 (e▸hx)))) (by omega) (by omega) (by omega) (by omega)).mono ?_
 rintro e w2 ⟨rfl,hB2,hF2⟩
 have hB2':=(hF2.block b' (lt_of_heap HB1'.out) (Ne.symm nbb)).trans HB1'.out
 have hF12:=HF1.out.trans hF2 (T:=fun x=>x=b∨x=b') (fun _ _ h=>h) (fun _ _ h=>.inl h)
 have il2:In w2 l:=In.fr hl hF12 (fun x hx h=>h.elim (fun e=>nbl (e▸hx)) (fun e=>nb'l (e▸hx)))
 have il2':In w2 l':=In.fr hl' hF12 (fun x hx h=>h.elim (fun e=>nbl' (e▸hx)) (fun e=>nbl2 (e▸hx)))
 have ir2':In w2 r':=In.fr hr' hF12 (fun x hx h=>h.elim (fun e=>nbr' (e▸hx)) (fun e=>nbr2 (e▸hx)))
 have HB2:=Lib.hid hB2;have HB2':=Lib.hid hB2';have HF12:=Lib.hid hF12
 clear hB2 hB2' hF12 hF2 HF1 HB1 HB1' c3 cf c2' c3' cf' hl hl' hr'
 have im:In w2 (AT.mk b k v l l'):=⟨HB2.out,il2,il2'⟩
 go_wp2_with fail
 refine (measure b' k' v' (AT.mk b k v l l') r' d' w2 HB2'.out im ir2' (by rw [AT.dep_mk];omega) (by rw [AT.dep_mk];omega) (by omega) (by omega)).mono ?_
 rintro e w3 ⟨rfl,hB3,hF3⟩
 have HB3:=Lib.hid hB3;have HF3:=Lib.hid hF3
 clear hB3 hF3
 go_wp2_with fail
 go_ret
 refine ⟨rfl,⟨HB3.out,In.fr im HF3.out ?_,In.fr ir2' HF3.out ?_⟩,HF12.out.trans HF3.out (fun _ _ h=>h) (fun _ _ h=>.inr h)⟩
 ·intro x hx e
  subst e
  simp only [AT.mk,AT.fp,List.mem_cons,List.mem_append] at hx
  rcases hx with e|hx|hx
  ·exact nbb e.symm
  ·exact nb'l hx
  ·exact nbl2 hx
 ·intro x hx e
  subst e
  exact nbr2 hx
theorem turnHigh (b:Nat) (k:ByteArray) (v:Int) (b':Nat) (k':ByteArray) (v':Int) (l' r':AT ByteArray Int) (d':Int) (r:AT ByteArray Int) (d:Int) (w:World)
  (h:In w (.node b k v (.node b' k' v' l' r' d') r d)) (nd:(AT.node b k v (.node b' k' v' l' r' d') r d).fp.Nodup) (wr:r.wd) (wl':l'.wd) (wr':r'.wd) (sz:r.size+l'.size+r'.size<2305843009213693952):
  Calls prog 105 #[.pointer (some ⟨b,0,none⟩)] w fun e w'=>e=.returned (.pointer (some ⟨b',0,none⟩))∧
   In w' (AT.turnHigh (.node b k v (.node b' k' v' l' r' d') r d))∧Fr (fun x=>x=b∨x=b') w w':=by
 rw [AT.turnHigh_node]
 obtain ⟨hb,⟨hb',hl',hr'⟩,hr⟩:=h
 simp only [AT.fp,List.nodup_cons,List.mem_append,List.mem_cons,not_or,List.nodup_append] at nd
 obtain ⟨⟨⟨nbb,nbl',nbr'⟩,nbr⟩,⟨⟨nbl2,nbr2⟩,ndl',ndr',ndlr⟩,ndr,ndx⟩:=nd
 have nb'r:b'∉r.fp:=fun x=>ndx b' (.inl rfl) b' x rfl
 have D0:=wr.dep0;have D1:=wr.dep_le;have D2:=wl'.dep0;have D3:=wl'.dep_le;have D4:=wr'.dep0;have D5:=wr'.dep_le
 rw [AT.adr_node] at hb
 obtain ⟨-,c2,-,-,cf⟩:=cells hb
 obtain ⟨-,c2',c3',-,cf'⟩:=cells hb'
 have hf1:Fr (fun x=>x=b∨x=b') w ((w.setCell ⟨b,2,none⟩ (.pointer r'.adr)).setCell ⟨b',3,none⟩ (.pointer (some ⟨b,0,none⟩))):=
  (Fr.setCell w ⟨b,2,none⟩ _ (S:=fun x=>x=b∨x=b') (.inl rfl)).trans (Fr.setCell _ ⟨b',3,none⟩ _ (S:=fun x=>x=b∨x=b') (.inr rfl)) (fun _ _ h=>h) (fun _ _ h=>h)
 have hB1:((w.setCell ⟨b,2,none⟩ (.pointer r'.adr)).setCell ⟨b',3,none⟩ (.pointer (some ⟨b,0,none⟩))).heap[b]? =some (.cells (blk k v r'.adr r.adr d) 109 (0,0)):=heap_other (set_lo hb _) nbb
 have hB1':((w.setCell ⟨b,2,none⟩ (.pointer r'.adr)).setCell ⟨b',3,none⟩ (.pointer (some ⟨b,0,none⟩))).heap[b']? =some (.cells (blk k' v' l'.adr (some ⟨b,0,none⟩) d') 109 (0,0)):=set_hi (heap_other hb' (Ne.symm nbb)) _
 have HF1:=Lib.hid hf1;have HB1:=Lib.hid hB1;have HB1':=Lib.hid hB1'
 clear hf1 hB1 hB1' hb hb'
 go_enter func105,ntmps105
 go_wp2_with fail
 refine (measure b k v r' r d _ HB1.out (In.fr hr' HF1.out (fun x hx h=>h.elim (fun e=>nbr' (e▸hx)) (fun e=>nbr2 (e▸hx)))) (In.fr hr HF1.out (fun x hx h=>h.elim (fun e=>nbr (e▸hx)) (fun e=>nb'r (e▸hx)))) (by omega) (by omega) (by omega) (by omega)).mono ?_
 rintro e w2 ⟨rfl,hB2,hF2⟩
 have hB2':=(hF2.block b' (lt_of_heap HB1'.out) (Ne.symm nbb)).trans HB1'.out
 have hF12:=HF1.out.trans hF2 (T:=fun x=>x=b∨x=b') (fun _ _ h=>h) (fun _ _ h=>.inl h)
 have ir2:In w2 r:=In.fr hr hF12 (fun x hx h=>h.elim (fun e=>nbr (e▸hx)) (fun e=>nb'r (e▸hx)))
 have il2':In w2 l':=In.fr hl' hF12 (fun x hx h=>h.elim (fun e=>nbl' (e▸hx)) (fun e=>nbl2 (e▸hx)))
 have ir2':In w2 r':=In.fr hr' hF12 (fun x hx h=>h.elim (fun e=>nbr' (e▸hx)) (fun e=>nbr2 (e▸hx)))
 have HB2:=Lib.hid hB2;have HB2':=Lib.hid hB2';have HF12:=Lib.hid hF12
 clear hB2 hB2' hF12 hF2 HF1 HB1 HB1' c2 cf c2' c3' cf' hr hl' hr'
 have im:In w2 (AT.mk b k v r' r):=⟨HB2.out,ir2',ir2⟩
 go_wp2_with fail
 refine (measure b' k' v' l' (AT.mk b k v r' r) d' w2 HB2'.out il2' im (by omega) (by omega) (by rw [AT.dep_mk];omega) (by rw [AT.dep_mk];omega)).mono ?_
 rintro e w3 ⟨rfl,hB3,hF3⟩
 have HB3:=Lib.hid hB3;have HF3:=Lib.hid hF3
 clear hB3 hF3
 go_wp2_with fail
 go_ret
 refine ⟨rfl,⟨HB3.out,In.fr il2' HF3.out ?_,In.fr im HF3.out ?_⟩,HF12.out.trans HF3.out (fun _ _ h=>h) (fun _ _ h=>.inr h)⟩
 ·intro x hx e
  subst e
  exact nbl2 hx
 ·intro x hx e
  subst e
  simp only [AT.mk,AT.fp,List.mem_cons,List.mem_append] at hx
  rcases hx with e|hx|hx
  ·exact nbb e.symm
  ·exact nbr2 hx
  ·exact nb'r hx
end AvlSI
set_option maxRecDepth 100000
namespace AvlSI
theorem level_else (b:Nat) (k:ByteArray) (v:Int) (l r:AT ByteArray Int) (d:Int) (w:World)
  (h:In w (.node b k v l r d)) (nd:(AT.node b k v l r d).fp.Nodup) (wl:l.wd) (wr:r.wd) (sz:l.size+r.size<1152921504606846976) (e1:¬r.dep-l.dep=2) (e2:¬r.dep-l.dep= -2):
  Calls prog 93 #[.pointer (some ⟨b,0,none⟩)] w fun e w'=>e=.returned (.pointer (AT.level b k v l r).adr)∧In w' (AT.level b k v l r)∧Fr (fun x=>x∈(AT.node b k v l r d).fp) w w':=by
 have hlev:AT.level b k v l r=AT.mk b k v l r:=by rw [AT.level,if_neg e1,if_neg e2]
 have t1:((r.dep-l.dep)==2)=false:=beq_eq_false_iff_ne.2 e1
 have t2:((r.dep-l.dep)== -2)=false:=beq_eq_false_iff_ne.2 e2
 rw [hlev]
 clear hlev
 obtain ⟨hb,hl,hr⟩:=h
 have nd0:=Lib.hid nd
 obtain ⟨nbl,nbr,ndl,ndr,ndx⟩:=AT.nodup_node.1 nd
 clear nd
 have D0:=wl.dep0;have D1:=wl.dep_le;have D2:=wr.dep0;have D3:=wr.dep_le
 have HB:=Lib.hid hb
 clear hb
 go_enter func93,ntmps93
 go_wp2_with fail
 refine (measure b k v l r d w HB.out hl hr (by omega) (by omega) (by omega) (by omega)).mono ?_
 rintro e w1 ⟨rfl,hB1,hF1⟩
 have hl1:In w1 l:=In.fr hl hF1 (fun x hx e=>nbl (e▸hx))
 have hr1:In w1 r:=In.fr hr hF1 (fun x hx e=>nbr (e▸hx))
 have hm1:In w1 (.node b k v l r (1+max l.dep r.dep)):=⟨hB1,hl1,hr1⟩
 have HF1:=Lib.hid hF1
 clear hF1 hB1 hl hr HB
 go_wp2_with fail
 refine (lean b k v l r _ w1 hm1 (by omega) (by omega) (by omega) (by omega)).mono ?_
 rintro e w2 ⟨rfl,rfl⟩
 have HF2:Hid (Fr (· =b) w w1.drew):=HF1.out.trans (Fr.drew (fun _=>False) _) (fun _ _ h=>h) (fun _ _ h=>h.elim)
 have hm2:In w1.drew (.node b k v l r (1+max l.dep r.dep)):=In.fr hm1 (Fr.drew (fun _=>False) _) (fun _ _ h=>h)
 clear HF1 hl1 hr1 hm1
 generalize w1.drew=w2 at *
 clear w1
 have HM2:=Lib.hid hm2
 clear hm2
 go_wp2_with fail
 go_ret
 exact ⟨rfl,HM2.out,HF2.out.mono (fun i _ h=>by rw [h];simp [AT.fp])⟩
theorem level_hi (b:Nat) (k:ByteArray) (v:Int) (l r:AT ByteArray Int) (d:Int) (w:World)
  (h:In w (.node b k v l r d)) (nd:(AT.node b k v l r d).fp.Nodup) (wl:l.wd) (wr:r.wd) (sz:l.size+r.size<1152921504606846976) (e1:r.dep-l.dep=2) (e2:¬r.lean<0):
  Calls prog 93 #[.pointer (some ⟨b,0,none⟩)] w fun e w'=>e=.returned (.pointer (AT.level b k v l r).adr)∧In w' (AT.level b k v l r)∧Fr (fun x=>x∈(AT.node b k v l r d).fp) w w':=by
 have hlev:AT.level b k v l r=AT.turnLow (AT.mk b k v l r):=by rw [AT.level,if_pos e1,if_neg e2]
 have t1:((r.dep-l.dep)==2)=true:=beq_iff_eq.2 e1
 have l0:=wl.dep0
 rw [hlev]
 clear hlev
 cases r with
 |nil=>rw [AT.dep_nil] at e1;omega
 |node b1 k1 v1 l1 r1 d1=>
 obtain ⟨wd1,wd2,wd3⟩:=id wr
 have E1:=Lib.hid e1
 rw [AT.lean_node] at e2
 have e3:0≤r1.dep-l1.dep:=by omega
 have F0:=wd1.dep0;have F1:=wd1.dep_le;have F2:=wd2.dep0;have F3:=wd2.dep_le
 have S1:(AT.node b1 k1 v1 l1 r1 d1).size=l1.size+r1.size+1:=rfl
 have sz':l.size+l1.size+r1.size<1152921504606846976:=by omega
 clear wd3 e1
 obtain ⟨hb,hl,hr⟩:=h
 have nd0:=Lib.hid nd
 obtain ⟨nbl,nbr,ndl,ndr,ndx⟩:=AT.nodup_node.1 nd
 clear nd
 have D0:=wl.dep0;have D1:=wl.dep_le;have D2:=wr.dep0;have D3:=wr.dep_le
 have HB:=Lib.hid hb
 clear hb
 go_enter func93,ntmps93
 go_wp2_with fail
 refine (measure b k v l (AT.node b1 k1 v1 l1 r1 d1) d w HB.out hl hr (by omega) (by omega) (by omega) (by omega)).mono ?_
 rintro e w1 ⟨rfl,hB1,hF1⟩
 have hl1:In w1 l:=In.fr hl hF1 (fun x hx e=>nbl (e▸hx))
 have hr1:In w1 (AT.node b1 k1 v1 l1 r1 d1):=In.fr hr hF1 (fun x hx e=>nbr (e▸hx))
 have hm1:In w1 (.node b k v l (AT.node b1 k1 v1 l1 r1 d1) (1+max l.dep (AT.node b1 k1 v1 l1 r1 d1).dep)):=⟨hB1,hl1,hr1⟩
 have HF1:=Lib.hid hF1
 clear hF1 hB1 hl hr HB
 go_wp2_with fail
 refine (lean b k v l (AT.node b1 k1 v1 l1 r1 d1) _ w1 hm1 (by omega) (by omega) (by omega) (by omega)).mono ?_
 rintro e w2 ⟨rfl,rfl⟩
 have HF2:Hid (Fr (· =b) w w1.drew):=HF1.out.trans (Fr.drew (fun _=>False) _) (fun _ _ h=>h) (fun _ _ h=>h.elim)
 have hm2:In w1.drew (.node b k v l (AT.node b1 k1 v1 l1 r1 d1) (1+max l.dep (AT.node b1 k1 v1 l1 r1 d1).dep)):=In.fr hm1 (Fr.drew (fun _=>False) _) (fun _ _ h=>h)
 clear HF1 hl1 hr1 hm1
 generalize w1.drew=w2 at *
 clear w1
 have hm3:=Lib.hid hm2
 obtain ⟨hb2,hl2,hr2⟩:=hm2
 rw [AT.adr_node] at hb2
 obtain ⟨-,-,c3,-,-⟩:=cells hb2
 clear hb2 S1
 go_wp2_with fail
 refine (lean b1 k1 v1 l1 r1 d1 w2 hr2 (by omega) (by omega) (by omega) (by omega)).mono ?_
 rintro e w3 ⟨rfl,rfl⟩
 have HF3:Hid (Fr (· =b) w w2.drew):=HF2.out.trans (Fr.drew (fun _=>False) _) (fun _ _ h=>h) (fun _ _ h=>h.elim)
 have HM3:Hid (In w2.drew (.node b k v l (AT.node b1 k1 v1 l1 r1 d1) (1+max l.dep (AT.node b1 k1 v1 l1 r1 d1).dep))):=In.fr hm3.out (Fr.drew (fun _=>False) _) (fun _ _ h=>h)
 clear HF2 hm3 hl2 hr2 c3
 generalize w2.drew=w3 at *
 clear w2
 go_wp2_with fail
 refine (turnLow b k v l b1 k1 v1 l1 r1 d1 _ w3 HM3.out (nd0.out) wl wd1 wd2 (by omega)).mono ?_
 rintro e w4 ⟨rfl,HI,HF⟩
 have HI4:=Lib.hid HI;have HF4:=Lib.hid HF
 clear HI HF
 go_wp2_with fail
 go_ret
 refine ⟨rfl,HI4.out,HF3.out.trans HF4.out (fun i _ h=>by rw [h];simp [AT.fp]) (fun i _ h=>by rcases h with h|h<;>rw [h]<;>simp [AT.fp])⟩
theorem level_hilo (b:Nat) (k:ByteArray) (v:Int) (l r:AT ByteArray Int) (d:Int) (w:World)
  (h:In w (.node b k v l r d)) (nd:(AT.node b k v l r d).fp.Nodup) (wl:l.wd) (wr:r.wd) (sz:l.size+r.size<1152921504606846976) (e1:r.dep-l.dep=2) (e2:r.lean<0):
  Calls prog 93 #[.pointer (some ⟨b,0,none⟩)] w fun e w'=>e=.returned (.pointer (AT.level b k v l r).adr)∧In w' (AT.level b k v l r)∧Fr (fun x=>x∈(AT.node b k v l r d).fp) w w':=by
 have hlev:AT.level b k v l r=AT.turnLow (AT.mk b k v l (AT.turnHigh r)):=by rw [AT.level,if_pos e1,if_pos e2]
 have t1:((r.dep-l.dep)==2)=true:=beq_iff_eq.2 e1
 have l0:=wl.dep0
 rw [hlev]
 clear hlev
 cases r with
 |nil=>rw [AT.dep_nil] at e1;omega
 |node b1 k1 v1 l1 r1 d1=>
 obtain ⟨wd1,wd2,wd3⟩:=id wr
 have E1:=Lib.hid e1
 rw [AT.lean_node] at e2
 have F0:=wd1.dep0;have F1:=wd1.dep_le;have F2:=wd2.dep0;have F3:=wd2.dep_le
 have S1:(AT.node b1 k1 v1 l1 r1 d1).size=l1.size+r1.size+1:=rfl
 have sz':l.size+l1.size+r1.size<1152921504606846976:=by omega
 clear wd3 e1
 obtain ⟨hb,hl,hr⟩:=h
 have nd0:=Lib.hid nd
 obtain ⟨nbl,nbr,ndl,ndr,ndx⟩:=AT.nodup_node.1 nd
 clear nd
 have D0:=wl.dep0;have D1:=wl.dep_le;have D2:=wr.dep0;have D3:=wr.dep_le
 have HB:=Lib.hid hb
 clear hb
 go_enter func93,ntmps93
 go_wp2_with fail
 refine (measure b k v l (AT.node b1 k1 v1 l1 r1 d1) d w HB.out hl hr (by omega) (by omega) (by omega) (by omega)).mono ?_
 rintro e w1 ⟨rfl,hB1,hF1⟩
 have hl1:In w1 l:=In.fr hl hF1 (fun x hx e=>nbl (e▸hx))
 have hr1:In w1 (AT.node b1 k1 v1 l1 r1 d1):=In.fr hr hF1 (fun x hx e=>nbr (e▸hx))
 have hm1:In w1 (.node b k v l (AT.node b1 k1 v1 l1 r1 d1) (1+max l.dep (AT.node b1 k1 v1 l1 r1 d1).dep)):=⟨hB1,hl1,hr1⟩
 have HF1:=Lib.hid hF1
 clear hF1 hB1 hl hr HB
 go_wp2_with fail
 refine (lean b k v l (AT.node b1 k1 v1 l1 r1 d1) _ w1 hm1 (by omega) (by omega) (by omega) (by omega)).mono ?_
 rintro e w2 ⟨rfl,rfl⟩
 have HF2:Hid (Fr (· =b) w w1.drew):=HF1.out.trans (Fr.drew (fun _=>False) _) (fun _ _ h=>h) (fun _ _ h=>h.elim)
 have hm2:In w1.drew (.node b k v l (AT.node b1 k1 v1 l1 r1 d1) (1+max l.dep (AT.node b1 k1 v1 l1 r1 d1).dep)):=In.fr hm1 (Fr.drew (fun _=>False) _) (fun _ _ h=>h)
 clear HF1 hl1 hr1 hm1
 generalize w1.drew=w2 at *
 clear w1
 have hm3:=Lib.hid hm2
 obtain ⟨hb2,hl2,hr2⟩:=hm2
 rw [AT.adr_node] at hb2
 obtain ⟨-,-,c3,-,-⟩:=cells hb2
 clear hb2 S1
 go_wp2_with fail
 refine (lean b1 k1 v1 l1 r1 d1 w2 hr2 (by omega) (by omega) (by omega) (by omega)).mono ?_
 rintro e w3 ⟨rfl,rfl⟩
 have HF3:Hid (Fr (· =b) w w2.drew):=HF2.out.trans (Fr.drew (fun _=>False) _) (fun _ _ h=>h) (fun _ _ h=>h.elim)
 have HM3:Hid (In w2.drew (.node b k v l (AT.node b1 k1 v1 l1 r1 d1) (1+max l.dep (AT.node b1 k1 v1 l1 r1 d1).dep))):=In.fr hm3.out (Fr.drew (fun _=>False) _) (fun _ _ h=>h)
 clear HF2 hm3 hl2 hr2 c3
 generalize w2.drew=w3 at *
 clear w2
 cases l1 with
 |nil=>rw [AT.dep_nil] at e2;omega
 |node b2 k2 v2 l2 r2 d2=>
 obtain ⟨wd3,wd4,wd5⟩:=id wd1
 have G0:=wd3.dep0;have G1:=wd3.dep_le;have G2:=wd4.dep0;have G3:=wd4.dep_le
 have S2:(AT.node b2 k2 v2 l2 r2 d2).size=l2.size+r2.size+1:=rfl
 have sz2:l.size+l2.size+r2.size+r1.size<1152921504606846976:=by omega
 clear S2 wd5
 obtain ⟨hb3,hl3,hr3⟩:=HM3.out
 rw [AT.adr_node] at hb3
 obtain ⟨-,-,c3,-,-⟩:=cells hb3
 have HB3:=Lib.hid hb3
 clear hb3
 have ndr2:=Lib.hid ndr
 go_wp2_with fail
 refine (turnHigh b1 k1 v1 b2 k2 v2 l2 r2 d2 r1 d1 w3 hr3 ndr2.out wd2 wd3 wd4 (by omega)).mono ?_
 rintro e w4 ⟨rfl,HI,HF⟩
 have nb1:b≠b1:=fun e=>nbr (by rw [e];simp [AT.fp])
 have nb2:b≠b2:=fun e=>nbr (by rw [e];simp [AT.fp])
 have hB4:=(HF.block b (lt_of_heap HB3.out) (fun h=>h.elim nb1 nb2)).trans HB3.out
 have hl4:In w4 l:=In.fr hl3 HF (fun x hx h=>by rcases h with h|h<;>exact ndx x hx x (by rw [h];simp [AT.fp]) rfl)
 have HI4:=Lib.hid HI;have HF4:=Lib.hid (HF3.out.trans HF (T:=fun x=>x=b∨x=b1∨x=b2) (fun i _ h=>.inl h) (fun i _ h=>.inr h))
 obtain ⟨-,-,c4,-,cf4⟩:=cells hB4
 have HB5:=Lib.hid (set_hi hB4 (some ⟨b2,0,none⟩))
 have HF5:Hid (Fr (fun x=>x=b∨x=b1∨x=b2) w (w4.setCell ⟨b,3,none⟩ (.pointer (some ⟨b2,0,none⟩)))):=HF4.out.trans (Fr.setCell w4 ⟨b,3,none⟩ _ (S:=(· =b)) rfl) (fun i _ h=>h) (fun i _ h=>.inl h)
 have HL5:Hid (In (w4.setCell ⟨b,3,none⟩ (.pointer (some ⟨b2,0,none⟩))) l):=In.fr hl4 (Fr.setCell w4 ⟨b,3,none⟩ _ (S:=(· =b)) rfl) (fun x hx h=>nbl (h▸hx))
 have HR5:Hid (In (w4.setCell ⟨b,3,none⟩ (.pointer (some ⟨b2,0,none⟩))) (AT.turnHigh (.node b1 k1 v1 (.node b2 k2 v2 l2 r2 d2) r1 d1))):=In.fr HI4.out (Fr.setCell w4 ⟨b,3,none⟩ _ (S:=(· =b)) rfl) (fun x hx h=>nbr (h▸((AT.perm_turnHigh _).mem_iff.1 hx)))
 clear HI HF hB4 hl4 hl3 hr3 c3 HB3 HM3 HF3 HF4 HI4
 go_wp2_with fail
 clear c4 cf4
 generalize (w4.setCell ⟨b,3,none⟩ (.pointer (some ⟨b2,0,none⟩)))=w5 at *
 refine (turnLow b k v l b2 k2 v2 l2 (AT.mk b1 k1 v1 r2 r1) _ _ w5 ⟨HB5.out,HL5.out,HR5.out⟩ ?_ wl wd3 (AT.wd_mk wd4 wd2) ?_).mono ?_
 ·have hp:=(AT.perm_turnHigh (.node b1 k1 v1 (.node b2 k2 v2 l2 r2 d2) r1 d1)).nodup_iff.2 ndr2.out
  have hm:=fun x=>(AT.perm_turnHigh (.node b1 k1 v1 (.node b2 k2 v2 l2 r2 d2) r1 d1)).mem_iff (a:=x)
  rw [AT.turnHigh_node] at hp hm
  show (b::(l.fp++(AT.mk b2 k2 v2 l2 (AT.mk b1 k1 v1 r2 r1)).fp)).Nodup
  simp only [List.nodup_cons,List.mem_append,not_or,List.nodup_append]
  exact ⟨⟨nbl,fun h=>nbr ((hm b).1 h)⟩,ndl,hp,fun x hx y hy=>ndx x hx y ((hm y).1 hy)⟩
 ·simp only [AT.mk,AT.size];omega
 rintro e w6 ⟨rfl,HI,HF⟩
 have HI6:=Lib.hid HI;have HF6:=Lib.hid HF
 clear HI HF
 go_wp2_with fail
 go_ret
 refine ⟨rfl,HI6.out,HF5.out.trans HF6.out (fun i _ h=>by rcases h with h|h|h<;>rw [h]<;>simp [AT.fp]) (fun i _ h=>by rcases h with h|h<;>rw [h]<;>simp [AT.fp])⟩
theorem level_lo (b:Nat) (k:ByteArray) (v:Int) (l r:AT ByteArray Int) (d:Int) (w:World)
  (h:In w (.node b k v l r d)) (nd:(AT.node b k v l r d).fp.Nodup) (wl:l.wd) (wr:r.wd) (sz:l.size+r.size<1152921504606846976) (e1:r.dep-l.dep= -2) (e2:¬0<l.lean):
  Calls prog 93 #[.pointer (some ⟨b,0,none⟩)] w fun e w'=>e=.returned (.pointer (AT.level b k v l r).adr)∧In w' (AT.level b k v l r)∧Fr (fun x=>x∈(AT.node b k v l r d).fp) w w':=by
 have hlev:AT.level b k v l r=AT.turnHigh (AT.mk b k v l r):=by rw [AT.level,if_neg (by omega),if_pos e1,if_neg e2]
 have t1:((r.dep-l.dep)==2)=false:=beq_eq_false_iff_ne.2 (by omega)
 have t2:((r.dep-l.dep)== -2)=true:=beq_iff_eq.2 e1
 have r0:=wr.dep0
 rw [hlev]
 clear hlev
 cases l with
 |nil=>rw [AT.dep_nil] at e1;omega
 |node b1 k1 v1 l1 r1 d1=>
 obtain ⟨wd1,wd2,wd3⟩:=id wl
 have E1:=Lib.hid e1
 rw [AT.lean_node] at e2
 have e3:r1.dep-l1.dep≤0:=by omega
 have F0:=wd1.dep0;have F1:=wd1.dep_le;have F2:=wd2.dep0;have F3:=wd2.dep_le
 have S1:(AT.node b1 k1 v1 l1 r1 d1).size=l1.size+r1.size+1:=rfl
 have sz':r.size+l1.size+r1.size<1152921504606846976:=by omega
 clear wd3 e1
 obtain ⟨hb,hl,hr⟩:=h
 have nd0:=Lib.hid nd
 obtain ⟨nbl,nbr,ndl,ndr,ndx⟩:=AT.nodup_node.1 nd
 clear nd
 have D0:=wl.dep0;have D1:=wl.dep_le;have D2:=wr.dep0;have D3:=wr.dep_le
 have HB:=Lib.hid hb
 clear hb
 go_enter func93,ntmps93
 go_wp2_with fail
 refine (measure b k v (AT.node b1 k1 v1 l1 r1 d1) r d w HB.out hl hr (by omega) (by omega) (by omega) (by omega)).mono ?_
 rintro e w1 ⟨rfl,hB1,hF1⟩
 have hl1:In w1 (AT.node b1 k1 v1 l1 r1 d1):=In.fr hl hF1 (fun x hx e=>nbl (e▸hx))
 have hr1:In w1 r:=In.fr hr hF1 (fun x hx e=>nbr (e▸hx))
 have hm1:In w1 (.node b k v (AT.node b1 k1 v1 l1 r1 d1) r (1+max (AT.node b1 k1 v1 l1 r1 d1).dep r.dep)):=⟨hB1,hl1,hr1⟩
 have HF1:=Lib.hid hF1
 clear hF1 hB1 hl hr HB
 go_wp2_with fail
 refine (lean b k v (AT.node b1 k1 v1 l1 r1 d1) r _ w1 hm1 (by omega) (by omega) (by omega) (by omega)).mono ?_
 rintro e w2 ⟨rfl,rfl⟩
 have HF2:Hid (Fr (· =b) w w1.drew):=HF1.out.trans (Fr.drew (fun _=>False) _) (fun _ _ h=>h) (fun _ _ h=>h.elim)
 have hm2:In w1.drew (.node b k v (AT.node b1 k1 v1 l1 r1 d1) r (1+max (AT.node b1 k1 v1 l1 r1 d1).dep r.dep)):=In.fr hm1 (Fr.drew (fun _=>False) _) (fun _ _ h=>h)
 clear HF1 hl1 hr1 hm1
 generalize w1.drew=w2 at *
 clear w1
 have hm3:=Lib.hid hm2
 obtain ⟨hb2,hl2,hr2⟩:=hm2
 rw [AT.adr_node] at hb2
 obtain ⟨-,c3,-,-,-⟩:=cells hb2
 clear hb2 S1
 go_wp2_with fail
 refine (lean b1 k1 v1 l1 r1 d1 w2 hl2 (by omega) (by omega) (by omega) (by omega)).mono ?_
 rintro e w3 ⟨rfl,rfl⟩
 have HF3:Hid (Fr (· =b) w w2.drew):=HF2.out.trans (Fr.drew (fun _=>False) _) (fun _ _ h=>h) (fun _ _ h=>h.elim)
 have HM3:Hid (In w2.drew (.node b k v (AT.node b1 k1 v1 l1 r1 d1) r (1+max (AT.node b1 k1 v1 l1 r1 d1).dep r.dep))):=In.fr hm3.out (Fr.drew (fun _=>False) _) (fun _ _ h=>h)
 clear HF2 hm3 hl2 hr2 c3
 generalize w2.drew=w3 at *
 clear w2
 go_wp2_with fail
 refine (turnHigh b k v b1 k1 v1 l1 r1 d1 r _ w3 HM3.out (nd0.out) wr wd1 wd2 (by omega)).mono ?_
 rintro e w4 ⟨rfl,HI,HF⟩
 have HI4:=Lib.hid HI;have HF4:=Lib.hid HF
 clear HI HF
 go_wp2_with fail
 go_ret
 refine ⟨rfl,HI4.out,HF3.out.trans HF4.out (fun i _ h=>by rw [h];simp [AT.fp]) (fun i _ h=>by rcases h with h|h<;>rw [h]<;>simp [AT.fp])⟩
theorem level_lohi (b:Nat) (k:ByteArray) (v:Int) (l r:AT ByteArray Int) (d:Int) (w:World)
  (h:In w (.node b k v l r d)) (nd:(AT.node b k v l r d).fp.Nodup) (wl:l.wd) (wr:r.wd) (sz:l.size+r.size<1152921504606846976) (e1:r.dep-l.dep= -2) (e2:0<l.lean):
  Calls prog 93 #[.pointer (some ⟨b,0,none⟩)] w fun e w'=>e=.returned (.pointer (AT.level b k v l r).adr)∧In w' (AT.level b k v l r)∧Fr (fun x=>x∈(AT.node b k v l r d).fp) w w':=by
 have hlev:AT.level b k v l r=AT.turnHigh (AT.mk b k v (AT.turnLow l) r):=by rw [AT.level,if_neg (by omega),if_pos e1,if_pos e2]
 have t1:((r.dep-l.dep)==2)=false:=beq_eq_false_iff_ne.2 (by omega)
 have t2:((r.dep-l.dep)== -2)=true:=beq_iff_eq.2 e1
 have r0:=wr.dep0
 rw [hlev]
 clear hlev
 cases l with
 |nil=>rw [AT.dep_nil] at e1;omega
 |node b1 k1 v1 l1 r1 d1=>
 obtain ⟨wd1,wd2,wd3⟩:=id wl
 have E1:=Lib.hid e1
 rw [AT.lean_node] at e2
 have F0:=wd1.dep0;have F1:=wd1.dep_le;have F2:=wd2.dep0;have F3:=wd2.dep_le
 have S1:(AT.node b1 k1 v1 l1 r1 d1).size=l1.size+r1.size+1:=rfl
 have sz':r.size+l1.size+r1.size<1152921504606846976:=by omega
 clear wd3 e1
 obtain ⟨hb,hl,hr⟩:=h
 have nd0:=Lib.hid nd
 obtain ⟨nbl,nbr,ndl,ndr,ndx⟩:=AT.nodup_node.1 nd
 clear nd
 have D0:=wl.dep0;have D1:=wl.dep_le;have D2:=wr.dep0;have D3:=wr.dep_le
 have HB:=Lib.hid hb
 clear hb
 go_enter func93,ntmps93
 go_wp2_with fail
 refine (measure b k v (AT.node b1 k1 v1 l1 r1 d1) r d w HB.out hl hr (by omega) (by omega) (by omega) (by omega)).mono ?_
 rintro e w1 ⟨rfl,hB1,hF1⟩
 have hl1:In w1 (AT.node b1 k1 v1 l1 r1 d1):=In.fr hl hF1 (fun x hx e=>nbl (e▸hx))
 have hr1:In w1 r:=In.fr hr hF1 (fun x hx e=>nbr (e▸hx))
 have hm1:In w1 (.node b k v (AT.node b1 k1 v1 l1 r1 d1) r (1+max (AT.node b1 k1 v1 l1 r1 d1).dep r.dep)):=⟨hB1,hl1,hr1⟩
 have HF1:=Lib.hid hF1
 clear hF1 hB1 hl hr HB
 go_wp2_with fail
 refine (lean b k v (AT.node b1 k1 v1 l1 r1 d1) r _ w1 hm1 (by omega) (by omega) (by omega) (by omega)).mono ?_
 rintro e w2 ⟨rfl,rfl⟩
 have HF2:Hid (Fr (· =b) w w1.drew):=HF1.out.trans (Fr.drew (fun _=>False) _) (fun _ _ h=>h) (fun _ _ h=>h.elim)
 have hm2:In w1.drew (.node b k v (AT.node b1 k1 v1 l1 r1 d1) r (1+max (AT.node b1 k1 v1 l1 r1 d1).dep r.dep)):=In.fr hm1 (Fr.drew (fun _=>False) _) (fun _ _ h=>h)
 clear HF1 hl1 hr1 hm1
 generalize w1.drew=w2 at *
 clear w1
 have hm3:=Lib.hid hm2
 obtain ⟨hb2,hl2,hr2⟩:=hm2
 rw [AT.adr_node] at hb2
 obtain ⟨-,c3,-,-,-⟩:=cells hb2
 clear hb2 S1
 go_wp2_with fail
 refine (lean b1 k1 v1 l1 r1 d1 w2 hl2 (by omega) (by omega) (by omega) (by omega)).mono ?_
 rintro e w3 ⟨rfl,rfl⟩
 have HF3:Hid (Fr (· =b) w w2.drew):=HF2.out.trans (Fr.drew (fun _=>False) _) (fun _ _ h=>h) (fun _ _ h=>h.elim)
 have HM3:Hid (In w2.drew (.node b k v (AT.node b1 k1 v1 l1 r1 d1) r (1+max (AT.node b1 k1 v1 l1 r1 d1).dep r.dep))):=In.fr hm3.out (Fr.drew (fun _=>False) _) (fun _ _ h=>h)
 clear HF2 hm3 hl2 hr2 c3
 generalize w2.drew=w3 at *
 clear w2
 cases r1 with
 |nil=>rw [AT.dep_nil] at e2;omega
 |node b2 k2 v2 l2 r2 d2=>
 obtain ⟨wd3,wd4,wd5⟩:=id wd2
 have G0:=wd3.dep0;have G1:=wd3.dep_le;have G2:=wd4.dep0;have G3:=wd4.dep_le
 have S2:(AT.node b2 k2 v2 l2 r2 d2).size=l2.size+r2.size+1:=rfl
 have sz2:r.size+l2.size+r2.size+l1.size<1152921504606846976:=by omega
 clear S2 wd5
 obtain ⟨hb3,hl3,hr3⟩:=HM3.out
 rw [AT.adr_node] at hb3
 obtain ⟨-,c3,-,-,-⟩:=cells hb3
 have HB3:=Lib.hid hb3
 clear hb3
 have ndl2:=Lib.hid ndl
 go_wp2_with fail
 refine (turnLow b1 k1 v1 l1 b2 k2 v2 l2 r2 d2 d1 w3 hl3 ndl2.out wd1 wd3 wd4 (by omega)).mono ?_
 rintro e w4 ⟨rfl,HI,HF⟩
 have nb1:b≠b1:=fun e=>nbl (by rw [e];simp [AT.fp])
 have nb2:b≠b2:=fun e=>nbl (by rw [e];simp [AT.fp])
 have hB4:=(HF.block b (lt_of_heap HB3.out) (fun h=>h.elim nb1 nb2)).trans HB3.out
 have hr4:In w4 r:=In.fr hr3 HF (fun x hx h=>by rcases h with h|h<;>exact ndx x (by rw [h];simp [AT.fp]) x hx rfl)
 have HI4:=Lib.hid HI;have HF4:=Lib.hid (HF3.out.trans HF (T:=fun x=>x=b∨x=b1∨x=b2) (fun i _ h=>.inl h) (fun i _ h=>.inr h))
 obtain ⟨-,c4,-,-,cf4⟩:=cells hB4
 have HB5:=Lib.hid (set_lo hB4 (some ⟨b2,0,none⟩))
 have HF5:Hid (Fr (fun x=>x=b∨x=b1∨x=b2) w (w4.setCell ⟨b,2,none⟩ (.pointer (some ⟨b2,0,none⟩)))):=HF4.out.trans (Fr.setCell w4 ⟨b,2,none⟩ _ (S:=(· =b)) rfl) (fun i _ h=>h) (fun i _ h=>.inl h)
 have HR5:Hid (In (w4.setCell ⟨b,2,none⟩ (.pointer (some ⟨b2,0,none⟩))) r):=In.fr hr4 (Fr.setCell w4 ⟨b,2,none⟩ _ (S:=(· =b)) rfl) (fun x hx h=>nbr (h▸hx))
 have HL5:Hid (In (w4.setCell ⟨b,2,none⟩ (.pointer (some ⟨b2,0,none⟩))) (AT.turnLow (.node b1 k1 v1 l1 (.node b2 k2 v2 l2 r2 d2) d1))):=In.fr HI4.out (Fr.setCell w4 ⟨b,2,none⟩ _ (S:=(· =b)) rfl) (fun x hx h=>nbl (h▸((AT.perm_turnLow _).mem_iff.1 hx)))
 clear HI HF hB4 hr4 hl3 hr3 c3 HB3 HM3 HF3 HF4 HI4
 go_wp2_with fail
 clear c4 cf4
 generalize (w4.setCell ⟨b,2,none⟩ (.pointer (some ⟨b2,0,none⟩)))=w5 at *
 refine (turnHigh b k v b2 k2 v2 (AT.mk b1 k1 v1 l1 l2) r2 _ r _ w5 ⟨HB5.out,HL5.out,HR5.out⟩ ?_ wr (AT.wd_mk wd1 wd3) wd4 ?_).mono ?_
 ·have hp:=(AT.perm_turnLow (.node b1 k1 v1 l1 (.node b2 k2 v2 l2 r2 d2) d1)).nodup_iff.2 ndl2.out
  have hm:=fun x=>(AT.perm_turnLow (.node b1 k1 v1 l1 (.node b2 k2 v2 l2 r2 d2) d1)).mem_iff (a:=x)
  rw [AT.turnLow_node] at hp hm
  show (b::((AT.mk b2 k2 v2 (AT.mk b1 k1 v1 l1 l2) r2).fp++r.fp)).Nodup
  rw [List.nodup_cons,List.mem_append,not_or,List.nodup_append]
  exact ⟨⟨fun h=>nbl ((hm b).1 h),nbr⟩,hp,ndr,fun x hx y hy=>ndx x ((hm x).1 hx) y hy⟩
 ·simp only [AT.mk,AT.size];omega
 rintro e w6 ⟨rfl,HI,HF⟩
 have HI6:=Lib.hid HI;have HF6:=Lib.hid HF
 clear HI HF
 go_wp2_with fail
 go_ret
 refine ⟨rfl,HI6.out,HF5.out.trans HF6.out (fun i _ h=>by rcases h with h|h|h<;>rw [h]<;>simp [AT.fp]) (fun i _ h=>by rcases h with h|h<;>rw [h]<;>simp [AT.fp])⟩
theorem level (b:Nat) (k:ByteArray) (v:Int) (l r:AT ByteArray Int) (d:Int) (w:World)
  (h:In w (.node b k v l r d)) (nd:(AT.node b k v l r d).fp.Nodup) (wl:l.wd) (wr:r.wd) (sz:l.size+r.size<1152921504606846976):
  Calls prog 93 #[.pointer (some ⟨b,0,none⟩)] w fun e w'=>e=.returned (.pointer (AT.level b k v l r).adr)∧In w' (AT.level b k v l r)∧Fr (fun x=>x∈(AT.node b k v l r d).fp) w w':=by
 by_cases e1:r.dep-l.dep=2
 ·by_cases e2:r.lean<0
  ·exact level_hilo b k v l r d w h nd wl wr sz e1 e2
  ·exact level_hi b k v l r d w h nd wl wr sz e1 e2
 ·by_cases e3:r.dep-l.dep= -2
  ·by_cases e2:0<l.lean
   ·exact level_lohi b k v l r d w h nd wl wr sz e3 e2
   ·exact level_lo b k v l r d w h nd wl wr sz e3 e2
  ·exact level_else b k v l r d w h nd wl wr sz e1 e3
end AvlSI
set_option maxRecDepth 100000
namespace AvlSI
theorem set_v {w:World} {b:Nat} {k:ByteArray} {v:Int} {l r:Option Addr} {d:Int} (h:w.heap[b]? =some (.cells (blk k v l r d) 109 (0,0))) (v':Int):
  (w.setCell ⟨b,1,none⟩ (.int .i64 v')).heap[b]? =some (.cells (blk k v' l r d) 109 (0,0)):=heap_setCell_same h _
theorem put_nodup (n:Nat) (k:ByteArray) (v:Int) {t:AT ByteArray Int} (nd:t.fp.Nodup) (hn:∀x∈t.fp,x<n):(AT.put n k v t).1.fp.Nodup∧∀x∈(AT.put n k v t).1.fp,x=n∨x∈t.fp:=by
 have hp:=AT.perm_put n k v t
 cases h:(AT.put n k v t).2 with
 |true=>
  rw [h,if_pos rfl] at hp
  refine ⟨hp.nodup_iff.2 (List.nodup_cons.2 ⟨fun x=>Nat.lt_irrefl _ (hn _ x),nd⟩),fun x hx=>?_⟩
  have:=hp.mem_iff.1 hx
  simpa using this
 |false=>
  rw [h,if_neg (by simp)] at hp
  exact ⟨hp.nodup_iff.2 nd,fun x hx=>.inr (hp.mem_iff.1 hx)⟩
theorem put_size (n:Nat) (k:ByteArray) (v:Int) (t:AT ByteArray Int):(AT.put n k v t).1.size≤t.size+1:=by
 have hp:=(AT.perm_put n k v t).length_eq
 rw [AT.fp_length] at hp
 cases h:(AT.put n k v t).2 with
 |true=>rw [h,if_pos rfl,List.length_cons,AT.fp_length] at hp;omega
 |false=>rw [h,if_neg (by simp),AT.fp_length] at hp;omega
theorem put_nil (k:ByteArray) (v:Int) (w:World):Calls prog 68 #[.pointer none,.string k,.int .i64 v] w fun e w'=>
  e=.returned (.tuple #[.pointer (some ⟨w.heap.size,0,none⟩),.bool true])∧w'=w.alloc (.cells (blk k v none none 1) 109 (0,0)):=by
 go_enter func68,ntmps68
 go_wp2_with fail
 go_ret2
 exact ⟨rfl,rfl⟩
def PutPost (k:ByteArray) (v:Int) (t:AT ByteArray Int) (w:World) (e:Ending) (w':World):Prop:=
 e=.returned (.tuple #[.pointer (AT.put w.heap.size k v t).1.adr,.bool (AT.put w.heap.size k v t).2])∧In w' (AT.put w.heap.size k v t).1∧Fr (fun x=>x∈t.fp) w w'
theorem put_low (k:ByteArray) (v:Int) (b:Nat) (k':ByteArray) (v':Int) (l r:AT ByteArray Int) (d:Int) (w:World)
  (h:In w (.node b k' v' l r d)) (nd:(AT.node b k' v' l r d).fp.Nodup) (wl:l.wd) (wr:r.wd) (sz:l.size+r.size<576460752303423488)
  (ih:Calls prog 68 #[.pointer l.adr,.string k,.int .i64 v] w (PutPost k v l w)) (hlt:Ord.lt k k'=true):
  Calls prog 68 #[.pointer (some ⟨b,0,none⟩),.string k,.int .i64 v] w (PutPost k v (.node b k' v' l r d) w):=by
 have hput:AT.put w.heap.size k v (.node b k' v' l r d)=(AT.level b k' v' (AT.put w.heap.size k v l).1 r,(AT.put w.heap.size k v l).2):=by rw [AT.put,if_pos hlt]
 have hlx:=put_nodup w.heap.size k v (AT.nodup_node.1 nd).2.2.1 (In.lt h.2.1)
 have hsx:=put_size w.heap.size k v l
 have hwx:(AT.put w.heap.size k v l).1.wd:=AT.wd_put _ k v wl
 have HP:=Lib.hid hput;have HX:=Lib.hid hlx;have HW:=Lib.hid hwx
 clear hput hlx hwx
 have IH:=Lib.hid ih
 clear ih
 obtain ⟨hb,hl,hr⟩:=h
 obtain ⟨nbl,nbr,ndl,ndr,ndx⟩:=AT.nodup_node.1 nd
 obtain ⟨c0,c2,c3,-,cf⟩:=cells hb
 have hbw:=lt_of_heap hb
 have HB:=Lib.hid hb;have ND:=Lib.hid nd
 clear hb nd
 have thlt:Op.bytesLess k.toList k'.toList=true:=hlt;have uhlt:Op.bytesLess k'.toList k.toList=false:=Ord.asymm hlt;have yhlt:(k.toList==k'.toList)=false:=Bl.ne hlt;have zhlt:(k'.toList==k.toList)=false:=Bl.ne' hlt
 go_enter func68,ntmps68
 go_wp2_with fail
 refine IH.out.mono ?_
 rintro e w1 ⟨rfl,hI,hF⟩
 have hB1:=(hF.block b hbw nbl).trans HB.out
 have hr1:In w1 r:=In.fr hr hF (fun x hx h=>ndx x h x hx rfl)
 obtain ⟨-,c2',-,-,cf'⟩:=cells hB1
 generalize (AT.put w.heap.size k v l).1=L at *
 generalize (AT.put w.heap.size k v l).2=q at *
 have HB2:=Lib.hid (set_lo hB1 L.adr)
 have hfx:=Fr.setCell w1 ⟨b,2,none⟩ (.pointer L.adr) (S:=(· =b)) rfl
 have nbL:b∉L.fp:=fun x=>by rcases HX.out.2 b x with e|e;exact absurd e (Nat.ne_of_lt hbw);exact nbl e
 have hI2:=Lib.hid (In.fr hI hfx (fun x hx e=>nbL (e▸hx)))
 have hr2:=Lib.hid (In.fr hr1 hfx (fun x hx e=>nbr (e▸hx)))
 have HF2:=Lib.hid (hF.trans hfx (T:=fun x=>x∈(AT.node b k' v' l r d).fp) (fun i _ h=>AT.mem_node.2 (.inr (.inl h))) (fun i _ h=>AT.mem_node.2 (.inl h)))
 have ND2:Hid ((AT.node b k' v' L r d).fp.Nodup):=AT.nodup_node.2 ⟨nbL,nbr,HX.out.1,ndr,fun x hx y hy e=>by
  rcases HX.out.2 x hx with e'|e'
  ·have:=In.lt hr y hy;omega
  ·exact ndx x e' y hy e⟩
 clear hI hF hB1 hr1 hfx c0 c2 c3 cf
 go_wp2_with fail
 clear c2' cf'
 generalize (w1.setCell ⟨b,2,none⟩ (.pointer L.adr))=w2 at *
 refine (level b k' v' L r d w2 ⟨HB2.out,hI2.out,hr2.out⟩ ND2.out HW.out wr (by omega)).mono ?_
 rintro e w3 ⟨rfl,HI,HF⟩
 have HI3:=Lib.hid HI;have HF3:=Lib.hid HF
 clear HI HF
 go_wp2_with fail
 go_ret2
 unfold PutPost
 rw [HP.out]
 refine ⟨rfl,HI3.out,HF2.out.trans HF3.out (fun i _ h=>h) (fun i hi h=>?_)⟩
 rcases AT.mem_node.1 h with h|h|h
 ·exact AT.mem_node.2 (.inl h)
 ·rcases HX.out.2 i h with e'|e'
  ·omega
  ·exact AT.mem_node.2 (.inr (.inl e'))
 ·exact AT.mem_node.2 (.inr (.inr h))
theorem put_high (k:ByteArray) (v:Int) (b:Nat) (k':ByteArray) (v':Int) (l r:AT ByteArray Int) (d:Int) (w:World)
  (h:In w (.node b k' v' l r d)) (nd:(AT.node b k' v' l r d).fp.Nodup) (wl:l.wd) (wr:r.wd) (sz:l.size+r.size<576460752303423488)
  (ih:Calls prog 68 #[.pointer r.adr,.string k,.int .i64 v] w (PutPost k v r w)) (hlt:Ord.lt k' k=true):
  Calls prog 68 #[.pointer (some ⟨b,0,none⟩),.string k,.int .i64 v] w (PutPost k v (.node b k' v' l r d) w):=by
 have hput:AT.put w.heap.size k v (.node b k' v' l r d)=(AT.level b k' v' l (AT.put w.heap.size k v r).1,(AT.put w.heap.size k v r).2):=by rw [AT.put,if_neg (by rw [Ord.asymm hlt];simp),if_pos hlt]
 have hlx:=put_nodup w.heap.size k v (AT.nodup_node.1 nd).2.2.2.1 (In.lt h.2.2)
 have hsx:=put_size w.heap.size k v r
 have hwx:(AT.put w.heap.size k v r).1.wd:=AT.wd_put _ k v wr
 have HP:=Lib.hid hput;have HX:=Lib.hid hlx;have HW:=Lib.hid hwx
 clear hput hlx hwx
 have IH:=Lib.hid ih
 clear ih
 obtain ⟨hb,hl,hr⟩:=h
 obtain ⟨nbl,nbr,ndl,ndr,ndx⟩:=AT.nodup_node.1 nd
 obtain ⟨c0,c2,c3,-,cf⟩:=cells hb
 have hbw:=lt_of_heap hb
 have HB:=Lib.hid hb;have ND:=Lib.hid nd
 clear hb nd
 have thlt:Op.bytesLess k'.toList k.toList=true:=hlt;have uhlt:Op.bytesLess k.toList k'.toList=false:=Ord.asymm hlt;have yhlt:(k'.toList==k.toList)=false:=Bl.ne hlt;have zhlt:(k.toList==k'.toList)=false:=Bl.ne' hlt
 go_enter func68,ntmps68
 go_wp2_with fail
 refine IH.out.mono ?_
 rintro e w1 ⟨rfl,hI,hF⟩
 have hB1:=(hF.block b hbw nbr).trans HB.out
 have hr1:In w1 l:=In.fr hl hF (fun x hx h=>ndx x hx x h rfl)
 obtain ⟨-,-,c2',-,cf'⟩:=cells hB1
 generalize (AT.put w.heap.size k v r).1=L at *
 generalize (AT.put w.heap.size k v r).2=q at *
 have HB2:=Lib.hid (set_hi hB1 L.adr)
 have hfx:=Fr.setCell w1 ⟨b,3,none⟩ (.pointer L.adr) (S:=(· =b)) rfl
 have nbL:b∉L.fp:=fun x=>by rcases HX.out.2 b x with e|e;exact absurd e (Nat.ne_of_lt hbw);exact nbr e
 have hI2:=Lib.hid (In.fr hI hfx (fun x hx e=>nbL (e▸hx)))
 have hr2:=Lib.hid (In.fr hr1 hfx (fun x hx e=>nbl (e▸hx)))
 have HF2:=Lib.hid (hF.trans hfx (T:=fun x=>x∈(AT.node b k' v' l r d).fp) (fun i _ h=>AT.mem_node.2 (.inr (.inr h))) (fun i _ h=>AT.mem_node.2 (.inl h)))
 have ND2:Hid ((AT.node b k' v' l L d).fp.Nodup):=AT.nodup_node.2 ⟨nbl,nbL,ndl,HX.out.1,fun x hx y hy e=>by
  rcases HX.out.2 y hy with e'|e'
  ·have:=In.lt hl x hx;omega
  ·exact ndx x hx y e' e⟩
 clear hI hF hB1 hr1 hfx c0 c2 c3 cf
 go_wp2_with fail
 clear c2' cf'
 generalize (w1.setCell ⟨b,3,none⟩ (.pointer L.adr))=w2 at *
 refine (level b k' v' l L d w2 ⟨HB2.out,hr2.out,hI2.out⟩ ND2.out wl HW.out (by omega)).mono ?_
 rintro e w3 ⟨rfl,HI,HF⟩
 have HI3:=Lib.hid HI;have HF3:=Lib.hid HF
 clear HI HF
 go_wp2_with fail
 go_ret2
 unfold PutPost
 rw [HP.out]
 refine ⟨rfl,HI3.out,HF2.out.trans HF3.out (fun i _ h=>h) (fun i hi h=>?_)⟩
 rcases AT.mem_node.1 h with h|h|h
 ·exact AT.mem_node.2 (.inl h)
 ·exact AT.mem_node.2 (.inr (.inl h))
 ·rcases HX.out.2 i h with e'|e'
  ·omega
  ·exact AT.mem_node.2 (.inr (.inr e'))
theorem put_eq (v:Int) (b:Nat) (k:ByteArray) (v':Int) (l r:AT ByteArray Int) (d:Int) (w:World)
  (h:In w (.node b k v' l r d)) (nd:(AT.node b k v' l r d).fp.Nodup) (wl:l.wd) (wr:r.wd) (sz:l.size+r.size<576460752303423488):
  Calls prog 68 #[.pointer (some ⟨b,0,none⟩),.string k,.int .i64 v] w (PutPost k v (.node b k v' l r d) w):=by
 have hput:AT.put w.heap.size k v (.node b k v' l r d)=(AT.level b k v l r,false):=by rw [AT.put,if_neg (by rw [Ord.irr];simp),if_neg (by rw [Ord.irr];simp)]
 have HP:=Lib.hid hput
 clear hput
 obtain ⟨hb,hl,hr⟩:=h
 obtain ⟨nbl,nbr,ndl,ndr,ndx⟩:=AT.nodup_node.1 nd
 obtain ⟨c0,c2,c3,-,cf⟩:=cells hb
 have c1:w.cell? ⟨b,1,none⟩=some (.int .i64 v'):=by rw [cell_of_block hb];rfl
 have tk:Op.bytesLess k.toList k.toList=false:=Ord.irr k
 have hfx:=Fr.setCell w ⟨b,1,none⟩ (.int .i64 v) (S:=(· =b)) rfl
 have HB2:=Lib.hid (set_v hb v)
 have hl2:=Lib.hid (In.fr hl hfx (fun x hx e=>nbl (e▸hx)))
 have hr2:=Lib.hid (In.fr hr hfx (fun x hx e=>nbr (e▸hx)))
 have HF2:=Lib.hid hfx
 have ND:=Lib.hid nd
 clear hb nd hfx hl hr
 go_enter func68,ntmps68
 go_wp2_with fail
 generalize (w.setCell ⟨b,1,none⟩ (.int .i64 v))=w2 at *
 refine (level b k v l r d w2 ⟨HB2.out,hl2.out,hr2.out⟩ ND.out wl wr (by omega)).mono ?_
 rintro e w3 ⟨rfl,HI,HF⟩
 have HI3:=Lib.hid HI;have HF3:=Lib.hid HF
 clear HI HF
 go_wp2_with fail
 go_ret2
 unfold PutPost
 rw [HP.out]
 exact ⟨rfl,HI3.out,HF2.out.trans HF3.out (fun i _ h=>AT.mem_node.2 (.inl h)) (fun i hi h=>h)⟩
theorem put (k:ByteArray) (v:Int) (t:AT ByteArray Int):∀ (w:World),In w t→t.fp.Nodup→t.wd→t.size<288230376151711744→
  Calls prog 68 #[.pointer t.adr,.string k,.int .i64 v] w (PutPost k v t w):=by
 induction t with
 |nil=>
  intro w _ _ _ _
  refine (put_nil k v w).mono ?_
  rintro e w' ⟨rfl,rfl⟩
  exact ⟨rfl,⟨heap_new _ _,trivial,trivial⟩,Fr.alloc _ _ _⟩
 |node b k' v' l r d ihl ihr=>
  intro w h nd wd sz
  obtain ⟨nbl,nbr,ndl,ndr,ndx⟩:=AT.nodup_node.1 nd
  have sz':l.size+r.size<288230376151711744:=by simp only [AT.size] at sz;omega
  by_cases h1:Ord.lt k k'=true
  ·exact put_low k v b k' v' l r d w h nd wd.1 wd.2.1 (by omega) (ihl w h.2.1 ndl wd.1 (by omega)) h1
  ·by_cases h2:Ord.lt k' k=true
   ·exact put_high k v b k' v' l r d w h nd wd.1 wd.2.1 (by omega) (ihr w h.2.2 ndr wd.2.1 (by omega)) h2
   ·obtain rfl:k=k':=Ord.tri _ _ (by simpa using h1) (by simpa using h2)
    exact put_eq v b k v' l r d w h nd wd.1 wd.2.1 (by omega)
end AvlSI
set_option maxRecDepth 100000
namespace AvlSI
def LeastPost (t:AT ByteArray Int) (w:World) (e:Ending) (w':World):Prop:=
 ∃ (b2:Nat) (k2:ByteArray) (v2:Int) (l2 r2:Option Addr) (d2:Int),t.first=some (b2,k2,v2)∧e=.returned (.tuple #[.pointer t.rest.adr,.pointer (some ⟨b2,0,none⟩)])∧In w' t.rest∧
  w'.heap[b2]? =some (.cells (blk k2 v2 l2 r2 d2) 109 (0,0))∧Fr (fun x=>x∈t.fp) w w'
theorem least_nil (b:Nat) (k:ByteArray) (v:Int) (r:AT ByteArray Int) (d:Int) (w:World) (h:In w (.node b k v .nil r d)):
  Calls prog 92 #[.pointer (some ⟨b,0,none⟩)] w (LeastPost (.node b k v .nil r d) w):=by
 obtain ⟨hb,hl,hr⟩:=h
 rw [AT.adr_nil] at hb
 obtain ⟨-,c2,c3,-,-⟩:=cells hb
 have HB:=Lib.hid hb
 clear hb
 go_enter func92,ntmps92
 go_wp2_with fail
 go_ret2
 exact ⟨b,k,v,_,_,_,rfl,rfl,hr,HB.out,Fr.refl _ _⟩
theorem rest_size {t:AT ByteArray Int} {b:Nat} {k:ByteArray} {v:Int} (h:t.first=some (b,k,v)):t.rest.size+1=t.size:=by
 have:=(AT.perm_rest h).length_eq
 rw [List.length_cons,AT.fp_length,AT.fp_length] at this
 exact this
theorem rest_nodup {t:AT ByteArray Int} {b:Nat} {k:ByteArray} {v:Int} (h:t.first=some (b,k,v)) (nd:t.fp.Nodup):b∉t.rest.fp∧t.rest.fp.Nodup∧b∈t.fp∧∀x∈t.rest.fp,x∈t.fp:=by
 have hp:=AT.perm_rest h
 have:=hp.nodup_iff.2 nd
 rw [List.nodup_cons] at this
 exact ⟨this.1,this.2,hp.mem_iff.1 (by simp),fun x hx=>hp.mem_iff.1 (by simp [hx])⟩
theorem least_node (b:Nat) (k:ByteArray) (v:Int) (b':Nat) (k':ByteArray) (v':Int) (l' r':AT ByteArray Int) (d':Int) (r:AT ByteArray Int) (d:Int) (w:World)
  (h:In w (.node b k v (.node b' k' v' l' r' d') r d)) (nd:(AT.node b k v (.node b' k' v' l' r' d') r d).fp.Nodup) (wl:(AT.node b' k' v' l' r' d').wd) (wr:r.wd) (sz:(AT.node b' k' v' l' r' d').size+r.size<576460752303423488)
  (ih:Calls prog 92 #[.pointer (some ⟨b',0,none⟩)] w (LeastPost (.node b' k' v' l' r' d') w)):
  Calls prog 92 #[.pointer (some ⟨b,0,none⟩)] w (LeastPost (.node b k v (.node b' k' v' l' r' d') r d) w):=by
 have hres:(AT.node b k v (.node b' k' v' l' r' d') r d).rest=AT.level b k v (AT.node b' k' v' l' r' d').rest r:=by rw [AT.rest]
 have hfst:(AT.node b k v (.node b' k' v' l' r' d') r d).first=(AT.node b' k' v' l' r' d').first:=by rw [AT.first]
 have HR:=Lib.hid hres;have HFS:=Lib.hid hfst;have IH:=Lib.hid ih;have ND:=Lib.hid nd
 obtain ⟨nbl,nbr,ndl,ndr,ndx⟩:=AT.nodup_node.1 nd
 clear hres hfst ih nd
 obtain ⟨hb,hl,hr⟩:=h
 rw [AT.adr_node] at hb
 generalize hY:(AT.node b' k' v' l' r' d')=l at *
 obtain ⟨-,c2,c3,-,-⟩:=cells hb
 have HB:=Lib.hid hb
 have hbw:=lt_of_heap hb
 clear hb hY
 go_enter func92,ntmps92
 go_wp2_with fail
 refine IH.out.mono ?_
 rintro e w1 ⟨b2,k2,v2,l2,r2,d2,h1,rfl,h3,h4,hF⟩
 have hB1:=(hF.block b hbw nbl).trans HB.out
 have hr1:In w1 r:=In.fr hr hF (fun x hx h=>ndx x h x hx rfl)
 have hsz:=rest_size h1
 have hsz':l.rest.size≤l.size:=by omega
 have HN:=Lib.hid (rest_nodup h1 ndl)
 obtain ⟨-,c2',-,-,cf'⟩:=cells hB1
 have HB2:=Lib.hid (set_lo hB1 l.rest.adr)
 have hfx:=Fr.setCell w1 ⟨b,2,none⟩ (.pointer l.rest.adr) (S:=(· =b)) rfl
 have nbL:b∉l.rest.fp:=fun x=>nbl (HN.out.2.2.2 b x)
 have hI2:=Lib.hid (In.fr h3 hfx (fun x hx e=>nbL (e▸hx)))
 have hr2:=Lib.hid (In.fr hr1 hfx (fun x hx e=>nbr (e▸hx)))
 have hn2:b2≠b:=fun e=>nbl (e▸HN.out.2.2.1)
 have h42:=Lib.hid ((hfx.block b2 (lt_of_heap h4) hn2).trans h4)
 have HF2:=Lib.hid (hF.trans hfx (T:=fun x=>x∈(AT.node b k v l r d).fp) (fun i _ h=>AT.mem_node.2 (.inr (.inl h))) (fun i _ h=>AT.mem_node.2 (.inl h)))
 have ND2:Hid ((AT.node b k v l.rest r d).fp.Nodup):=AT.nodup_node.2 ⟨nbL,nbr,HN.out.2.1,ndr,fun x hx y hy e=>ndx x (HN.out.2.2.2 x hx) y hy e⟩
 have HW:Hid l.rest.wd:=AT.wd_rest wl
 have H1:=Lib.hid h1
 clear h1 h3 h4 hF hB1 hr1 hfx c2 c3 hn2 hsz
 go_wp2_with fail
 clear c2' cf'
 generalize (w1.setCell ⟨b,2,none⟩ (.pointer l.rest.adr))=w2 at *
 refine (level b k v l.rest r d w2 ⟨HB2.out,hI2.out,hr2.out⟩ ND2.out HW.out wr (by omega)).mono ?_
 rintro e w3 ⟨rfl,HI,HF⟩
 have HI3:=Lib.hid HI;have HF3:=Lib.hid HF
 clear HI HF
 go_wp2_with fail
 go_ret2
 unfold LeastPost
 rw [HR.out,HFS.out]
 refine ⟨b2,k2,v2,_,_,_,H1.out,rfl,HI3.out,(HF3.out.block b2 (lt_of_heap h42.out) ?_).trans h42.out,HF2.out.trans HF3.out (fun i _ h=>h) (fun i _ h=>?_)⟩
 ·intro h
  rcases AT.mem_node.1 h with h|h|h
  ·exact nbl (h▸HN.out.2.2.1)
  ·exact HN.out.1 h
  ·exact ndx b2 HN.out.2.2.1 b2 h rfl
 ·rcases AT.mem_node.1 h with h|h|h
  ·exact AT.mem_node.2 (.inl h)
  ·exact AT.mem_node.2 (.inr (.inl (HN.out.2.2.2 i h)))
  ·exact AT.mem_node.2 (.inr (.inr h))
theorem least:∀ (t:AT ByteArray Int) (w:World),t≠ .nil→In w t→t.fp.Nodup→t.wd→t.size<288230376151711744→
  Calls prog 92 #[.pointer t.adr] w (LeastPost t w)
 | .nil,_,h,_,_,_,_=>absurd rfl h
 | .node b k v .nil r d,w,_,h,_,_,_=>least_nil b k v r d w h
 | .node b k v (.node b' k' v' l' r' d') r d,w,_,h,nd,wd,sz=>by
  have sz':(AT.node b' k' v' l' r' d').size+r.size<288230376151711744:=by rw [AT.size] at sz;omega
  exact least_node b k v b' k' v' l' r' d' r d w h nd wd.1 wd.2.1 (by omega) (least (.node b' k' v' l' r' d') w (by simp) h.2.1 (AT.nodup_node.1 nd).2.2.1 wd.1 (by omega))
def DropPost (k:ByteArray) (t:AT ByteArray Int) (w:World) (e:Ending) (w':World):Prop:=
 e=.returned (.tuple #[.pointer (AT.drop k t).1.adr,.bool (AT.drop k t).2])∧In w' (AT.drop k t).1∧Fr (fun x=>x∈t.fp) w w'
theorem drop_size (k:ByteArray) {t:AT ByteArray Int} (_:t.fp.Nodup):(AT.drop k t).1.size≤t.size:=AT.size_drop k t
theorem drop_nil (k:ByteArray) (w:World):Calls prog 67 #[.pointer none,.string k] w (DropPost k .nil w):=by
 go_enter func67,ntmps67
 go_wp2_with fail
 go_ret2
 exact ⟨rfl,trivial,Fr.refl _ _⟩
theorem drop_low (k:ByteArray) (b:Nat) (k':ByteArray) (v':Int) (l r:AT ByteArray Int) (d:Int) (w:World)
  (h:In w (.node b k' v' l r d)) (nd:(AT.node b k' v' l r d).fp.Nodup) (wl:l.wd) (wr:r.wd) (sz:l.size+r.size<576460752303423488)
  (ih:Calls prog 67 #[.pointer l.adr,.string k] w (DropPost k l w)) (hlt:Ord.lt k k'=true):
  Calls prog 67 #[.pointer (some ⟨b,0,none⟩),.string k] w (DropPost k (.node b k' v' l r d) w):=by
 have hput:AT.drop k (.node b k' v' l r d)=(AT.level b k' v' (AT.drop k l).1 r,(AT.drop k l).2):=by rw [AT.drop,if_pos hlt]
 have hlx:=AT.sub_drop k (AT.nodup_node.1 nd).2.2.1
 have hsx:=drop_size k (AT.nodup_node.1 nd).2.2.1
 have hwx:(AT.drop k l).1.wd:=AT.wd_drop k wl
 have HP:=Lib.hid hput;have HX:=Lib.hid hlx;have HW:=Lib.hid hwx
 clear hput hlx hwx
 have IH:=Lib.hid ih
 clear ih
 obtain ⟨hb,hl,hr⟩:=h
 obtain ⟨nbl,nbr,ndl,ndr,ndx⟩:=AT.nodup_node.1 nd
 obtain ⟨c0,c2,c3,-,cf⟩:=cells hb
 have hbw:=lt_of_heap hb
 have HB:=Lib.hid hb;have ND:=Lib.hid nd
 clear hb nd
 have thlt:Op.bytesLess k.toList k'.toList=true:=hlt;have uhlt:Op.bytesLess k'.toList k.toList=false:=Ord.asymm hlt;have yhlt:(k.toList==k'.toList)=false:=Bl.ne hlt;have zhlt:(k'.toList==k.toList)=false:=Bl.ne' hlt
 go_enter func67,ntmps67
 go_wp2_with fail
 refine IH.out.mono ?_
 rintro e w1 ⟨rfl,hI,hF⟩
 have hB1:=(hF.block b hbw nbl).trans HB.out
 have hr1:In w1 r:=In.fr hr hF (fun x hx h=>ndx x h x hx rfl)
 obtain ⟨-,c2',-,-,cf'⟩:=cells hB1
 generalize (AT.drop k l).1=L at *
 generalize (AT.drop k l).2=q at *
 have HB2:=Lib.hid (set_lo hB1 L.adr)
 have hfx:=Fr.setCell w1 ⟨b,2,none⟩ (.pointer L.adr) (S:=(· =b)) rfl
 have nbL:b∉L.fp:=fun x=>nbl (HX.out.2 b x)
 have hI2:=Lib.hid (In.fr hI hfx (fun x hx e=>nbL (e▸hx)))
 have hr2:=Lib.hid (In.fr hr1 hfx (fun x hx e=>nbr (e▸hx)))
 have HF2:=Lib.hid (hF.trans hfx (T:=fun x=>x∈(AT.node b k' v' l r d).fp) (fun i _ h=>AT.mem_node.2 (.inr (.inl h))) (fun i _ h=>AT.mem_node.2 (.inl h)))
 have ND2:Hid ((AT.node b k' v' L r d).fp.Nodup):=AT.nodup_node.2 ⟨nbL,nbr,HX.out.1,ndr,fun x hx y hy e=>ndx x (HX.out.2 x hx) y hy e⟩
 clear hI hF hB1 hr1 hfx c0 c2 c3 cf
 go_wp2_with fail
 clear c2' cf'
 generalize (w1.setCell ⟨b,2,none⟩ (.pointer L.adr))=w2 at *
 refine (level b k' v' L r d w2 ⟨HB2.out,hI2.out,hr2.out⟩ ND2.out HW.out wr (by omega)).mono ?_
 rintro e w3 ⟨rfl,HI,HF⟩
 have HI3:=Lib.hid HI;have HF3:=Lib.hid HF
 clear HI HF
 go_wp2_with fail
 go_ret2
 unfold DropPost
 rw [HP.out]
 refine ⟨rfl,HI3.out,HF2.out.trans HF3.out (fun i _ h=>h) (fun i _ h=>?_)⟩
 rcases AT.mem_node.1 h with h|h|h
 ·exact AT.mem_node.2 (.inl h)
 ·exact AT.mem_node.2 (.inr (.inl (HX.out.2 i h)))
 ·exact AT.mem_node.2 (.inr (.inr h))
theorem drop_high (k:ByteArray) (b:Nat) (k':ByteArray) (v':Int) (l r:AT ByteArray Int) (d:Int) (w:World)
  (h:In w (.node b k' v' l r d)) (nd:(AT.node b k' v' l r d).fp.Nodup) (wl:l.wd) (wr:r.wd) (sz:l.size+r.size<576460752303423488)
  (ih:Calls prog 67 #[.pointer r.adr,.string k] w (DropPost k r w)) (hlt:Ord.lt k' k=true):
  Calls prog 67 #[.pointer (some ⟨b,0,none⟩),.string k] w (DropPost k (.node b k' v' l r d) w):=by
 have hput:AT.drop k (.node b k' v' l r d)=(AT.level b k' v' l (AT.drop k r).1,(AT.drop k r).2):=by rw [AT.drop,if_neg (by rw [Ord.asymm hlt];simp),if_pos hlt]
 have hlx:=AT.sub_drop k (AT.nodup_node.1 nd).2.2.2.1
 have hsx:=drop_size k (AT.nodup_node.1 nd).2.2.2.1
 have hwx:(AT.drop k r).1.wd:=AT.wd_drop k wr
 have HP:=Lib.hid hput;have HX:=Lib.hid hlx;have HW:=Lib.hid hwx
 clear hput hlx hwx
 have IH:=Lib.hid ih
 clear ih
 obtain ⟨hb,hl,hr⟩:=h
 obtain ⟨nbl,nbr,ndl,ndr,ndx⟩:=AT.nodup_node.1 nd
 obtain ⟨c0,c2,c3,-,cf⟩:=cells hb
 have hbw:=lt_of_heap hb
 have HB:=Lib.hid hb;have ND:=Lib.hid nd
 clear hb nd
 have thlt:Op.bytesLess k'.toList k.toList=true:=hlt;have uhlt:Op.bytesLess k.toList k'.toList=false:=Ord.asymm hlt;have yhlt:(k'.toList==k.toList)=false:=Bl.ne hlt;have zhlt:(k.toList==k'.toList)=false:=Bl.ne' hlt
 go_enter func67,ntmps67
 go_wp2_with fail
 refine IH.out.mono ?_
 rintro e w1 ⟨rfl,hI,hF⟩
 have hB1:=(hF.block b hbw nbr).trans HB.out
 have hr1:In w1 l:=In.fr hl hF (fun x hx h=>ndx x hx x h rfl)
 obtain ⟨-,-,c2',-,cf'⟩:=cells hB1
 generalize (AT.drop k r).1=L at *
 generalize (AT.drop k r).2=q at *
 have HB2:=Lib.hid (set_hi hB1 L.adr)
 have hfx:=Fr.setCell w1 ⟨b,3,none⟩ (.pointer L.adr) (S:=(· =b)) rfl
 have nbL:b∉L.fp:=fun x=>nbr (HX.out.2 b x)
 have hI2:=Lib.hid (In.fr hI hfx (fun x hx e=>nbL (e▸hx)))
 have hr2:=Lib.hid (In.fr hr1 hfx (fun x hx e=>nbl (e▸hx)))
 have HF2:=Lib.hid (hF.trans hfx (T:=fun x=>x∈(AT.node b k' v' l r d).fp) (fun i _ h=>AT.mem_node.2 (.inr (.inr h))) (fun i _ h=>AT.mem_node.2 (.inl h)))
 have ND2:Hid ((AT.node b k' v' l L d).fp.Nodup):=AT.nodup_node.2 ⟨nbl,nbL,ndl,HX.out.1,fun x hx y hy e=>ndx x hx y (HX.out.2 y hy) e⟩
 clear hI hF hB1 hr1 hfx c0 c2 c3 cf
 go_wp2_with fail
 clear c2' cf'
 generalize (w1.setCell ⟨b,3,none⟩ (.pointer L.adr))=w2 at *
 refine (level b k' v' l L d w2 ⟨HB2.out,hr2.out,hI2.out⟩ ND2.out wl HW.out (by omega)).mono ?_
 rintro e w3 ⟨rfl,HI,HF⟩
 have HI3:=Lib.hid HI;have HF3:=Lib.hid HF
 clear HI HF
 go_wp2_with fail
 go_ret2
 unfold DropPost
 rw [HP.out]
 refine ⟨rfl,HI3.out,HF2.out.trans HF3.out (fun i _ h=>h) (fun i _ h=>?_)⟩
 rcases AT.mem_node.1 h with h|h|h
 ·exact AT.mem_node.2 (.inl h)
 ·exact AT.mem_node.2 (.inr (.inl h))
 ·exact AT.mem_node.2 (.inr (.inr (HX.out.2 i h)))
theorem drop_last (b:Nat) (k:ByteArray) (v':Int) (l:AT ByteArray Int) (d:Int) (w:World) (h:In w (.node b k v' l .nil d)):
  Calls prog 67 #[.pointer (some ⟨b,0,none⟩),.string k] w (DropPost k (.node b k v' l .nil d) w):=by
 have hdrop:AT.drop k (.node b k v' l .nil d)=(l,true):=by simp [AT.drop,Ord.irr,AT.first]
 have HP:=Lib.hid hdrop
 clear hdrop
 obtain ⟨hb,hl,hr⟩:=h
 rw [AT.adr_nil] at hb
 obtain ⟨c0,c2,c3,-,-⟩:=cells hb
 have tk:Op.bytesLess k.toList k.toList=false:=Ord.irr k
 clear hb
 go_enter func67,ntmps67
 go_wp2_with fail
 go_ret2
 unfold DropPost
 rw [HP.out]
 exact ⟨rfl,hl,Fr.refl _ _⟩
theorem set_both {w:World} {b:Nat} {k:ByteArray} {v:Int} {l r:Option Addr} {d:Int} (h:w.heap[b]? =some (.cells (blk k v l r d) 109 (0,0))) (u x:Option Addr):
  ((w.setCell ⟨b,2,none⟩ (.pointer u)).setCell ⟨b,3,none⟩ (.pointer x)).heap[b]? =some (.cells (blk k v u x d) 109 (0,0)):=set_hi (set_lo h u) x
theorem drop_mid (b:Nat) (k:ByteArray) (v':Int) (l r:AT ByteArray Int) (d:Int) (w:World) (h:In w (.node b k v' l r d)) (nd:(AT.node b k v' l r d).fp.Nodup) (wl:l.wd) (wr:r.wd) (sz:l.size+r.size<288230376151711744) (hne:r≠ .nil):
  Calls prog 67 #[.pointer (some ⟨b,0,none⟩),.string k] w (DropPost k (.node b k v' l r d) w):=by
 obtain ⟨nbl,nbr,ndl,ndr,ndx⟩:=AT.nodup_node.1 nd
 have hdrop:∀b2 k2 v2,r.first=some (b2,k2,v2)→AT.drop k (.node b k v' l r d)=(AT.level b2 k2 v2 l r.rest,true):=fun b2 k2 v2 hf=>by simp [AT.drop,Ord.irr,hf]
 obtain ⟨a0,ha0⟩:∃a0,r.adr=some a0:=by cases r with|nil=>exact absurd rfl hne|node=>exact ⟨_,rfl⟩
 have HLE:=Lib.hid (least r w hne h.2.2 ndr wr (by omega))
 have HP:=Lib.hid hdrop;have ND:=Lib.hid nd
 clear hdrop nd
 obtain ⟨hb,hl,hr⟩:=h
 rw [ha0] at hb HLE
 obtain ⟨c0,c2,c3,-,-⟩:=cells hb
 have hbw:=lt_of_heap hb
 have tk:Op.bytesLess k.toList k.toList=false:=Ord.irr k
 have HB:=Lib.hid hb
 clear hb ha0
 go_enter func67,ntmps67
 go_wp2_with fail
 refine HLE.out.mono ?_
 rintro e w1 ⟨b2,k2,v2,l2,r2,d2,h1,rfl,h3,h4,hF⟩
 have hB1:=(hF.block b hbw nbr).trans HB.out
 have hl1:In w1 l:=In.fr hl hF (fun x hx h=>ndx x hx x h rfl)
 have hsz:=rest_size h1
 have hsz':r.rest.size≤r.size:=by omega
 have HN:=Lib.hid (rest_nodup h1 ndr)
 obtain ⟨-,c2',c3',-,-⟩:=cells hB1
 obtain ⟨-,c2n,c3n,-,cfn⟩:=cells h4
 have HB2:=Lib.hid (set_both h4 l.adr r.rest.adr)
 have hfx:=(Fr.setCell w1 ⟨b2,2,none⟩ (.pointer l.adr) (S:=(· =b2)) rfl).trans (Fr.setCell _ ⟨b2,3,none⟩ (.pointer r.rest.adr) (S:=(· =b2)) rfl) (T:=(· =b2)) (fun _ _ h=>h) (fun _ _ h=>h)
 have nbL:b2∉l.fp:=fun x=>ndx b2 x b2 HN.out.2.2.1 rfl
 have hI2:=Lib.hid (In.fr h3 hfx (fun x hx e=>HN.out.1 (e▸hx)))
 have hl2:=Lib.hid (In.fr hl1 hfx (fun x hx e=>nbL (e▸hx)))
 have hbb:b≠b2:=fun e=>nbr (e▸HN.out.2.2.1)
 have HF2:=Lib.hid (hF.trans hfx (T:=fun x=>x∈(AT.node b k v' l r d).fp) (fun i _ h=>AT.mem_node.2 (.inr (.inr h))) (fun i _ h=>AT.mem_node.2 (.inr (.inr (h▸HN.out.2.2.1)))))
 have ND2:Hid ((AT.node b2 k2 v2 l r.rest d2).fp.Nodup):=AT.nodup_node.2 ⟨nbL,HN.out.1,ndl,HN.out.2.1,fun x hx y hy e=>ndx x hx y (HN.out.2.2.2 y hy) e⟩
 have HW:Hid r.rest.wd:=AT.wd_rest wr
 have HP2:=Lib.hid (HP.out _ _ _ h1)
 clear h1 h3 h4 hF hB1 hl1 hfx c0 c2 c3 hsz
 go_wp2_with fail
 clear c2' c3' c2n c3n cfn
 generalize ((w1.setCell ⟨b2,2,none⟩ (.pointer l.adr)).setCell ⟨b2,3,none⟩ (.pointer r.rest.adr))=w2 at *
 refine (level b2 k2 v2 l r.rest d2 w2 ⟨HB2.out,hl2.out,hI2.out⟩ ND2.out wl HW.out (by omega)).mono ?_
 rintro e w3 ⟨rfl,HI,HF⟩
 have HI3:=Lib.hid HI;have HF3:=Lib.hid HF
 clear HI HF
 go_wp2_with fail
 go_ret2
 unfold DropPost
 rw [HP2.out]
 refine ⟨rfl,HI3.out,HF2.out.trans HF3.out (fun i _ h=>h) (fun i _ h=>?_)⟩
 rcases AT.mem_node.1 h with h|h|h
 ·exact AT.mem_node.2 (.inr (.inr (h▸HN.out.2.2.1)))
 ·exact AT.mem_node.2 (.inr (.inl h))
 ·exact AT.mem_node.2 (.inr (.inr (HN.out.2.2.2 i h)))
theorem drop (k:ByteArray) (t:AT ByteArray Int):∀ (w:World),In w t→t.fp.Nodup→t.wd→t.size<288230376151711744→
  Calls prog 67 #[.pointer t.adr,.string k] w (DropPost k t w):=by
 induction t with
 |nil=>intro w _ _ _ _;exact drop_nil k w
 |node b k' v' l r d ihl ihr=>
  intro w h nd wd sz
  obtain ⟨nbl,nbr,ndl,ndr,ndx⟩:=AT.nodup_node.1 nd
  have sz':l.size+r.size<288230376151711744:=by rw [AT.size] at sz;omega
  by_cases h1:Ord.lt k k'=true
  ·exact drop_low k b k' v' l r d w h nd wd.1 wd.2.1 (by omega) (ihl w h.2.1 ndl wd.1 (by omega)) h1
  ·by_cases h2:Ord.lt k' k=true
   ·exact drop_high k b k' v' l r d w h nd wd.1 wd.2.1 (by omega) (ihr w h.2.2 ndr wd.2.1 (by omega)) h2
   ·obtain rfl:k=k':=Ord.tri _ _ (by simpa using h1) (by simpa using h2)
    cases r with
    |nil=>exact drop_last b k v' l d w h
    |node b2 k2 v2 l2 r2 d2=>exact drop_mid b k v' l _ d w h nd wd.1 wd.2.1 (by omega) (by simp)
end AvlSI
set_option maxRecDepth 100000
namespace AvlSI
def MapIn (w:World) (r:Option Addr) (L:List (ByteArray × Int)) (F:List Nat):Prop:=
 ∃t:AT ByteArray Int,t.adr=r∧t.toL=L∧t.fp=F∧In w t∧F.Nodup∧t.wd∧t.bal∧Srt L
theorem MapIn.fr {S:Nat→Prop} {w w':World} {r:Option Addr} {L:List (ByteArray × Int)} {F:List Nat} (h:MapIn w r L F) (hf:Fr S w w') (hs:∀b∈F,¬S b):MapIn w' r L F:=by
 obtain ⟨t,h1,h2,h3,h4,h5⟩:=h
 exact ⟨t,h1,h2,h3,In.fr h4 hf (by rw [h3];exact hs),h5⟩
theorem MapIn.lt {w:World} {r:Option Addr} {L:List (ByteArray × Int)} {F:List Nat} (h:MapIn w r L F):∀b∈F,b<w.heap.size:=by
 obtain ⟨t,h1,h2,rfl,h4,h5⟩:=h
 exact In.lt h4
theorem MapIn.srt {w:World} {r:Option Addr} {L:List (ByteArray × Int)} {F:List Nat} (h:MapIn w r L F):Srt L:=by
 obtain ⟨t,-,-,-,-,-,-,-,h⟩:=h
 exact h
theorem MapIn.nil (w:World):MapIn w none [] []:=⟨.nil,rfl,rfl,rfl,trivial,List.nodup_nil,trivial,trivial,List.Pairwise.nil⟩
theorem insL_length (k:ByteArray) (v:Int) (n:Nat) {t:AT ByteArray Int} (hs:Srt t.toL):(insL k v t.toL).length=if (AT.put n k v t).2 then t.toL.length+1 else t.toL.length:=by
 have h1:=(AT.toL_put n k v hs).1
 have h2:=(AT.perm_put n k v t).length_eq
 rw [←h1,AT.toL_length,AT.toL_length,←AT.fp_length,←AT.fp_length,h2]
 split<;>simp
theorem delL_length (k:ByteArray) {t:AT ByteArray Int} (hs:Srt t.toL):(delL k t.toL).length=if (AT.drop k t).2 then t.toL.length-1 else t.toL.length:=by
 rw [(AT.toL_drop k hs).2]
 generalize t.toL=l at hs
 induction l with
 |nil=>simp [delL,hasL]
 |cons p l ih=>
  rw [delL_cons,hasL_cons]
  cases h:sameK k p.1 with
  |true=>
   have hn:∀q∈l,sameK k q.1=false:=fun q hq=>by
    have h1:=(List.pairwise_cons.1 hs).1 q hq
    rw [sameK_iff.1 h]
    simp [sameK,h1]
   rw [if_pos rfl,delL_none hn];simp
  |false=>
   rw [if_neg (by simp),List.length_cons,ih hs.tail,Bool.false_or]
   cases h2:hasL k l with
   |true=>
    have:0<l.length:=by cases l with|nil=>simp [hasL] at h2|cons=>simp
    simp;omega
   |false=>simp
def PutMPost (B off:Nat) (c:Array Value) (TB:TypeId) (k:ByteArray) (v:Int) (L:List (ByteArray × Int)) (F:List Nat) (w:World) (e:Ending) (w':World):Prop:=
 ∃ (r':Option Addr) (F':List Nat),e=.returned (.bool (!hasL k L))∧w'.heap[B]? =some (.cells ((c.setIfInBounds off (.pointer r')).setIfInBounds (off+1) (.int .i64 (insL k v L).length)) TB (0,0))∧
  MapIn w' r' (insL k v L) F'∧(∀x∈F',x∈F∨w.heap.size≤x)∧Fr (fun x=>x=B∨x∈F) w w'
theorem set_same {c:Array Value} {i:Nat} {u:Value} (h:c[i]? =some u):c.setIfInBounds i u=c:=by
 apply Array.ext_getElem?
 intro j
 rw [Array.getElem?_setIfInBounds]
 split
 ·rename_i e;subst e;split
  ·exact h.symm
  ·rename_i hn;rw [Array.getElem?_eq_none (by omega)] at h;cases h
 ·rfl
theorem Put (B off:Nat) (c:Array Value) (TB:TypeId) (k:ByteArray) (v:Int) (r:Option Addr) (L:List (ByteArray × Int)) (F:List Nat) (w:World)
  (hB:w.heap[B]? =some (.cells c TB (0,0))) (h0:c[off]? =some (.pointer r)) (h1:c[off+1]? =some (.int .i64 L.length)) (hM:MapIn w r L F) (hBF:B∉F) (sz:L.length<144115188075855872):
  Calls prog 45 #[.pointer (some ⟨B,off,none⟩),.string k,.int .i64 v] w (PutMPost B off c TB k v L F w):=by
 obtain ⟨t,rfl,rfl,rfl,hI,nd,wd,bal,srt⟩:=hM
 have HC:=Lib.hid (put k v t w hI nd wd (by rw [AT.toL_length] at sz;omega))
 have hlen:=insL_length k v w.heap.size srt
 have hfp:=put_nodup w.heap.size k v nd (In.lt hI)
 have hto:=AT.toL_put w.heap.size k v srt
 have hwd:(AT.put w.heap.size k v t).1.wd:=AT.wd_put _ k v wd
 have hbal:=(AT.bal_put w.heap.size k v wd bal).1
 have hsrt:=(srt_insL (k:=k) v srt).1
 have c0:w.cell? ⟨B,off,none⟩=some (.pointer t.adr):=(cell_of_block hB off).trans h0
 have c1:w.cell? ⟨B,off+1,none⟩=some (.int .i64 t.toL.length):=(cell_of_block hB (off+1)).trans h1
 have cf:=free_of_block hB
 have hBw:=lt_of_heap hB
 unfold PutPost at HC
 generalize (AT.put w.heap.size k v t).1=t' at *
 generalize (AT.put w.heap.size k v t).2=q at *
 have HL:=Lib.hid hlen;have HP:=Lib.hid hfp;have HT:=Lib.hid hto;have HW:=Lib.hid hwd;have HBal:=Lib.hid hbal;have HS:=Lib.hid hsrt;have HB:=Lib.hid hB
 have H1:=Lib.hid h1
 clear hlen hfp hto hwd hbal hsrt hB h0 h1 hI wd bal srt nd
 go_enter func45,ntmps45
 go_wp2_with fail
 refine HC.out.mono ?_
 rintro e w1 ⟨rfl,hI1,hF⟩
 have hB1:=(hF.block B hBw hBF).trans HB.out
 have c1':w1.cell? ⟨B,off+1,none⟩=some (.int .i64 t.toL.length):=(cell_of_block hB1 (off+1)).trans H1.out
 have c0':w1.cell? ⟨B,off,none⟩=some (.pointer t.adr):=by rw [cell_of_block hB1,←cell_of_block HB.out,c0]
 have cf':=free_of_block hB1
 have HB1:=Lib.hid hB1;have HF1:=Lib.hid hF;have HI1:=Lib.hid hI1
 have hBt:B∉t'.fp:=fun x=>by rcases HP.out.2 B x with e|e;omega;exact hBF e
 clear hB1 hF hI1 c0 c1 cf
 cases q with
 |true=>
  go_wp2_with fail
  go_ret
  have hlen:(insL k v t.toL).length=t.toL.length+1:=by simpa using HL.out
  refine ⟨t'.adr,t'.fp,?_,?_,⟨t',rfl,HT.out.1,rfl,In.fr HI1.out ((Fr.setCell w1 ⟨B,off,none⟩ _ (S:=(· =B)) rfl).trans (Fr.setCell _ ⟨B,off+1,none⟩ _ (S:=(· =B)) rfl) (T:=(· =B)) (fun _ _ h=>h) (fun _ _ h=>h)) (fun x hx e=>hBt (e▸hx)),HP.out.1,HW.out,HBal.out,HS.out⟩,?_,?_⟩
  ·rw [←HT.out.2];rfl
  ·refine (heap_setCell_same (heap_setCell_same HB1.out _) _).trans ?_
   rw [hlen];rfl
  ·intro x hx
   rcases HP.out.2 x hx with e|e
   ·exact .inr (by omega)
   ·exact .inl e
  ·exact (HF1.out.trans (Fr.setCell w1 ⟨B,off,none⟩ _ (S:=(· =B)) rfl) (T:=fun x=>x=B∨x∈t.fp) (fun _ _ h=>.inr h) (fun _ _ h=>.inl h)).trans (Fr.setCell _ ⟨B,off+1,none⟩ _ (S:=(· =B)) rfl) (fun _ _ h=>h) (fun _ _ h=>.inl h)
 |false=>
  go_wp2_with fail
  go_ret
  have hlen:(insL k v t.toL).length=t.toL.length:=by simpa using HL.out
  refine ⟨t'.adr,t'.fp,?_,?_,⟨t',rfl,HT.out.1,rfl,In.fr HI1.out (Fr.setCell w1 ⟨B,off,none⟩ _ (S:=(· =B)) rfl) (fun x hx e=>hBt (e▸hx)),HP.out.1,HW.out,HBal.out,HS.out⟩,?_,?_⟩
  ·rw [←HT.out.2];rfl
  ·refine (heap_setCell_same HB1.out _).trans ?_
   rw [hlen,set_same (i:=off+1)]
   rw [Array.getElem?_setIfInBounds,if_neg (by omega)]
   exact H1.out
  ·intro x hx
   rcases HP.out.2 x hx with e|e
   ·exact .inr (by omega)
   ·exact .inl e
  ·exact HF1.out.trans (Fr.setCell w1 ⟨B,off,none⟩ _ (S:=(· =B)) rfl) (fun _ _ h=>.inr h) (fun _ _ h=>.inl h)
def DropMPost (B off:Nat) (c:Array Value) (TB:TypeId) (k:ByteArray) (L:List (ByteArray × Int)) (F:List Nat) (w:World) (e:Ending) (w':World):Prop:=
 ∃ (r':Option Addr) (F':List Nat),e=.returned (.bool (hasL k L))∧w'.heap[B]? =some (.cells ((c.setIfInBounds off (.pointer r')).setIfInBounds (off+1) (.int .i64 (delL k L).length)) TB (0,0))∧
  MapIn w' r' (delL k L) F'∧(∀x∈F',x∈F)∧Fr (fun x=>x=B∨x∈F) w w'
theorem Drop (B off:Nat) (c:Array Value) (TB:TypeId) (k:ByteArray) (r:Option Addr) (L:List (ByteArray × Int)) (F:List Nat) (w:World)
  (hB:w.heap[B]? =some (.cells c TB (0,0))) (h0:c[off]? =some (.pointer r)) (h1:c[off+1]? =some (.int .i64 L.length)) (hM:MapIn w r L F) (hBF:B∉F) (sz:L.length<144115188075855872):
  Calls prog 44 #[.pointer (some ⟨B,off,none⟩),.string k] w (DropMPost B off c TB k L F w):=by
 obtain ⟨t,rfl,rfl,rfl,hI,nd,wd,bal,srt⟩:=hM
 have HC:=Lib.hid (drop k t w hI nd wd (by rw [AT.toL_length] at sz;omega))
 have hlen:=delL_length k srt
 have hfp:=AT.sub_drop k nd
 have hto:=AT.toL_drop k srt
 have hwd:(AT.drop k t).1.wd:=AT.wd_drop k wd
 have hbal:=(AT.bal_drop k wd bal).1
 have hsrt:=srt_delL k srt
 have c0:w.cell? ⟨B,off,none⟩=some (.pointer t.adr):=(cell_of_block hB off).trans h0
 have c1:w.cell? ⟨B,off+1,none⟩=some (.int .i64 t.toL.length):=(cell_of_block hB (off+1)).trans h1
 have cf:=free_of_block hB
 have hBw:=lt_of_heap hB
 unfold DropPost at HC
 generalize (AT.drop k t).1=t' at *
 generalize (AT.drop k t).2=q at *
 have HL:=Lib.hid hlen;have HP:=Lib.hid hfp;have HT:=Lib.hid hto;have HW:=Lib.hid hwd;have HBal:=Lib.hid hbal;have HS:=Lib.hid hsrt;have HB:=Lib.hid hB
 have H1:=Lib.hid h1
 clear hlen hfp hto hwd hbal hsrt hB h0 h1 hI wd bal srt nd
 go_enter func44,ntmps44
 go_wp2_with fail
 refine HC.out.mono ?_
 rintro e w1 ⟨rfl,hI1,hF⟩
 have hB1:=(hF.block B hBw hBF).trans HB.out
 have c1':w1.cell? ⟨B,off+1,none⟩=some (.int .i64 t.toL.length):=(cell_of_block hB1 (off+1)).trans H1.out
 have c0':w1.cell? ⟨B,off,none⟩=some (.pointer t.adr):=by rw [cell_of_block hB1,←cell_of_block HB.out,c0]
 have cf':=free_of_block hB1
 have HB1:=Lib.hid hB1;have HF1:=Lib.hid hF;have HI1:=Lib.hid hI1
 have hBt:B∉t'.fp:=fun x=>hBF (HP.out.2 B x)
 clear hB1 hF hI1 c0 c1 cf
 have hpos:q=true→0<t.toL.length:=fun e=>by
  have:=HT.out.2;rw [e] at this
  cases h:t.toL with
  |nil=>rw [h] at this;simp [hasL] at this
  |cons=>simp
 cases q with
 |true=>
  have hpos':=hpos rfl
  clear hpos
  go_wp2_with fail
  go_ret
  have hlen:(delL k t.toL).length=t.toL.length-1:=by simpa using HL.out
  refine ⟨t'.adr,t'.fp,?_,?_,⟨t',rfl,HT.out.1,rfl,In.fr HI1.out ((Fr.setCell w1 ⟨B,off,none⟩ _ (S:=(· =B)) rfl).trans (Fr.setCell _ ⟨B,off+1,none⟩ _ (S:=(· =B)) rfl) (T:=(· =B)) (fun _ _ h=>h) (fun _ _ h=>h)) (fun x hx e=>hBt (e▸hx)),HP.out.1,HW.out,HBal.out,HS.out⟩,?_,?_⟩
  ·rw [←HT.out.2];rfl
  ·refine (heap_setCell_same (heap_setCell_same HB1.out _) _).trans ?_
   rw [hlen,show ((t.toL.length-1:Nat):Int)=(t.toL.length:Int)-1 by omega]
  ·exact HP.out.2
  ·exact (HF1.out.trans (Fr.setCell w1 ⟨B,off,none⟩ _ (S:=(· =B)) rfl) (T:=fun x=>x=B∨x∈t.fp) (fun _ _ h=>.inr h) (fun _ _ h=>.inl h)).trans (Fr.setCell _ ⟨B,off+1,none⟩ _ (S:=(· =B)) rfl) (fun _ _ h=>h) (fun _ _ h=>.inl h)
 |false=>
  go_wp2_with fail
  go_ret
  have hlen:(delL k t.toL).length=t.toL.length:=by simpa using HL.out
  refine ⟨t'.adr,t'.fp,?_,?_,⟨t',rfl,HT.out.1,rfl,In.fr HI1.out (Fr.setCell w1 ⟨B,off,none⟩ _ (S:=(· =B)) rfl) (fun x hx e=>hBt (e▸hx)),HP.out.1,HW.out,HBal.out,HS.out⟩,?_,?_⟩
  ·rw [←HT.out.2];rfl
  ·refine (heap_setCell_same HB1.out _).trans ?_
   rw [hlen,set_same (i:=off+1)]
   rw [Array.getElem?_setIfInBounds,if_neg (by omega)]
   exact H1.out
  ·exact HP.out.2
  ·exact HF1.out.trans (Fr.setCell w1 ⟨B,off,none⟩ _ (S:=(· =B)) rfl) (fun _ _ h=>.inr h) (fun _ _ h=>.inl h)
theorem top_none (w:World):Calls prog 65 #[.pointer none] w fun e w'=>e=.returned (.pointer none)∧w=w':=by
 go_enter func65,ntmps65
 go_wp2_with fail
 go_ret
 exact ⟨rfl,rfl⟩
theorem top (a:Addr) (r:Option Addr) (w:World) (ha:a.spot=none) (h:w.cell? a=some (.pointer r)):Calls prog 65 #[.pointer (some a)] w fun e w'=>e=.returned (.pointer r)∧w=w':=by
 obtain ⟨b,o,s⟩:=a
 dsimp only at ha
 subst ha
 go_enter func65,ntmps65
 go_wp2_with fail
 go_ret
 exact ⟨rfl,rfl⟩
end AvlSI
end Go.Proofs.YtdpngmgaomghoaaGreatDoor
