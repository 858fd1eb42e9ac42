/- The library's slices.DeleteFunc at a list of records of one's own: it writes into its own cells. -/
import Derived.Test.YtdpngmgaomghoaaGreatDoorDeltas
namespace Go.Proofs.YtdpngmgaomghoaaGreatDoor
open Tryz
open Go.RowKit
namespace Sli
open KeyP PackP SetP SetW SetF
attribute [local go_sem] Eng.ev Eng.getO_cons Eng.getO_nil
theorem idx_spec (p:Sn→Bool) (L:List Sn):(idx p L= -1∧∀y∈L,p y=false)∨∃k,∃h:k<L.length,idx p L=(k:Int)∧p L[k]=true∧∀y∈L.take k,p y=false:=by
 unfold idx
 cases h:L.findIdx? p with
 |none=>rw [List.findIdx?_eq_none_iff] at h;exact .inl ⟨rfl,h⟩
 |some k=>
  obtain ⟨hk,h1,h2⟩:=List.findIdx?_eq_some_iff_getElem.1 h
  refine .inr ⟨k,hk,rfl,h1,fun y hy=>?_⟩
  obtain ⟨j,hj,rfl⟩:=List.getElem_of_mem hy
  rw [List.length_take] at hj
  rw [List.getElem_take]
  have:=h2 j (by omega)
  simpa using this
abbrev keep (p:Sn→Bool) (L:List Sn):List Sn:=L.filter (fun x=> !p x)
theorem keep_all {p:Sn→Bool} {L:List Sn} (h:∀y∈L,p y=false):keep p L=L:=List.filter_eq_self.2 (fun y hy=>by rw [h y hy];rfl)
structure Rw (w:World) (b cap:Nat) (M:List Sn):Prop where
 h:∃cur:Array Value,Bk w b cur TSn∧cur.size=cap*9∧∀ (j:Nat) (u:Value),(M.flatMap scs)[j]? =some u→cur[j]? =some u
theorem Rw.fr {S:Nat→Prop} {w w':World} {b cap:Nat} {M:List Sn} (h:Rw w b cap M) (hf:Fr S w w') (hs:¬S b):Rw w' b cap M:=by
 obtain ⟨cur,h1,h2,h3⟩:=h.h
 exact ⟨cur,h1.fr hf (fun k hk=>by simp at hk;subst hk;exact hs),h2,h3⟩
theorem Rw.at {w:World} {b cap:Nat} {M:List Sn} (h:Rw w b cap M) {k:Nat} (hk:k<M.length):At w b (k*9) M[k]:=by
 obtain ⟨cur,h1,h2,h3⟩:=h.h
 have:=At.row (o:=0) (fun j u hu=>by rw [Nat.zero_add,h1.cell];exact h3 j u hu) hk
 rwa [Nat.zero_add] at this
theorem Rw.free {w:World} {b cap:Nat} {M:List Sn} (h:Rw w b cap M) (o:Nat):w.frozen? ⟨b,o,none⟩=false:=by obtain ⟨cur,h1,-⟩:=h.h;exact h1.free o
def put9 (w:World) (b o:Nat) (y:Sn):World:=((((((((w.setCell ⟨b,o,none⟩ (.int .i64 y.t)).setCell ⟨b,o+1,none⟩ (.int .i64 y.i)).setCell ⟨b,o+1+1,none⟩ (.int .i64 y.p)).setCell ⟨b,o+1+1+1,none⟩ (.int .i64 y.r)).setCell ⟨b,o+1+1+1+1,none⟩ (.string y.s)).setCell ⟨b,o+1+1+1+1+1,none⟩ (.string y.o)).setCell ⟨b,o+1+1+1+1+1+1,none⟩ (.int .i64 y.b)).setCell ⟨b,o+1+1+1+1+1+1+1,none⟩ (.int .i64 y.d)).setCell ⟨b,o+1+1+1+1+1+1+1+1,none⟩ (.bool y.g)
theorem frb {S:Nat→Prop} {w w':World} (h:Fr S w w') (b o:Nat) (u:Value) (hb:S b):Fr S w (w'.setCell ⟨b,o,none⟩ u):=h.trans (Fr.setCell w' ⟨b,o,none⟩ u (S:=S) hb) (fun _ _ h=>h) (fun _ _ h=>h)
theorem put9_fr (w:World) (b o:Nat) (y:Sn):Fr (fun k=>k=b) w (put9 w b o y):=by
 unfold put9
 exact frb (S:=fun k=>k=b) (frb (S:=fun k=>k=b) (frb (S:=fun k=>k=b) (frb (S:=fun k=>k=b) (frb (S:=fun k=>k=b) (frb (S:=fun k=>k=b) (frb (S:=fun k=>k=b) (frb (S:=fun k=>k=b) (frb (S:=fun k=>k=b) (Fr.refl _ w) _ _ _ rfl) _ _ _ rfl) _ _ _ rfl) _ _ _ rfl) _ _ _ rfl) _ _ _ rfl) _ _ _ rfl) _ _ _ rfl) _ _ _ rfl
theorem set_at (M:List Sn) (i:Nat) (y:Sn) (j:Nat):((M.set i y).flatMap scs)[j]? =if i<M.length∧i*9≤j∧j<i*9+9 then (scs y)[j-i*9]? else (M.flatMap scs)[j]? :=by
 by_cases hj:j / 9<M.length
 ·have h9:j % 9<9:=Nat.mod_lt _ (by omega)
  have e:j=j / 9*9+j % 9:=by omega
  have h1:=flat_at (f:=scs) (sz:=9) scs_len (L:=M.set i y) (k:=j / 9) (by simpa using hj) h9
  have h2:=flat_at (f:=scs) (sz:=9) scs_len (L:=M) (k:=j / 9) hj h9
  rw [←e] at h1 h2
  rw [h1,h2]
  by_cases hi:i=j / 9
  ·subst hi
   rw [if_pos ⟨hj,by omega,by omega⟩,List.getElem_set_self,show j-j / 9*9=j % 9 by omega]
  ·rw [if_neg (by omega),List.getElem_set_ne hi]
 ·have l1:=flat_length scs_len (M.set i y)
  have l2:=flat_length scs_len M
  rw [List.length_set] at l1
  rw [if_neg (by omega),List.getElem?_eq_none (by omega),List.getElem?_eq_none (by omega)]
theorem nine {cur:Array Value} {o:Nat} (v0 v1 v2 v3 v4 v5 v6 v7 v8:Value) (h:o+9≤cur.size) (j:Nat):(((((((((cur.setIfInBounds (o) v0).setIfInBounds (o+1) v1).setIfInBounds (o+1+1) v2).setIfInBounds (o+1+1+1) v3).setIfInBounds (o+1+1+1+1) v4).setIfInBounds (o+1+1+1+1+1) v5).setIfInBounds (o+1+1+1+1+1+1) v6).setIfInBounds (o+1+1+1+1+1+1+1) v7).setIfInBounds (o+1+1+1+1+1+1+1+1) v8)[j]? =if o≤j∧j<o+9 then [v0,v1,v2,v3,v4,v5,v6,v7,v8][j-o]? else cur[j]? :=by
 split
 ·rename_i hc
  obtain ⟨r,hr,rfl⟩:∃r,r<9∧j=o+r:=⟨j-o,by omega,by omega⟩
  rw [show o+r-o=r by omega]
  clear hc
  match r,hr with
  |0,_=>exact (Array.getElem?_setIfInBounds_ne (by omega)).trans ((Array.getElem?_setIfInBounds_ne (by omega)).trans ((Array.getElem?_setIfInBounds_ne (by omega)).trans ((Array.getElem?_setIfInBounds_ne (by omega)).trans ((Array.getElem?_setIfInBounds_ne (by omega)).trans ((Array.getElem?_setIfInBounds_ne (by omega)).trans ((Array.getElem?_setIfInBounds_ne (by omega)).trans ((Array.getElem?_setIfInBounds_ne (by omega)).trans ((Array.getElem?_setIfInBounds_self_of_lt (by (try simp only [Array.size_setIfInBounds]);omega))))))))))
  |1,_=>exact (Array.getElem?_setIfInBounds_ne (by omega)).trans ((Array.getElem?_setIfInBounds_ne (by omega)).trans ((Array.getElem?_setIfInBounds_ne (by omega)).trans ((Array.getElem?_setIfInBounds_ne (by omega)).trans ((Array.getElem?_setIfInBounds_ne (by omega)).trans ((Array.getElem?_setIfInBounds_ne (by omega)).trans ((Array.getElem?_setIfInBounds_ne (by omega)).trans ((Array.getElem?_setIfInBounds_self_of_lt (by (try simp only [Array.size_setIfInBounds]);omega)))))))))
  |2,_=>exact (Array.getElem?_setIfInBounds_ne (by omega)).trans ((Array.getElem?_setIfInBounds_ne (by omega)).trans ((Array.getElem?_setIfInBounds_ne (by omega)).trans ((Array.getElem?_setIfInBounds_ne (by omega)).trans ((Array.getElem?_setIfInBounds_ne (by omega)).trans ((Array.getElem?_setIfInBounds_ne (by omega)).trans ((Array.getElem?_setIfInBounds_self_of_lt (by (try simp only [Array.size_setIfInBounds]);omega))))))))
  |3,_=>exact (Array.getElem?_setIfInBounds_ne (by omega)).trans ((Array.getElem?_setIfInBounds_ne (by omega)).trans ((Array.getElem?_setIfInBounds_ne (by omega)).trans ((Array.getElem?_setIfInBounds_ne (by omega)).trans ((Array.getElem?_setIfInBounds_ne (by omega)).trans ((Array.getElem?_setIfInBounds_self_of_lt (by (try simp only [Array.size_setIfInBounds]);omega)))))))
  |4,_=>exact (Array.getElem?_setIfInBounds_ne (by omega)).trans ((Array.getElem?_setIfInBounds_ne (by omega)).trans ((Array.getElem?_setIfInBounds_ne (by omega)).trans ((Array.getElem?_setIfInBounds_ne (by omega)).trans ((Array.getElem?_setIfInBounds_self_of_lt (by (try simp only [Array.size_setIfInBounds]);omega))))))
  |5,_=>exact (Array.getElem?_setIfInBounds_ne (by omega)).trans ((Array.getElem?_setIfInBounds_ne (by omega)).trans ((Array.getElem?_setIfInBounds_ne (by omega)).trans ((Array.getElem?_setIfInBounds_self_of_lt (by (try simp only [Array.size_setIfInBounds]);omega)))))
  |6,_=>exact (Array.getElem?_setIfInBounds_ne (by omega)).trans ((Array.getElem?_setIfInBounds_ne (by omega)).trans ((Array.getElem?_setIfInBounds_self_of_lt (by (try simp only [Array.size_setIfInBounds]);omega))))
  |7,_=>exact (Array.getElem?_setIfInBounds_ne (by omega)).trans ((Array.getElem?_setIfInBounds_self_of_lt (by (try simp only [Array.size_setIfInBounds]);omega)))
  |8,_=>exact (Array.getElem?_setIfInBounds_self_of_lt (by (try simp only [Array.size_setIfInBounds]);omega))
 ·exact (Array.getElem?_setIfInBounds_ne (by omega)).trans ((Array.getElem?_setIfInBounds_ne (by omega)).trans ((Array.getElem?_setIfInBounds_ne (by omega)).trans ((Array.getElem?_setIfInBounds_ne (by omega)).trans ((Array.getElem?_setIfInBounds_ne (by omega)).trans ((Array.getElem?_setIfInBounds_ne (by omega)).trans ((Array.getElem?_setIfInBounds_ne (by omega)).trans ((Array.getElem?_setIfInBounds_ne (by omega)).trans ((Array.getElem?_setIfInBounds_ne (by omega))))))))))
theorem Rw.put {w:World} {b cap:Nat} {M:List Sn} (h:Rw w b cap M) {i:Nat} (hi:i<M.length) (y:Sn):Rw (put9 w b (i*9) y) b cap (M.set i y):=by
 obtain ⟨cur,h1,h2,h3⟩:=h.h
 refine ⟨_,((((((((h1.set (i*9) (.int .i64 y.t)).set (i*9+1) (.int .i64 y.i)).set (i*9+1+1) (.int .i64 y.p)).set (i*9+1+1+1) (.int .i64 y.r)).set (i*9+1+1+1+1) (.string y.s)).set (i*9+1+1+1+1+1) (.string y.o)).set (i*9+1+1+1+1+1+1) (.int .i64 y.b)).set (i*9+1+1+1+1+1+1+1) (.int .i64 y.d)).set (i*9+1+1+1+1+1+1+1+1) (.bool y.g),?_,?_⟩
 ·simp only [Array.size_setIfInBounds];exact h2
 ·intro j u hu
  have hsz:i*9+9≤cur.size:=by
   have hl:=flat_length scs_len M
   have hu:((M.flatMap scs)[i*9+8]?).isSome=true:=by
    rw [flat_at scs_len hi (by omega)];rfl
   obtain ⟨z,hz⟩:=Option.isSome_iff_exists.1 hu
   have:=h3 _ _ hz
   obtain ⟨hlt,-⟩:=Array.getElem?_eq_some_iff.1 this
   omega
  rw [set_at] at hu
  rw [nine _ _ _ _ _ _ _ _ _ hsz]
  split at hu
  ·rename_i hc
   rw [if_pos ⟨hc.2.1,hc.2.2⟩]
   exact hu
  ·rename_i hc
   rw [if_neg (fun h=>hc ⟨hi,h.1,h.2⟩)]
   exact h3 j u hu
theorem Rw.there {w:World} {b cap:Nat} {M:List Sn} (h:Rw w b cap M) {k:Nat} (hk:k<M.length*9):(w.cell? ⟨b,k,none⟩).isSome=true:=by
 obtain ⟨cur,h1,h2,h3⟩:=h.h
 have hl:=flat_length scs_len M
 have hk2:k<(M.flatMap scs).length:=by omega
 rw [h1.cell,h3 k _ (List.getElem?_eq_getElem hk2)];rfl
theorem Bk.setCells {t:TypeId} {b:Nat}:∀ (vs:List Value) (o:Nat) {w:World} {cur:Array Value},Bk w b cur t→∃cur',Bk (w.setCells b o vs) b cur' t∧cur'.size=cur.size∧∀j,j<o→cur'[j]? =cur[j]?
 | [],o,w,cur,h=>⟨cur,h,rfl,fun _ _=>rfl⟩
 |v::vs,o,w,cur,h=>by
  obtain ⟨c',h1,h2,h3⟩:=Bk.setCells vs (o+1) (h.set o v)
  refine ⟨c',h1,by rw [h2,Array.size_setIfInBounds],fun j hj=>?_⟩
  rw [h3 j (by omega),Array.getElem?_setIfInBounds,if_neg (by omega)]
theorem setCells_fr {b:Nat}:∀ (vs:List Value) (o:Nat) (w:World),Fr (fun k=>k=b) w (w.setCells b o vs)
 | [],o,w=>Fr.refl _ _
 |v::vs,o,w=>(Fr.setCell w ⟨b,o,none⟩ v (S:=fun k=>k=b) rfl).trans (setCells_fr vs (o+1) _) (fun _ _ h=>h) (fun _ _ h=>h)
theorem run_clearS (w:World) (b o n c:Nat) (hn:0<n) (hc:∀j,j<n*9→(w.cell? ⟨b,o+j,none⟩).isSome=true) (hf:∀j,j<n*9→w.frozen? ⟨b,o+j,none⟩=false):
  ∃vs,∀ty,(Builtin.clear_ #[TSs] ty #[.slice (some ⟨b,o,none⟩) n c]).run prog w=.ok (.tuple #[]) (w.setCells b o vs):=by
 have hv:∀w,(zeroValue TSn).run prog w=.ok (.agg #[.int .i64 0,.int .i64 0,.int .i64 0,.int .i64 0,.string ByteArray.empty,.string ByteArray.empty,.int .i64 0,.int .i64 0,.bool false]) w:=fun w=>by kernel_rfl
 have hlen:∀ (cs:Array Value),(Builtin.zeroCells cs n).size=n*cs.size:=fun cs=>by simp [Builtin.zeroCells]
 have h1:∀v∈(Builtin.zeroCells (#[.int .i64 0,.int .i64 0,.int .i64 0,.int .i64 0,.string ByteArray.empty,.string ByteArray.empty,.int .i64 0,.int .i64 0,.bool false]:Array Value) n).toList,v.oneCell'=true:=by
  intro v hv'
  simp only [Builtin.zeroCells,Array.toList_map,List.mem_map] at hv'
  obtain ⟨i,-,rfl⟩:=hv'
  have h9:i % 9<9:=Nat.mod_lt _ (by omega)
  show (getElem! _ (i % 9):Value).oneCell'=true
  generalize i % 9=r at h9 ⊢
  match r,h9 with
  |0,_|1,_|2,_|3,_|4,_|5,_|6,_|7,_|8,_=>rfl
 refine ⟨(Builtin.zeroCells (#[.int .i64 0,.int .i64 0,.int .i64 0,.int .i64 0,.string ByteArray.empty,.string ByteArray.empty,.int .i64 0,.int .i64 0,.bool false]:Array Value) n).toList,?_⟩
 have hst:=run_storeCells_cells (P:=prog) b o (Builtin.zeroCells (#[.int .i64 0,.int .i64 0,.int .i64 0,.int .i64 0,.string ByteArray.empty,.string ByteArray.empty,.int .i64 0,.int .i64 0,.bool false]:Array Value) n).toList 0 w (by simpa [hlen] using hc) (by simpa [hlen] using hf) h1
 simp only [Nat.add_zero] at hst
 obtain ⟨m,rfl⟩:∃m,n=m+1:=⟨n-1,by omega⟩
 intro ty
 simp [Builtin.clear_,run_underlying underlying31,hv,Value.cells,hst]
def PredO (g:Nat) (lb:Array Value) (p:Sn→Bool) (L:List Sn) (b:Nat) (w:World):Prop:=∀W,Fr (fun k=>k=b) w W→∀x∈L,Calls prog g (#[x.v]++lb) W fun e w'=>e=.returned (.bool (p x))∧Fr (fun _=>False) W w'
structure Del (p:Sn→Bool) (L:List Sn) (w wr:World) (b cap i j:Nat) (D:List Sn):Prop where
 r:Rw wr b cap D
 f:Fr (fun k=>k=b) w wr
 l:D.length=L.length
 lt:i<j
 le:j≤L.length
 d:D.take i=keep p (L.take j)
 n:(keep p (L.take j)).length=i
 s:D.drop j=L.drop j
theorem Del.skip {p:Sn→Bool} {L:List Sn} {w wr w':World} {b cap i j:Nat} {D:List Sn} (h:Del p L w wr b cap i j D) (hf:Fr (fun _=>False) wr w') (hj:j<L.length) (hp:p L[j]=true):Del p L w w' b cap i (j+1) D:=by
 have e:keep p (L.take (j+1))=keep p (L.take j):=by
  rw [List.take_succ_eq_append_getElem hj]
  unfold keep
  rw [List.filter_append,List.filter_cons,hp];simp
 refine ⟨h.r.fr hf (fun h=>h),h.f.trans hf (fun _ _ h=>h) (fun _ _ h=>h.elim),h.l,by have:=h.lt;omega,hj,by rw [e];exact h.d,by rw [e];exact h.n,?_⟩
 have h1:=h.s
 rw [←List.drop_drop,←List.drop_drop,h1]
theorem Del.take {p:Sn→Bool} {L:List Sn} {w wr w':World} {b cap i j:Nat} {D:List Sn} (h:Del p L w wr b cap i j D) (hf:Fr (fun _=>False) wr w') (hj:j<L.length) (hp:p L[j]=false):Del p L w (put9 w' b (i*9) L[j]) b cap (i+1) (j+1) (D.set i L[j]):=by
 have hlt:=h.lt;have hl:=h.l
 have e:keep p (L.take (j+1))=keep p (L.take j)++ [L[j]]:=by
  rw [List.take_succ_eq_append_getElem hj]
  unfold keep
  rw [List.filter_append,List.filter_cons,hp];simp
 refine ⟨(h.r.fr hf (fun h=>h)).put (by omega) _,(h.f.trans hf (fun _ _ h=>h) (fun _ _ h=>h.elim)).trans (put9_fr w' b _ _) (fun _ _ h=>h) (fun _ _ h=>h),by rw [List.length_set];exact hl,by omega,hj,?_,by rw [e,List.length_append,h.n];rfl,?_⟩
 ·rw [e,←h.d,List.take_succ_eq_append_getElem (by rw [List.length_set];omega),List.getElem_set_self,List.take_set_of_le (Nat.le_refl _)]
 ·have h1:=h.s
  rw [List.drop_set_of_lt (by omega),←List.drop_drop,←List.drop_drop,h1]
theorem Del.at {p:Sn→Bool} {L:List Sn} {w wr:World} {b cap i j:Nat} {D:List Sn} (h:Del p L w wr b cap i j D) (hj:j<L.length):At wr b (j*9) L[j]:=by
 have hl:=h.l
 have h1:=h.r.at (k:=j) (by omega)
 have e:D[j]'(by omega)=L[j]:=by
  have h2:(D.drop j)[0]? =(L.drop j)[0]? :=by rw [h.s]
  rw [List.getElem?_drop,List.getElem?_drop,Nat.add_zero,List.getElem?_eq_getElem (by omega),List.getElem?_eq_getElem hj] at h2
  exact Option.some.inj h2
 rwa [e] at h1
theorem Del.done {p:Sn→Bool} {L:List Sn} {w wr:World} {b cap i:Nat} {D:List Sn} {base:Nat} (h:Del p L w wr b cap i L.length D) (hb:base≤b) (hcap:L.length≤cap) (hm:cap≤maxLen) (vs:List Value):
  (wr.setCells b (i*9) vs).ownsRow base TSn 9 (.slice (some ⟨b,0,none⟩) (keep p L).length cap) (keep p L).length ((keep p L).flatMap scs)∧Fr (fun k=>k=b) w (wr.setCells b (i*9) vs):=by
 obtain ⟨cur,h1,h2,h3⟩:=h.r.h
 have hn:=h.n;have hd:=h.d;have hlt:=h.lt
 rw [List.take_length] at hn hd
 obtain ⟨cur',c1,c2,c3⟩:=Bk.setCells vs (i*9) h1
 refine ⟨⟨flat_length scs_len _,.inr ⟨b,cap,cur',by rw [hn],hb,c1,by omega,hm,by omega,?_⟩⟩,h.f.trans (setCells_fr vs _ _) (fun _ _ h=>h) (fun _ _ h=>h)⟩
 have hl:=flat_length scs_len (keep p L)
 rw [hn] at hl ⊢
 apply List.ext_getElem?
 intro q
 by_cases hq:q<i*9
 ·rw [List.getElem?_take_of_lt hq,Array.getElem?_toList,c3 q hq,←hd,←flat_take scs_len,List.getElem?_take_of_lt hq]
  have hl2:=flat_length scs_len D
  have:=h.l
  have hq2:q<(D.flatMap scs).length:=by omega
  rw [List.getElem?_eq_getElem hq2]
  exact h3 q _ (List.getElem?_eq_getElem hq2)
 ·rw [List.getElem?_eq_none (by rw [List.length_take];omega),List.getElem?_eq_none (by omega)]
theorem Rw.of {w:World} {base b cap:Nat} {L:List Sn} (h:w.ownsRow base TSn 9 (.slice (some ⟨b,0,none⟩) L.length cap) L.length (L.flatMap scs)):Rw w b cap L∧base≤b∧L.length≤cap∧cap≤maxLen:=by
 obtain ⟨-,h⟩:=h
 rcases h with ⟨h,-⟩| ⟨g,c2,cur,he,hg,hh,hn,hc,hs,ht⟩
 ·cases h
 ·cases he
  refine ⟨⟨cur,hh,hs,fun j u hu=>?_⟩,hg,hn,hc⟩
  rw [←ht,List.getElem?_take] at hu
  split at hu
  ·simpa using hu
  ·cases hu
theorem Del.start {p:Sn→Bool} {L:List Sn} {w w':World} {b cap k:Nat} (h:Rw w b cap L) (hf:Fr (fun _=>False) w w') (hk:k<L.length) (hp:p L[k]=true) (h0:∀y∈L.take k,p y=false):Del p L w w' b cap k (k+1) L:=by
 have e:keep p (L.take (k+1))=L.take k:=by
  rw [List.take_succ_eq_append_getElem hk]
  unfold keep
  rw [List.filter_append,List.filter_cons,hp,show List.filter (fun x=> !p x) (L.take k)=L.take k from keep_all h0];simp
 exact ⟨h.fr hf (fun h=>h),hf.mono (fun _ _ h=>h.elim),rfl,by omega,hk,by rw [e],by rw [e,List.length_take];omega,rfl⟩
end Sli
set_option maxRecDepth 100000
set_option maxHeartbeats 2000000
namespace Sli
open KeyP PackP SetP SetW SetF
attribute [local go_sem] Eng.ev Eng.getO_cons Eng.getO_nil
theorem DeleteFunc (base:Nat) (v:Value) (g:Nat) (lb:Array Value) (p:Sn→Bool) (L:List Sn) (w:World) (eg:∀args w,(callFunc g args).run prog w=.ok (.enter g args) w) (hO:w.ownsRow base TSn 9 v L.length (L.flatMap scs)) (hp0:Pred g lb p L w) (hp:∀b,v.ownBlock=some b→PredO g lb p L b w):
  Calls prog 77 #[v,.func (.func g) #[] lb] w fun e w'=>∃v',e=.returned v'∧w'.ownsRow base TSn 9 v' (keep p L).length ((keep p L).flatMap scs)∧Fr (fun k=>v.ownBlock=some k) w w':=by
 obtain ⟨A,c,rfl,hS,hA⟩:=Sl.of_own hO
 have HI:=Lib.hid (IndexFunc A c g lb p L w eg hS hp0)
 have HO:=Lib.hid hO
 have hlen:L.length≤9223372036854775807:=by have:=hS.2.1;have:=hS.2.2.1;unfold maxLen at this;omega
 rcases idx_spec p L with ⟨h1,h2⟩| ⟨k0,hk0,h1,h2,h3⟩
 ·rw [h1] at HI
  have HK:Hid (keep p L=L):=keep_all h2
  clear hO hp hp0 hA h2 h1 hS
  go_enter func77,ntmps77
  go_wp2_with fail
  refine HI.out.mono ?_
  rintro e w1 ⟨rfl,hf⟩
  have HF:=Lib.hid hf
  clear hf HI
  go_wp2_with fail
  go_ret
  refine ⟨_,rfl,?_,HF.out.mono (fun _ _ h=>h.elim)⟩
  rw [HK.out]
  exact ownsRow_fr HO.out HF.out (fun _ _ h=>h)
 ·rw [h1] at HI
  obtain ⟨b,rfl⟩:∃b,A=some ⟨b,0,none⟩:=by
   obtain ⟨-,h⟩:=hO
   rcases h with ⟨h,h'⟩| ⟨g,c2,cur,he,-⟩
   ·omega
   ·cases he;exact ⟨_,rfl⟩
  obtain ⟨r1,r2,r3,r4⟩:=Rw.of hO
  have HP:=Lib.hid (hp b rfl)
  have HR:=Lib.hid r1
  have HD:=Lib.hid (fun w' hf=>Del.start (w':=w') r1 hf hk0 h2 h3)
  have hc:c≤9223372036854775807:=by unfold maxLen at r4;omega
  clear hO hp hp0 hA h2 h1 hS h3 r1 HO
  go_enter func77,ntmps77
  go_wp2_with fail
  refine HI.out.mono ?_
  rintro e w1 ⟨rfl,hf⟩
  have HD1:=Lib.hid (HD.out w1 hf)
  have q0:((k0:Int)== -1)=false:=by simp
  clear hf HI HD
  go_wp2_with fail
  go_loopg [5,6,7] L.length (fun gk s5 s6 _ wr=>∃ (i j:Nat) (D:List Sn),s5=.int .i64 i∧s6=.int .i64 j∧L.length-j≤gk∧Del p L w wr b c i j D)
  case atStart=>exact ⟨k0,k0+1,L,rfl,by go_num,by omega,HD1.out⟩
  case round=>
   clear HD1 q0
   obtain ⟨i,j,D,rfl,rfl,hg,hd⟩:=hrel
   have HG:=Lib.hid hg;have HD:=Lib.hid hd
   have hij:=hd.lt;have hjl:=hd.le
   clear hg hd
   by_cases hlt:j<L.length
   ·have HA:=Lib.hid (HD.out.at hlt)
    have HSk:=Lib.hid (fun w' hf=>HD.out.skip (w':=w') hf hlt)
    have HTk:=Lib.hid (fun w' hf=>HD.out.take (w':=w') hf hlt)
    have HX:=Lib.hid (List.getElem_mem hlt)
    generalize hy:L[j]=y at *
    clear hy
    obtain ⟨c0,c1,c2,c3,c4,c5,c6,c7,c8⟩:=SetW.at9 HA.out
    have q2:decide ((j:Int)<(L.length:Int))=true:=by simp;omega
    go_upto_region 8 with (fail)
    have s2:=Bk.new wr y.arr TSn
    have s1:=At.box s2
    have s3:=Fr.alloc (fun _=>False) wr (.cells y.arr TSn)
    generalize (wr.alloc (.cells y.arr TSn))=w2 at *
    have HA2:=Lib.hid s1;have HB2:=Lib.hid s2;have HF2:=Lib.hid s3
    have hcall:=HP.out w2 (HD.out.f.trans s3 (fun _ _ h=>h) (fun _ _ h=>h.elim)) y HX.out
    clear s1 s2 s3 c0 c1 c2 c3 c4 c5 c6 c7 c8 HA
    have c0:w2.cell? ⟨wr.heap.size,0,none⟩=some (.int .i64 y.t):=HA2.out 0 _ rfl
    have c1:w2.cell? ⟨wr.heap.size,1,none⟩=some (.int .i64 y.i):=HA2.out 1 _ rfl
    have c2:w2.cell? ⟨wr.heap.size,2,none⟩=some (.int .i64 y.p):=HA2.out 2 _ rfl
    have c3:w2.cell? ⟨wr.heap.size,3,none⟩=some (.int .i64 y.r):=HA2.out 3 _ rfl
    have c4:w2.cell? ⟨wr.heap.size,4,none⟩=some (.string y.s):=HA2.out 4 _ rfl
    have c5:w2.cell? ⟨wr.heap.size,5,none⟩=some (.string y.o):=HA2.out 5 _ rfl
    have c6:w2.cell? ⟨wr.heap.size,6,none⟩=some (.int .i64 y.b):=HA2.out 6 _ rfl
    have c7:w2.cell? ⟨wr.heap.size,7,none⟩=some (.int .i64 y.d):=HA2.out 7 _ rfl
    have c8:w2.cell? ⟨wr.heap.size,8,none⟩=some (.bool y.g):=HA2.out 8 _ rfl
    cases h1:p y with
    |true=>
     have HS3:=Lib.hid (fun w' hf=>HSk.out w' hf h1)
     rw [h1] at hcall
     clear h1 HTk HSk
     go_wp2_with (go_at_fn g;refine hcall.mono ?_;rintro e w3 ⟨rfl,hf⟩)
     go_roundg (L.length-(j+1))
     case rel=>exact ⟨i,j+1,D,rfl,by go_num,by omega,HS3.out _ (HF2.out.trans hf (fun _ _ h=>h) (fun _ _ h=>h))⟩
     case measure=>have:=HG.out;omega
    |false=>
     rw [h1] at hcall
     have HS3:=Lib.hid (fun w' hf=>HTk.out w' hf h1)
     clear h1 HTk HSk
     go_upto_region 9 with (go_at_fn g;refine hcall.mono ?_;rintro e w3 ⟨rfl,hf⟩)
     have hD3:=HS3.out _ (HF2.out.trans hf (fun _ _ h=>h) (fun _ _ h=>h))
     have HA3:=HA2.out.keep hf
     have hr3:=(HD.out.r.fr HF2.out (fun h=>h)).fr hf (fun h=>h)
     have hzz:=hr3.at (k:=i) (by have:=HD.out.l;omega)
     generalize D[i]'(by have:=HD.out.l;omega)=z at hzz
     have HD3:=Lib.hid hD3;have HZ:=Lib.hid hzz;have HA4:=Lib.hid HA3;have HR3:=Lib.hid hr3
     clear hf hD3 HA3 hr3 hzz c0 c1 c2 c3 c4 c5 c6 c7 c8 HA2 HB2 HF2 hcall
     have c0:w3.cell? ⟨wr.heap.size,0,none⟩=some (.int .i64 y.t):=HA4.out 0 _ rfl
     have c1:w3.cell? ⟨wr.heap.size,1,none⟩=some (.int .i64 y.i):=HA4.out 1 _ rfl
     have c2:w3.cell? ⟨wr.heap.size,2,none⟩=some (.int .i64 y.p):=HA4.out 2 _ rfl
     have c3:w3.cell? ⟨wr.heap.size,3,none⟩=some (.int .i64 y.r):=HA4.out 3 _ rfl
     have c4:w3.cell? ⟨wr.heap.size,4,none⟩=some (.string y.s):=HA4.out 4 _ rfl
     have c5:w3.cell? ⟨wr.heap.size,5,none⟩=some (.string y.o):=HA4.out 5 _ rfl
     have c6:w3.cell? ⟨wr.heap.size,6,none⟩=some (.int .i64 y.b):=HA4.out 6 _ rfl
     have c7:w3.cell? ⟨wr.heap.size,7,none⟩=some (.int .i64 y.d):=HA4.out 7 _ rfl
     have c8:w3.cell? ⟨wr.heap.size,8,none⟩=some (.bool y.g):=HA4.out 8 _ rfl
     obtain ⟨r0,r1,r2,r3,r4,r5,r6,r7,r8⟩:=SetW.at9 HZ.out
     have f0:w3.frozen? ⟨b,i*9,none⟩=false:=HR3.out.free _
     have f1:w3.frozen? ⟨b,i*9+1,none⟩=false:=HR3.out.free _
     have f2:w3.frozen? ⟨b,i*9+1+1,none⟩=false:=HR3.out.free _
     have f3:w3.frozen? ⟨b,i*9+1+1+1,none⟩=false:=HR3.out.free _
     have f4:w3.frozen? ⟨b,i*9+1+1+1+1,none⟩=false:=HR3.out.free _
     have f5:w3.frozen? ⟨b,i*9+1+1+1+1+1,none⟩=false:=HR3.out.free _
     have f6:w3.frozen? ⟨b,i*9+1+1+1+1+1+1,none⟩=false:=HR3.out.free _
     have f7:w3.frozen? ⟨b,i*9+1+1+1+1+1+1+1,none⟩=false:=HR3.out.free _
     have f8:w3.frozen? ⟨b,i*9+1+1+1+1+1+1+1+1,none⟩=false:=HR3.out.free _
     have q3:(0:Int)≤(i:Int):=by omega
     have q4:(i:Int)<(L.length:Int):=by omega
     go_wp2_with fail
     go_roundg (L.length-(j+1))
     case rel=>exact ⟨i+1,j+1,_,by go_num,by go_num,by omega,HD3.out⟩
     case measure=>have:=HG.out;omega
   ·obtain rfl:j=L.length:=by omega
    have q2:decide ((L.length:Int)<(L.length:Int))=false:=by simp
    have q3:(0:Int)≤(i:Int):=by omega
    have q4:(i:Int)≤(L.length:Int):=by omega
    have q5:(i:Int)≤(c:Int):=by omega
    have q6:0<L.length-i:=by omega
    obtain ⟨vs,hcl⟩:=run_clearS wr b (i*9) (L.length-i) (c-i) q6 (fun j hj=>by have hl:=HD.out.l;exact HD.out.r.there (by omega)) (fun j _=>HD.out.r.free _)
    have HDn:=Lib.hid (HD.out.done r2 r3 r4 vs)
    clear HP HG HR
    have q7:decide (c=i)=false:=by simp;omega
    have q8:¬c=i:=by omega
    go_wp2_with fail
    go_ret
    obtain ⟨d1,d2⟩:=HDn.out
    have hn:=HD.out.n
    rw [List.take_length] at hn
    refine ⟨_,rfl,?_,?_⟩
    ·rw [hn] at d1 ⊢;exact d1
    ·exact d2.mono (fun k _ hk=>by rw [hk];rfl)
end Sli
set_option maxRecDepth 100000
set_option maxHeartbeats 1000000
namespace ClsW
open KeyP PackP SetP SetW SetF Sli Delta
attribute [local go_sem] Eng.ev Eng.getO_cons Eng.getO_nil
abbrev alive (L:List Sn):List Sn:=L.filter (fun x=> !x.g)
theorem alive_len (L:List Sn):(alive L).length≤L.length:=List.length_filter_le _ _
theorem gone1 (y:Sn) (w:World):Calls prog 79 #[y.v] w fun e w'=>e=.returned (.bool y.g)∧Fr (fun _=>False) w w':=by
 have h:=At.box (Bk.new w y.arr TSn)
 have e8:(w.alloc (.cells y.arr TSn)).cell? ⟨w.heap.size,8,none⟩=some (.bool y.g):=h 8 _ rfl
 have HF:=Lib.hid (Fr.alloc (fun _=>False) w (.cells y.arr TSn))
 clear h
 go_enter func79,ntmps79
 go_wp2_with fail
 go_ret
 exact ⟨rfl,HF.out⟩
theorem living (A:Option Addr) (c:Nat) (L:List Sn) (w:World) (hS:Ls w A c L) (hlen:L.length≤1000000):Calls prog 51 #[.slice A L.length c] w (LsPost (alive L) w):=by
 have HC:=Lib.hid (Clone A c L w hS hlen)
 have HOk:=Lib.hid hS.ok
 clear hS
 go_enter func51,ntmps51
 go_wp2_with fail
 refine HC.out.mono ?_
 rintro e w1 ⟨A2,c2,rfl,hls,hown,hb⟩
 have HD:=Lib.hid (DeleteFunc w.heap.size (.slice A2 L.length c2) 79 #[] (fun x=>x.g) L w1 (enters_of func79 (by kernel_rfl) rfl) hown (fun W _ x _=>gone1 x W) (fun _ _ W _ x _=>gone1 x W))
 have HB:=Lib.hid hb;have HOw:=Lib.hid hown
 clear hls hown hb HC
 go_wp2_with fail
 refine HD.out.mono ?_
 rintro e w3 ⟨v',rfl,h1,h2⟩
 have HX:Hid (LsPost (alive L) w (.returned v') w3):=by
  obtain ⟨A3,c3,rfl,h3,-⟩:=Sl.of_own h1
  refine ⟨A3,c3,rfl,⟨h3,fun x hx=>HOk.out x (List.mem_filter.1 hx).1⟩,h1,HB.out.trans (h2.below HB.out.size (fun k hk e=>?_))⟩
  have:=(ownsRow_blk HOw.out k e).1
  omega
 clear h1 h2 HD
 go_wp2_with fail
 go_ret
 exact HX.out
structure IV (w0 w:World) (Bx Br:Nat) (d:Dl) (xs:List Lv):Prop where
 dl:RdD w d
 x:Bk w Bx d.arr TDl
 r:Bk w Br #[.slice none 0 0,.slice none 0 0] TDl
 l:∀q∈xs,Rd w q∧∀a,q.A=some a→Br<a.block
 b:Below w0.heap.size w0 w
theorem IV.below {w0 w w':World} {Bx Br:Nat} {d:Dl} {xs:List Lv} (h:IV w0 w Bx Br d xs) (hb:Below w.heap.size w w'):IV w0 w' Bx Br d xs:=
 ⟨h.dl.below hb,h.x.fr (Fr.of_below' hb (fun _=>False)) (fun _ _ h=>h),h.r.fr (Fr.of_below' hb (fun _=>False)) (fun _ _ h=>h),fun q hq=>⟨(h.l q hq).1.below hb,(h.l q hq).2⟩,h.b.trans (hb.mono h.b.size)⟩
theorem IV.keep {w0 w w':World} {Bx Br:Nat} {d:Dl} {xs:List Lv} (h:IV w0 w Bx Br d xs) (hf:Fr (fun _=>False) w w'):IV w0 w' Bx Br d xs:=h.below (hf.below (Nat.le_refl _) (fun _ _ h=>h))
theorem IV.add {w0 w w':World} {Bx Br:Nat} {d:Dl} {xs:List Lv} {A:Option Addr} {c:Nat} {L:List Sn} (h:IV w0 w Bx Br d xs) (h1:Ls w' A c L) (h2:w'.ownsRow w.heap.size TSn 9 (.slice A L.length c) L.length (L.flatMap scs)) (hb:Below w.heap.size w w'):IV w0 w' Bx Br d (⟨A,c,L⟩::xs):=by
 have h':=h.below hb
 refine ⟨h'.dl,h'.x,h'.r,fun q hq=>?_,h'.b⟩
 rcases List.mem_cons.1 hq with rfl|hq
 ·obtain ⟨A',c',he,-,h3⟩:=Sl.of_own h2
  cases he
  exact ⟨h1,fun a ha=>by have:=(h3 a ha).1;have:=lt_of_heap h.r;omega⟩
 ·exact h'.l q hq
structure AZ (w0 w:World) (Bx Br:Nat) (d:Dl) (X Y:List Sn) (A3:Option Addr) (c3:Nat) (A4:Option Addr) (c4:Nat):Prop where
 x:Bk w Bx d.arr TDl
 r:Bk w Br #[.slice A3 X.length c3,.slice A4 Y.length c4] TDl
 a:Ls w A3 c3 X
 c:Ls w A4 c4 Y
 b:Below w0.heap.size w0 w
theorem IV.store {w0 w:World} {Bx Br:Nat} {d:Dl} {X Y:List Sn} {A3 A4:Option Addr} {c3 c4:Nat} (h:IV w0 w Bx Br d [⟨A4,c4,Y⟩,⟨A3,c3,X⟩]) (hne:Bx≠Br) (hbr:w0.heap.size≤Br):
  AZ w0 ((w.setCell ⟨Br,0,none⟩ (.slice A3 X.length c3)).setCell ⟨Br,1,none⟩ (.slice A4 Y.length c4)) Bx Br d X Y A3 c3 A4 c4:=by
 have hf:Fr (fun k=>k=Br) w ((w.setCell ⟨Br,0,none⟩ (.slice A3 X.length c3)).setCell ⟨Br,1,none⟩ (.slice A4 Y.length c4)):=
  (Fr.setCell w ⟨Br,0,none⟩ (.slice A3 X.length c3) (S:=fun k=>k=Br) rfl).trans (Fr.setCell _ ⟨Br,1,none⟩ (.slice A4 Y.length c4) (S:=fun k=>k=Br) rfl) (fun _ _ h=>h) (fun _ _ h=>h)
 have h3:=h.l ⟨A3,c3,X⟩ (by simp)
 have h4:=h.l ⟨A4,c4,Y⟩ (by simp)
 refine ⟨h.x.fr hf (fun k hk e=>by simp at hk;omega),?_,h3.1.fr hf (fun q hq e=>by have:=h3.2 q hq;omega),h4.1.fr hf (fun q hq e=>by have:=h4.2 q hq;omega),h.b.trans (hf.below h.b.size (fun k hk e=>by omega))⟩
 have:=(h.r.set 0 (.slice A3 X.length c3)).set 1 (.slice A4 Y.length c4)
 simpa using this
theorem livingE {A:Option Addr} {c:Nat} {L:List Sn} {w:World} (hS:Ls w A c L) (hlen:L.length≤1000000) (X:List Sn) (hX:alive L=X):Calls prog 51 #[.slice A L.length c] w (LsPost X w):=hX▸living A c L w hS hlen
theorem al1 {ops:Array Oper} (hops:Eng.fnOps Tryz.f31 1=ops) (a0:Act) (Q:Exit→Act→World→Prop) (w0 w:World) (Bx Br:Nat) (d:Dl) (X Y:List Sn) (hX:alive d.O=X) (hY:alive d.I=Y) (hl1:d.O.length≤1000000) (hl2:d.I.length≤1000000) (hne:Bx≠Br) (hbr:w0.heap.size≤Br) (hst:IV w0 w Bx Br d [])
  (hn:a0.tmps.size=10) (h_1:a0.tmps.getD 1 undef=.pointer (some ⟨Bx,0,none⟩)) (h_2:a0.tmps.getD 2 undef=.pointer (some ⟨Br,0,none⟩))
  (hpost:∀ (x:Nat→Value) (w':World) (A3:Option Addr) (c3:Nat) (A4:Option Addr) (c4:Nat),AZ w0 w' Bx Br d X Y A3 c3 A4 c4→Q .normal (Eng.setAll a0 [3,4,5,6,7,8,9] x) w'):
  (Code.region 1 ops true).wp prog Q a0 w:=by
 simp only [Eng.fnOps,Eng.regOps,Tryz.f31,Option.bind_some,Option.getD_some,Nat.reduceEqDiff,↓reduceIte] at hops
 subst hops
 have HSt:=Lib.hid (hst.keep (Fr.drew _ _))
 refine Eng.regionT (.take 0 (.take 1 (.take 3 (.take 4 (.alt 2 (.alt 5 (.take 6 (.alt 7 (.done) (.stop))) (.stop)) (.stop)))))) (fun w'=>w'.cell? ⟨Bx,0,none⟩=some (.slice d.A1 d.O.length d.c1)∧w'.cell? ⟨Bx,1,none⟩=some (.slice d.A2 d.I.length d.c2)) (by kernel_rfl) 10 hn (by kernel_rfl) (by kernel_rfl) (by kernel_rfl) (⟨HSt.out.x.cell 0,HSt.out.x.cell 1⟩) (fun a b ha hb=>?_)
 subst ha
 have hb1:b 1=.pointer (some ⟨Bx,0,none⟩):=(hb 1).symm.trans h_1
 have hb2:b 2=.pointer (some ⟨Br,0,none⟩):=(hb 2).symm.trans h_2
 clear hb h_1 h_2
 have HP:=Lib.hid hpost;have HN:=Lib.hid hn
 clear hpost hn
 iterate 4 (refine Eng.TW.tk ?_)
 refine Eng.TW.call rfl rfl (by decide) (by kernel_rfl) ?_ (livingE (HSt.out.dl.o) hl1 X hX) ?_
 ·go_simp
 rintro e w2 ⟨A3,c3,rfl,h1,h2,h3⟩
 have HSt2:=Lib.hid (HSt.out.add h1 h2 h3)
 clear h1 h2 h3
 refine ⟨_,rfl,⟨HSt2.out.x.cell 0,HSt2.out.x.cell 1⟩,?_⟩
 refine Eng.TW.call rfl rfl (by decide) (by kernel_rfl) ?_ (livingE (HSt2.out.dl.i) hl2 Y hY) ?_
 ·go_simp
 rintro e w3 ⟨A4,c4,rfl,h1,h2,h3⟩
 have HSt3:=Lib.hid (HSt2.out.add h1 h2 h3)
 clear h1 h2 h3
 have kb:∀W:World,(Instr.build TDl #[(0,.slice A3 X.length c3),(1,.slice A4 Y.length c4)]).run prog W=.ok (.agg #[.slice A3 X.length c3,.slice A4 Y.length c4]) W:=fun W=>by kernel_rfl
 have r0:=HSt3.out.r.cell 0
 have r1:=HSt3.out.r.cell 1
 have f0:=HSt3.out.r.free 0
 have f1:=HSt3.out.r.free 1
 simp only [List.getElem?_toArray,List.getElem?_cons_zero,List.getElem?_cons_succ] at r0 r1
 refine ⟨_,rfl,⟨HSt3.out.x.cell 0,HSt3.out.x.cell 1⟩,?_⟩
 refine Eng.TW.tk ?_
 have HSt4:=Lib.hid (HSt3.out.store hne hbr)
 refine Eng.TW.step0 rfl rfl (by kernel_rfl) (by go_simp;first|done|with_reducible rfl) (⟨HSt4.out.x.cell 0,HSt4.out.x.cell 1⟩) ?_
 have hSS:((w3.setCell ⟨Br,0,none⟩ (.slice A3 X.length c3)).setCell ⟨Br,1,none⟩ (.slice A4 Y.length c4)).cell? ⟨Bx,0,none⟩=some (.slice d.A1 d.O.length d.c1)∧((w3.setCell ⟨Br,0,none⟩ (.slice A3 X.length c3)).setCell ⟨Br,1,none⟩ (.slice A4 Y.length c4)).cell? ⟨Bx,1,none⟩=some (.slice d.A2 d.I.length d.c2):=⟨HSt4.out.x.cell 0,HSt4.out.x.cell 1⟩
 refine Eng.TW.end_ [3,4,5,6,7,8,9] HN.out (by kernel_rfl) (by kernel_rfl) ?_
 exact HP.out _ _ A3 c3 A4 c4 HSt4.out
theorem Alive (d:Dl) (w:World) (hd:RdD w d) (hl1:d.O.length≤1000000) (hl2:d.I.length≤1000000) (X Y:List Sn) (hX:alive d.O=X) (hY:alive d.I=Y):
  Calls prog 31 #[d.v] w fun e w'=>∃A3 c3 A4 c4,e=.returned (.agg #[.slice A3 X.length c3,.slice A4 Y.length c4])∧Ls w' A3 c3 X∧Ls w' A4 c4 Y∧Below w.heap.size w w':=by
 have f1:=Fr.alloc (fun _=>False) w (.cells d.arr TDl)
 have f2:=Fr.alloc (fun _=>False) (w.alloc (.cells d.arr TDl)) (.cells #[.slice none 0 0,.slice none 0 0] TDl)
 have hb:Below w.heap.size w ((w.alloc (.cells d.arr TDl)).alloc (.cells #[.slice none 0 0,.slice none 0 0] TDl)):=((Below.refl _ w).alloc (Nat.le_refl _) _).alloc (by simp) _
 have hr:=Bk.new (w.alloc (.cells d.arr TDl)) #[.slice none 0 0,.slice none 0 0] TDl
 rw [World.size_alloc] at hr
 have H:=Lib.hid (show IV w _ w.heap.size (w.heap.size+1) d [] from ⟨(hd.keep f1).keep f2,(Bk.new w d.arr TDl).fr f2 (fun _ _ h=>h),hr,by simp,hb⟩)
 clear hd f1 f2 hb hr
 go_enter func31,ntmps31
 go_upto_region 1 with (fail)
 generalize ((w.alloc (.cells d.arr TDl)).alloc (.cells #[.slice none 0 0,.slice none 0 0] TDl))=w1 at *
 refine al1 (by kernel_rfl) _ _ w w1 w.heap.size (w.heap.size+1) d X Y hX hY hl1 hl2 (by omega) (by omega) H.out rfl rfl rfl ?_
 intro x w2 A3 c3 A4 c4 h
 simp only [Eng.setAll,Act.put,List.setIfInBounds_toArray,List.set_cons_succ,List.set_cons_zero]
 have HZ:=Lib.hid h
 clear h
 go_wp2_with fail
 exact bodyPost_ret (results_cell_row rfl _ _ (w.heap.size+1) TDl _ (0,0) _ rfl HZ.out.r underlying36 rfl (by kernel_rfl)) rfl ⟨A3,c3,A4,c4,rfl,HZ.out.a,HZ.out.c,HZ.out.b⟩
abbrev spn (L:List Sn):List Sn:=alive (setOf L)
theorem alive_snoc {L:List Sn} {k:Nat} (h:k<L.length):alive (L.take (k+1))=alive (L.take k)++if L[k].g then [] else [L[k]]:=by
 unfold alive
 rw [List.take_succ_eq_append_getElem h,List.filter_append,List.filter_cons]
 cases L[k].g<;>simp
theorem RefLive (A:Option Addr) (c:Nat) (L:List Sn) (w:World) (hS:Ls w A c L) (hlen:L.length≤1000000):Calls prog 33 #[.slice A L.length c] w (LsPost (alive L) w):=by
 obtain ⟨i0,hi,hz0,hz1,hz2⟩:=info_parts infoS
 have HS:=Lib.hid hS
 clear hS
 go_enter func33,ntmps33
 go_wp2_with fail
 go_loopg [3,4] L.length (fun gk v i wr=>∃k:Nat,i=.int .i64 k∧k≤L.length∧gk=L.length-k∧wr.ownsRow w.heap.size TSn 9 v (alive (L.take k)).length ((alive (L.take k)).flatMap scs)∧Below w.heap.size w wr)
 case atStart=>exact ⟨0,rfl,Nat.zero_le _,rfl,World.ownsRow_nil _ _ _ _,Below.refl _ _⟩
 case round=>
  obtain ⟨k,rfl,hk,hg,hown,hbel⟩:=hrel
  have HG:=Lib.hid hg;have HO:=Lib.hid hown;have HBe:=Lib.hid hbel
  have hszw:w.heap.size≤wr.heap.size:=hbel.size
  clear hg hown hbel
  by_cases hlt:k<L.length
  ·obtain ⟨b1,o1,rfl,hb1,c1⟩:=HS.out.s.at hlt (by omega)
   have HA:=Lib.hid ((At.row c1 hlt).fr (Fr.of_below' HBe.out (fun _=>False)) (fun h=>h))
   have hfl:(alive (L.take k)).length≤k:=Nat.le_trans (List.length_filter_le _ _) (by rw [List.length_take];omega)
   have HSn:=Lib.hid (alive_snoc hlt)
   clear c1 hb1
   generalize L[k]=y at *
   generalize alive (L.take k)=N at *
   have q1:(0:Int)≤(k:Int):=by omega
   have q2:decide ((k:Int)<(L.length:Int))=true:=by simp;omega
   have HK1:=Lib.hid (ownsRow_blk HO.out)
   obtain ⟨yc0,yc1,yc2,yc3,yc4,yc5,yc6,yc7,yc8⟩:=SetW.at9 HA.out
   cases h1:y.g with
   |false=>
    rw [h1] at HSn yc8
    have hown1':=HO.out.alloc (.cells y.arr TSn)
    have HYg:=Lib.hid h1
    have yc8':wr.cell? ⟨b1,o1+k*9+8,none⟩=some (.bool false):=yc8
    clear h1
    go_upto_region 6 with (fail)
    rw [←HYg.out] at yc8
    go_wp2_with (at_builtin;refine wpList_append_sl _ rfl (.tmp 17) (.tmp 22) TSs rfl w.heap.size TSn i0 (.agg #[.int .i64 0,.int .i64 0,.int .i64 0,.int .i64 0,.string ByteArray.empty,.string ByteArray.empty,.int .i64 0,.int .i64 0,.bool false]) 9 88 underlying31 hi hz0 hz1 hz2 rfl (by decide) _ _ _ rfl hown1' _ _ _ _ rfl (Sl.one wr TSn (scs y) 9 rfl) (by simp [Value.oneCell']) ?_ ?_ ?_ ?_)
    ·unfold maxLen;omega
    ·omega
    ·first|omega| (simp;omega)
    intro v1 w1 hown1 hgrow1
    have HO1:=Lib.hid hown1;have HGr:=Lib.hid hgrow1
    clear hown1 hgrow1 hown1' yc8' yc0 yc1 yc2 yc3 yc4 yc5 yc6 yc7 yc8
    go_wp2_with fail
    go_roundg (L.length-(k+1))
    case rel=>exact ⟨k+1,by go_num,by omega,rfl,by rw [HSn.out];simpa using HO1.out,(HBe.out.alloc hszw _).grown HGr.out (by simp;omega) (fun k e=>(HK1.out k e).1)⟩
    case measure=>have:=HG.out;omega
   |true=>
    rw [h1] at HSn yc8
    have yc8':wr.cell? ⟨b1,o1+k*9+8,none⟩=some (.bool true):=yc8
    clear h1
    go_wp2_with fail
    go_roundg (L.length-(k+1))
    case rel=>exact ⟨k+1,by go_num,by omega,rfl,by rw [HSn.out];simpa using HO.out,HBe.out⟩
    case measure=>have:=HG.out;omega
  ·obtain rfl:k=L.length:=by omega
   have q2:decide ((L.length:Int)<(L.length:Int))=false:=by simp
   rw [List.take_length] at HO
   obtain ⟨A2,c2,hv,h2,-⟩:=Sl.of_own HO.out
   subst hv
   have H2:=Lib.hid h2
   clear h2
   go_wp2_with fail
   go_ret
   exact ⟨A2,c2,rfl,⟨H2.out,fun x hx=>HS.out.ok x (List.mem_filter.1 hx).1⟩,HO.out,HBe.out⟩
theorem RefSpans (A:Option Addr) (c:Nat) (L:List Sn) (w:World) (hS:Ls w A c L) (hlen:L.length≤1000000):Calls prog 16 #[.slice A L.length c] w (LsPost (spn L) w):=by
 have HSet:=Lib.hid (RefSet A c L w hS hlen)
 have hml:=Nat.le_trans (setOf_len L) hlen
 show Calls _ _ _ _ (LsPost (alive (setOf L)) w)
 generalize setOf L=M at *
 clear hS
 go_enter func16,ntmps16
 go_wp2_with fail
 refine HSet.out.mono ?_
 rintro e w1 ⟨A2,c2,rfl,hls,hown,hb⟩
 have HL:=Lib.hid (RefLive A2 c2 M w1 hls hml)
 have HB:=Lib.hid hb
 clear hls hown hb HSet
 go_wp2_with fail
 refine HL.out.mono ?_
 rintro e w2 ⟨A3,c3,rfl,h3,h4,hb⟩
 have H3:=Lib.hid h3;have H4:=Lib.hid h4;have HB2:=Lib.hid (HB.out.trans (hb.mono HB.out.size));have HZ:=Lib.hid HB.out.size
 clear h3 h4 hb HL
 go_wp2_with fail
 go_ret
 exact ⟨A3,c3,rfl,H3.out,ownsRow_base H4.out HZ.out,HB2.out⟩
end ClsW
end Go.Proofs.YtdpngmgaomghoaaGreatDoor
