/- Views of entries, plain: how many records begin each trace so; what comes and goes. No program is named. -/
import Derived.Test.YtdpngmgaomghoaaGreatDoorEntP
namespace Go.Proofs.YtdpngmgaomghoaaGreatDoor
open Go.RowKit
namespace EntP
open KeyP BagP
instance bqB:BEq ByteArray:=⟨fun a b=>decide (a=b)⟩
instance bqL:LawfulBEq ByteArray where
 eq_of_beq h:=of_decide_eq_true h
 rfl:=decide_eq_true rfl
open OpsP (Nm ltN nzN)
abbrev Cv:=List (ByteArray × Int)
theorem nodup_len {α:Type} [BEq α] [LawfulBEq α]:∀ {A B:List α},A.Nodup→(∀x∈A,x∈B)→A.length≤B.length
 | [],_,_,_=>Nat.zero_le _
 |x::A,B,h,hs=>by
  have h1:=List.nodup_cons.1 h
  have hx:x∈B:=hs x (by simp)
  have h2:=nodup_len (B:=B.erase x) h1.2 (fun y hy=>(List.mem_erase_of_ne (fun e=>h1.1 (by rw [←e];exact hy))).2 (hs y (by simp [hy])))
  have h3:=List.length_erase_of_mem hx
  have h4:=List.length_pos_of_mem hx
  simp only [List.length_cons];omega
structure EG (q:List Tk) (V:Cv):Prop where
 srt:Srt V
 ok:∀p∈V,1≤p.2∧∃k,nzK k∧p.1=ek k
 cn:∀k,nzK k→(getL (ek k) V).getD 0=((q.count k:Nat):Int)
 qk:∀k∈q,nzK k
section
variable {q q':List Tk} {V:Cv} {k:Tk}
theorem EG.nil:EG [] []:=⟨List.Pairwise.nil,by simp,fun k _=>by simp [getL_nil],by simp⟩
theorem EG.perm (h:EG q V) (hp:q.Perm q'):EG q' V:=⟨h.srt,h.ok,fun k hk=>by rw [h.cn k hk,hp.count_eq],fun k hk=>h.qk k (hp.mem_iff.2 hk)⟩
theorem sameK_ek {j k:Tk} (hj:nzK j) (hk:nzK k):sameK (ek j) (ek k)=decide (j=k):=by
 by_cases e:j=k
 ·rw [e,sameK_refl];simp
 ·rw [sameK_ne (fun h=>e (ek_inj hj hk h))];simp [e]
theorem EG.put (h:EG q V) (hk:nzK k) {m:Int} (hm:m=(getL (ek k) V).getD 0+1):EG (k::q) (insL (ek k) m V):=by
 have h0:=h.cn k hk
 refine ⟨(srt_insL _ h.srt).1,fun p hp=>?_,fun j hj=>?_,fun j hj=>?_⟩
 ·rcases insL_mem hp with rfl|hp
  ·exact ⟨by dsimp only;omega,k,hk,rfl⟩
  ·exact h.ok p hp
 ·rw [getL_ins,sameK_ek hj hk,List.count_cons]
  by_cases e:j=k
  ·subst e;simp;omega
  ·have e':(k==j)=false:=by simpa using fun h:k=j=>e h.symm
   simp [e,e',h.cn j hj]
 ·rcases List.mem_cons.1 hj with rfl|hj
  ·exact hk
  ·exact h.qk j hj
theorem EG.dec (h:EG q V) (hk:nzK k) {m:Int} (hm:m=(getL (ek k) V).getD 0-1) (h1:1≤m):EG (q.erase k) (insL (ek k) m V):=by
 have h0:=h.cn k hk
 refine ⟨(srt_insL _ h.srt).1,fun p hp=>?_,fun j hj=>?_,fun j hj=>h.qk j (List.mem_of_mem_erase hj)⟩
 ·rcases insL_mem hp with rfl|hp
  ·exact ⟨h1,k,hk,rfl⟩
  ·exact h.ok p hp
 ·rw [getL_ins,sameK_ek hj hk]
  by_cases e:j=k
  ·subst e
   rw [List.count_erase_self]
   simp;omega
  ·rw [List.count_erase_of_ne e]
   simp [e,h.cn j hj]
theorem EG.del (h:EG q V) (hk:nzK k) (h1:(getL (ek k) V).getD 0=1):EG (q.erase k) (delL (ek k) V):=by
 have h0:=h.cn k hk
 refine ⟨srt_delL _ h.srt,fun p hp=>h.ok p (List.mem_filter.1 hp).1,fun j hj=>?_,fun j hj=>h.qk j (List.mem_of_mem_erase hj)⟩
 rw [getL_del,sameK_ek hj hk]
 by_cases e:j=k
 ·subst e
  rw [List.count_erase_self]
  simp;omega
 ·rw [List.count_erase_of_ne e]
  simp [e,h.cn j hj]
theorem EG.has (h:EG q V) (hk:nzK k):(1≤(getL (ek k) V).getD 0↔k∈q)∧0≤(getL (ek k) V).getD 0∧(getL (ek k) V).getD 0≤q.length:=by
 rw [h.cn k hk]
 have h1:0<q.count k↔k∈q:=List.count_pos_iff
 have h2:q.count k≤q.length:=List.count_le_length
 refine ⟨⟨fun h=>h1.1 (by omega),fun h=>by have:=h1.2 h;omega⟩,by omega,by omega⟩
theorem keys_of:∀ {V:Cv},(∀p∈V,∃k,nzK k∧p.1=ek k)→∃K:List Tk,V.map (·.1)=K.map ek∧∀k∈K,nzK k
 | [],_=>⟨[],rfl,by simp⟩
 |p::t,h=>by
  obtain ⟨K,h1,h2⟩:=keys_of (V:=t) (fun r hr=>h r (by simp [hr]))
  obtain ⟨k,h3,h4⟩:=h p (by simp)
  exact ⟨k::K,by simp [h1,h4],fun j hj=>by rcases List.mem_cons.1 hj with rfl|hj;exact h3;exact h2 j hj⟩
theorem EG.keys (h:EG q V):∃K:List Tk,V.map (·.1)=K.map ek∧K.Pairwise (fun a b=>ltT a b=true)∧(∀k∈K,nzK k)∧(∀k,k∈K↔k∈q):=by
 obtain ⟨K,h1,h2⟩:=keys_of (fun p hp=>(h.ok p hp).2)
 refine ⟨K,h1,?_,h2,fun k=>?_⟩
 ·have h3:(V.map (·.1)).Pairwise (fun a b=>Ord.lt a b=true):=List.pairwise_map.2 h.srt
  rw [h1] at h3
  exact (List.pairwise_map.1 h3).imp_of_mem (fun {a b} ha hb hab=>by rwa [lt_ek (h2 a ha) (h2 b hb)] at hab)
 ·constructor
  ·intro hk
   have hm:ek k∈V.map (·.1):=by rw [h1];exact List.mem_map.2 ⟨k,hk,rfl⟩
   obtain ⟨p,hp,hpe⟩:=List.mem_map.1 hm
   have hg:getL (ek k) V=some p.2:=mem_getL h.srt (by rw [←hpe];exact hp)
   refine (h.has (h2 k hk)).1.1 ?_
   rw [hg];exact (h.ok p hp).1
  ·intro hk
   have hz:=h.qk k hk
   have h3:=(h.has hz).1.2 hk
   cases hg:getL (ek k) V with
   |none=>rw [hg] at h3;simp at h3
   |some m=>
    have hm:ek k∈V.map (·.1):=List.mem_map.2 ⟨_,getL_mem hg,rfl⟩
    rw [h1] at hm
    obtain ⟨j,hj,he⟩:=List.mem_map.1 hm
    rw [←ek_inj (h2 j hj) hz he];exact hj
theorem ltT_irr (a:Tk):ltT a a=false:=by unfold ltT;rw [ltN_irr];simp
theorem EG.len (h:EG q V):V.length≤q.length:=by
 obtain ⟨K,h1,h2,-,h4⟩:=h.keys
 have h5:K.Nodup:=h2.imp (fun {a b} hab e=>by subst e;rw [ltT_irr] at hab;cases hab)
 have:=nodup_len h5 (fun k hk=>(h4 k).1 hk)
 have h6:=congrArg List.length h1
 rw [List.length_map,List.length_map] at h6;omega
end
def outK:List Tk→List Tk→Option (List Tk)
 | [],q=>some q
 |k::t,q=>if k∈q then outK t (q.erase k) else none
theorem outK_app:∀ (A B:List Tk) (q:List Tk),outK (A++B) q=(outK A q).bind (outK B)
 | [],B,q=>rfl
 |k::A,B,q=>by
  rw [List.cons_append,outK,outK]
  split
  ·exact outK_app A B _
  ·rfl
theorem outK_perm:∀ {A q r:List Tk},outK A q=some r→(A++r).Perm q
 | [],q,r,h=>by simp [outK] at h;rw [h];exact List.Perm.refl _
 |k::A,q,r,h=>by
  rw [outK] at h
  split at h
  ·rename_i hk
   exact ((outK_perm h).cons k).trans (List.perm_cons_erase hk).symm
  ·cases h
theorem outK_same:∀ {A q q':List Tk},q.Perm q'→(outK A q=none∧outK A q'=none)∨∃r r',outK A q=some r∧outK A q'=some r'∧r.Perm r'
 | [],q,q',h=>.inr ⟨q,q',rfl,rfl,h⟩
 |k::A,q,q',h=>by
  rw [outK,outK]
  by_cases hk:k∈q
  ·rw [if_pos hk,if_pos (h.mem_iff.1 hk)];exact outK_same (h.erase k)
  ·rw [if_neg hk,if_neg (fun h'=>hk (h.mem_iff.2 h'))];exact .inl ⟨rfl,rfl⟩
end EntP
end Go.Proofs.YtdpngmgaomghoaaGreatDoor
