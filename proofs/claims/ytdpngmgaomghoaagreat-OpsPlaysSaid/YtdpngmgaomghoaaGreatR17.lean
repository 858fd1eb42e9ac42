/- The document's answer for layer 12: getting, keys; the least number of keys of a depth. -/
import Derived.Test.YtdpngmgaomghoaaGreatRef01
import Derived.Test.YtdpngmgaomghoaaGreatTrees
namespace Go.Proofs.YtdpngmgaomghoaaGreat
open Go.RowKit
namespace Ref12
theorem get_take_none {k:Int} {L:List (Int × Int)} {j:Nat} (h:∀i (_:i<j) (h:i<L.length),L[i].1≠k) (hj:j<L.length) (e:L[j].1=k):getL k L=some L[j].2:=by
 have h1:L=L.take j++L[j]::L.drop (j+1):=by rw [←List.drop_eq_getElem_cons hj,List.take_append_drop]
 have h2:L.find? (fun p=>sameK k p.1)=some L[j]:=by
  rw [List.find?_eq_some_iff_append]
  refine ⟨sameK_iff.2 e.symm,L.take j,L.drop (j+1),h1,fun p hp=>?_⟩
  obtain ⟨i,hi,rfl⟩:=List.getElem_of_mem hp
  rw [List.length_take] at hi
  rw [List.getElem_take,Bool.not_eq_true',Bool.eq_false_iff]
  exact fun hs=>h i (by omega) (by omega) (sameK_iff.1 hs).symm
 unfold getL
 rw [h2];rfl
theorem get_none {k:Int} {L:List (Int × Int)} (h:∀i (h:i<L.length),L[i].1≠k):getL k L=none:=by
 unfold getL
 have:L.find? (fun p=>sameK k p.1)=none:=by
  rw [List.find?_eq_none]
  intro p hp hs
  obtain ⟨i,hi,rfl⟩:=List.getElem_of_mem hp
  exact h i hi (sameK_iff.1 hs).symm
 rw [this];rfl
end Ref12
end Go.Proofs.YtdpngmgaomghoaaGreat
