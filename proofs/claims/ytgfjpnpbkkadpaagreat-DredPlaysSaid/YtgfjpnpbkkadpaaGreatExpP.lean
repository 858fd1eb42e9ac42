/- What is past, plain: keys by when they end. -/
import Derived.Test.YtgfjpnpbkkadpaaGreatKB
import Derived.Test.YtgfjpnpbkkadpaaGreatOpens
namespace Go.Proofs.YtgfjpnpbkkadpaaGreat
open Go.RowKit
namespace ExpP
open KeyP
theorem hasL_mem {κ ν:Type} [Ord κ] {x:κ} {L:List (κ × ν)}:hasL x L=true↔ ∃p∈L,p.1=x:=by
 unfold hasL
 rw [List.any_eq_true]
 exact ⟨fun ⟨p,hp,h⟩=>⟨p,hp,(sameK_iff.1 h).symm⟩,fun ⟨p,hp,h⟩=>⟨p,hp,sameK_iff.2 h.symm⟩⟩
theorem getL_iff {κ ν:Type} [Ord κ] {L:List (κ × ν)} (hs:Srt L) {k:κ} {v:ν}:getL k L=some v↔(k,v)∈L:=⟨getL_mem,mem_getL hs⟩
theorem mem_ins {κ ν:Type} [Ord κ] {L:List (κ × ν)} (hs:Srt L) {k:κ} {v:ν} {p:κ × ν}:p∈insL k v L↔p=(k,v)∨(p∈L∧p.1≠k):=by
 obtain ⟨a,b⟩:=p
 rw [←getL_iff (srt_insL v hs).1,getL_ins]
 by_cases e:a=k
 ·subst e;rw [sameK_refl,if_pos rfl];simp [eq_comm]
 ·rw [sameK_ne e,if_neg (by simp),getL_iff hs];simp [e]
theorem mem_del {κ ν:Type} [Ord κ] {L:List (κ × ν)} (hs:Srt L) {k:κ} {p:κ × ν}:p∈delL k L↔p∈L∧p.1≠k:=by
 obtain ⟨a,b⟩:=p
 rw [←getL_iff (srt_delL k hs),getL_del]
 by_cases e:a=k
 ·subst e;rw [sameK_refl,if_pos rfl];simp
 ·rw [sameK_ne e,if_neg (by simp),getL_iff hs];simp [e]
end ExpP
end Go.Proofs.YtgfjpnpbkkadpaaGreat
