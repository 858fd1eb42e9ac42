/- Layer 48's statements: DigestByte: the answer is true. -/
import Derived.Test.YtmcghchhegfilaaLaw48b
import Derived.Test.YtmcghchhegfilaaDel
import Derived.Test.YtmcghchhegfilaaSetBig
namespace Go.Proofs.Ytmcghchhegfilaa
open Go.RowKit
namespace Law48
open KeyP PackP SetP SetW SetF Code_ Rank DigW
attribute [local go_sem] Eng.ev Eng.getO_cons Eng.getO_nil
open Sli
theorem RefSetBE {A : Option Addr} {c : Nat} {L : List Sn} {w : World} (hS : Ls w A c L) (hlen : L.length ≤ 1599289640355) (N : List Sn) (hN : setOf L = N) :
    Calls Try.prog 24 #[.slice A L.length c] w (LsPost N w) := hN ▸ RefSetB A c L w hS hlen
theorem Rw.put1 {w : World} {b cap : Nat} {M : List Sn} (h : Rw w b cap M) {i : Nat} (hi : i < M.length) {r : Nat} (hr : r < 9) (u : Value) (y : Sn) (hy : ∀ s < 9, (scs y)[s]? = if s = r then some u else (scs M[i])[s]?) : Rw (w.setCell ⟨b, i * 9 + r, none⟩ u) b cap (M.set i y) := by
  obtain ⟨cur, h1, h2, h3⟩ := h.h
  have hs : ∀ s < 9, cur[i * 9 + s]? = (scs M[i])[s]? := fun s hs => by
    have := flat_at (f := scs) (sz := 9) scs_len hi hs
    have h9 : s < (scs M[i]).length := hs
    rw [List.getElem?_eq_getElem h9] at this ⊢
    exact h3 _ _ this
  refine ⟨_, h1.set (i * 9 + r) u, by rw [Array.size_setIfInBounds]; exact h2, fun j v hv => ?_⟩
  have hin : i * 9 + r < cur.size := by
    have h9 : r < (scs M[i]).length := hr
    have := hs r hr
    rw [List.getElem?_eq_getElem h9] at this
    exact (Array.getElem?_eq_some_iff.1 this).1
  rw [set_at] at hv
  split at hv
  · rename_i hc
    obtain ⟨s, hs9, rfl⟩ : ∃ s, s < 9 ∧ j = i * 9 + s := ⟨j - i * 9, by omega, by omega⟩
    rw [show i * 9 + s - i * 9 = s by omega, hy s hs9] at hv
    by_cases e : s = r
    · subst e
      rw [if_pos rfl] at hv
      rw [Array.getElem?_setIfInBounds_self_of_lt hin]; exact hv
    · rw [if_neg e] at hv
      rw [Array.getElem?_setIfInBounds_ne (by omega), hs s hs9]; exact hv
  · rename_i hc
    have hne : i * 9 + r ≠ j := fun e => hc ⟨hi, by omega, by omega⟩
    rw [Array.getElem?_setIfInBounds_ne hne]; exact h3 j v hv
theorem Rw.ls {w : World} {b cap : Nat} {M : List Sn} (h : Rw w b cap M) (h1 : M.length ≤ cap) (h2 : cap ≤ maxLen) (hok : ∀ x ∈ M, x.ok) : Ls w (some ⟨b, 0, none⟩) cap M := by
  obtain ⟨cur, k1, k2, k3⟩ := h.h
  exact ⟨⟨flat_length scs_len M, h1, h2, by simp, fun _ => ⟨b, 0, rfl, fun j u hu => by rw [Nat.zero_add, k1.cell]; exact k3 j u hu⟩⟩, hok⟩
theorem set_mem_ok {M : List Sn} (h : ∀ x ∈ M, x.ok) {k : Nat} {y : Sn} (hy : y.ok) : ∀ x ∈ M.set k y, x.ok := fun x hx => by
  rcases List.mem_or_eq_of_mem_set hx with hx | rfl
  · exact h x hx
  · exact hy
theorem rev_ok {x : Sn} (h : x.ok) {r : Int} (h0 : 0 ≤ r) (h1 : r < 128) : (Dig.revd x r).ok := ⟨h.t, h.i, h.p, by show in64 r; unfold in64; omega, h.b, h.d, h.s, h.o⟩
theorem gone_ok {x : Sn} (h : x.ok) : (Dig.gone x).ok := ⟨h.t, h.i, h.p, h.r, h.b, h.d, h.s, h.o⟩
theorem rev_set {M : List Sn} (hM : setOf M = M) {k : Nat} (hk : k < M.length) {r : Int} (h0 : 0 ≤ r) : setOf (M.set k (Dig.revd M[k] r)) = M.set k (Dig.revd M[k] r) := by
  have hok := ok_iff.2 hM
  refine (Dig.set_ok2 hok hk (y := Dig.revd M[k] r) (one_refl M[k]) (Dig.rev_may (hok.may _ (List.getElem_mem hk)) h0) ?_).set
  have := hok.kept _ (List.getElem_mem hk)
  show ({ (Dig.revd M[k] r) with d := kdr M[k].d } : Sn) = _
  have hd : kdr M[k].d = M[k].d := congrArg Sn.d this
  rw [hd]; rfl
theorem gone_set {M : List Sn} (hM : setOf M = M) {k : Nat} (hk : k < M.length) {r : Int} (h0 : 0 ≤ r) : setOf (M.set k (Dig.gone (Dig.revd M[k] r))) = M.set k (Dig.gone (Dig.revd M[k] r)) := by
  have hok := ok_iff.2 hM
  refine (Dig.set_ok2 hok hk (y := Dig.gone (Dig.revd M[k] r)) (one_refl M[k]) (Dig.rev_may (hok.may _ (List.getElem_mem hk)) h0) ?_).set
  have := hok.kept _ (List.getElem_mem hk)
  show ({ (Dig.gone (Dig.revd M[k] r)) with d := kdr M[k].d } : Sn) = _
  have hd : kdr M[k].d = M[k].d := congrArg Sn.d this
  rw [hd]; rfl
theorem rev_eq {M : List Sn} (hM : setOf M = M) {k : Nat} (hk : k < M.length) {r s : Int} (h0 : 0 ≤ r) (h1 : r < 128) (h2 : 0 ≤ s) (h3 : s < 128) : eqD (dgI (setOf (M.set k (Dig.revd M[k] r)))) (dgI (setOf (M.set k (Dig.revd M[k] s)))) = (r == s) := by
  rw [rev_set hM hk h0, rev_set hM hk h2]
  by_cases h : r = s
  · subst h
    rw [beq_self_eq_true]
    exact eqD_iff.2 (fun _ _ => rfl)
  · rw [show (r == s) = false by simpa using h]
    cases he : eqD (dgI (M.set k (Dig.revd M[k] r))) (dgI (M.set k (Dig.revd M[k] s))) with
    | false => rfl
    | true =>
      exfalso
      have h5 := eqD_iff.1 he (Dig.part M[k].t) (Dig.part_lt _)
      exact h (Dig.dig_rev hk M[k] h0 h1 h2 h3 (by show Dig.dig _ _ = Dig.dig _ _; have : ((Dig.dig (M.set k (Dig.revd M[k] r)) (Dig.part M[k].t) : Nat) : Int) = ((Dig.dig (M.set k (Dig.revd M[k] s)) (Dig.part M[k].t) : Nat) : Int) := h5; omega))
theorem gone_ne {M : List Sn} (hM : setOf M = M) {k : Nat} (hk : k < M.length) {r : Int} (h0 : 0 ≤ r) : eqD (dgI (setOf (M.set k (Dig.gone (Dig.revd M[k] r))))) (dgI (setOf (M.set k (Dig.revd M[k] r)))) = false := by
  rw [rev_set hM hk h0, gone_set hM hk h0]
  cases he : eqD (dgI (M.set k (Dig.gone (Dig.revd M[k] r)))) (dgI (M.set k (Dig.revd M[k] r))) with
  | false => rfl
  | true =>
    exfalso
    have h5 := eqD_iff.1 he (Dig.part M[k].t) (Dig.part_lt _)
    refine Dig.dig_gone hk (Dig.revd M[k] r) ?_
    have : ((Dig.dig (M.set k (Dig.gone (Dig.revd M[k] r))) (Dig.part M[k].t) : Nat) : Int) = ((Dig.dig (M.set k (Dig.revd M[k] r)) (Dig.part M[k].t) : Nat) : Int) := h5
    show Dig.dig _ (Dig.part M[k].t) = Dig.dig _ (Dig.part M[k].t)
    omega
end Law48
end Go.Proofs.Ytmcghchhegfilaa
