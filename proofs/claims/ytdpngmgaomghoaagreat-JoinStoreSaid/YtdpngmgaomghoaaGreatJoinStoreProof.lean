/- JoinStore: for every input the statement's function answers true, and the input reads as it did: no condition. -/
import Derived.Test.YtdpngmgaomghoaaGreatOpenRow
import Derived.Test.YtdpngmgaomghoaaGreatOpen
import Derived.Test.YtdpngmgaomghoaaGreatLaw19s
import Derived.Test.YtdpngmgaomghoaaGreatOpenSpan
import Derived.Test.YtdpngmgaomghoaaGreatOpenU8
import Derived.Test.YtdpngmgaomghoaaGreatRows
import Derived.WalkKit
import Derived.ProofKit
import Derived.OpenShut
import Derived.ShutString
import Derived.ChangeOld
import Derived.Below
namespace Go.Proofs.YtdpngmgaomghoaaGreat.joinStore
open Go.ChangeShapes Go.WideShapes Go.ChangeAt Go.RowKit Go.Deep

set_option maxRecDepth 100000 in
theorem lifted (os : Os) (started : os.Started) (H : Type) (enc : TypeId × Value → H) :
    ReturnsInHanded {} Tryz.checked os 3 .any (Rows.joinStoreSpec.pre6 enc Tryz.prog Tryz.f3 Rows.joinStoreRow.domain false) (Rows.joinStoreSpec.post enc Tryz.prog Tryz.f3 false true false false) := by
  refine returnsInHanded_of_change (C := Tryz.checked) own started (by kernel_rfl) Tryz.func3
    (ChangeSpec.witness6 (enc := enc) (C := Tryz.checked) false ⟨#[], #[.slice none 0 0, .slice none 0 0, .int .u8 0], []⟩ 8 (by kernel_rfl) (by kernel_rfl) (by kernel_rfl) (by kernel_rfl)) ?_
  intro W base args ds gs before hval0 hW hcnd _
  have hval : ∀ (j : Nat) t v, Tryz.f3.params[j]? = some t → args[j]? = some v → Value.okWide Tryz.prog W .any base t v := hval0
  have hW' := hW
  obtain ⟨p, q, hA0, hV, rfl, hfz, hnd⟩ := hW
  have hA : DataW.TrodAll enc Tryz.prog W 0 (fun _ => true) true Tryz.f3.params.toList args.toList ds p := hA0
  rw [Tryz.params3] at hA hval
  obtain ⟨v0, vs0, d0, ds0, p0, q0, hargs0, rfl, rfl, h0, r0⟩ := trodAll_cons hA
  obtain ⟨v1, vs1, d1, ds1, p1, q1, hargs1, rfl, rfl, h1, r1⟩ := trodAll_cons r0
  subst hargs1
  obtain ⟨v2, vs2, d2, ds2, p2, q2, hargs2, rfl, rfl, h2, r2⟩ := trodAll_cons r1
  subst hargs2
  obtain ⟨rfl, rfl, rfl⟩ := trodAll_nil r2
  obtain rfl : args = #[v0, v1, v2] := by cases args; simp_all
  obtain ⟨rfl, rfl⟩ := trodVars_none hV
  have k0 := h0
  have lt0 : ∀ x ∈ p0, x.block < W.heap.size := by obtain ⟨m, hm⟩ := k0; exact DataW.trod_lt m _ _ _ hm
  obtain ⟨a0, len0, cap0, rfl⟩ := okWide_slice Tryz.underlying22 (hval 0 22 v0 rfl rfl)
  obtain ⟨l0, hlen0, hS0, hG0⟩ : ∃ l : List (Sn), len0 = l.length ∧ Sl W 9 a0 l.length cap0 (l.flatMap (SetW.scs)) ∧ ∀ a ∈ l, (Sn.ok) a := by
    obtain ⟨fuel, hf⟩ := h0
    obtain ⟨A, cap, xs, hcs, hS, hG⟩ := open_sl Tryz.underlying22 (by kernel_rfl) (by omega) (SetW.scs) (Sn.ok) (SetW.scs_len) (fun n cs' y h => open_Span h) hf
    simp [Value.cells] at hcs
    obtain ⟨rfl, rfl, rfl⟩ := hcs
    exact ⟨xs, rfl, hS, hG⟩
  subst hlen0
  have k1 := h1
  have lt1 : ∀ x ∈ p1, x.block < W.heap.size := by obtain ⟨m, hm⟩ := k1; exact DataW.trod_lt m _ _ _ hm
  obtain ⟨a1, len1, cap1, rfl⟩ := okWide_slice Tryz.underlying23 (hval 1 23 v1 rfl rfl)
  obtain ⟨l1, hlen1, hS1, hG1⟩ : ∃ l : List (Int), len1 = l.length ∧ Sl W 1 a1 l.length cap1 (l.flatMap (u1)) ∧ ∀ a ∈ l, (fun a => 0 ≤ a ∧ a < 256) a := by
    obtain ⟨fuel, hf⟩ := h1
    obtain ⟨A, cap, xs, hcs, hS, hG⟩ := open_sl Tryz.underlying23 (by kernel_rfl) (by omega) (u1) (fun a => 0 ≤ a ∧ a < 256) (u1_len) (fun n cs' y h => open_u1 h) hf
    simp [Value.cells] at hcs
    obtain ⟨rfl, rfl, rfl⟩ := hcs
    exact ⟨xs, rfl, hS, hG⟩
  subst hlen1
  have k2 := h2
  have lt2 : ∀ x ∈ p2, x.block < W.heap.size := by obtain ⟨m, hm⟩ := k2; exact DataW.trod_lt m _ _ _ hm
  obtain ⟨n2, rfl, -, -, wf2⟩ := open_int Tryz.underlying5 (hval 2 5 v2 rfl rfl) h2
  clear hA0 hval0
  refine (Law19.store a0 a1 cap0 cap1 l0 l1 n2 W ⟨hS0, hG0⟩ ⟨by have := hS1; rwa [flat_u1] at this, hG1⟩ (u8_of wf2)).mono fun e W' ⟨he, bel⟩ => ?_
  subst he
  exact ⟨_, rfl, _, _, _, [], _, [], hW', trodAll_mk1 (shut_bool Tryz.underlying4 _), (trodAll_cons_mk (Below.trod laidOut (by kernel_rfl) (of_decide_eq_true (by kernel_rfl)) k0 bel lt0) (trodAll_cons_mk (Below.trod laidOut (by kernel_rfl) (of_decide_eq_true (by kernel_rfl)) k1 bel lt1) (trodAll_cons_mk (Below.trod laidOut (by kernel_rfl) (of_decide_eq_true (by kernel_rfl)) k2 bel lt2) trodAll_mk0))), rfl, bel.frame _, fun h => by cases h⟩

theorem and_of {a b : Bool} (ha : a = true) (hb : b = true) : (a && b) = true := by rw [ha, hb]; rfl
theorem j0 : (Rows.joinStoreRow.wf (OpenSpec.ofChange Rows.joinStoreSpec)) = true := by kernel_rfl
theorem j1 : (laidOutB Tryz.pinned.checked.prog) = true := by kernel_rfl
theorem j2 : (mapsRowed Tryz.pinned.checked.prog) = true := by kernel_rfl
theorem j3 : (Tryz.f3.params.all (Tryz.pinned.checked.prog.readableRec ·)) = true ∧ (namedTie Tryz.pinned.checked.prog Rows.joinStoreRow.named Rows.joinStoreSpec.vars) = true ∧ (Rows.joinStoreRow.stops == []) = true ∧ (Tryz.pinned.checked.prog.stops == []) = true ∧ (Rows.joinStoreRow.knobs == []) = true ∧ (Tryz.pinned.checked.prog.stopKnobs == []) = true := ⟨by kernel_rfl, by kernel_rfl, by kernel_rfl, by kernel_rfl, by kernel_rfl, by kernel_rfl⟩
theorem j4 : (Rows.joinStoreRow.inPlace == Tryz.pinned.checked.prog.inPlace 3) = true ∧ (Rows.joinStoreRow.unfollowed == Tryz.pinned.checked.prog.unfollowed 3) = true ∧ (Rows.joinStoreRow.recurses == Tryz.pinned.checked.prog.recurses 3) = true ∧ (Rows.joinStoreRow.named == Tryz.pinned.checked.prog.varsNamed 3) = true := ⟨by kernel_rfl, by kernel_rfl, by kernel_rfl, by kernel_rfl⟩
theorem j5 : (Rows.joinStoreRow.maps == (Tryz.f3.params.toList ++ Rows.joinStoreSpec.plain.varTypes Tryz.pinned.checked.prog).any (Tryz.pinned.checked.prog.mapsRec ·)) = true ∧ (Rows.joinStoreRow.ifaces == (Tryz.f3.params.toList ++ Rows.joinStoreSpec.plain.varTypes Tryz.pinned.checked.prog).any (Tryz.pinned.checked.prog.ifacesRec ·)) = true ∧ (Rows.joinStoreRow.mapsOut == Tryz.pinned.checked.prog.mapsAmong Tryz.f3.resultTypes.toList) = true ∧ (Rows.joinStoreRow.loops == (Tryz.f3.params.toList ++ Rows.joinStoreSpec.plain.varTypes Tryz.pinned.checked.prog).any (Tryz.pinned.checked.prog.loopsFrom ·)) = true := ⟨by kernel_rfl, by kernel_rfl, by kernel_rfl, by kernel_rfl⟩
theorem j6 : (Rows.joinStoreRow.wideKeys == (Tryz.f3.params.toList ++ Rows.joinStoreSpec.plain.varTypes Tryz.pinned.checked.prog ++ Tryz.f3.resultTypes.toList).any (Tryz.pinned.checked.prog.wideKeysFrom ·)) = true := by kernel_rfl
theorem j7 : (Rows.joinStoreSpec.vars.all (Tryz.pinned.checked.prog.varReadable ·)) = true ∧ (Tryz.f3.resultTypes.all (fun t => Tryz.pinned.checked.prog.readableRec t && decide (t < Tryz.pinned.checked.prog.types.size))) = true ∧ (Rows.joinStoreRow.ifacesOut == Tryz.f3.resultTypes.toList.any (Tryz.pinned.checked.prog.ifacesRec ·)) = true ∧ (Rows.joinStoreRow.loopsOut == Tryz.f3.resultTypes.toList.any (Tryz.pinned.checked.prog.loopsFrom ·)) = true ∧ (Rows.joinStoreRow.plainKeys == Tryz.pinned.checked.prog.plainKeys) = true ∧ (Rows.joinStoreRow.shortTexts.isNone) = true ∧ (Tryz.pinned.checked.prog.stopsHeard) = true ∧ (Tryz.pinned.checked.prog.mayEnter) = true := ⟨by kernel_rfl, by kernel_rfl, by kernel_rfl, by kernel_rfl, by kernel_rfl, by kernel_rfl, by kernel_rfl, by kernel_rfl⟩
theorem j8 : (Rows.joinStoreRow.lifted == Tryz.pinned.checked.prog.liftsFinal) = true ∧ (Tryz.pinned.checked.prog.make == some Rows.joinStoreRow.make) = true ∧ (Rows.joinStoreRow.kinds == (if Rows.joinStoreRow.domain.isEmpty then [] else Tryz.f3.params.toList.map fun t => match Tryz.pinned.checked.prog.underlying t with | some (.int k) => some k | _ => none)) = true ∧ (Rows.joinStoreRow.pinned == Rows.joinStoreRow.pinnedBy) = true := ⟨by kernel_rfl, by kernel_rfl, by kernel_rfl, by kernel_rfl⟩
theorem j9 : (Rows.joinStoreRow.veiled == (Tryz.f3.params.toList ++ Rows.joinStoreSpec.plain.varTypes Tryz.pinned.checked.prog ++ Tryz.f3.resultTypes.toList).any (Tryz.pinned.checked.prog.veiledRec ·)) = true ∧ (Rows.joinStoreRow.veiledFits Tryz.pinned.checked.prog Tryz.f3.params.toList (Tryz.f3.params.toList ++ Rows.joinStoreSpec.plain.varTypes Tryz.pinned.checked.prog ++ Tryz.f3.resultTypes.toList)) = true := ⟨by kernel_rfl, by kernel_rfl⟩
set_option maxRecDepth 100000 in
theorem closed : joinedFacts Tryz.pinned.checked.prog 3 Tryz.f3 Rows.joinStoreSpec Rows.joinStoreRow = true := by
  unfold joinedFacts
  exact (and_of (and_of (and_of (and_of (and_of (and_of (and_of (and_of (and_of (and_of (and_of (and_of (and_of (and_of (and_of (and_of (and_of (and_of (and_of (and_of (and_of (and_of (and_of (and_of (and_of (and_of (and_of (and_of (and_of (and_of (and_of j0 j1) j2) j3.1) j3.2.1) j3.2.2.1) j3.2.2.2.1) j3.2.2.2.2.1) j3.2.2.2.2.2) j4.1) j4.2.1) j4.2.2.1) j4.2.2.2) j5.1) j5.2.1) j5.2.2.1) j5.2.2.2) j6) j7.1) j7.2.1) j7.2.2.1) j7.2.2.2.1) j7.2.2.2.2.1) j7.2.2.2.2.2.1) j7.2.2.2.2.2.2.1) j7.2.2.2.2.2.2.2) j8.1) j8.2.1) j8.2.2.1) j8.2.2.2) j9.1) j9.2)
theorem named : Tryz.pinned.checked.prog.funcNamed Rows.joinStoreRow.func = some 3 := by kernel_rfl
theorem over : Rows.joinStoreRow.holds Tryz.pinned (OpenSpec.ofChange Rows.joinStoreSpec) :=
  OpenClaim.holds_of_wide 3 Tryz.f3 rfl rfl rfl rfl rfl rfl rfl ⟨rfl, rfl, rfl, rfl, rfl⟩ rfl rfl rfl rfl rfl named Tryz.func3 closed
    (of_decide_eq_true (by kernel_rfl)) (by unfold Func.isWrapper; first | (rw [if_pos (by decide +kernel)]; kernel_rfl) | (rw [if_neg (by decide +kernel)]; exact ⟨rfl, rfl⟩))
    (fun os started H enc _ => lifted os started H enc)

theorem proved : Rows.JoinStoreSaid := over
end Go.Proofs.YtdpngmgaomghoaaGreat.joinStore
