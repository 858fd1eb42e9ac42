/- StoreLoads: for every input the statement's function answers true, and the input reads as it did: no condition. -/
import Derived.Test.YtdpngmgaomghoaaGreatOpens
import Derived.Test.YtdpngmgaomghoaaGreatLaw18lm
import Derived.Test.YtdpngmgaomghoaaGreatOpenSpan
import Derived.Test.YtdpngmgaomghoaaGreatOpenAct18
import Derived.Test.YtdpngmgaomghoaaGreatRows
import Derived.WalkKit
import Derived.ProofKit
import Derived.OpenShut
import Derived.ShutString
import Derived.ChangeOld
import Derived.Below
namespace Go.Proofs.YtdpngmgaomghoaaGreat.storeLoads
open Go.ChangeShapes Go.WideShapes Go.ChangeAt Go.RowKit Go.Deep
set_option maxRecDepth 100000 in
theorem lifted (os : Os) (started : os.Started) (H : Type) (enc : TypeId × Value → H) :
  ReturnsInHanded {} Tryz.checked os 10 .any (Rows.storeLoadsSpec.pre6 enc Tryz.prog Tryz.f10 Rows.storeLoadsRow.domain false) (Rows.storeLoadsSpec.post enc Tryz.prog Tryz.f10 false true false false) := by
 refine returnsInHanded_of_change (C := Tryz.checked) own started (by kernel_rfl) Tryz.func10
  (ChangeSpec.witness6 (enc := enc) (C := Tryz.checked) false ⟨#[], #[.agg #[.int .i64 0, .int .i64 0, .int .i64 0, .int .i64 0], .agg #[.int .i64 0, .slice none 0 0, .int .i64 0], .slice none 0 0], []⟩ 8 (by kernel_rfl) (by kernel_rfl) (by kernel_rfl) (by kernel_rfl)) ?_
 intro W base args ds gs before hval0 hW hcnd _
 have hval : ∀ (j : Nat) t v, Tryz.f10.params[j]? = some t → args[j]? = some v → Value.okWide Tryz.prog W .any base t v := hval0
 have hW' := hW
 obtain ⟨p, q, hA0, hV, rfl, hfz, hnd⟩ := hW
 have hA : DataW.TrodAll enc Tryz.prog W 0 (fun _ => true) true Tryz.f10.params.toList args.toList ds p := hA0
 rw [Tryz.params10] at hA hval
 obtain ⟨v0, vs0, d0, ds0, p0, q0, hargs0, rfl, rfl, h0, r0⟩ := trodAll_cons hA
 obtain ⟨v1, vs1, d1, ds1, p1, q1, hargs1, rfl, rfl, h1, r1⟩ := trodAll_cons r0
 subst hargs1
 obtain ⟨v2, vs2, d2, ds2, p2, q2, hargs2, rfl, rfl, h2, r2⟩ := trodAll_cons r1
 subst hargs2
 obtain ⟨rfl, rfl, rfl⟩ := trodAll_nil r2
 obtain rfl : args = #[v0, v1, v2] := by cases args; simp_all
 obtain ⟨rfl, rfl⟩ := trodVars_none hV
 have k0 := h0
 have lt0 : ∀ x ∈ p0, x.block < W.heap.size := by obtain ⟨m, hm⟩ := k0; exact DataW.trod_lt m _ _ _ hm
 obtain ⟨cs0, rfl, -⟩ := okWide_struct Tryz.underlying31 (hval 0 31 v0 rfl rfl)
 obtain ⟨fuel0, hf0⟩ := h0
 obtain ⟨x0, hcs0, hx0⟩ := open_Config hf0
 obtain rfl : cs0 = (Sto.cfc x0) := Array.ext' (by simpa [Value.cells] using hcs0)
 have k1 := h1
 have lt1 : ∀ x ∈ p1, x.block < W.heap.size := by obtain ⟨m, hm⟩ := k1; exact DataW.trod_lt m _ _ _ hm
 obtain ⟨cs1, rfl, -⟩ := okWide_struct Tryz.underlying93 (hval 1 93 v1 rfl rfl)
 obtain ⟨fuel1, hf1⟩ := h1
 obtain ⟨x1, hcs1, rd1⟩ := open_Act18 hf1
 obtain rfl : cs1 = x1.arr := Array.ext' (by simpa [Value.cells] using hcs1)
 have k2 := h2
 have lt2 : ∀ x ∈ p2, x.block < W.heap.size := by obtain ⟨m, hm⟩ := k2; exact DataW.trod_lt m _ _ _ hm
 obtain ⟨a2, len2, cap2, rfl⟩ := okWide_slice Tryz.underlying89 (hval 2 89 v2 rfl rfl)
 obtain ⟨l2, hlen2, hS2, hG2⟩ : ∃ l : List (Law18.Ac), len2 = l.length ∧ Sl W 3 a2 l.length cap2 (l.flatMap (Law18.acc)) ∧ ∀ a ∈ l, (Law18.Rd W) a := by
  obtain ⟨fuel, hf⟩ := h2
  obtain ⟨A, cap, xs, hcs, hS, hG⟩ := open_sl Tryz.underlying89 (by kernel_rfl) (by omega) (Law18.acc) (Law18.Rd W) (Law18.acc_len) (fun n cs' y h => open_Act18 h) hf
  simp [Value.cells] at hcs
  obtain ⟨rfl, rfl, rfl⟩ := hcs
  exact ⟨xs, rfl, hS, hG⟩
 subst hlen2
 clear hA0 hval0
 refine (Law18.loads x0 x1 a2 cap2 l2 W rd1 hS2 hG2 hx0).mono fun e W' ⟨he, bel⟩ => ?_
 subst he
 exact ⟨_, rfl, _, _, _, [], _, [], hW', trodAll_mk1 (shut_bool Tryz.underlying4 _), (trodAll_cons_mk (Below.trod laidOut (by kernel_rfl) (of_decide_eq_true (by kernel_rfl)) k0 bel lt0) (trodAll_cons_mk (Below.trod laidOut (by kernel_rfl) (of_decide_eq_true (by kernel_rfl)) k1 bel lt1) (trodAll_cons_mk (Below.trod laidOut (by kernel_rfl) (of_decide_eq_true (by kernel_rfl)) k2 bel lt2) trodAll_mk0))), rfl, bel.frame _, fun h => by cases h⟩
theorem and_of {a b : Bool} (ha : a = true) (hb : b = true) : (a && b) = true := by rw [ha, hb]; rfl
theorem j0 : (Rows.storeLoadsRow.wf (OpenSpec.ofChange Rows.storeLoadsSpec)) = true := by kernel_rfl
theorem j1 : (laidOutB Tryz.pinned.checked.prog) = true := by kernel_rfl
theorem j2 : (mapsRowed Tryz.pinned.checked.prog) = true := by kernel_rfl
theorem j3 : (Tryz.f10.params.all (Tryz.pinned.checked.prog.readableRec ·)) = true ∧ (namedTie Tryz.pinned.checked.prog Rows.storeLoadsRow.named Rows.storeLoadsSpec.vars) = true ∧ (Rows.storeLoadsRow.stops == []) = true ∧ (Tryz.pinned.checked.prog.stops == []) = true ∧ (Rows.storeLoadsRow.knobs == []) = true ∧ (Tryz.pinned.checked.prog.stopKnobs == []) = true := ⟨by kernel_rfl, by kernel_rfl, by kernel_rfl, by kernel_rfl, by kernel_rfl, by kernel_rfl⟩
theorem j4 : (Rows.storeLoadsRow.inPlace == Tryz.pinned.checked.prog.inPlace 10) = true ∧ (Rows.storeLoadsRow.unfollowed == Tryz.pinned.checked.prog.unfollowed 10) = true ∧ (Rows.storeLoadsRow.recurses == Tryz.pinned.checked.prog.recurses 10) = true ∧ (Rows.storeLoadsRow.named == Tryz.pinned.checked.prog.varsNamed 10) = true := ⟨by kernel_rfl, by kernel_rfl, by kernel_rfl, by kernel_rfl⟩
theorem j5 : (Rows.storeLoadsRow.maps == (Tryz.f10.params.toList ++ Rows.storeLoadsSpec.plain.varTypes Tryz.pinned.checked.prog).any (Tryz.pinned.checked.prog.mapsRec ·)) = true ∧ (Rows.storeLoadsRow.ifaces == (Tryz.f10.params.toList ++ Rows.storeLoadsSpec.plain.varTypes Tryz.pinned.checked.prog).any (Tryz.pinned.checked.prog.ifacesRec ·)) = true ∧ (Rows.storeLoadsRow.mapsOut == Tryz.pinned.checked.prog.mapsAmong Tryz.f10.resultTypes.toList) = true ∧ (Rows.storeLoadsRow.loops == (Tryz.f10.params.toList ++ Rows.storeLoadsSpec.plain.varTypes Tryz.pinned.checked.prog).any (Tryz.pinned.checked.prog.loopsFrom ·)) = true := ⟨by kernel_rfl, by kernel_rfl, by kernel_rfl, by kernel_rfl⟩
theorem j6 : (Rows.storeLoadsRow.wideKeys == (Tryz.f10.params.toList ++ Rows.storeLoadsSpec.plain.varTypes Tryz.pinned.checked.prog ++ Tryz.f10.resultTypes.toList).any (Tryz.pinned.checked.prog.wideKeysFrom ·)) = true := by kernel_rfl
theorem j7 : (Rows.storeLoadsSpec.vars.all (Tryz.pinned.checked.prog.varReadable ·)) = true ∧ (Tryz.f10.resultTypes.all (fun t => Tryz.pinned.checked.prog.readableRec t && decide (t < Tryz.pinned.checked.prog.types.size))) = true ∧ (Rows.storeLoadsRow.ifacesOut == Tryz.f10.resultTypes.toList.any (Tryz.pinned.checked.prog.ifacesRec ·)) = true ∧ (Rows.storeLoadsRow.loopsOut == Tryz.f10.resultTypes.toList.any (Tryz.pinned.checked.prog.loopsFrom ·)) = true ∧ (Rows.storeLoadsRow.plainKeys == Tryz.pinned.checked.prog.plainKeys) = true ∧ (Rows.storeLoadsRow.shortTexts.isNone) = true ∧ (Tryz.pinned.checked.prog.stopsHeard) = true ∧ (Tryz.pinned.checked.prog.mayEnter) = true := ⟨by kernel_rfl, by kernel_rfl, by kernel_rfl, by kernel_rfl, by kernel_rfl, by kernel_rfl, by kernel_rfl, by kernel_rfl⟩
theorem j8 : (Rows.storeLoadsRow.lifted == Tryz.pinned.checked.prog.liftsFinal) = true ∧ (Tryz.pinned.checked.prog.make == some Rows.storeLoadsRow.make) = true ∧ (Rows.storeLoadsRow.kinds == (if Rows.storeLoadsRow.domain.isEmpty then [] else Tryz.f10.params.toList.map fun t => match Tryz.pinned.checked.prog.underlying t with | some (.int k) => some k | _ => none)) = true ∧ (Rows.storeLoadsRow.pinned == Rows.storeLoadsRow.pinnedBy) = true := ⟨by kernel_rfl, by kernel_rfl, by kernel_rfl, by kernel_rfl⟩
theorem j9 : (Rows.storeLoadsRow.veiled == (Tryz.f10.params.toList ++ Rows.storeLoadsSpec.plain.varTypes Tryz.pinned.checked.prog ++ Tryz.f10.resultTypes.toList).any (Tryz.pinned.checked.prog.veiledRec ·)) = true ∧ (Rows.storeLoadsRow.veiledFits Tryz.pinned.checked.prog Tryz.f10.params.toList (Tryz.f10.params.toList ++ Rows.storeLoadsSpec.plain.varTypes Tryz.pinned.checked.prog ++ Tryz.f10.resultTypes.toList)) = true := ⟨by kernel_rfl, by kernel_rfl⟩
set_option maxRecDepth 100000 in
theorem closed : joinedFacts Tryz.pinned.checked.prog 10 Tryz.f10 Rows.storeLoadsSpec Rows.storeLoadsRow = true := by
 unfold joinedFacts
 exact (and_of (and_of (and_of (and_of (and_of (and_of (and_of (and_of (and_of (and_of (and_of (and_of (and_of (and_of (and_of (and_of (and_of (and_of (and_of (and_of (and_of (and_of (and_of (and_of (and_of (and_of (and_of (and_of (and_of (and_of (and_of j0 j1) j2) j3.1) j3.2.1) j3.2.2.1) j3.2.2.2.1) j3.2.2.2.2.1) j3.2.2.2.2.2) j4.1) j4.2.1) j4.2.2.1) j4.2.2.2) j5.1) j5.2.1) j5.2.2.1) j5.2.2.2) j6) j7.1) j7.2.1) j7.2.2.1) j7.2.2.2.1) j7.2.2.2.2.1) j7.2.2.2.2.2.1) j7.2.2.2.2.2.2.1) j7.2.2.2.2.2.2.2) j8.1) j8.2.1) j8.2.2.1) j8.2.2.2) j9.1) j9.2)
theorem named : Tryz.pinned.checked.prog.funcNamed Rows.storeLoadsRow.func = some 10 := by kernel_rfl
theorem over : Rows.storeLoadsRow.holds Tryz.pinned (OpenSpec.ofChange Rows.storeLoadsSpec) :=
 OpenClaim.holds_of_wide 10 Tryz.f10 rfl rfl rfl rfl rfl rfl rfl ⟨rfl, rfl, rfl, rfl, rfl⟩ rfl rfl rfl rfl rfl named Tryz.func10 closed
  (of_decide_eq_true (by kernel_rfl)) (by unfold Func.isWrapper; first | (rw [if_pos (by decide +kernel)]; kernel_rfl) | (rw [if_neg (by decide +kernel)]; exact ⟨rfl, rfl⟩))
  (fun os started H enc _ => lifted os started H enc)
theorem proved : Rows.StoreLoadsSaid := over
end Go.Proofs.YtdpngmgaomghoaaGreat.storeLoads
