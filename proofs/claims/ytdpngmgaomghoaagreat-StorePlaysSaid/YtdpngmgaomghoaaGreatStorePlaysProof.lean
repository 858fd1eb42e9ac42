/- StorePlays: for every input the statement's function answers true, and the input reads as it did: no condition. -/
import Derived.Test.YtdpngmgaomghoaaGreatLaw18pm
import Derived.Test.YtdpngmgaomghoaaGreatOpenAct18
import Derived.Test.YtdpngmgaomghoaaGreatRows
import Derived.OpenShut
import Derived.ShutString
namespace Go.Proofs.YtdpngmgaomghoaaGreat.storePlays
set_option maxRecDepth 100000
open Go.ChangeShapes Go.WideShapes Go.ChangeAt Go.RowKit Go.Deep
theorem lifted (os : Os) (started : os.Started) (H : Type) (enc : TypeId × Value → H) :
  ReturnsInHanded {} Tryz.checked os 11 .any (Rows.storePlaysSpec.pre6 enc Tryz.prog Tryz.f11 Rows.storePlaysRow.domain false) (Rows.storePlaysSpec.post enc Tryz.prog Tryz.f11 false true false false) := by
 refine returnsInHanded_of_change (C := Tryz.checked) own started (by kernel_rfl) Tryz.func11
  (ChangeSpec.witness6 (enc := enc) (C := Tryz.checked) false ⟨#[], #[.agg #[.int .i64 0, .int .i64 0, .int .i64 0, .int .i64 0], .slice none 0 0], []⟩ 8 (by kernel_rfl) (by kernel_rfl) (by kernel_rfl) (by kernel_rfl)) ?_
 intro W base args ds gs before hval0 hW hcnd _
 have hval : ∀ (j : Nat) t v, Tryz.f11.params[j]? = some t → args[j]? = some v → Value.okWide Tryz.prog W .any base t v := hval0
 have hW' := hW
 obtain ⟨p, q, hA0, hV, rfl, hfz, hnd⟩ := hW
 have hA : DataW.TrodAll enc Tryz.prog W 0 (fun _ => true) true Tryz.f11.params.toList args.toList ds p := hA0
 rw [Tryz.params11] at hA hval
 obtain ⟨v0, vs0, d0, ds0, p0, q0, hargs0, rfl, rfl, h0, r0⟩ := trodAll_cons hA
 obtain ⟨v1, vs1, d1, ds1, p1, q1, hargs1, rfl, rfl, h1, r1⟩ := trodAll_cons r0
 subst hargs1
 obtain ⟨rfl, rfl, rfl⟩ := trodAll_nil r1
 obtain rfl : args = #[v0, v1] := by cases args; simp_all
 obtain ⟨rfl, rfl⟩ := trodVars_none hV
 have k0 := h0
 have lt0 : ∀ x ∈ p0, x.block < W.heap.size := by obtain ⟨m, hm⟩ := k0; exact DataW.trod_lt m _ _ _ hm
 obtain ⟨cs0, rfl, -⟩ := okWide_struct Tryz.underlying31 (hval 0 31 v0 rfl rfl)
 obtain ⟨fuel0, hf0⟩ := h0
 obtain ⟨x0, hcs0, hx0⟩ := open_Config hf0
 obtain rfl : cs0 = (Sto.cfc x0) := Array.ext' (by simpa [Value.cells] using hcs0)
 have k1 := h1
 have lt1 : ∀ x ∈ p1, x.block < W.heap.size := by obtain ⟨m, hm⟩ := k1; exact DataW.trod_lt m _ _ _ hm
 obtain ⟨a1, len1, cap1, rfl⟩ := okWide_slice Tryz.underlying89 (hval 1 89 v1 rfl rfl)
 obtain ⟨l1, hlen1, hS1, hG1⟩ : ∃ l : List (Law18.Ac), len1 = l.length ∧ Sl W 3 a1 l.length cap1 (l.flatMap (Law18.acc)) ∧ ∀ a ∈ l, (Law18.Rd W) a := by
  obtain ⟨fuel, hf⟩ := h1
  obtain ⟨A, cap, xs, hcs, hS, hG⟩ := open_sl Tryz.underlying89 (by kernel_rfl) (by omega) (Law18.acc) (Law18.Rd W) (Law18.acc_len) (fun n cs' y h => open_Act18 h) hf
  simp [Value.cells] at hcs
  obtain ⟨rfl, rfl, rfl⟩ := hcs
  exact ⟨xs, rfl, hS, hG⟩
 subst hlen1
 clear hA0 hval0
 refine (Law18.plays x0 a1 cap1 l1 W hS1 hG1 hx0).mono fun e W' ⟨he, bel⟩ => ?_
 subst he
 exact ⟨_, rfl, _, _, _, [], _, [], hW', trodAll_mk1 (shut_bool Tryz.underlying4 _), (trodAll_cons_mk (Below.trod laidOut (by kernel_rfl) (of_decide_eq_true (by kernel_rfl)) k0 bel lt0) (trodAll_cons_mk (Below.trod laidOut (by kernel_rfl) (of_decide_eq_true (by kernel_rfl)) k1 bel lt1) trodAll_mk0)), rfl, bel.frame _, fun h => by cases h⟩
theorem and_of {a b : Bool} (ha : a = true) (hb : b = true) : (a && b) = true := by rw [ha, hb]; rfl
theorem j0 : (Rows.storePlaysRow.wf (OpenSpec.ofChange Rows.storePlaysSpec)) = true := by kernel_rfl
theorem j1 : (laidOutB Tryz.pinned.checked.prog) = true := by kernel_rfl
theorem j2 : (mapsRowed Tryz.pinned.checked.prog) = true := by kernel_rfl
theorem j3 : (Tryz.f11.params.all (Tryz.pinned.checked.prog.readableRec ·)) = true ∧ (namedTie Tryz.pinned.checked.prog Rows.storePlaysRow.named Rows.storePlaysSpec.vars) = true ∧ (Rows.storePlaysRow.stops == []) = true ∧ (Tryz.pinned.checked.prog.stops == []) = true ∧ (Rows.storePlaysRow.knobs == []) = true ∧ (Tryz.pinned.checked.prog.stopKnobs == []) = true := ⟨by kernel_rfl, by kernel_rfl, by kernel_rfl, by kernel_rfl, by kernel_rfl, by kernel_rfl⟩
theorem j4 : (Rows.storePlaysRow.inPlace == Tryz.pinned.checked.prog.inPlace 11) = true ∧ (Rows.storePlaysRow.unfollowed == Tryz.pinned.checked.prog.unfollowed 11) = true ∧ (Rows.storePlaysRow.recurses == Tryz.pinned.checked.prog.recurses 11) = true ∧ (Rows.storePlaysRow.named == Tryz.pinned.checked.prog.varsNamed 11) = true := ⟨by kernel_rfl, by kernel_rfl, by kernel_rfl, by kernel_rfl⟩
theorem j5 : (Rows.storePlaysRow.maps == (Tryz.f11.params.toList ++ Rows.storePlaysSpec.plain.varTypes Tryz.pinned.checked.prog).any (Tryz.pinned.checked.prog.mapsRec ·)) = true ∧ (Rows.storePlaysRow.ifaces == (Tryz.f11.params.toList ++ Rows.storePlaysSpec.plain.varTypes Tryz.pinned.checked.prog).any (Tryz.pinned.checked.prog.ifacesRec ·)) = true ∧ (Rows.storePlaysRow.mapsOut == Tryz.pinned.checked.prog.mapsAmong Tryz.f11.resultTypes.toList) = true ∧ (Rows.storePlaysRow.loops == (Tryz.f11.params.toList ++ Rows.storePlaysSpec.plain.varTypes Tryz.pinned.checked.prog).any (Tryz.pinned.checked.prog.loopsFrom ·)) = true := ⟨by kernel_rfl, by kernel_rfl, by kernel_rfl, by kernel_rfl⟩
theorem j6 : (Rows.storePlaysRow.wideKeys == (Tryz.f11.params.toList ++ Rows.storePlaysSpec.plain.varTypes Tryz.pinned.checked.prog ++ Tryz.f11.resultTypes.toList).any (Tryz.pinned.checked.prog.wideKeysFrom ·)) = true := by kernel_rfl
theorem j7 : (Rows.storePlaysSpec.vars.all (Tryz.pinned.checked.prog.varReadable ·)) = true ∧ (Tryz.f11.resultTypes.all (fun t => Tryz.pinned.checked.prog.readableRec t && decide (t < Tryz.pinned.checked.prog.types.size))) = true ∧ (Rows.storePlaysRow.ifacesOut == Tryz.f11.resultTypes.toList.any (Tryz.pinned.checked.prog.ifacesRec ·)) = true ∧ (Rows.storePlaysRow.loopsOut == Tryz.f11.resultTypes.toList.any (Tryz.pinned.checked.prog.loopsFrom ·)) = true ∧ (Rows.storePlaysRow.plainKeys == Tryz.pinned.checked.prog.plainKeys) = true ∧ (Rows.storePlaysRow.shortTexts.isNone) = true ∧ (Tryz.pinned.checked.prog.stopsHeard) = true ∧ (Tryz.pinned.checked.prog.mayEnter) = true := ⟨by kernel_rfl, by kernel_rfl, by kernel_rfl, by kernel_rfl, by kernel_rfl, by kernel_rfl, by kernel_rfl, by kernel_rfl⟩
theorem j8 : (Rows.storePlaysRow.lifted == Tryz.pinned.checked.prog.liftsFinal) = true ∧ (Tryz.pinned.checked.prog.make == some Rows.storePlaysRow.make) = true ∧ (Rows.storePlaysRow.kinds == (if Rows.storePlaysRow.domain.isEmpty then [] else Tryz.f11.params.toList.map fun t => match Tryz.pinned.checked.prog.underlying t with | some (.int k) => some k | _ => none)) = true ∧ (Rows.storePlaysRow.pinned == Rows.storePlaysRow.pinnedBy) = true := ⟨by kernel_rfl, by kernel_rfl, by kernel_rfl, by kernel_rfl⟩
theorem j9 : (Rows.storePlaysRow.veiled == (Tryz.f11.params.toList ++ Rows.storePlaysSpec.plain.varTypes Tryz.pinned.checked.prog ++ Tryz.f11.resultTypes.toList).any (Tryz.pinned.checked.prog.veiledRec ·)) = true ∧ (Rows.storePlaysRow.veiledFits Tryz.pinned.checked.prog Tryz.f11.params.toList (Tryz.f11.params.toList ++ Rows.storePlaysSpec.plain.varTypes Tryz.pinned.checked.prog ++ Tryz.f11.resultTypes.toList)) = true := ⟨by kernel_rfl, by kernel_rfl⟩
theorem closed : joinedFacts Tryz.pinned.checked.prog 11 Tryz.f11 Rows.storePlaysSpec Rows.storePlaysRow = true := by
 unfold joinedFacts
 exact (and_of (and_of (and_of (and_of (and_of (and_of (and_of (and_of (and_of (and_of (and_of (and_of (and_of (and_of (and_of (and_of (and_of (and_of (and_of (and_of (and_of (and_of (and_of (and_of (and_of (and_of (and_of (and_of (and_of (and_of (and_of j0 j1) j2) j3.1) j3.2.1) j3.2.2.1) j3.2.2.2.1) j3.2.2.2.2.1) j3.2.2.2.2.2) j4.1) j4.2.1) j4.2.2.1) j4.2.2.2) j5.1) j5.2.1) j5.2.2.1) j5.2.2.2) j6) j7.1) j7.2.1) j7.2.2.1) j7.2.2.2.1) j7.2.2.2.2.1) j7.2.2.2.2.2.1) j7.2.2.2.2.2.2.1) j7.2.2.2.2.2.2.2) j8.1) j8.2.1) j8.2.2.1) j8.2.2.2) j9.1) j9.2)
theorem named : Tryz.pinned.checked.prog.funcNamed Rows.storePlaysRow.func = some 11 := by kernel_rfl
theorem over : Rows.storePlaysRow.holds Tryz.pinned (OpenSpec.ofChange Rows.storePlaysSpec) :=
 OpenClaim.holds_of_wide 11 Tryz.f11 rfl rfl rfl rfl rfl rfl rfl ⟨rfl, rfl, rfl, rfl, rfl⟩ rfl rfl rfl rfl rfl named Tryz.func11 closed
  (of_decide_eq_true (by kernel_rfl)) (by unfold Func.isWrapper; first | (rw [if_pos (by decide +kernel)]; kernel_rfl) | (rw [if_neg (by decide +kernel)]; exact ⟨rfl, rfl⟩))
  (fun os started H enc _ => lifted os started H enc)
theorem proved : Rows.StorePlaysSaid := over
end Go.Proofs.YtdpngmgaomghoaaGreat.storePlays
