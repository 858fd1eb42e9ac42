/- Digests as values: sixteen numbers. -/
import Derived.Test.YtmcghchhegfilaaDigI
import Derived.Test.YtmcghchhegfilaaSetFs
import Derived.DeepKeys
namespace Go.Proofs.Ytmcghchhegfilaa
open Go.RowKit
namespace DigW
open KeyP PackP SetP SetW SetF
abbrev TAr : TypeId := 23
abbrev TDg : TypeId := 25
abbrev dcs (f : Nat → Int) : List Value := [.int .i64 (f 0), .int .i64 (f 1), .int .i64 (f 2), .int .i64 (f 3), .int .i64 (f 4), .int .i64 (f 5), .int .i64 (f 6), .int .i64 (f 7), .int .i64 (f 8), .int .i64 (f 9), .int .i64 (f 10), .int .i64 (f 11), .int .i64 (f 12), .int .i64 (f 13), .int .i64 (f 14), .int .i64 (f 15)]
abbrev dar (f : Nat → Int) : Array Value := #[.int .i64 (f 0), .int .i64 (f 1), .int .i64 (f 2), .int .i64 (f 3), .int .i64 (f 4), .int .i64 (f 5), .int .i64 (f 6), .int .i64 (f 7), .int .i64 (f 8), .int .i64 (f 9), .int .i64 (f 10), .int .i64 (f 11), .int .i64 (f 12), .int .i64 (f 13), .int .i64 (f 14), .int .i64 (f 15)]
abbrev dv (f : Nat → Int) : Value := .agg (dar f)
theorem c16 {k : Nat} (h : k < 16) : k = 0 ∨ k = 1 ∨ k = 2 ∨ k = 3 ∨ k = 4 ∨ k = 5 ∨ k = 6 ∨ k = 7 ∨ k = 8 ∨ k = 9 ∨ k = 10 ∨ k = 11 ∨ k = 12 ∨ k = 13 ∨ k = 14 ∨ k = 15 := by omega
theorem dar_at (f : Nat → Int) {k : Nat} (h : k < 16) : (dar f)[k]? = some (.int .i64 (f k)) := by
  rcases c16 h with rfl | rfl | rfl | rfl | rfl | rfl | rfl | rfl | rfl | rfl | rfl | rfl | rfl | rfl | rfl | rfl <;> rfl
def upd (f : Nat → Int) (k : Nat) (v : Int) : Nat → Int := fun j => if j = k then v else f j
theorem dar_set (f : Nat → Int) {k : Nat} (h : k < 16) (v : Int) : (dar f).setIfInBounds k (.int .i64 v) = dar (upd f k v) := by
  rcases c16 h with rfl | rfl | rfl | rfl | rfl | rfl | rfl | rfl | rfl | rfl | rfl | rfl | rfl | rfl | rfl | rfl <;> rfl
theorem dv_ext {f g : Nat → Int} (h : ∀ k < 16, f k = g k) : dar f = dar g := by
  unfold dar
  rw [h 0 (by omega), h 1 (by omega), h 2 (by omega), h 3 (by omega), h 4 (by omega), h 5 (by omega), h 6 (by omega), h 7 (by omega), h 8 (by omega), h 9 (by omega), h 10 (by omega), h 11 (by omega), h 12 (by omega), h 13 (by omega), h 14 (by omega), h 15 (by omega)]
/-- Are two digests the same? -/
def eqD (f g : Nat → Int) : Bool := (List.range 16).all (fun k => f k == g k)
theorem eqD_iff {f g : Nat → Int} : eqD f g = true ↔ ∀ k < 16, f k = g k := by
  unfold eqD
  rw [List.all_eq_true]
  simp only [List.mem_range, beq_iff_eq]
/-- A digest of records. -/
abbrev dgI (L : List Sn) : Nat → Int := fun k => ((Dig.dig L k : Nat) : Int)
theorem dgI_snoc (L : List Sn) (x : Sn) {k : Nat} : dgI (L ++ [x]) k = upd (dgI L) (Dig.part x.t) ((Crc.more (Dig.dig L (Dig.part x.t)) (enc x) : Nat) : Int) k := by
  unfold dgI upd
  rw [Dig.dig_snoc]
  by_cases h : k = Dig.part x.t
  · subst h; rw [if_pos rfl, if_pos rfl]
  · rw [if_neg h, if_neg (fun e => h e.symm)]
theorem part_at (f : Nat → Int) {k : Nat} (h : k < 16) (W : World) : (part 3 (dar f) (k * 1)).run Try.prog W = .ok (.int .i64 (f k)) W := by
  rcases c16 h with rfl | rfl | rfl | rfl | rfl | rfl | rfl | rfl | rfl | rfl | rfl | rfl | rfl | rfl | rfl | rfl <;> kernel_rfl
set_option maxRecDepth 10000 in
theorem eqI (f g : Nat → Int) (d : Nat) (W : World) : ∀ is : List Nat, (∀ i ∈ is, i < 16) → (Op.eqItems (d + 1) 3 1 (dar f) (dar g) is).run Try.prog W = .ok (is.all (fun k => f k == g k)) W
  | [], _ => by simp [Op.eqItems]
  | i :: is, h => by
    have hi := h i (by simp)
    have ih := eqI f g d W is (fun j hj => h j (by simp [hj]))
    have hc : Try.prog.cellsOf 3 = 1 := by kernel_rfl
    have p1 : (part 3 (dar f) (i * 1)).run Try.prog W = .ok (.int .i64 (f i)) W := part_at _ hi W
    have p2 : (part 3 (dar g) (i * 1)).run Try.prog W = .ok (.int .i64 (g i)) W := part_at _ hi W
    rw [Op.eqItems]
    simp only [Sem.run_bind, p1, p2, Result.andThen_ok]
    rw [run_equalIn_int W d 3 .i64 .i64 _ _ Try.underlying3]
    simp only [Result.andThen_ok, List.all_cons]
    cases f i == g i
    · simp
    · simpa using ih
set_option maxRecDepth 10000 in
theorem eqA (f g : Nat → Int) (d : Nat) (W : World) : (Op.equalIn (d + 2) TAr (dv f) (dv g)).run Try.prog W = .ok (eqD f g) W := by
  have hi : ∃ i, Try.prog.info? 3 = some i := ⟨_, rfl⟩
  obtain ⟨i, hi⟩ := hi
  have hc : Try.prog.cellsOf 3 = 1 := by kernel_rfl
  rw [show d + 2 = (d + 1) + 1 from rfl, dv, dv, run_equalIn_array W (d + 1) (dar f) (dar g) Try.underlying23 hi, hc, eqI f g d W _ (fun i hi => List.mem_range.1 hi)]
  rfl
theorem eql_arr (f g : Nat → Int) (W : World) : (binOp .eql TAr (dv f) (dv g)).run Try.prog W = .ok (.bool (eqD f g)) W := by
  rw [dv, dv, run_eql_struct, show (10000 : Nat) = 9998 + 2 from rfl, eqA f g 9998 W]; rfl
theorem part_dg (f : Nat → Int) (W : World) : (part 23 (dar f) 0).run Try.prog W = .ok (dv f) W := by
  have h1 : (isAgg 23).run Try.prog W = .ok true W := by kernel_rfl
  have h2 : (sizeOf 23).run Try.prog W = .ok 16 W := by kernel_rfl
  have h3 : (dar f).extract 0 (0 + 16) = dar f := by
    show (dar f).extract 0 ((dar f).size) = _
    rw [Array.extract_size]
  unfold part
  simp only [Sem.run_bind, h1, Result.andThen_ok, if_true, h2, h3]
  rfl
set_option maxRecDepth 10000 in
theorem eqG (f g : Nat → Int) (d : Nat) (W : World) : (Op.equalIn (d + 3) TDg (dv f) (dv g)).run Try.prog W = .ok (eqD f g) W := by
  have hS : Try.prog.underlying TDg = some (.struct (Try.prog.fieldsOf TDg)) := by kernel_rfl
  have hp : Try.prog.stoodInHeld TDg = false := by kernel_rfl
  have p1 := part_dg f W
  have p2 := part_dg g W
  have e1 : (Op.equalIn (d + 2) 23 (dv f) (dv g)).run Try.prog W = .ok (eqD f g) W := eqA f g d W
  rw [show d + 3 = (d + 2) + 1 from rfl, dv, dv, run_equalIn_agg W (d + 2) TDg _ _ hS hp]
  simp only [Program.fieldsOf, Try.underlying25]
  generalize dv f = U at *
  generalize dv g = V at *
  generalize dar f = F at *
  generalize dar g = G at *
  generalize eqD f g = q at *
  rw [Op.eqFields, if_pos (by decide)]
  dsimp only
  refine (Sem.run_bind ..).trans ?_
  rw [p1]
  refine (Sem.run_bind ..).trans ?_
  rw [p2]
  refine (Sem.run_bind ..).trans ?_
  rw [e1]
  cases q
  · rfl
  · rfl
theorem eql_dg (f g : Nat → Int) (W : World) : (binOp .eql TDg (dv f) (dv g)).run Try.prog W = .ok (.bool (eqD f g)) W := by
  rw [dv, dv, run_eql_struct, show (10000 : Nat) = 9997 + 3 from rfl, eqG f g 9997 W]; rfl
theorem neq_dg (f g : Nat → Int) (W : World) : (binOp .neq TDg (dv f) (dv g)).run Try.prog W = .ok (.bool (!eqD f g)) W := by
  rw [dv, dv, run_neq_struct, show (10000 : Nat) = 9997 + 3 from rfl, eqG f g 9997 W]; rfl
end DigW
end Go.Proofs.Ytmcghchhegfilaa
