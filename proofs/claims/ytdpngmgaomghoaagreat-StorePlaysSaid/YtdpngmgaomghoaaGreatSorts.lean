/- How the library's sort of texts is laid in this program. -/
import Derived.Test.YtdpngmgaomghoaaGreatKB
import Derived.Test.YtdpngmgaomghoaaGreatProg
import Derived.Shelf.Sort.Plain
import Derived.Sort.OwnSorted
import Derived.Sort.KeysCollected
namespace Go.Proofs.YtdpngmgaomghoaaGreat
open Tryz
open Go.RowKit
namespace SortL
def ren : Go.Shelf.Ren := ⟨fun | 190 => 109 | 125 => 180 | 258 => 179 | 128 => 242 | 129 => 243 | 302 => 233 | 303 => 234 | 304 => 235 | 305 => 236 | 306 => 237 | 307 => 238 | 308 => 239 | 309 => 240 | 310 => 241 | 333 => 275 | 329 => 276 | 330 => 277 | 334 => 278 | 335 => 279 | 336 => 280 | 344 => 306 | n => n, fun | 31 => 60 | 9 => 9 | 3 => 3 | 46 => 241 | 0 => 0 | 51 => 287 | 53 => 289 | 4 => 4 | 183 => 280 | 182 => 279 | 131 => 284 | 5 => 5 | 218 => 311 | 222 => 315 | 228 => 340 | 229 => 341 | n => n, fun | n => n⟩
theorem laid : Go.Proofs.Lays.n190 prog ren := {
 mixed := by kernel_rfl,
 f125 := func180.trans (congrArg some (by kernel_rfl)),
 f128 := func242.trans (congrArg some (by kernel_rfl)),
 f129 := func243.trans (congrArg some (by kernel_rfl)),
 f190 := func109.trans (congrArg some (by kernel_rfl)),
 f258 := func179.trans (congrArg some (by kernel_rfl)),
 f302 := func233.trans (congrArg some (by kernel_rfl)),
 f303 := func234.trans (congrArg some (by kernel_rfl)),
 f304 := func235.trans (congrArg some (by kernel_rfl)),
 f305 := func236.trans (congrArg some (by kernel_rfl)),
 f306 := func237.trans (congrArg some (by kernel_rfl)),
 f307 := func238.trans (congrArg some (by kernel_rfl)),
 f308 := func239.trans (congrArg some (by kernel_rfl)),
 f309 := func240.trans (congrArg some (by kernel_rfl)),
 f310 := func241.trans (congrArg some (by kernel_rfl)),
 f329 := func276.trans (congrArg some (by kernel_rfl)),
 f330 := func277.trans (congrArg some (by kernel_rfl)),
 f333 := func275.trans (congrArg some (by kernel_rfl)),
 f334 := func278.trans (congrArg some (by kernel_rfl)),
 f335 := func279.trans (congrArg some (by kernel_rfl)),
 f336 := func280.trans (congrArg some (by kernel_rfl)),
 f344 := func306.trans (congrArg some (by kernel_rfl)),
 t0 := underlying0,
 a0 := Tryz.isAgg0,
 z0 := Tryz.sizeOf0,
 v0 := Tryz.zeroValue0,
 t3 := underlying3,
 a3 := Tryz.isAgg3,
 z3 := Tryz.sizeOf3,
 v3 := Tryz.zeroValue3,
 t4 := underlying4,
 a4 := Tryz.isAgg4,
 z4 := Tryz.sizeOf4,
 v4 := Tryz.zeroValue4,
 t5 := underlying5,
 a5 := Tryz.isAgg5,
 z5 := Tryz.sizeOf5,
 v5 := Tryz.zeroValue5,
 t9 := underlying9,
 a9 := Tryz.isAgg9,
 z9 := Tryz.sizeOf9,
 v9 := Tryz.zeroValue9,
 t31 := underlying60,
 a31 := Tryz.isAgg60,
 z31 := Tryz.sizeOf60,
 v31 := Tryz.zeroValue60,
 t46 := underlying241,
 a46 := Tryz.isAgg241,
 z46 := Tryz.sizeOf241,
 v46 := Tryz.zeroValue241,
 t51 := underlying287,
 a51 := Tryz.isAgg287,
 z51 := Tryz.sizeOf287,
 v51 := Tryz.zeroValue287,
 t53 := underlying289,
 a53 := Tryz.isAgg289,
 z53 := Tryz.sizeOf289,
 v53 := Tryz.zeroValue289,
 t131 := underlying284,
 a131 := Tryz.isAgg284,
 z131 := Tryz.sizeOf284,
 v131 := Tryz.zeroValue284,
 t182 := underlying279,
 a182 := Tryz.isAgg279,
 z182 := Tryz.sizeOf279,
 v182 := Tryz.zeroValue279,
 t183 := underlying280,
 a183 := Tryz.isAgg280,
 z183 := Tryz.sizeOf280,
 v183 := Tryz.zeroValue280,
 t218 := underlying311,
 a218 := Tryz.isAgg311,
 z218 := Tryz.sizeOf311,
 v218 := Tryz.zeroValue311,
 t222 := underlying315,
 a222 := Tryz.isAgg315,
 z222 := Tryz.sizeOf315,
 v222 := Tryz.zeroValue315,
 t228 := underlying340,
 a228 := Tryz.isAgg340,
 z228 := Tryz.sizeOf340,
 v228 := Tryz.zeroValue340,
 t229 := underlying341,
 a229 := Tryz.isAgg341,
 z229 := Tryz.sizeOf341,
 v229 := Tryz.zeroValue341 }
end SortL
set_option maxRecDepth 100000
open Go.RowKit Go.Sort
namespace SortL
theorem ins_nil (w : World) : Calls prog 233 #[.slice none 0 0, .int .i64 0, .int .i64 0] w fun e w' => e = .returned (.tuple #[]) ∧ w = w' := by
 go_enter func233, ntmps233
 go_wp2_with fail
 go_loopg [6] 0 (fun gk i wr => i = .int .i64 1 ∧ gk = 0 ∧ w = wr)
 case atStart => exact ⟨rfl, rfl, rfl⟩
 case round =>
  obtain ⟨rfl, rfl, rfl⟩ := hrel
  go_wp2_with fail
  first | (go_end0; exact ⟨rfl, rfl⟩) | exact bodyPost_ret (results_none rfl _ _ _) rfl ⟨rfl, rfl⟩
theorem len64_0 (w : World) : Calls prog 243 #[.int .u64 0] w fun e w' => (∃ n, e = .returned (.int .i64 n)) ∧ w = w' := by
 go_enter func243, ntmps243
 go_wp2_with fail
 go_ret
 exact ⟨⟨_, rfl⟩, rfl⟩
theorem len_0 (w : World) : Calls prog 180 #[.int .u64 0] w fun e w' => (∃ n, e = .returned (.int .i64 n)) ∧ w = w' := by
 go_enter func180, ntmps180
 go_wp2_with fail
 refine (len64_0 w).mono ?_
 rintro e w1 ⟨⟨n, rfl⟩, rfl⟩
 go_wp2_with fail
 go_ret
 exact ⟨⟨_, rfl⟩, rfl⟩
theorem pdq_nil (n : Int) (w : World) : Calls prog 179 #[.slice none 0 0, .int .i64 0, .int .i64 0, .int .i64 n] w fun e w' => e = .returned (.tuple #[]) ∧ w = w' := by
 go_enter func179, ntmps179
 go_wp2_with fail
 go_loopg [1, 2] 0 (fun gk i j wr => i = .int .i64 0 ∧ j = .int .i64 0 ∧ gk = 0 ∧ w = wr)
 case atStart => exact ⟨rfl, rfl, rfl, rfl⟩
 case round =>
  obtain ⟨rfl, rfl, rfl, rfl⟩ := hrel
  go_wp2_with fail
  refine (ins_nil w).mono ?_
  rintro e w1 ⟨rfl, rfl⟩
  go_wp2_with fail
  first | (go_end0; exact ⟨rfl, rfl⟩) | exact bodyPost_ret (results_none rfl _ _ _) rfl ⟨rfl, rfl⟩
theorem Sort_nil (w : World) : Calls prog 109 #[.slice none 0 0] w fun e w' => e = .returned (.tuple #[]) ∧ w = w' := by
 go_enter func109, ntmps109
 go_wp2_with fail
 refine (len_0 w).mono ?_
 rintro e w1 ⟨⟨n, rfl⟩, rfl⟩
 go_wp2_with fail
 refine (pdq_nil n w).mono ?_
 rintro e w1 ⟨rfl, rfl⟩
 go_wp2_with fail
 first | (go_end0; exact ⟨rfl, rfl⟩) | exact bodyPost_ret (results_none rfl _ _ _) rfl ⟨rfl, rfl⟩
open KeyP
def sortB (l : List ByteArray) : List ByteArray := ((l.map (fun k => k.data.toList)).mergeSort leB).map ks
theorem sortB_len (l : List ByteArray) : (sortB l).length = l.length := by unfold sortB; rw [List.length_map, List.length_mergeSort, List.length_map]
theorem leB_lt {x y : ByteArray} (h : Ord.lt x y = true) : leB x.data.toList y.data.toList = true := by
 rw [ltStr, bytesLess_eq, tl_data, tl_data] at h
 have h1 : x.data.toList < y.data.toList := by simpa using h
 show decide (x.data.toList ≤ y.data.toList) = true
 exact decide_eq_true (List.le_of_lt h1)
theorem sortB_of {l m : List ByteArray} (hp : l.Perm m) (hm : m.Pairwise (fun a b => Ord.lt a b = true)) : sortB l = m := by
 unfold sortB
 rw [mergeSort_of_perm (hp.map (fun k => k.data.toList)), List.mergeSort_of_pairwise, List.map_map]
 ·conv => rhs; rw [← List.map_id m]
  exact List.map_congr_left (fun x _ => ks_of x)
 ·rw [List.pairwise_map]
  exact hm.imp (fun {a b} h => leB_lt h)
theorem SortS {base : Nat} {v : Value} {l : List ByteArray} {w : World} (ho : w.ownsRow base 9 1 v l.length (l.map Value.string)) (hl : l.length ≤ 1000000) :
  Calls prog 109 #[v] w fun e w' => e = .returned (.tuple #[]) ∧ w'.ownsRow base 9 1 v l.length ((sortB l).map Value.string) ∧ w.grownBy w' v.ownBlock := by
 rcases ho.2 with ⟨rfl, -⟩ | ⟨g, cap, cur, rfl, hbase, hb, h1, h2, h3, h4⟩
 ·refine (Sort_nil w).mono ?_
  rintro e w' ⟨rfl, rfl⟩
  have hn : l.length = 0 := by
   obtain ⟨-, h⟩ := ho
   rcases h with ⟨-, h⟩ | ⟨g, cap, cur, h, -⟩
   ·exact h
   ·cases h
  have : l = [] := List.eq_nil_of_length_eq_zero hn
  subst this
  exact ⟨rfl, by rw [show sortB [] = [] from by simp [sortB]]; exact ho, World.grownBy.refl w _⟩
 ·have e1 : (l.map (fun k => k.data.toList)).map encStr = l.map Value.string := by
   rw [List.map_map]
   exact List.map_congr_left (fun x _ => congrArg Value.string (ks_of x))
  have e2 : ((l.map (fun k => k.data.toList)).mergeSort fun x y => decide (x ≤ y)).map encStr = (sortB l).map Value.string := by
   unfold sortB; rw [List.map_map]; rfl
  have hH : Holds encStr w g 0 (l.map (fun k => k.data.toList)).toArray := holds_of_block hb (by rw [List.length_map, e1]; simpa using h4)
  have h := Any.slices_Sort_string laid g 0 cap (l.map (fun k => k.data.toList)) w hH (lt_of_heap hb) (by rw [List.length_map]; omega)
  rw [List.length_map] at h
  refine Calls.mono (show Calls prog 109 _ _ _ from h) ?_
  rintro e w' ⟨rfl, n, os, rfl⟩
  refine ⟨rfl, ?_, grownBy_sorted _⟩
  have := ownsRow_sorted (ts := (l.map (fun k => k.data.toList)).mergeSort fun x y => decide (x ≤ y)) (ss := l.map (fun k => k.data.toList)) (n := n) (os := os) (by rw [List.length_mergeSort]) hbase hb (by rw [List.length_map]; exact h1) h2 (by simpa using h3)
  rw [List.length_map, e2] at this
  exact this
end SortL
end Go.Proofs.YtdpngmgaomghoaaGreat
