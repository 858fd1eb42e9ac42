/- Keys: how many blocks their functions lay. -/
import Derived.Test.YtkhhdadlpilbmaaKey
namespace Go.Proofs.Ytkhhdadlpilbmaa
open Go.RowKit
namespace Key
open KeyP
set_option maxRecDepth 100000 in
theorem put_n {n : Int} (h : wf64 n) (w : World) : Calls Try.prog 115 #[.int .i64 n] w fun e w' => e = .returned (.string (ks (kb n))) ∧ Below w.heap.size w w' ∧ w'.heap.size = w.heap.size + 1 := by
  have hx := xor63 h
  have HB := Lib.hid fun c => ((Below.refl w.heap.size w).alloc (Nat.le_refl _) (.cells c 217))
  have kc := fun (W : World) (hc : ∀ j (hj : j < (kb n).length), W.cell? ((⟨w.heap.size, 0, none⟩ : Addr).add j) = some (.int .u8 ((kb n)[j].toNat : Int))) => run_convert_bytes_back (P := Try.prog) W 218 9 5 ⟨w.heap.size, 0, none⟩ 8 (kb n) Try.underlying218 Try.underlying5 Try.underlying9 hc
  have kc := kc (w.alloc (.cells #[.int .u8 ((un n : Int) / 72057594037927936 % 256), .int .u8 ((un n : Int) / 281474976710656 % 256), .int .u8 ((un n : Int) / 1099511627776 % 256), .int .u8 ((un n : Int) / 4294967296 % 256), .int .u8 ((un n : Int) / 16777216 % 256), .int .u8 ((un n : Int) / 65536 % 256), .int .u8 ((un n : Int) / 256 % 256), .int .u8 ((un n : Int) % 256)] 217)) (by
    intro j hj
    have hj8 : j < 8 := hj
    have hg : ∀ (c : Array Value), (w.alloc (.cells c 217)).cell? ((⟨w.heap.size, 0, none⟩ : Addr).add j) = c[j]? := fun c => by
      have := cell_of_block (heap_new w (.cells c 217)) j
      simp only [Addr.add]
      split
      · rename_i e; subst e; exact this
      · show World.cell? _ ⟨w.heap.size, 0 + j, none⟩ = _; rw [Nat.zero_add]; exact this
    rw [hg]
    unfold kb
    match j, hj8 with
    | 0, _ => exact congrArg (fun z => some (Value.int IntKind.u8 z)) (byte_at (un n) 72057594037927936)
    | 1, _ => exact congrArg (fun z => some (Value.int IntKind.u8 z)) (byte_at (un n) 281474976710656)
    | 2, _ => exact congrArg (fun z => some (Value.int IntKind.u8 z)) (byte_at (un n) 1099511627776)
    | 3, _ => exact congrArg (fun z => some (Value.int IntKind.u8 z)) (byte_at (un n) 4294967296)
    | 4, _ => exact congrArg (fun z => some (Value.int IntKind.u8 z)) (byte_at (un n) 16777216)
    | 5, _ => exact congrArg (fun z => some (Value.int IntKind.u8 z)) (byte_at (un n) 65536)
    | 6, _ => exact congrArg (fun z => some (Value.int IntKind.u8 z)) (byte_at (un n) 256)
    | 7, _ => exact congrArg (fun z => some (Value.int IntKind.u8 z)) (byte_ofNat (un n)).symm)
  have HX := Lib.hid (un_lt h)
  rw [show (kb n).length = 8 from rfl] at kc
  rw [show (⟨(kb n).toArray⟩ : ByteArray) = ks (kb n) from rfl] at kc
  generalize ks (kb n) = K at *
  generalize un n = X at *
  clear h
  go_enter Try.func115, Try.ntmps115
  go_wp2_with fail
  refine wp_loop_rounds 9 ?_
  iterate 8 (rw [rounds_succ]; go_wp2_with fail)
  rw [rounds_succ]; go_wp2_with fail
  go_ret
  exact ⟨rfl, HB.out _, by simp⟩
set_option maxRecDepth 100000 in
theorem Of_n {a b : Int} (ha : wf64 a) (hb : wf64 b) (w : World) : Calls Try.prog 65 #[.int .i64 a, .int .i64 b] w fun e w' => e = .returned (.string (key2 a b)) ∧ Below w.heap.size w w' ∧ w'.heap.size = w.heap.size + 2 := by
  have H1 := Lib.hid (put_n ha w); have H2 := Lib.hid (fun W : World => put_n hb W)
  have s1 := ks_size (kb a); have s2 := ks_size (kb b)
  rw [kb_len] at s1 s2
  have HE := Lib.hid (ks_app (kb a) (kb b))
  clear ha hb
  unfold key2
  generalize ks (kb a) = A at *
  generalize ks (kb b) = B at *
  go_enter Try.func65, Try.ntmps65
  go_wp2_with fail
  refine H1.out.mono ?_
  rintro e w1 ⟨rfl, hb1, hz1⟩
  have HZ1 := Lib.hid hz1
  clear hz1
  have HB1 := Lib.hid hb1
  clear hb1
  go_wp2_with fail
  refine (H2.out _).mono ?_
  rintro e w2 ⟨rfl, hb2, hz2⟩
  have HZ2 := Lib.hid hz2
  clear hz2
  have HB2 := Lib.hid (HB1.out.trans (hb2.mono HB1.out.size))
  clear hb2
  go_wp2_with fail
  go_ret
  exact ⟨by rw [← HE.out]; rfl, HB2.out, by rw [HZ2.out, HZ1.out]⟩
set_option maxRecDepth 100000 in
theorem End_n {n : Int} (h : wf64 n) (s : ByteArray) (hs : s.size ≤ 1000) (w : World) : Calls Try.prog 85 #[.int .i64 n, .string s] w fun e w' => e = .returned (.string (ks (kb n ++ s.data.toList))) ∧ Below w.heap.size w w' ∧ w'.heap.size = w.heap.size + 1 := by
  have H1 := Lib.hid (put_n h w)
  have s1 := ks_size (kb n)
  rw [kb_len] at s1
  have HE : Hid (ks (kb n) ++ s = ks (kb n ++ s.data.toList)) := by show _ = _; rw [← ks_app, ks_of]
  clear h
  generalize ks (kb n) = A at *
  go_enter Try.func85, Try.ntmps85
  go_wp2_with fail
  refine H1.out.mono ?_
  rintro e w1 ⟨rfl, hb1, hz1⟩
  have HZ1 := Lib.hid hz1
  clear hz1
  have HB1 := Lib.hid hb1
  clear hb1
  go_wp2_with fail
  go_ret
  exact ⟨by rw [← HE.out]; rfl, HB1.out, HZ1.out⟩
set_option maxRecDepth 100000 in
theorem link_n {a b c : Int} (ha : wf64 a) (hb : wf64 b) (hc : wf64 c) (w : World) : Calls Try.prog 67 #[.int .i64 a, .int .i64 b, .int .i64 c] w fun e w' => e = .returned (.string (key3 a b c)) ∧ Fr (fun _ => False) w w' ∧ w'.heap.size = w.heap.size + 3 := by
  have H1 := Lib.hid (Of_n hb hc w)
  have H2 := Lib.hid (fun W : World => End_n ha (key2 b c) (by rw [key2, ks_size]; simp [kb_len]) W)
  have HE : Hid (ks (kb a ++ (key2 b c).data.toList) = key3 a b c) := rfl
  rw [HE.out] at H2
  generalize key2 b c = K at *
  clear ha hb hc HE
  go_enter Try.func67, Try.ntmps67
  go_wp2_with fail
  refine H1.out.mono ?_
  rintro e w1 ⟨rfl, hb1, hz1⟩
  have HZ1 := Lib.hid hz1
  clear hz1
  have HB1 := Lib.hid ((Fr.of_below hb1).mono (T := fun _ => False) (fun i hi h => by omega))
  clear hb1
  go_wp2_with fail
  refine (H2.out _).mono ?_
  rintro e w2 ⟨rfl, hb2, hz2⟩
  have HZ2 := Lib.hid hz2
  clear hz2
  have HB2 := Lib.hid (HB1.out.trans ((Fr.of_below hb2).mono (T := fun _ => False) (fun i hi h => by omega)) (T := fun _ => False) (fun _ _ h => h) (fun _ _ h => h))
  clear hb2
  go_wp2_with fail
  go_ret
  exact ⟨rfl, HB2.out, by rw [HZ2.out, HZ1.out]⟩
end Key
end Go.Proofs.Ytkhhdadlpilbmaa
