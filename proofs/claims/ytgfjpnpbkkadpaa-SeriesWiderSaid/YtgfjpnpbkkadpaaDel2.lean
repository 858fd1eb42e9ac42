/- The library's slices.DeleteFunc at a list of records of one's own: the walk. -/
import Derived.Test.YtgfjpnpbkkadpaaDel
namespace Go.Proofs.Ytgfjpnpbkkadpaa
open Go.RowKit
namespace Sli
open KeyP PackP SetP SetW SetF
attribute [local go_sem] Eng.ev Eng.getO_cons Eng.getO_nil
set_option maxRecDepth 100000 in
set_option maxHeartbeats 2000000 in
theorem DeleteFunc (base : Nat) (v : Value) (g : Nat) (lb : Array Value) (p : Sn → Bool) (L : List Sn) (w : World) (eg : ∀ args w, (callFunc g args).run Try.prog w = .ok (.enter g args) w) (hO : w.ownsRow base TSn 9 v L.length (L.flatMap scs)) (hp0 : Pred g lb p L w) (hp : ∀ b, v.ownBlock = some b → PredO g lb p L b w) :
    Calls Try.prog 34 #[v, .func (.func g) #[] lb] w fun e w' => ∃ v', e = .returned v' ∧ w'.ownsRow base TSn 9 v' (keep p L).length ((keep p L).flatMap scs) ∧ Fr (fun k => v.ownBlock = some k) w w' := by
  obtain ⟨A, c, rfl, hS, hA⟩ := Sl.of_own hO
  have HI := Lib.hid (IndexFunc A c g lb p L w eg hS hp0)
  have HO := Lib.hid hO
  have hlen : L.length ≤ 9223372036854775807 := by have := hS.2.1; have := hS.2.2.1; unfold maxLen at this; omega
  rcases idx_spec p L with ⟨h1, h2⟩ | ⟨k0, hk0, h1, h2, h3⟩
  · rw [h1] at HI
    have HK : Hid (keep p L = L) := keep_all h2
    clear hO hp hp0 hA h2 h1 hS
    go_enter Try.func34, Try.ntmps34
    go_wp2_with fail
    refine HI.out.mono ?_
    rintro e w1 ⟨rfl, hf⟩
    have HF := Lib.hid hf
    clear hf HI
    go_wp2_with fail
    go_ret
    refine ⟨_, rfl, ?_, HF.out.mono (fun _ _ h => h.elim)⟩
    rw [HK.out]
    exact ownsRow_fr HO.out HF.out (fun _ _ h => h)
  · rw [h1] at HI
    obtain ⟨b, rfl⟩ : ∃ b, A = some ⟨b, 0, none⟩ := by
      obtain ⟨-, h⟩ := hO
      rcases h with ⟨h, h'⟩ | ⟨g, c2, cur, he, -⟩
      · omega
      · cases he; exact ⟨_, rfl⟩
    obtain ⟨r1, r2, r3, r4⟩ := Rw.of hO
    have HP := Lib.hid (hp b rfl)
    have HR := Lib.hid r1
    have HD := Lib.hid (fun w' hf => Del.start (w' := w') r1 hf hk0 h2 h3)
    have hc : c ≤ 9223372036854775807 := by unfold maxLen at r4; omega
    clear hO hp hp0 hA h2 h1 hS h3 r1 HO
    go_enter Try.func34, Try.ntmps34
    go_wp2_with fail
    refine HI.out.mono ?_
    rintro e w1 ⟨rfl, hf⟩
    have HD1 := Lib.hid (HD.out w1 hf)
    have q0 : ((k0 : Int) == -1) = false := by simp
    clear hf HI HD
    go_wp2_with fail
    go_loopg [5, 6, 7] L.length (fun gk s5 s6 _ wr => ∃ (i j : Nat) (D : List Sn), s5 = .int .i64 i ∧ s6 = .int .i64 j ∧ L.length - j ≤ gk ∧ Del p L w wr b c i j D)
    case atStart => exact ⟨k0, k0 + 1, L, rfl, by go_num, by omega, HD1.out⟩
    case round =>
      clear HD1 q0
      obtain ⟨i, j, D, rfl, rfl, hg, hd⟩ := hrel
      have HG := Lib.hid hg; have HD := Lib.hid hd
      have hij := hd.lt; have hjl := hd.le
      clear hg hd
      by_cases hlt : j < L.length
      · have HA := Lib.hid (HD.out.at hlt)
        have HSk := Lib.hid (fun w' hf => HD.out.skip (w' := w') hf hlt)
        have HTk := Lib.hid (fun w' hf => HD.out.take (w' := w') hf hlt)
        have HX := Lib.hid (List.getElem_mem hlt)
        generalize hy : L[j] = y at *
        clear hy
        have c0 : wr.cell? ⟨b, j * 9, none⟩ = some (.int .i64 y.t) := HA.out 0 _ rfl
        have c1 : wr.cell? ⟨b, j * 9 + 1, none⟩ = some (.int .i64 y.i) := HA.out 1 _ rfl
        have c2 : wr.cell? ⟨b, j * 9 + 1 + 1, none⟩ = some (.int .i64 y.p) := HA.out 2 _ rfl
        have c3 : wr.cell? ⟨b, j * 9 + 1 + 1 + 1, none⟩ = some (.int .i64 y.r) := HA.out 3 _ rfl
        have c4 : wr.cell? ⟨b, j * 9 + 1 + 1 + 1 + 1, none⟩ = some (.string y.s) := HA.out 4 _ rfl
        have c5 : wr.cell? ⟨b, j * 9 + 1 + 1 + 1 + 1 + 1, none⟩ = some (.string y.o) := HA.out 5 _ rfl
        have c6 : wr.cell? ⟨b, j * 9 + 1 + 1 + 1 + 1 + 1 + 1, none⟩ = some (.int .i64 y.b) := HA.out 6 _ rfl
        have c7 : wr.cell? ⟨b, j * 9 + 1 + 1 + 1 + 1 + 1 + 1 + 1, none⟩ = some (.int .i64 y.d) := HA.out 7 _ rfl
        have c8 : wr.cell? ⟨b, j * 9 + 1 + 1 + 1 + 1 + 1 + 1 + 1 + 1, none⟩ = some (.bool y.g) := HA.out 8 _ rfl
        have q2 : decide ((j : Int) < (L.length : Int)) = true := by simp; omega
        go_upto_region 8 with (fail)
        have s2 := Bk.new wr y.arr TSn
        have s1 := At.box s2
        have s3 := Fr.alloc (fun _ => False) wr (.cells y.arr TSn)
        generalize (wr.alloc (.cells y.arr TSn)) = w2 at *
        have HA2 := Lib.hid s1; have HB2 := Lib.hid s2; have HF2 := Lib.hid s3
        have hcall := HP.out w2 (HD.out.f.trans s3 (fun _ _ h => h) (fun _ _ h => h.elim)) y HX.out
        clear s1 s2 s3 c0 c1 c2 c3 c4 c5 c6 c7 c8 HA
        have c0 : w2.cell? ⟨wr.heap.size, 0, none⟩ = some (.int .i64 y.t) := HA2.out 0 _ rfl
        have c1 : w2.cell? ⟨wr.heap.size, 1, none⟩ = some (.int .i64 y.i) := HA2.out 1 _ rfl
        have c2 : w2.cell? ⟨wr.heap.size, 2, none⟩ = some (.int .i64 y.p) := HA2.out 2 _ rfl
        have c3 : w2.cell? ⟨wr.heap.size, 3, none⟩ = some (.int .i64 y.r) := HA2.out 3 _ rfl
        have c4 : w2.cell? ⟨wr.heap.size, 4, none⟩ = some (.string y.s) := HA2.out 4 _ rfl
        have c5 : w2.cell? ⟨wr.heap.size, 5, none⟩ = some (.string y.o) := HA2.out 5 _ rfl
        have c6 : w2.cell? ⟨wr.heap.size, 6, none⟩ = some (.int .i64 y.b) := HA2.out 6 _ rfl
        have c7 : w2.cell? ⟨wr.heap.size, 7, none⟩ = some (.int .i64 y.d) := HA2.out 7 _ rfl
        have c8 : w2.cell? ⟨wr.heap.size, 8, none⟩ = some (.bool y.g) := HA2.out 8 _ rfl
        cases h1 : p y with
        | true =>
          have HS3 := Lib.hid (fun w' hf => HSk.out w' hf h1)
          rw [h1] at hcall
          clear h1 HTk HSk
          go_wp2_with (go_at_fn g; refine hcall.mono ?_; rintro e w3 ⟨rfl, hf⟩)
          go_roundg (L.length - (j + 1))
          case rel => exact ⟨i, j + 1, D, rfl, by go_num, by omega, HS3.out _ (HF2.out.trans hf (fun _ _ h => h) (fun _ _ h => h))⟩
          case measure => have := HG.out; omega
        | false =>
          rw [h1] at hcall
          have HS3 := Lib.hid (fun w' hf => HTk.out w' hf h1)
          clear h1 HTk HSk
          go_upto_region 9 with (go_at_fn g; refine hcall.mono ?_; rintro e w3 ⟨rfl, hf⟩)
          have hD3 := HS3.out _ (HF2.out.trans hf (fun _ _ h => h) (fun _ _ h => h))
          have HA3 := HA2.out.keep hf
          have hr3 := (HD.out.r.fr HF2.out (fun h => h)).fr hf (fun h => h)
          have hzz := hr3.at (k := i) (by have := HD.out.l; omega)
          generalize D[i]'(by have := HD.out.l; omega) = z at hzz
          have HD3 := Lib.hid hD3; have HZ := Lib.hid hzz; have HA4 := Lib.hid HA3; have HR3 := Lib.hid hr3
          clear hf hD3 HA3 hr3 hzz c0 c1 c2 c3 c4 c5 c6 c7 c8 HA2 HB2 HF2 hcall
          have c0 : w3.cell? ⟨wr.heap.size, 0, none⟩ = some (.int .i64 y.t) := HA4.out 0 _ rfl
          have c1 : w3.cell? ⟨wr.heap.size, 1, none⟩ = some (.int .i64 y.i) := HA4.out 1 _ rfl
          have c2 : w3.cell? ⟨wr.heap.size, 2, none⟩ = some (.int .i64 y.p) := HA4.out 2 _ rfl
          have c3 : w3.cell? ⟨wr.heap.size, 3, none⟩ = some (.int .i64 y.r) := HA4.out 3 _ rfl
          have c4 : w3.cell? ⟨wr.heap.size, 4, none⟩ = some (.string y.s) := HA4.out 4 _ rfl
          have c5 : w3.cell? ⟨wr.heap.size, 5, none⟩ = some (.string y.o) := HA4.out 5 _ rfl
          have c6 : w3.cell? ⟨wr.heap.size, 6, none⟩ = some (.int .i64 y.b) := HA4.out 6 _ rfl
          have c7 : w3.cell? ⟨wr.heap.size, 7, none⟩ = some (.int .i64 y.d) := HA4.out 7 _ rfl
          have c8 : w3.cell? ⟨wr.heap.size, 8, none⟩ = some (.bool y.g) := HA4.out 8 _ rfl
          have r0 : w3.cell? ⟨b, i * 9, none⟩ = some (.int .i64 z.t) := HZ.out 0 _ rfl
          have r1 : w3.cell? ⟨b, i * 9 + 1, none⟩ = some (.int .i64 z.i) := HZ.out 1 _ rfl
          have r2 : w3.cell? ⟨b, i * 9 + 1 + 1, none⟩ = some (.int .i64 z.p) := HZ.out 2 _ rfl
          have r3 : w3.cell? ⟨b, i * 9 + 1 + 1 + 1, none⟩ = some (.int .i64 z.r) := HZ.out 3 _ rfl
          have r4 : w3.cell? ⟨b, i * 9 + 1 + 1 + 1 + 1, none⟩ = some (.string z.s) := HZ.out 4 _ rfl
          have r5 : w3.cell? ⟨b, i * 9 + 1 + 1 + 1 + 1 + 1, none⟩ = some (.string z.o) := HZ.out 5 _ rfl
          have r6 : w3.cell? ⟨b, i * 9 + 1 + 1 + 1 + 1 + 1 + 1, none⟩ = some (.int .i64 z.b) := HZ.out 6 _ rfl
          have r7 : w3.cell? ⟨b, i * 9 + 1 + 1 + 1 + 1 + 1 + 1 + 1, none⟩ = some (.int .i64 z.d) := HZ.out 7 _ rfl
          have r8 : w3.cell? ⟨b, i * 9 + 1 + 1 + 1 + 1 + 1 + 1 + 1 + 1, none⟩ = some (.bool z.g) := HZ.out 8 _ rfl
          have f0 : w3.frozen? ⟨b, i * 9, none⟩ = false := HR3.out.free _
          have f1 : w3.frozen? ⟨b, i * 9 + 1, none⟩ = false := HR3.out.free _
          have f2 : w3.frozen? ⟨b, i * 9 + 1 + 1, none⟩ = false := HR3.out.free _
          have f3 : w3.frozen? ⟨b, i * 9 + 1 + 1 + 1, none⟩ = false := HR3.out.free _
          have f4 : w3.frozen? ⟨b, i * 9 + 1 + 1 + 1 + 1, none⟩ = false := HR3.out.free _
          have f5 : w3.frozen? ⟨b, i * 9 + 1 + 1 + 1 + 1 + 1, none⟩ = false := HR3.out.free _
          have f6 : w3.frozen? ⟨b, i * 9 + 1 + 1 + 1 + 1 + 1 + 1, none⟩ = false := HR3.out.free _
          have f7 : w3.frozen? ⟨b, i * 9 + 1 + 1 + 1 + 1 + 1 + 1 + 1, none⟩ = false := HR3.out.free _
          have f8 : w3.frozen? ⟨b, i * 9 + 1 + 1 + 1 + 1 + 1 + 1 + 1 + 1, none⟩ = false := HR3.out.free _
          have q3 : (0 : Int) ≤ (i : Int) := by omega
          have q4 : (i : Int) < (L.length : Int) := by omega
          go_wp2_with fail
          go_roundg (L.length - (j + 1))
          case rel => exact ⟨i + 1, j + 1, _, by go_num, by go_num, by omega, HD3.out⟩
          case measure => have := HG.out; omega
      · obtain rfl : j = L.length := by omega
        have q2 : decide ((L.length : Int) < (L.length : Int)) = false := by simp
        have q3 : (0 : Int) ≤ (i : Int) := by omega
        have q4 : (i : Int) ≤ (L.length : Int) := by omega
        have q5 : (i : Int) ≤ (c : Int) := by omega
        have q6 : 0 < L.length - i := by omega
        obtain ⟨vs, hcl⟩ := run_clearS wr b (i * 9) (L.length - i) (c - i) q6 (fun j hj => by have hl := HD.out.l; exact HD.out.r.there (by omega)) (fun j _ => HD.out.r.free _)
        have HDn := Lib.hid (HD.out.done r2 r3 r4 vs)
        clear HP HG HR
        have q7 : decide (c = i) = false := by simp; omega
        have q8 : ¬ c = i := by omega
        go_wp2_with fail
        go_ret
        obtain ⟨d1, d2⟩ := HDn.out
        have hn := HD.out.n
        rw [List.take_length] at hn
        refine ⟨_, rfl, ?_, ?_⟩
        · rw [hn] at d1 ⊢; exact d1
        · exact d2.mono (fun k _ hk => by rw [hk]; rfl)
end Sli
end Go.Proofs.Ytgfjpnpbkkadpaa
