/- Lists of records joined: the program's and the document's; what is missing: the document's. -/
import Derived.Test.YtdpngmgaomghoaaGreatSetFs
namespace Go.Proofs.YtdpngmgaomghoaaGreat
open Go.RowKit
namespace Join
open KeyP PackP SetP SetW SetF Code_ Rank
attribute [local go_sem] Eng.ev Eng.getO_cons Eng.getO_nil
theorem two_lv (w : World) (x y : Lv) : Sl (w.alloc (.cells #[.slice x.A x.L.length x.c, .slice y.A y.L.length y.c] TSs)) 1 (some ⟨w.heap.size, 0, none⟩) 2 2 ([x, y].flatMap lvc) := by
  refine ⟨rfl, Nat.le_refl _, by simp [maxLen], by simp, fun _ => ⟨_, _, rfl, fun i u hu => ?_⟩⟩
  rw [Nat.zero_add, cell_of_block (heap_new _ _)]
  simpa using hu
set_option maxRecDepth 100000 in
set_option maxHeartbeats 400000 in
theorem Join (A A2 : Option Addr) (c c2 : Nat) (L M : List Sn) (w : World) (h1 : Ls w A c L) (h2 : Ls w A2 c2 M) (hl : L.length + M.length ≤ 1000000) :
    Calls Tryz.prog 75 #[.slice A L.length c, .slice A2 M.length c2] w (LsPost (setOf (L ++ M)) w) := by
  have hf := Fr.alloc (fun _ => False) w (.cells #[.slice A L.length c, .slice A2 M.length c2] TSs)
  have k1 := h1.keep hf
  have k2 := h2.keep hf
  have hc : cat [⟨A, c, L⟩, ⟨A2, c2, M⟩] = L ++ M := by simp [cat]
  have HCc := Lib.hid (show Calls Tryz.prog 139 #[.slice (some ⟨w.heap.size, 0, none⟩) 2 2] _ _ from SetF.Concat (some ⟨w.heap.size, 0, none⟩) 2 [⟨A, c, L⟩, ⟨A2, c2, M⟩] _ (two_lv w ⟨A, c, L⟩ ⟨A2, c2, M⟩) (fun x hx => by
    simp at hx
    rcases hx with rfl | rfl
    · exact k1
    · exact k2) (by simp) (by rw [hc, List.length_append]; exact hl))
  rw [hc] at HCc
  have HOk : Hid (∀ x ∈ L ++ M, x.ok) := fun x hx => (List.mem_append.1 hx).elim (h1.ok x) (h2.ok x)
  have hll : (L ++ M).length ≤ 1000000 := by rw [List.length_append]; exact hl
  clear h1 h2 k1 k2 hc hl hf
  generalize L ++ M = N at *
  go_enter Tryz.func75, Tryz.ntmps75
  go_wp2_with fail
  refine HCc.out.mono ?_
  intro e w2 h
  obtain ⟨A3, c3, rfl, h1, h2, h3⟩ := LsPost.of h HOk.out
  have HB := Lib.hid (((Below.refl _ w).alloc (Nat.le_refl _) (.cells #[.slice A L.length c, .slice A2 M.length c2] TSs)).trans (h3.mono (by simp)))
  have HSt := Lib.hid (SetF.Set A3 c3 N w2 h1 hll)
  clear h h1 h2 h3 HCc
  go_wp2_with fail
  refine HSt.out.mono ?_
  rintro e w3 ⟨A4, c4, rfl, h1, h2, h3⟩
  have hsz : w.heap.size ≤ w2.heap.size := HB.out.size
  have H1 := Lib.hid h1; have H2 := Lib.hid (ownsRow_base h2 hsz); have H3 := Lib.hid (HB.out.trans (h3.mono hsz))
  clear h1 h2 h3 HSt HB
  go_wp2_with fail
  go_ret
  exact ⟨A4, c4, rfl, H1.out, H2.out, H3.out⟩
/-- All lists joined. -/
def joinsV (l : List Lv) : List Sn := joins (l.map (·.L))
theorem joinsV_snoc {l : List Lv} {k : Nat} (h : k < l.length) : joinsV (l.take (k + 1)) = setOf (joinsV (l.take k) ++ l[k].L) := by
  unfold joinsV; rw [List.take_succ_eq_append_getElem h, List.map_append, List.map_singleton, joins_snoc]
theorem joinsV_eq (l : List Lv) : joinsV l = setOf (cat l) := by unfold joinsV cat; rw [joins_eq, List.flatMap_def]
theorem joinsV_len (l : List Lv) : (joinsV l).length ≤ (cat l).length := by rw [joinsV_eq]; exact setOf_len _
set_option maxRecDepth 100000 in
set_option maxHeartbeats 1000000 in
theorem All (A : Option Addr) (c : Nat) (l : List Lv) (w : World) (hS : Sl w 1 A l.length c (l.flatMap lvc)) (hR : ∀ x ∈ l, Rd w x) (hlen : (cat l).length ≤ 1000000) :
    Calls Tryz.prog 21 #[.slice A l.length c] w (LsPost (setOf (cat l)) w) := by
  have hln : l.length ≤ 9223372036854775807 := by have := hS.2.1; have := hS.2.2.1; unfold maxLen at this; omega
  have HS := Lib.hid hS; have HR := Lib.hid hR
  clear hS hR
  go_enter Tryz.func21, Tryz.ntmps21
  go_wp2_with fail
  go_loopg [3, 5, 8] l.length (fun gk v _ i wr => ∃ k : Nat, i = .int .i64 k ∧ k ≤ l.length ∧ gk = l.length - k ∧ ∃ A2 c2, v = .slice A2 (joinsV (l.take k)).length c2 ∧ Ls wr A2 c2 (joinsV (l.take k)) ∧ wr.ownsRow w.heap.size TSn 9 v (joinsV (l.take k)).length ((joinsV (l.take k)).flatMap scs) ∧ Below w.heap.size w wr)
  case atStart => exact ⟨0, rfl, Nat.zero_le _, rfl, none, 0, rfl, Ls.nil _, World.ownsRow_nil _ _ _ _, Below.refl _ _⟩
  case round =>
    obtain ⟨k, rfl, hk, hg, A2, c2, rfl, hls, hown, hbel⟩ := hrel
    have HG := Lib.hid hg; have HL := Lib.hid hls; have HO := Lib.hid hown; have HB := Lib.hid hbel
    have hszw : w.heap.size ≤ wr.heap.size := hbel.size
    clear hg hls hown hbel
    by_cases hlt : k < l.length
    · obtain ⟨b1, o1, rfl, hb1, c1⟩ := HS.out.at hlt (by omega)
      have e0 : wr.cell? ⟨b1, o1 + k, none⟩ = some (.slice l[k].A l[k].L.length l[k].c) := (HB.out.cell (p := ⟨b1, _, none⟩) hb1).trans (c1 k _ (lv_at hlt))
      have HX := Lib.hid ((HR.out _ (List.getElem_mem hlt)).below HB.out)
      have HSn := Lib.hid (joinsV_snoc hlt)
      have h1 := cat_len_le l (k + 1)
      have h2 := joinsV_len (l.take k)
      rw [cat_snoc hlt, List.length_append] at h1
      have h3 : (joinsV (l.take k)).length + l[k].L.length ≤ 1000000 := by omega
      clear c1 hb1 h1 h2
      generalize joinsV (l.take k) = M at *
      generalize l[k] = x at *
      have q1 : (0 : Int) ≤ (k : Int) := by omega
      have q2 : decide ((k : Int) < (l.length : Int)) = true := by simp; omega
      go_wp2_with fail
      refine (Join A2 x.A c2 x.c M x.L wr HL.out HX.out h3).mono ?_
      rintro e w3 ⟨A4, c4, rfl, h1, h2, h4⟩
      have H1 := Lib.hid h1; have H2 := Lib.hid (ownsRow_base h2 hszw); have H3 := Lib.hid (HB.out.trans (h4.mono hszw))
      clear h1 h2 h4
      go_wp2_with fail
      go_roundg (l.length - (k + 1))
      case rel => exact ⟨k + 1, by go_num, by omega, rfl, A4, c4, by rw [HSn.out], by rw [HSn.out]; exact H1.out, by rw [HSn.out]; exact H2.out, H3.out⟩
      case measure => have := HG.out; omega
    · obtain rfl : k = l.length := by omega
      have q2 : decide ((l.length : Int) < (l.length : Int)) = false := by simp
      have HE : Hid (joinsV (l.take l.length) = setOf (cat l)) := by show _ = _; rw [List.take_length, joinsV_eq]
      rw [HE.out] at HL HO ⊢
      go_wp2_with fail
      go_ret
      exact ⟨A2, c2, rfl, HL.out, HO.out, HB.out⟩
end Join
end Go.Proofs.YtdpngmgaomghoaaGreat
namespace Go.Proofs.YtdpngmgaomghoaaGreat
open Go.RowKit
namespace Join
open KeyP PackP SetP SetW SetF Code_ Rank
attribute [local go_sem] Eng.ev Eng.getO_cons Eng.getO_nil
end Join
end Go.Proofs.YtdpngmgaomghoaaGreat
namespace Go.Proofs.YtdpngmgaomghoaaGreat
open Go.RowKit
namespace Join
open KeyP PackP SetP SetW SetF Code_ Rank
attribute [local go_sem] Eng.ev Eng.getO_cons Eng.getO_nil
set_option maxRecDepth 100000 in
set_option maxHeartbeats 400000 in
theorem jm7 {ops : Array Oper} (hops : Eng.fnOps Tryz.f76 7 = ops) (a0 : Act) (Q : Exit → Act → World → Prop) (w0 w : World) (b1 o1 n c Bx : Nat) (y z : Sn) (hy : gk y) (hz : gk z) (hst : At2 w0 w b1 o1 Bx 0 z y)
    (hn : a0.tmps.size = 53) (h_6 : a0.tmps.getD 6 undef = .slice (some ⟨b1, o1, none⟩) (n + 1) c) (h_8 : a0.tmps.getD 8 undef = .pointer (some ⟨Bx, 0, none⟩))
    (hpost : ∀ (x : Nat → Value) (w' : World), x 9 = .string (kk z) → x 10 = .string (kk y) → At2 w0 w' b1 o1 Bx 0 z y → Q .normal (Eng.setAll a0 [9, 10, 23, 24, 25, 26, 27, 28] x) w') :
    (Code.region 7 ops true).wp Tryz.prog Q a0 w := by
  simp only [Eng.fnOps, Eng.regOps, Tryz.f76, Option.bind_some, Option.getD_some, Nat.reduceEqDiff, ↓reduceIte, Nat.reduceBEq] at hops
  subst hops
  have HSt := Lib.hid (hst.fr (Fr.drew _ _))
  have hSS : w.drew.cell? ⟨Bx, 0, none⟩ = some (.int .i64 y.t) ∧ w.drew.cell? ⟨Bx, 1, none⟩ = some (.int .i64 y.i) ∧ w.drew.cell? ⟨Bx, 2, none⟩ = some (.int .i64 y.p) ∧ w.drew.cell? ⟨Bx, 3, none⟩ = some (.int .i64 y.r) ∧ w.drew.cell? ⟨Bx, 4, none⟩ = some (.string y.s) ∧ w.drew.cell? ⟨Bx, 5, none⟩ = some (.string y.o) ∧ w.drew.cell? ⟨Bx, 6, none⟩ = some (.int .i64 y.b) ∧ w.drew.cell? ⟨Bx, 7, none⟩ = some (.int .i64 y.d) ∧ w.drew.cell? ⟨Bx, 8, none⟩ = some (.bool y.g) ∧ w.drew.cell? ⟨b1, o1, none⟩ = some (.int .i64 z.t) ∧ w.drew.cell? ⟨b1, o1 + 1, none⟩ = some (.int .i64 z.i) ∧ w.drew.cell? ⟨b1, o1 + 1 + 1, none⟩ = some (.int .i64 z.p) ∧ w.drew.cell? ⟨b1, o1 + 1 + 1 + 1, none⟩ = some (.int .i64 z.r) ∧ w.drew.cell? ⟨b1, o1 + 1 + 1 + 1 + 1, none⟩ = some (.string z.s) ∧ w.drew.cell? ⟨b1, o1 + 1 + 1 + 1 + 1 + 1, none⟩ = some (.string z.o) ∧ w.drew.cell? ⟨b1, o1 + 1 + 1 + 1 + 1 + 1 + 1, none⟩ = some (.int .i64 z.b) ∧ w.drew.cell? ⟨b1, o1 + 1 + 1 + 1 + 1 + 1 + 1 + 1, none⟩ = some (.int .i64 z.d) ∧ w.drew.cell? ⟨b1, o1 + 1 + 1 + 1 + 1 + 1 + 1 + 1 + 1, none⟩ = some (.bool z.g) := ⟨HSt.out.b 0 _ rfl, HSt.out.b 1 _ rfl, HSt.out.b 2 _ rfl, HSt.out.b 3 _ rfl, HSt.out.b 4 _ rfl, HSt.out.b 5 _ rfl, HSt.out.b 6 _ rfl, HSt.out.b 7 _ rfl, HSt.out.b 8 _ rfl, HSt.out.a 0 _ rfl, HSt.out.a 1 _ rfl, HSt.out.a 2 _ rfl, HSt.out.a 3 _ rfl, HSt.out.a 4 _ rfl, HSt.out.a 5 _ rfl, HSt.out.a 6 _ rfl, HSt.out.a 7 _ rfl, HSt.out.a 8 _ rfl⟩
  refine Eng.regionT (.take 0 (.take 1 (.take 2 (.take 4 (.alt 3 (.alt 5 (.take 6 (.take 7 (.done))) (.stop)) (.stop)))))) (fun w' => w'.cell? ⟨Bx, 0, none⟩ = some (.int .i64 y.t) ∧ w'.cell? ⟨Bx, 1, none⟩ = some (.int .i64 y.i) ∧ w'.cell? ⟨Bx, 2, none⟩ = some (.int .i64 y.p) ∧ w'.cell? ⟨Bx, 3, none⟩ = some (.int .i64 y.r) ∧ w'.cell? ⟨Bx, 4, none⟩ = some (.string y.s) ∧ w'.cell? ⟨Bx, 5, none⟩ = some (.string y.o) ∧ w'.cell? ⟨Bx, 6, none⟩ = some (.int .i64 y.b) ∧ w'.cell? ⟨Bx, 7, none⟩ = some (.int .i64 y.d) ∧ w'.cell? ⟨Bx, 8, none⟩ = some (.bool y.g) ∧ w'.cell? ⟨b1, o1, none⟩ = some (.int .i64 z.t) ∧ w'.cell? ⟨b1, o1 + 1, none⟩ = some (.int .i64 z.i) ∧ w'.cell? ⟨b1, o1 + 1 + 1, none⟩ = some (.int .i64 z.p) ∧ w'.cell? ⟨b1, o1 + 1 + 1 + 1, none⟩ = some (.int .i64 z.r) ∧ w'.cell? ⟨b1, o1 + 1 + 1 + 1 + 1, none⟩ = some (.string z.s) ∧ w'.cell? ⟨b1, o1 + 1 + 1 + 1 + 1 + 1, none⟩ = some (.string z.o) ∧ w'.cell? ⟨b1, o1 + 1 + 1 + 1 + 1 + 1 + 1, none⟩ = some (.int .i64 z.b) ∧ w'.cell? ⟨b1, o1 + 1 + 1 + 1 + 1 + 1 + 1 + 1, none⟩ = some (.int .i64 z.d) ∧ w'.cell? ⟨b1, o1 + 1 + 1 + 1 + 1 + 1 + 1 + 1 + 1, none⟩ = some (.bool z.g)) (by kernel_rfl) 53 hn (by kernel_rfl) (by kernel_rfl) (by kernel_rfl) (hSS) (fun a b ha hb => ?_)
  subst ha
  have hb6 : b 6 = .slice (some ⟨b1, o1, none⟩) (n + 1) c := (hb 6).symm.trans h_6
  have hb8 : b 8 = .pointer (some ⟨Bx, 0, none⟩) := (hb 8).symm.trans h_8
  clear hb h_6 h_8
  have HP := Lib.hid hpost; have HN := Lib.hid hn
  clear hpost hn
  refine Eng.TW.take' (v := ?_) rfl rfl (by decide) (by kernel_rfl) (fun w hw => ?_) ?_
  rotate_left
  · (try dsimp only at hw); go_simp; first | done | with_reducible rfl
  refine Eng.TW.take' (v := ?_) rfl rfl (by decide) (by kernel_rfl) (fun w hw => ?_) ?_
  rotate_left
  · (try dsimp only at hw); go_simp; first | done | with_reducible rfl
  refine Eng.TW.take' (v := ?_) rfl rfl (by decide) (by kernel_rfl) (fun w hw => ?_) ?_
  rotate_left
  · (try dsimp only at hw); go_simp; first | done | with_reducible rfl
  refine Eng.TW.take' (v := ?_) rfl rfl (by decide) (by kernel_rfl) (fun w hw => ?_) ?_
  rotate_left
  · (try dsimp only at hw); go_simp; first | done | with_reducible rfl
  refine Eng.TW.call rfl rfl (by decide) (by kernel_rfl) ?_ (Key.Span' z hz.1 hz.2 _) ?_
  · go_simp
  rintro e w2 ⟨rfl, hf⟩
  have HSt2 := Lib.hid (HSt.out.fr hf)
  have hSS : w2.cell? ⟨Bx, 0, none⟩ = some (.int .i64 y.t) ∧ w2.cell? ⟨Bx, 1, none⟩ = some (.int .i64 y.i) ∧ w2.cell? ⟨Bx, 2, none⟩ = some (.int .i64 y.p) ∧ w2.cell? ⟨Bx, 3, none⟩ = some (.int .i64 y.r) ∧ w2.cell? ⟨Bx, 4, none⟩ = some (.string y.s) ∧ w2.cell? ⟨Bx, 5, none⟩ = some (.string y.o) ∧ w2.cell? ⟨Bx, 6, none⟩ = some (.int .i64 y.b) ∧ w2.cell? ⟨Bx, 7, none⟩ = some (.int .i64 y.d) ∧ w2.cell? ⟨Bx, 8, none⟩ = some (.bool y.g) ∧ w2.cell? ⟨b1, o1, none⟩ = some (.int .i64 z.t) ∧ w2.cell? ⟨b1, o1 + 1, none⟩ = some (.int .i64 z.i) ∧ w2.cell? ⟨b1, o1 + 1 + 1, none⟩ = some (.int .i64 z.p) ∧ w2.cell? ⟨b1, o1 + 1 + 1 + 1, none⟩ = some (.int .i64 z.r) ∧ w2.cell? ⟨b1, o1 + 1 + 1 + 1 + 1, none⟩ = some (.string z.s) ∧ w2.cell? ⟨b1, o1 + 1 + 1 + 1 + 1 + 1, none⟩ = some (.string z.o) ∧ w2.cell? ⟨b1, o1 + 1 + 1 + 1 + 1 + 1 + 1, none⟩ = some (.int .i64 z.b) ∧ w2.cell? ⟨b1, o1 + 1 + 1 + 1 + 1 + 1 + 1 + 1, none⟩ = some (.int .i64 z.d) ∧ w2.cell? ⟨b1, o1 + 1 + 1 + 1 + 1 + 1 + 1 + 1 + 1, none⟩ = some (.bool z.g) := ⟨HSt2.out.b 0 _ rfl, HSt2.out.b 1 _ rfl, HSt2.out.b 2 _ rfl, HSt2.out.b 3 _ rfl, HSt2.out.b 4 _ rfl, HSt2.out.b 5 _ rfl, HSt2.out.b 6 _ rfl, HSt2.out.b 7 _ rfl, HSt2.out.b 8 _ rfl, HSt2.out.a 0 _ rfl, HSt2.out.a 1 _ rfl, HSt2.out.a 2 _ rfl, HSt2.out.a 3 _ rfl, HSt2.out.a 4 _ rfl, HSt2.out.a 5 _ rfl, HSt2.out.a 6 _ rfl, HSt2.out.a 7 _ rfl, HSt2.out.a 8 _ rfl⟩
  clear hf
  refine ⟨_, rfl, hSS, ?_⟩
  refine Eng.TW.call rfl rfl (by decide) (by kernel_rfl) ?_ (Key.Span' y hy.1 hy.2 _) ?_
  · go_simp
  rintro e w3 ⟨rfl, hf⟩
  have HSt3 := Lib.hid (HSt2.out.fr hf)
  have hSS : w3.cell? ⟨Bx, 0, none⟩ = some (.int .i64 y.t) ∧ w3.cell? ⟨Bx, 1, none⟩ = some (.int .i64 y.i) ∧ w3.cell? ⟨Bx, 2, none⟩ = some (.int .i64 y.p) ∧ w3.cell? ⟨Bx, 3, none⟩ = some (.int .i64 y.r) ∧ w3.cell? ⟨Bx, 4, none⟩ = some (.string y.s) ∧ w3.cell? ⟨Bx, 5, none⟩ = some (.string y.o) ∧ w3.cell? ⟨Bx, 6, none⟩ = some (.int .i64 y.b) ∧ w3.cell? ⟨Bx, 7, none⟩ = some (.int .i64 y.d) ∧ w3.cell? ⟨Bx, 8, none⟩ = some (.bool y.g) ∧ w3.cell? ⟨b1, o1, none⟩ = some (.int .i64 z.t) ∧ w3.cell? ⟨b1, o1 + 1, none⟩ = some (.int .i64 z.i) ∧ w3.cell? ⟨b1, o1 + 1 + 1, none⟩ = some (.int .i64 z.p) ∧ w3.cell? ⟨b1, o1 + 1 + 1 + 1, none⟩ = some (.int .i64 z.r) ∧ w3.cell? ⟨b1, o1 + 1 + 1 + 1 + 1, none⟩ = some (.string z.s) ∧ w3.cell? ⟨b1, o1 + 1 + 1 + 1 + 1 + 1, none⟩ = some (.string z.o) ∧ w3.cell? ⟨b1, o1 + 1 + 1 + 1 + 1 + 1 + 1, none⟩ = some (.int .i64 z.b) ∧ w3.cell? ⟨b1, o1 + 1 + 1 + 1 + 1 + 1 + 1 + 1, none⟩ = some (.int .i64 z.d) ∧ w3.cell? ⟨b1, o1 + 1 + 1 + 1 + 1 + 1 + 1 + 1 + 1, none⟩ = some (.bool z.g) := ⟨HSt3.out.b 0 _ rfl, HSt3.out.b 1 _ rfl, HSt3.out.b 2 _ rfl, HSt3.out.b 3 _ rfl, HSt3.out.b 4 _ rfl, HSt3.out.b 5 _ rfl, HSt3.out.b 6 _ rfl, HSt3.out.b 7 _ rfl, HSt3.out.b 8 _ rfl, HSt3.out.a 0 _ rfl, HSt3.out.a 1 _ rfl, HSt3.out.a 2 _ rfl, HSt3.out.a 3 _ rfl, HSt3.out.a 4 _ rfl, HSt3.out.a 5 _ rfl, HSt3.out.a 6 _ rfl, HSt3.out.a 7 _ rfl, HSt3.out.a 8 _ rfl⟩
  clear hf
  refine ⟨_, rfl, hSS, ?_⟩
  refine Eng.TW.take' (v := ?_) rfl rfl (by decide) (by kernel_rfl) (fun w hw => ?_) ?_
  rotate_left
  · (try dsimp only at hw); go_simp; first | done | with_reducible rfl
  refine Eng.TW.take' (v := ?_) rfl rfl (by decide) (by kernel_rfl) (fun w hw => ?_) ?_
  rotate_left
  · (try dsimp only at hw); go_simp; first | done | with_reducible rfl
  refine Eng.TW.end_ [9, 10, 23, 24, 25, 26, 27, 28] HN.out (by kernel_rfl) (by kernel_rfl) ?_
  exact HP.out _ _ rfl rfl HSt3.out

set_option maxRecDepth 100000 in
set_option maxHeartbeats 400000 in
theorem jm10 {ops : Array Oper} (hops : Eng.fnOps Tryz.f76 10 = ops) (a0 : Act) (Q : Exit → Act → World → Prop) (w0 w : World) (b1 o1 n c Bx : Nat) (y z : Sn) (hy : y.ok) (hz : z.ok) (kz ky : ByteArray) (he : (kz.toList == ky.toList) = true) (hst : At2 w0 w b1 o1 Bx 0 z y)
    (hn : a0.tmps.size = 53) (h_6 : a0.tmps.getD 6 undef = .slice (some ⟨b1, o1, none⟩) (n + 1) c) (h_8 : a0.tmps.getD 8 undef = .pointer (some ⟨Bx, 0, none⟩)) (h_9 : a0.tmps.getD 9 undef = .string kz) (h_10 : a0.tmps.getD 10 undef = .string ky)
    (hpost : ∀ (x : Nat → Value) (w' : World), x 35 = .bool (!nwr y z) → At2 w0 w' b1 o1 Bx 0 z y → Q .normal (Eng.setAll a0 [35, 36, 37, 38, 39, 40, 41, 42, 43, 44, 45, 46] x) w') :
    (Code.region 10 ops true).wp Tryz.prog Q a0 w := by
  simp only [Eng.fnOps, Eng.regOps, Tryz.f76, Option.bind_some, Option.getD_some, Nat.reduceEqDiff, ↓reduceIte, Nat.reduceBEq] at hops
  subst hops
  have HSt := Lib.hid (hst.fr (Fr.drew _ _))
  have hSS : w.drew.cell? ⟨Bx, 0, none⟩ = some (.int .i64 y.t) ∧ w.drew.cell? ⟨Bx, 1, none⟩ = some (.int .i64 y.i) ∧ w.drew.cell? ⟨Bx, 2, none⟩ = some (.int .i64 y.p) ∧ w.drew.cell? ⟨Bx, 3, none⟩ = some (.int .i64 y.r) ∧ w.drew.cell? ⟨Bx, 4, none⟩ = some (.string y.s) ∧ w.drew.cell? ⟨Bx, 5, none⟩ = some (.string y.o) ∧ w.drew.cell? ⟨Bx, 6, none⟩ = some (.int .i64 y.b) ∧ w.drew.cell? ⟨Bx, 7, none⟩ = some (.int .i64 y.d) ∧ w.drew.cell? ⟨Bx, 8, none⟩ = some (.bool y.g) ∧ w.drew.cell? ⟨b1, o1, none⟩ = some (.int .i64 z.t) ∧ w.drew.cell? ⟨b1, o1 + 1, none⟩ = some (.int .i64 z.i) ∧ w.drew.cell? ⟨b1, o1 + 1 + 1, none⟩ = some (.int .i64 z.p) ∧ w.drew.cell? ⟨b1, o1 + 1 + 1 + 1, none⟩ = some (.int .i64 z.r) ∧ w.drew.cell? ⟨b1, o1 + 1 + 1 + 1 + 1, none⟩ = some (.string z.s) ∧ w.drew.cell? ⟨b1, o1 + 1 + 1 + 1 + 1 + 1, none⟩ = some (.string z.o) ∧ w.drew.cell? ⟨b1, o1 + 1 + 1 + 1 + 1 + 1 + 1, none⟩ = some (.int .i64 z.b) ∧ w.drew.cell? ⟨b1, o1 + 1 + 1 + 1 + 1 + 1 + 1 + 1, none⟩ = some (.int .i64 z.d) ∧ w.drew.cell? ⟨b1, o1 + 1 + 1 + 1 + 1 + 1 + 1 + 1 + 1, none⟩ = some (.bool z.g) := ⟨HSt.out.b 0 _ rfl, HSt.out.b 1 _ rfl, HSt.out.b 2 _ rfl, HSt.out.b 3 _ rfl, HSt.out.b 4 _ rfl, HSt.out.b 5 _ rfl, HSt.out.b 6 _ rfl, HSt.out.b 7 _ rfl, HSt.out.b 8 _ rfl, HSt.out.a 0 _ rfl, HSt.out.a 1 _ rfl, HSt.out.a 2 _ rfl, HSt.out.a 3 _ rfl, HSt.out.a 4 _ rfl, HSt.out.a 5 _ rfl, HSt.out.a 6 _ rfl, HSt.out.a 7 _ rfl, HSt.out.a 8 _ rfl⟩
  refine Eng.regionT (.take 0 (.take 1 (.take 2 (.take 3 (.take 4 (.take 5 (.take 6 (.take 7 (.alt 8 (.take 9 (.take 10 (.take 11 (.done)))) (.stop)))))))))) (fun w' => w'.cell? ⟨Bx, 0, none⟩ = some (.int .i64 y.t) ∧ w'.cell? ⟨Bx, 1, none⟩ = some (.int .i64 y.i) ∧ w'.cell? ⟨Bx, 2, none⟩ = some (.int .i64 y.p) ∧ w'.cell? ⟨Bx, 3, none⟩ = some (.int .i64 y.r) ∧ w'.cell? ⟨Bx, 4, none⟩ = some (.string y.s) ∧ w'.cell? ⟨Bx, 5, none⟩ = some (.string y.o) ∧ w'.cell? ⟨Bx, 6, none⟩ = some (.int .i64 y.b) ∧ w'.cell? ⟨Bx, 7, none⟩ = some (.int .i64 y.d) ∧ w'.cell? ⟨Bx, 8, none⟩ = some (.bool y.g) ∧ w'.cell? ⟨b1, o1, none⟩ = some (.int .i64 z.t) ∧ w'.cell? ⟨b1, o1 + 1, none⟩ = some (.int .i64 z.i) ∧ w'.cell? ⟨b1, o1 + 1 + 1, none⟩ = some (.int .i64 z.p) ∧ w'.cell? ⟨b1, o1 + 1 + 1 + 1, none⟩ = some (.int .i64 z.r) ∧ w'.cell? ⟨b1, o1 + 1 + 1 + 1 + 1, none⟩ = some (.string z.s) ∧ w'.cell? ⟨b1, o1 + 1 + 1 + 1 + 1 + 1, none⟩ = some (.string z.o) ∧ w'.cell? ⟨b1, o1 + 1 + 1 + 1 + 1 + 1 + 1, none⟩ = some (.int .i64 z.b) ∧ w'.cell? ⟨b1, o1 + 1 + 1 + 1 + 1 + 1 + 1 + 1, none⟩ = some (.int .i64 z.d) ∧ w'.cell? ⟨b1, o1 + 1 + 1 + 1 + 1 + 1 + 1 + 1 + 1, none⟩ = some (.bool z.g)) (by kernel_rfl) 53 hn (by kernel_rfl) (by kernel_rfl) (by kernel_rfl) (hSS) (fun a b ha hb => ?_)
  subst ha
  have hb6 : b 6 = .slice (some ⟨b1, o1, none⟩) (n + 1) c := (hb 6).symm.trans h_6
  have hb8 : b 8 = .pointer (some ⟨Bx, 0, none⟩) := (hb 8).symm.trans h_8
  have hb9 : b 9 = .string kz := (hb 9).symm.trans h_9
  have hb10 : b 10 = .string ky := (hb 10).symm.trans h_10
  clear hb h_6 h_8 h_9 h_10
  have HP := Lib.hid hpost; have HN := Lib.hid hn
  clear hpost hn
  refine Eng.TW.take' (v := ?_) rfl rfl (by decide) (by kernel_rfl) (fun w hw => ?_) ?_
  rotate_left
  · (try dsimp only at hw); go_simp; first | done | with_reducible rfl
  refine Eng.TW.take' (v := ?_) rfl rfl (by decide) (by kernel_rfl) (fun w hw => ?_) ?_
  rotate_left
  · (try dsimp only at hw); go_simp; first | done | with_reducible rfl
  refine Eng.TW.take' (v := ?_) rfl rfl (by decide) (by kernel_rfl) (fun w hw => ?_) ?_
  rotate_left
  · (try dsimp only at hw); go_simp; first | done | with_reducible rfl
  refine Eng.TW.take' (v := ?_) rfl rfl (by decide) (by kernel_rfl) (fun w hw => ?_) ?_
  rotate_left
  · (try dsimp only at hw); go_simp; first | done | with_reducible rfl
  refine Eng.TW.take' (v := ?_) rfl rfl (by decide) (by kernel_rfl) (fun w hw => ?_) ?_
  rotate_left
  · (try dsimp only at hw); go_simp; first | done | with_reducible rfl
  refine Eng.TW.take' (v := ?_) rfl rfl (by decide) (by kernel_rfl) (fun w hw => ?_) ?_
  rotate_left
  · (try dsimp only at hw); go_simp; first | done | with_reducible rfl
  refine Eng.TW.take' (v := ?_) rfl rfl (by decide) (by kernel_rfl) (fun w hw => ?_) ?_
  rotate_left
  · (try dsimp only at hw); go_simp; first | done | with_reducible rfl
  refine Eng.TW.take' (v := ?_) rfl rfl (by decide) (by kernel_rfl) (fun w hw => ?_) ?_
  rotate_left
  · (try dsimp only at hw); go_simp; first | done | with_reducible rfl
  refine Eng.TW.call rfl rfl (by decide) (by kernel_rfl) ?_ (Newer y z hy hz _) ?_
  · go_simp
  rintro e w2 ⟨rfl, hf⟩
  have HSt2 := Lib.hid (HSt.out.fr hf)
  have hSS : w2.cell? ⟨Bx, 0, none⟩ = some (.int .i64 y.t) ∧ w2.cell? ⟨Bx, 1, none⟩ = some (.int .i64 y.i) ∧ w2.cell? ⟨Bx, 2, none⟩ = some (.int .i64 y.p) ∧ w2.cell? ⟨Bx, 3, none⟩ = some (.int .i64 y.r) ∧ w2.cell? ⟨Bx, 4, none⟩ = some (.string y.s) ∧ w2.cell? ⟨Bx, 5, none⟩ = some (.string y.o) ∧ w2.cell? ⟨Bx, 6, none⟩ = some (.int .i64 y.b) ∧ w2.cell? ⟨Bx, 7, none⟩ = some (.int .i64 y.d) ∧ w2.cell? ⟨Bx, 8, none⟩ = some (.bool y.g) ∧ w2.cell? ⟨b1, o1, none⟩ = some (.int .i64 z.t) ∧ w2.cell? ⟨b1, o1 + 1, none⟩ = some (.int .i64 z.i) ∧ w2.cell? ⟨b1, o1 + 1 + 1, none⟩ = some (.int .i64 z.p) ∧ w2.cell? ⟨b1, o1 + 1 + 1 + 1, none⟩ = some (.int .i64 z.r) ∧ w2.cell? ⟨b1, o1 + 1 + 1 + 1 + 1, none⟩ = some (.string z.s) ∧ w2.cell? ⟨b1, o1 + 1 + 1 + 1 + 1 + 1, none⟩ = some (.string z.o) ∧ w2.cell? ⟨b1, o1 + 1 + 1 + 1 + 1 + 1 + 1, none⟩ = some (.int .i64 z.b) ∧ w2.cell? ⟨b1, o1 + 1 + 1 + 1 + 1 + 1 + 1 + 1, none⟩ = some (.int .i64 z.d) ∧ w2.cell? ⟨b1, o1 + 1 + 1 + 1 + 1 + 1 + 1 + 1 + 1, none⟩ = some (.bool z.g) := ⟨HSt2.out.b 0 _ rfl, HSt2.out.b 1 _ rfl, HSt2.out.b 2 _ rfl, HSt2.out.b 3 _ rfl, HSt2.out.b 4 _ rfl, HSt2.out.b 5 _ rfl, HSt2.out.b 6 _ rfl, HSt2.out.b 7 _ rfl, HSt2.out.b 8 _ rfl, HSt2.out.a 0 _ rfl, HSt2.out.a 1 _ rfl, HSt2.out.a 2 _ rfl, HSt2.out.a 3 _ rfl, HSt2.out.a 4 _ rfl, HSt2.out.a 5 _ rfl, HSt2.out.a 6 _ rfl, HSt2.out.a 7 _ rfl, HSt2.out.a 8 _ rfl⟩
  clear hf
  refine ⟨_, rfl, hSS, ?_⟩
  refine Eng.TW.take' (v := ?_) rfl rfl (by decide) (by kernel_rfl) (fun w hw => ?_) ?_
  rotate_left
  · (try dsimp only at hw); go_simp; first | done | with_reducible rfl
  refine Eng.TW.take' (v := ?_) rfl rfl (by decide) (by kernel_rfl) (fun w hw => ?_) ?_
  rotate_left
  · (try dsimp only at hw); go_simp; first | done | with_reducible rfl
  refine Eng.TW.take' (v := ?_) rfl rfl (by decide) (by kernel_rfl) (fun w hw => ?_) ?_
  rotate_left
  · (try dsimp only at hw); go_simp; first | done | with_reducible rfl
  refine Eng.TW.end_ [35, 36, 37, 38, 39, 40, 41, 42, 43, 44, 45, 46] HN.out (by kernel_rfl) (by kernel_rfl) ?_
  exact HP.out _ _ rfl HSt2.out

set_option maxRecDepth 100000 in
set_option maxHeartbeats 400000 in
theorem jm10n {ops : Array Oper} (hops : Eng.fnOps Tryz.f76 10 = ops) (a0 : Act) (Q : Exit → Act → World → Prop) (w0 w : World) (kz ky : ByteArray) (he : (kz.toList == ky.toList) = false) (hst : Fr (fun _ => False) w0 w)
    (hn : a0.tmps.size = 53) (h_9 : a0.tmps.getD 9 undef = .string kz) (h_10 : a0.tmps.getD 10 undef = .string ky)
    (hpost : ∀ (x : Nat → Value) (w' : World), x 35 = .bool false → Fr (fun _ => False) w0 w' → Q .normal (Eng.setAll a0 [35, 36, 37, 38, 39, 40, 41, 42, 43, 44, 45, 46] x) w') :
    (Code.region 10 ops true).wp Tryz.prog Q a0 w := by
  simp only [Eng.fnOps, Eng.regOps, Tryz.f76, Option.bind_some, Option.getD_some, Nat.reduceEqDiff, ↓reduceIte, Nat.reduceBEq] at hops
  subst hops
  have HSt := Lib.hid (hst.trans (Fr.drew (fun _ => False) _) (T := fun _ => False) (fun _ _ h => h) (fun _ _ h => h))
  have hSS : True := trivial
  refine Eng.regionT (.take 0 (.take 1 (.take 2 (.take 3 (.take 4 (.take 5 (.take 6 (.take 7 (.take 8 (.take 9 (.take 10 (.take 11 (.done))))))))))))) (fun w' => True) (by kernel_rfl) 53 hn (by kernel_rfl) (by kernel_rfl) (by kernel_rfl) (hSS) (fun a b ha hb => ?_)
  subst ha
  have hb9 : b 9 = .string kz := (hb 9).symm.trans h_9
  have hb10 : b 10 = .string ky := (hb 10).symm.trans h_10
  clear hb h_9 h_10
  have HP := Lib.hid hpost; have HN := Lib.hid hn
  clear hpost hn
  refine Eng.TW.take' (v := ?_) rfl rfl (by decide) (by kernel_rfl) (fun w hw => ?_) ?_
  rotate_left
  · (try dsimp only at hw); go_simp; first | done | with_reducible rfl
  refine Eng.TW.take' (v := ?_) rfl rfl (by decide) (by kernel_rfl) (fun w hw => ?_) ?_
  rotate_left
  · (try dsimp only at hw); go_simp; first | done | with_reducible rfl
  refine Eng.TW.take' (v := ?_) rfl rfl (by decide) (by kernel_rfl) (fun w hw => ?_) ?_
  rotate_left
  · (try dsimp only at hw); go_simp; first | done | with_reducible rfl
  refine Eng.TW.take' (v := ?_) rfl rfl (by decide) (by kernel_rfl) (fun w hw => ?_) ?_
  rotate_left
  · (try dsimp only at hw); go_simp; first | done | with_reducible rfl
  refine Eng.TW.skip rfl rfl (by decide) (by kernel_rfl) ?_
  refine Eng.TW.skip rfl rfl (by decide) (by kernel_rfl) ?_
  refine Eng.TW.skip rfl rfl (by decide) (by kernel_rfl) ?_
  refine Eng.TW.skip rfl rfl (by decide) (by kernel_rfl) ?_
  refine Eng.TW.skip rfl rfl (by decide) (by kernel_rfl) ?_
  refine Eng.TW.skip rfl rfl (by decide) (by kernel_rfl) ?_
  refine Eng.TW.take' (v := ?_) rfl rfl (by decide) (by kernel_rfl) (fun w hw => ?_) ?_
  rotate_left
  · (try dsimp only at hw); go_simp; first | done | with_reducible rfl
  refine Eng.TW.take' (v := ?_) rfl rfl (by decide) (by kernel_rfl) (fun w hw => ?_) ?_
  rotate_left
  · (try dsimp only at hw); go_simp; first | done | with_reducible rfl
  refine Eng.TW.end_ [35, 36, 37, 38, 39, 40, 41, 42, 43, 44, 45, 46] HN.out (by kernel_rfl) (by kernel_rfl) ?_
  exact HP.out _ _ rfl HSt.out

theorem at0 {w : World} {b o : Nat} {z : Sn} {N : List Sn} (hc : ∀ j u, ((z :: N).flatMap scs)[j]? = some u → w.cell? ⟨b, o + j, none⟩ = some u) : At w b o z := by
  have := At.row (L := z :: N) hc (k := 0) (by simp)
  simpa using this
/-- The program's loop: what was found, and what is left of the one set. -/
structure MS (w2 : World) (X Y : List Sn) (k : Nat) (v u : Value) (wr : World) : Prop where
  o : wr.ownsRow w2.heap.size TSn 9 v ((Y.take k).filter (bring X)).length (((Y.take k).filter (bring X)).flatMap scs)
  b : Below w2.heap.size w2 wr
  l : ∃ P N A c, X = P ++ N ∧ u = .slice A N.length c ∧ Sl w2 9 A N.length c (N.flatMap scs) ∧ ∀ p ∈ P, ∀ h : k < Y.length, bef p Y[k] = true
theorem next_bef {Y : List Sn} (hs : Srs Y) {k : Nat} {y : Sn} (hk : k < Y.length) (hy : Y[k] = y) {P : List Sn} (hP : ∀ p ∈ P, bef p y = true) : ∀ p ∈ P, ∀ h : k + 1 < Y.length, bef p Y[k + 1] = true := fun p hp h => by
  have := List.pairwise_iff_getElem.1 hs k (k + 1) hk h (by omega)
  rw [hy] at this
  exact bef_tr (hP p hp) this
set_option maxRecDepth 100000 in
set_option maxHeartbeats 4000000 in
/-- What is missing: the program's. -/
theorem Missing (A A2 : Option Addr) (c c2 : Nat) (a b : List Sn) (w : World) (h1 : Ls w A c a) (h2 : Ls w A2 c2 b) (hl1 : a.length ≤ 1000000) (hl2 : b.length ≤ 1000000) :
    Calls Tryz.prog 76 #[.slice A a.length c, .slice A2 b.length c2] w (LsPost (miss a b) w) := by
  obtain ⟨i0, hi, hz0, hz1, hz2⟩ := info_parts infoS
  have HMok : Hid (∀ x ∈ miss a b, x.ok) := fun x hx => set_ok h2.ok x (List.mem_filter.1 hx).1
  have HLn1 : Hid ((setOf a).length ≤ 1000000) := Nat.le_trans (setOf_len a) hl1
  have HLn2 : Hid ((setOf b).length ≤ 1000000) := Nat.le_trans (setOf_len b) hl2
  have HS1 := Lib.hid (SetF.Set A c a w h1 hl1)
  have HL2 := Lib.hid h2
  have HMs : Hid (miss a b = (setOf b).filter (bring (setOf a))) := rfl
  have HSx : Hid (Srs (setOf a)) := (setOf_ok a).srs
  have HSy : Hid (Srs (setOf b)) := (setOf_ok b).srs
  clear h1 h2
  go_enter Tryz.func76, Tryz.ntmps76
  go_wp2_with fail
  go_step3
  go_wp2_with fail
  refine HS1.out.mono ?_
  rintro e w1 ⟨A3, c3, rfl, k1, -, k3⟩
  have HX1 := Lib.hid k1; have HB1 := Lib.hid k3
  have HS2 := Lib.hid (SetF.Set A2 c2 b w1 (HL2.out.below k3) hl2)
  clear k1 k3 HS1 HL2
  go_wp2_with fail
  go_step3
  go_wp2_with fail
  refine HS2.out.mono ?_
  rintro e w2 ⟨A4, c4, rfl, k1, -, k3⟩
  have HX := Lib.hid (HX1.out.below k3); have HY := Lib.hid k1; have HB2 := Lib.hid (HB1.out.trans (k3.mono HB1.out.size))
  clear k1 k3 HS2 HX1 HB1
  generalize miss a b = M0 at *
  generalize setOf a = X at *
  generalize setOf b = Y at *
  have hyl : Y.length ≤ 9223372036854775807 := by have := HLn2.out; omega
  have hyl2 := HLn2.out
  go_wp2_with fail
  go_loopg [5, 6, 16] Y.length (fun gk v u i wr => ∃ k : Nat, i = .int .i64 k ∧ k ≤ Y.length ∧ gk = Y.length - k ∧ MS w2 X Y k v u wr)
  case atStart => exact ⟨0, rfl, Nat.zero_le _, rfl, World.ownsRow_nil _ _ _ _, Below.refl _ _, [], X, A3, c3, rfl, rfl, HX.out.s, by simp⟩
  case round =>
    obtain ⟨k, rfl, hk, hg, hms⟩ := hrel
    have HG := Lib.hid hg; have HM := Lib.hid hms
    have hszw : w2.heap.size ≤ wr.heap.size := hms.b.size
    clear hg hms
    by_cases hlt : k < Y.length
    · have HYr := Lib.hid (HY.out.below HM.out.b)
      obtain ⟨b1, o1, rfl, hb1, c1⟩ := HYr.out.s.at hlt (by omega)
      have HA := Lib.hid (At.row c1 hlt)
      have HOky := Lib.hid (HY.out.ok _ (List.getElem_mem hlt))
      have HSn := Lib.hid (filter_snoc (p := bring X) hlt)
      have hfl : ((Y.take k).filter (bring X)).length ≤ k := Nat.le_trans (List.length_filter_le _ _) (by rw [List.length_take]; omega)
      have HFl := Lib.hid hfl
      obtain ⟨y, hy⟩ : ∃ y, Hid (Y[k] = y) := ⟨_, Lib.hid rfl⟩
      rw [hy.out] at HA HOky HSn
      have HL : Hid (∃ P N A c, X = P ++ N ∧ u6 = .slice A N.length c ∧ Sl w2 9 A N.length c (N.flatMap scs) ∧ ∀ p ∈ P, bef p y = true) := by
        obtain ⟨P, N, A, c, l1, l2, l3, l4⟩ := HM.out.l
        exact ⟨P, N, A, c, l1, l2, l3, fun p hp => by have := l4 p hp hlt; rwa [hy.out] at this⟩
      have HO := Lib.hid HM.out.o; have HB := Lib.hid HM.out.b
      have HGk : Hid (SetP.gk y) := ⟨HOky.out.t, HOky.out.i⟩
      clear c1 hb1 hfl HM
      have q1 : (0 : Int) ≤ (k : Int) := by omega
      have q2 : decide ((k : Int) < (Y.length : Int)) = true := by simp; omega
      obtain ⟨P0, N0, A0, c0, hX0, rfl, hs0, hP0⟩ := HL.out
      have HX0 := Lib.hid hX0; have HS0 := Lib.hid hs0; have HP0 := Lib.hid hP0
      clear HL hX0 hs0 hP0
      go_upto_block 1 with (fail)
      go_cut [5, 6] (fun v u wc => MS w2 X Y (k + 1) v u wc)
      case first =>
        have yc0 : wr.cell? ⟨b1, o1 + k * 9, none⟩ = some (.int .i64 y.t) := HA.out 0 _ rfl
        have yc1 : wr.cell? ⟨b1, o1 + k * 9 + 1, none⟩ = some (.int .i64 y.i) := HA.out 1 _ rfl
        have yc2 : wr.cell? ⟨b1, o1 + k * 9 + 1 + 1, none⟩ = some (.int .i64 y.p) := HA.out 2 _ rfl
        have yc3 : wr.cell? ⟨b1, o1 + k * 9 + 1 + 1 + 1, none⟩ = some (.int .i64 y.r) := HA.out 3 _ rfl
        have yc4 : wr.cell? ⟨b1, o1 + k * 9 + 1 + 1 + 1 + 1, none⟩ = some (.string y.s) := HA.out 4 _ rfl
        have yc5 : wr.cell? ⟨b1, o1 + k * 9 + 1 + 1 + 1 + 1 + 1, none⟩ = some (.string y.o) := HA.out 5 _ rfl
        have yc6 : wr.cell? ⟨b1, o1 + k * 9 + 1 + 1 + 1 + 1 + 1 + 1, none⟩ = some (.int .i64 y.b) := HA.out 6 _ rfl
        have yc7 : wr.cell? ⟨b1, o1 + k * 9 + 1 + 1 + 1 + 1 + 1 + 1 + 1, none⟩ = some (.int .i64 y.d) := HA.out 7 _ rfl
        have yc8 : wr.cell? ⟨b1, o1 + k * 9 + 1 + 1 + 1 + 1 + 1 + 1 + 1 + 1, none⟩ = some (.bool y.g) := HA.out 8 _ rfl
        go_upto_region 6 with (fail)
        have hbx := Bk.new wr y.arr TSn
        have hfa := Fr.alloc (fun _ => False) wr (.cells y.arr TSn)
        generalize hwb : (wr.alloc (.cells y.arr TSn)) = wb at *
        generalize wr.heap.size = Bx at *
        have HBx := Lib.hid (At.box hbx); have HFa := Lib.hid hfa
        have HOb := Lib.hid (ownsRow_fr HO.out hfa (fun _ _ h => h)); have HBb := Lib.hid (HB.out.trans (hfa.below HB.out.size (fun _ _ h => h)))
        have hszb : w2.heap.size ≤ wb.heap.size := HBb.out.size
        clear hbx hfa hwb yc0 yc1 yc2 yc3 yc4 yc5 yc6 yc7 yc8
        go_loopg [6] N0.length (fun gk u wr => ∃ P N A c, gk = N.length ∧ X = P ++ N ∧ u = .slice A N.length c ∧ Sl w2 9 A N.length c (N.flatMap scs) ∧ (∀ p ∈ P, bef p y = true) ∧ Fr (fun _ => False) wb wr)
        case atStart => exact ⟨P0, N0, A0, c0, rfl, HX0.out, rfl, HS0.out, HP0.out, Fr.refl _ _⟩
        case round =>
          clear HX0 HS0 HP0
          obtain ⟨P, N, A5, c5, hg, hX, rfl, hs, hP, hf⟩ := hrel
          have HG5 := Lib.hid hg; have HX5 := Lib.hid hX; have HS5 := Lib.hid hs; have HP5 := Lib.hid hP; have HF5 := Lib.hid hf
          clear hg hX hs hP hf
          have HBx5 := Lib.hid (HBx.out.keep HF5.out)
          cases N with
          | nil =>
            have HE : Hid ((Y.take (k + 1)).filter (bring X) = (Y.take k).filter (bring X) ++ [y]) := by
              show _ = _
              have h := HX5.out
              rw [List.append_nil] at h
              rw [HSn.out, h, bring_end HP5.out]; rfl
            have HF6 := HF5; have HA6 := HBx5
            have HL6 : Hid (∃ P N A c, X = P ++ N ∧ Value.slice A5 ([] : List Sn).length c5 = .slice A N.length c ∧ Sl w2 9 A N.length c (N.flatMap scs) ∧ ∀ p ∈ P, ∀ h : k + 1 < Y.length, bef p Y[k + 1] = true) := ⟨P, [], A5, c5, HX5.out, rfl, HS5.out, next_bef HSy.out hlt hy.out HP5.out⟩
            have HNil := Lib.hid True.intro
            have HO6 := Lib.hid (ownsRow_fr HOb.out HF6.out (fun _ _ h => h))
            have HB6 := Lib.hid (HBb.out.trans (HF6.out.below hszb (fun _ _ h => h)))
            have hsz6 := HB6.out.size
            have hfl := HFl.out
            have hown' := HO6.out.alloc (.cells y.arr TSn)
            have yc0 : wr.cell? ⟨Bx, 0, none⟩ = some (.int .i64 y.t) := HA6.out 0 _ rfl
            have yc1 : wr.cell? ⟨Bx, 1, none⟩ = some (.int .i64 y.i) := HA6.out 1 _ rfl
            have yc2 : wr.cell? ⟨Bx, 2, none⟩ = some (.int .i64 y.p) := HA6.out 2 _ rfl
            have yc3 : wr.cell? ⟨Bx, 3, none⟩ = some (.int .i64 y.r) := HA6.out 3 _ rfl
            have yc4 : wr.cell? ⟨Bx, 4, none⟩ = some (.string y.s) := HA6.out 4 _ rfl
            have yc5 : wr.cell? ⟨Bx, 5, none⟩ = some (.string y.o) := HA6.out 5 _ rfl
            have yc6 : wr.cell? ⟨Bx, 6, none⟩ = some (.int .i64 y.b) := HA6.out 6 _ rfl
            have yc7 : wr.cell? ⟨Bx, 7, none⟩ = some (.int .i64 y.d) := HA6.out 7 _ rfl
            have yc8 : wr.cell? ⟨Bx, 8, none⟩ = some (.bool y.g) := HA6.out 8 _ rfl
            go_wp2_with (at_builtin; refine wpList_append_sl _ rfl (.tmp 47) (.tmp 49) TSs rfl w2.heap.size TSn i0 (.agg #[.int .i64 0, .int .i64 0, .int .i64 0, .int .i64 0, .string ByteArray.empty, .string ByteArray.empty, .int .i64 0, .int .i64 0, .bool false]) 9 88 Tryz.underlying22 hi hz0 hz1 hz2 rfl (by decide) _ _ _ rfl hown' _ _ _ _ rfl (Sl.one wr TSn (scs y) 9 rfl) (by simp [Value.oneCell']) ?_ ?_ ?_ ?_)
            · unfold maxLen; omega
            · omega
            · first | omega | (simp; omega)
            intro v1 w7 hown1 hgrow1
            have HO7 := Lib.hid hown1; have HGr := Lib.hid hgrow1; have HK1 := Lib.hid (ownsRow_blk HO6.out)
            clear hown1 hgrow1 hown' yc0 yc1 yc2 yc3 yc4 yc5 yc6 yc7 yc8
            go_wp2_with fail
            go_meet
            exact ⟨by rw [HE.out]; simpa using HO7.out, (HB6.out.alloc hsz6 _).grown HGr.out (by simp; omega) (fun k e => (HK1.out k e).1), HL6.out⟩
          | cons z N =>
            have HZo := Lib.hid (HX.out.ok z (by rw [HX5.out]; simp))
            have HBr : Hid (Below w2.heap.size w2 wr) := HBb.out.trans (HF5.out.below hszb (fun _ _ h => h))
            obtain ⟨b2, o2, rfl, hb2, c3⟩ := HS5.out.at (i := 0) (by simp) (by omega)
            have HZ : Hid (At wr b2 o2 z) := (at0 c3).fr (Fr.of_below' HBr.out (fun _ => False)) (fun h => h)
            clear c3 hb2
            have hgt : (((z :: N).length : Nat) : Int) > 0 := by simp
            go_upto_region 7 with (fail)
            refine jm7 (by kernel_rfl) _ _ wr wr b2 o2 N.length c5 Bx y z HGk.out ⟨HZo.out.t, HZo.out.i⟩ ⟨HZ.out, HBx5.out, Fr.refl _ _⟩ rfl rfl rfl ?_
            intro x w5 x9 x10 hst
            simp only [Eng.setAll, Act.put, List.setIfInBounds_toArray, List.set_cons_succ, List.set_cons_zero]
            rw [x9, x10]
            have HSt := Lib.hid hst
            have HLt : Hid (Op.bytesLess (kk z).toList (kk y).toList = bef z y) := lt_kk ⟨HZo.out.t, HZo.out.i⟩ HGk.out
            have HEq : Hid (((kk z).toList == (kk y).toList) = one z y) := by
              show _ = _
              have h := same_kk (x := z) (y := y) ⟨HZo.out.t, HZo.out.i⟩ HGk.out
              rw [← h, Bool.eq_iff_iff, sameK_iff]
              simp only [beq_iff_eq]
              exact ⟨str_ext, fun h => by rw [h]⟩
            clear x9 x10 hst hgt
            generalize kk z = kz at *
            generalize kk y = ky at *
            have HF6 : Hid (Fr (fun _ => False) wb w5) := HF5.out.trans HSt.out.f (fun _ _ h => h) (fun _ _ h => h)
            cases h1 : bef z y with
            | true =>
              have q3 : Op.bytesLess kz.toList ky.toList = true := by rw [HLt.out, h1]
              have HP6 : Hid (∀ p ∈ P ++ [z], bef p y = true) := fun p hp => by
                rcases List.mem_append.1 hp with hp | hp
                · exact HP5.out p hp
                · simp at hp; subst hp; exact h1
              have hs6 := HS5.out.drop (k := 1) (by simp)
              rw [flat_drop scs_len, List.drop_one, List.tail_cons, List.length_cons, Nat.add_sub_cancel] at hs6
              clear h1 HLt HEq
              by_cases hc5 : c5 = 1
              · rw [if_pos hc5] at hs6
                have HS6 := Lib.hid hs6
                subst hc5
                clear hs6
                go_wp2_with fail
                go_roundg N.length
                case rel => exact ⟨P ++ [z], N, _, _, rfl, by rw [HX5.out]; simp, rfl, HS6.out, HP6.out, HF6.out⟩
                case measure => have := HG5.out; simp at this; omega
              · rw [if_neg hc5] at hs6
                have HS6 := Lib.hid hs6
                clear hs6
                go_wp2_with fail
                go_roundg N.length
                case rel => exact ⟨P ++ [z], N, _, _, rfl, by rw [HX5.out]; simp, rfl, HS6.out, HP6.out, HF6.out⟩
                case measure => have := HG5.out; simp at this; omega
            | false =>
              have q3 : Op.bytesLess kz.toList ky.toList = false := by rw [HLt.out, h1]
              have hbr : bring X y = if one z y then nwr y z else true := by rw [HX5.out]; exact bring_at (by rw [← HX5.out]; exact HSx.out) HP5.out h1
              have HL6 : Hid (∃ P' N' A c, X = P' ++ N' ∧ Value.slice (some ⟨b2, o2, none⟩) (z :: N).length c5 = .slice A N'.length c ∧ Sl w2 9 A N'.length c (N'.flatMap scs) ∧ ∀ p ∈ P', ∀ h : k + 1 < Y.length, bef p Y[k + 1] = true) := ⟨P, z :: N, _, c5, HX5.out, rfl, HS5.out, next_bef HSy.out hlt hy.out HP5.out⟩
              clear h1 HLt
              go_upto_region 10 with (fail)
              cases h2 : one z y with
              | false =>
                have HE : Hid ((Y.take (k + 1)).filter (bring X) = (Y.take k).filter (bring X) ++ [y]) := by show _ = _; rw [HSn.out, hbr, h2]; rfl
                have he : (kz.toList == ky.toList) = false := by rw [HEq.out, h2]
                clear hbr h2 HEq
                refine jm10n (by kernel_rfl) _ _ w5 w5 kz ky he (Fr.refl _ _) rfl rfl rfl ?_
                intro x w6 x35 hf
                simp only [Eng.setAll, Act.put, List.setIfInBounds_toArray, List.set_cons_succ, List.set_cons_zero]
                rw [x35]
                have HF7 : Hid (Fr (fun _ => False) wb w6) := HF6.out.trans hf (fun _ _ h => h) (fun _ _ h => h)
                have HA7 := Lib.hid (HSt.out.b.keep hf)
                clear x35 hf
                have HO6 := Lib.hid (ownsRow_fr HOb.out HF7.out (fun _ _ h => h))
                have HB6 := Lib.hid (HBb.out.trans (HF7.out.below hszb (fun _ _ h => h)))
                have hsz6 := HB6.out.size
                have hfl := HFl.out
                have hown' := HO6.out.alloc (.cells y.arr TSn)
                have yc0 : w6.cell? ⟨Bx, 0, none⟩ = some (.int .i64 y.t) := HA7.out 0 _ rfl
                have yc1 : w6.cell? ⟨Bx, 1, none⟩ = some (.int .i64 y.i) := HA7.out 1 _ rfl
                have yc2 : w6.cell? ⟨Bx, 2, none⟩ = some (.int .i64 y.p) := HA7.out 2 _ rfl
                have yc3 : w6.cell? ⟨Bx, 3, none⟩ = some (.int .i64 y.r) := HA7.out 3 _ rfl
                have yc4 : w6.cell? ⟨Bx, 4, none⟩ = some (.string y.s) := HA7.out 4 _ rfl
                have yc5 : w6.cell? ⟨Bx, 5, none⟩ = some (.string y.o) := HA7.out 5 _ rfl
                have yc6 : w6.cell? ⟨Bx, 6, none⟩ = some (.int .i64 y.b) := HA7.out 6 _ rfl
                have yc7 : w6.cell? ⟨Bx, 7, none⟩ = some (.int .i64 y.d) := HA7.out 7 _ rfl
                have yc8 : w6.cell? ⟨Bx, 8, none⟩ = some (.bool y.g) := HA7.out 8 _ rfl
                go_wp2_with (at_builtin; refine wpList_append_sl _ rfl (.tmp 47) (.tmp 49) TSs rfl w2.heap.size TSn i0 (.agg #[.int .i64 0, .int .i64 0, .int .i64 0, .int .i64 0, .string ByteArray.empty, .string ByteArray.empty, .int .i64 0, .int .i64 0, .bool false]) 9 88 Tryz.underlying22 hi hz0 hz1 hz2 rfl (by decide) _ _ _ rfl hown' _ _ _ _ rfl (Sl.one w6 TSn (scs y) 9 rfl) (by simp [Value.oneCell']) ?_ ?_ ?_ ?_)
                · unfold maxLen; omega
                · omega
                · first | omega | (simp; omega)
                intro v1 w7 hown1 hgrow1
                have HO7 := Lib.hid hown1; have HGr := Lib.hid hgrow1; have HK1 := Lib.hid (ownsRow_blk HO6.out)
                clear hown1 hgrow1 hown' yc0 yc1 yc2 yc3 yc4 yc5 yc6 yc7 yc8
                go_wp2_with fail
                go_meet
                exact ⟨by rw [HE.out]; simpa using HO7.out, (HB6.out.alloc hsz6 _).grown HGr.out (by simp; omega) (fun k e => (HK1.out k e).1), HL6.out⟩
              | true =>
                have he : (kz.toList == ky.toList) = true := by rw [HEq.out, h2]
                rw [h2, if_pos rfl] at hbr
                clear h2 HEq
                refine jm10 (by kernel_rfl) _ _ w5 w5 b2 o2 N.length c5 Bx y z HOky.out HZo.out kz ky he ⟨HSt.out.a, HSt.out.b, Fr.refl _ _⟩ rfl rfl rfl rfl rfl ?_
                intro x w6 x35 hst
                simp only [Eng.setAll, Act.put, List.setIfInBounds_toArray, List.set_cons_succ, List.set_cons_zero]
                rw [x35]
                have HF7 : Hid (Fr (fun _ => False) wb w6) := HF6.out.trans hst.f (fun _ _ h => h) (fun _ _ h => h)
                have HA7 := Lib.hid hst.b
                clear x35 hst
                cases h3 : nwr y z with
                | true =>
                  have HE : Hid ((Y.take (k + 1)).filter (bring X) = (Y.take k).filter (bring X) ++ [y]) := by show _ = _; rw [HSn.out, hbr, h3]; rfl
                  clear hbr h3
                  have HO6 := Lib.hid (ownsRow_fr HOb.out HF7.out (fun _ _ h => h))
                  have HB6 := Lib.hid (HBb.out.trans (HF7.out.below hszb (fun _ _ h => h)))
                  have hsz6 := HB6.out.size
                  have hfl := HFl.out
                  have hown' := HO6.out.alloc (.cells y.arr TSn)
                  have yc0 : w6.cell? ⟨Bx, 0, none⟩ = some (.int .i64 y.t) := HA7.out 0 _ rfl
                  have yc1 : w6.cell? ⟨Bx, 1, none⟩ = some (.int .i64 y.i) := HA7.out 1 _ rfl
                  have yc2 : w6.cell? ⟨Bx, 2, none⟩ = some (.int .i64 y.p) := HA7.out 2 _ rfl
                  have yc3 : w6.cell? ⟨Bx, 3, none⟩ = some (.int .i64 y.r) := HA7.out 3 _ rfl
                  have yc4 : w6.cell? ⟨Bx, 4, none⟩ = some (.string y.s) := HA7.out 4 _ rfl
                  have yc5 : w6.cell? ⟨Bx, 5, none⟩ = some (.string y.o) := HA7.out 5 _ rfl
                  have yc6 : w6.cell? ⟨Bx, 6, none⟩ = some (.int .i64 y.b) := HA7.out 6 _ rfl
                  have yc7 : w6.cell? ⟨Bx, 7, none⟩ = some (.int .i64 y.d) := HA7.out 7 _ rfl
                  have yc8 : w6.cell? ⟨Bx, 8, none⟩ = some (.bool y.g) := HA7.out 8 _ rfl
                  go_wp2_with (at_builtin; refine wpList_append_sl _ rfl (.tmp 47) (.tmp 49) TSs rfl w2.heap.size TSn i0 (.agg #[.int .i64 0, .int .i64 0, .int .i64 0, .int .i64 0, .string ByteArray.empty, .string ByteArray.empty, .int .i64 0, .int .i64 0, .bool false]) 9 88 Tryz.underlying22 hi hz0 hz1 hz2 rfl (by decide) _ _ _ rfl hown' _ _ _ _ rfl (Sl.one w6 TSn (scs y) 9 rfl) (by simp [Value.oneCell']) ?_ ?_ ?_ ?_)
                  · unfold maxLen; omega
                  · omega
                  · first | omega | (simp; omega)
                  intro v1 w7 hown1 hgrow1
                  have HO7 := Lib.hid hown1; have HGr := Lib.hid hgrow1; have HK1 := Lib.hid (ownsRow_blk HO6.out)
                  clear hown1 hgrow1 hown' yc0 yc1 yc2 yc3 yc4 yc5 yc6 yc7 yc8
                  go_wp2_with fail
                  go_meet
                  exact ⟨by rw [HE.out]; simpa using HO7.out, (HB6.out.alloc hsz6 _).grown HGr.out (by simp; omega) (fun k e => (HK1.out k e).1), HL6.out⟩
                | false =>
                  have HE : Hid ((Y.take (k + 1)).filter (bring X) = (Y.take k).filter (bring X)) := by show _ = _; rw [HSn.out, hbr, h3]; simp
                  clear hbr h3
                  go_wp2_with fail
                  go_meet
                  exact ⟨by rw [HE.out]; exact ownsRow_fr HOb.out HF7.out (fun _ _ h => h), HBb.out.trans (HF7.out.below hszb (fun _ _ h => h)), HL6.out⟩
      case rest =>
        go_wp2_with fail
        go_roundg (Y.length - (k + 1))
        case rel => exact ⟨k + 1, by go_num, by omega, rfl, hcut⟩
        case measure => have := HG.out; omega
    · obtain rfl : k = Y.length := by omega
      have q2 : decide ((Y.length : Int) < (Y.length : Int)) = false := by simp
      have HO := Lib.hid HM.out.o; have HB := Lib.hid HM.out.b
      rw [List.take_length, ← HMs.out] at HO
      obtain ⟨A5, c5, rfl, hs5, -⟩ := Sl.of_own HO.out
      have HS5 := Lib.hid hs5
      clear hs5 HM
      go_wp2_with fail
      try rw [Exit.noGoto_ret]
      go_ret
      exact ⟨A5, c5, rfl, ⟨HS5.out, HMok.out⟩, ownsRow_base HO.out HB2.out.size, HB2.out.trans (HB.out.mono HB2.out.size)⟩
set_option maxRecDepth 100000 in
theorem Covers (A A2 : Option Addr) (c c2 : Nat) (a b : List Sn) (w : World) (h1 : Ls w A c a) (h2 : Ls w A2 c2 b) (hl1 : a.length ≤ 1000000) (hl2 : b.length ≤ 1000000) :
    Calls Tryz.prog 77 #[.slice A a.length c, .slice A2 b.length c2] w fun e w' => e = .returned (.bool (decide (miss a b = []))) ∧ Below w.heap.size w w' := by
  have HM := Lib.hid (Missing A A2 c c2 a b w h1 h2 hl1 hl2)
  clear h1 h2
  go_enter Tryz.func77, Tryz.ntmps77
  go_wp2_with fail
  refine HM.out.mono ?_
  rintro e w2 ⟨A5, c5, rfl, -, -, hb⟩
  have HB := Lib.hid hb
  clear hb HM
  have q1 : (((miss a b).length : Int) == 0) = decide (miss a b = []) := by
    cases miss a b with
    | nil => rfl
    | cons x l => simp; omega
  go_wp2_with fail
  go_ret
  exact ⟨by rw [← q1]; rfl, HB.out⟩
end Join
end Go.Proofs.YtdpngmgaomghoaaGreat
