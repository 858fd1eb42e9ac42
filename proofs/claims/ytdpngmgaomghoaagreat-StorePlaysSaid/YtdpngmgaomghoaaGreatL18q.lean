/- A store, and the document's store beside it. -/
import Derived.Test.YtdpngmgaomghoaaGreatRef18e
namespace Go.Proofs.YtdpngmgaomghoaaGreat
open Tryz
open Go.RowKit
namespace Ref18
open Name KeyP PackP SetP SetW SetF Delta Sto Law18
structure AR (w0 w : World) (B : Nat) (f : Cf) (L : List Sn) (F : List Nat) (R : Nat) (g : Cf) (M : List Sn) (A : Option Addr) (c : Nat) (D : List (Nat × Array Value × TypeId)) (K : List (Option Addr × Nat × List Sn)) : Prop where
 z : AZ w0 w B f L F D K
 r : RS w R g M A c
 n : R ∉ F
 m : M ≠ [] → ∀ a, A = some a → a.block ∉ F
 b : w0.heap.size ≤ R
 d : ∀ p ∈ D, p.1 ≠ R
section
variable {w0 w w' : World} {B : Nat} {f f' : Cf} {L L' : List Sn} {F F' : List Nat} {R : Nat} {g g' : Cf} {M M' : List Sn} {A A' : Option Addr} {c c' : Nat} {D : List (Nat × Array Value × TypeId)} {K : List (Option Addr × Nat × List Sn)}
theorem AR.below (h : AR w0 w B f L F R g M A c D K) (hb : Below w.heap.size w w') : AR w0 w' B f L F R g M A c D K := ⟨h.z.below hb, h.r.below hb, h.n, h.m, h.b, h.d⟩
theorem AR.fr (h : AR w0 w B f L F R g M A c D K) (hf : Fr (fun _ => False) w w') : AR w0 w' B f L F R g M A c D K := h.below (hf.below (Nat.le_refl _) (fun _ _ h => h))
theorem AR.turn (h : AR w0 w B f L F R g M A c D K) (hs : St w' B f' L' F') (ht : Tn F F' w w') : AR w0 w' B f' L' F' R g M A c D K := by
 have hno : ∀ {b : Nat}, b ∉ F → b < w.heap.size → b ∉ F' := fun hn hl hm => by
  rcases (ht.sub _ hm).1 with h1 | h1
  ·exact hn h1
  ·omega
 refine ⟨h.z.turn hs ht, ⟨h.r.b.fr ht.fr (fun b hb hm => by simp at hb; subst hb; exact h.n hm), Ls.frA h.r.l ht.fr (fun hne a ha => h.m hne a ha), h.r.i⟩, hno h.n h.r.lt, fun hne a ha => hno (h.m hne a ha) (h.r.l.s.lt (fun e => hne (by cases M with | nil => rfl | cons x t => simp [scs] at e)) a ha), h.b, h.d⟩
theorem AR.act {O I : List Sn} {A1 A2 : Option Addr} {c1 c2 : Nat} (h : AR w0 w B f L F R g M A c D K) (ho : ActOut B f' L' O I F w w' A1 c1 A2 c2 F') : AR w0 w' B f' L' F' R g M A c D ((A1, c1, O) :: (A2, c2, I) :: K) := by
 have h1 := h.turn ho.st ho.t
 exact ⟨h.z.act ho, h1.r, h1.n, h1.m, h.b, h.d⟩
theorem AR.ref (h : AR w0 w B f L F R g M A c D K) (hr : RS w' R g' M' A' c') (hf : Fr (· = R) w w') (hn : (A' = A ∧ M' = M) ∨ (M' ≠ [] → ∀ a, A' = some a → w.heap.size ≤ a.block)) : AR w0 w' B f L F R g' M' A' c' D K := by
 have hst : St w' B f L F := ⟨h.z.s.s.fr hf (fun x hx e => h.n (e ▸ hx)), h.z.s.o, h.z.s.k, h.z.s.f⟩
 refine ⟨⟨hst, h.z.l, h.z.b.trans (hf.below h.z.b.size (fun k hk e => by have := h.b; omega)), fun p hp => ⟨⟨(h.z.d p hp).1.1.fr hf (fun b hb e => by simp at hb; exact h.d p hp (hb ▸ e)), (h.z.d p hp).1.2⟩, (h.z.d p hp).2⟩, fun q hq => ⟨Ls.frA (h.z.k q hq).1 hf (fun hne a ha => not_small h.r.b (show (6 : Nat) < 9 by decide) (h.z.k q hq).1 hne a ha), (h.z.k q hq).2⟩⟩, hr, h.n, ?_, h.b, h.d⟩
 rcases hn with ⟨rfl, rfl⟩ | hn
 ·exact h.m
 ·exact fun hne a ha hm => by have := hn hne a ha; have := h.z.s.lt _ hm; omega
theorem AR.pickL {K' : List (Option Addr × Nat × List Sn)} (h : AR w0 w B f L F R g M A c D K) (hs : ∀ p ∈ K', p ∈ K) : AR w0 w B f L F R g M A c D K' := ⟨h.z.pickL hs, h.r, h.n, h.m, h.b, h.d⟩
theorem AR.pickD {D' : List (Nat × Array Value × TypeId)} (h : AR w0 w B f L F R g M A c D K) (hs : ∀ p ∈ D', p ∈ D) : AR w0 w B f L F R g M A c D' K := ⟨h.z.pickD hs, h.r, h.n, h.m, h.b, fun p hp => h.d p (hs p hp)⟩
theorem AR.alloc (h : AR w0 w B f L F R g M A c D K) (cs : Array Value) (T : TypeId) : AR w0 (w.alloc (.cells cs T)) B f L F R g M A c ((w.heap.size, cs, T) :: D) K := by
 have h1 := h.fr (Fr.alloc (fun _ => False) w (.cells cs T))
 refine ⟨h.z.alloc cs T, h1.r, h.n, h.m, h.b, fun p hp => ?_⟩
 rcases List.mem_cons.1 hp with rfl | hp
 ·have := h.r.lt; dsimp only; omega
 ·exact h.d p hp
theorem AR.new (h : AZ w0 w B f L F D K) (hr : RS w R g [] none 0) (hn : R ∉ F) (hb : w0.heap.size ≤ R) (hd : ∀ p ∈ D, p.1 ≠ R) : AR w0 w B f L F R g [] none 0 D K := ⟨h, hr, hn, fun h => absurd rfl h, hb, hd⟩
end
end Ref18
set_option maxRecDepth 100000
set_option maxHeartbeats 1000000
namespace Law18
open Name KeyP PackP SetP SetW SetF Delta Sto BagP Ref18
attribute [local go_sem] Eng.ev Eng.getO_cons Eng.getO_nil
theorem NowP {B : Nat} {f : Cf} {L : List Sn} {F : List Nat} {w : World} (hs : St w B f L F) : Calls prog 46 #[.pointer (some ⟨B, 0, none⟩)] w fun e w' => e = .returned (.int .i64 f.now) ∧ w = w' := Sto.Now B f _ _ _ F w hs.s
theorem HorP {B : Nat} {f : Cf} {L : List Sn} {F : List Nat} {w : World} (hs : St w B f L F) : Calls prog 49 #[.pointer (some ⟨B, 0, none⟩)] w fun e w' => e = .returned (.int .i64 (hz f)) ∧ Fr (fun _ => False) w w' := Sto.Horizon B f _ _ _ F w hs.s hs.f.2.2.1 hs.f.2.2.2
theorem LenP {B : Nat} {f : Cf} {L : List Sn} {F : List Nat} {w : World} (hs : St w B f L F) : Calls prog 62 #[.pointer (some ⟨B, 0, none⟩)] w fun e w' => e = .returned (.int .i64 (L.length : Int)) ∧ w = w' := by
 have := Sto.Len B f _ _ _ F w hs.s
 rwa [cts_sum] at this
theorem TrcP {B : Nat} {f : Cf} {L : List Sn} {F : List Nat} {w : World} (hs : St w B f L F) : Calls prog 59 #[.pointer (some ⟨B, 0, none⟩)] w fun e w' => ∃ A2 c2, e = .returned (.slice A2 (TL L).length c2) ∧ Sl w' 1 A2 (TL L).length c2 (ints (TL L)) ∧ Below w.heap.size w w' := by
 refine (Sto.Traces B f L _ _ F w hs.s).mono ?_
 rintro e w' ⟨v, rfl, hown, hb⟩
 obtain ⟨A4, c4, rfl, hsl, -⟩ := Sl.of_own hown
 have e1 : (cts L).length = (TL L).length := by rw [← tl_cts, List.length_map]
 have e2 : (cts L).map (fun x => Value.int .i64 x.1) = ints (TL L) := by rw [← tl_cts]; unfold ints; rw [List.map_map]; rfl
 rw [e1, e2] at hsl
 exact ⟨A4, c4, by rw [e1], hsl, hb⟩
theorem SameIT {A A1 : Option Addr} {c c1 : Nat} {M : List Int} {w : World} (ha : Sl w 1 A M.length c (ints M)) (hb : Sl w 1 A1 M.length c1 (ints M)) : Calls prog 68 #[.slice A M.length c, .slice A1 M.length c1] w fun e w' => e = .returned (.bool true) ∧ Fr (fun _ => False) w w' :=
 (SameInts A A1 c c1 M M w ha hb).mono (fun _ _ h => ⟨by rw [h.1, decide_eq_true rfl], h.2⟩)
theorem Sl.bel {w w' : World} {A : Option Addr} {n c : Nat} {xs : List Value} (h : Sl w 1 A n c xs) (hb : Below w.heap.size w w') : Sl w' 1 A n c xs := h.fr (Fr.of_below' hb (fun _ => False)) (fun _ _ h => h)
theorem AliP {A1 A2 : Option Addr} {c1 c2 : Nat} {O I : List Sn} {w : World} (h : RdD w ⟨A1, c1, O, A2, c2, I⟩) (l1 : O.length ≤ 500000) (l2 : I.length ≤ 500000) :
  Calls prog 70 #[.agg #[.slice A1 O.length c1, .slice A2 I.length c2]] w fun e w' => ∃ A3 c3 A4 c4, e = .returned (.agg #[.slice A3 (alv O).length c3, .slice A4 (alv I).length c4]) ∧ RdD w' ⟨A3, c3, alv O, A4, c4, alv I⟩ ∧ Below w.heap.size w w' :=
 (ClsW.Alive ⟨A1, c1, O, A2, c2, I⟩ w h (by show O.length ≤ _; omega) (by show I.length ≤ _; omega) (alv O) (alv I) rfl rfl).mono (fun _ _ ⟨a, b, c, d, e, h1, h2, h3⟩ => ⟨a, b, c, d, e, ⟨h1, h2⟩, h3⟩)
theorem AliR {A1 A2 : Option Addr} {c1 c2 : Nat} {O I : List Sn} {w : World} (h : RdD w ⟨A1, c1, O, A2, c2, I⟩) (l1 : O.length ≤ 500000) (l2 : I.length ≤ 500000) :
  Calls prog 71 #[.agg #[.slice A1 O.length c1, .slice A2 I.length c2]] w fun e w' => ∃ A3 c3 A4 c4, e = .returned (.agg #[.slice A3 (alv O).length c3, .slice A4 (alv I).length c4]) ∧ RdD w' ⟨A3, c3, alv O, A4, c4, alv I⟩ ∧ Below w.heap.size w w' :=
 (RefAlive ⟨A1, c1, O, A2, c2, I⟩ w h (by show O.length ≤ _; omega) (by show I.length ≤ _; omega) (alv O) (alv I) rfl rfl).mono (fun _ _ ⟨a, b, c, d, e, h1, h2, h3⟩ => ⟨a, b, c, d, e, ⟨h1, h2⟩, h3⟩)
theorem rdb {w w' : World} {d : Dl} (h : RdD w d) (hb : Below w.heap.size w w') : RdD w' d := ⟨h.o.below hb, h.i.below hb⟩
structure NS (w : World) (Bc : Nat) (f : Cf) (G : Prop) : Prop where
 b : Bk w Bc (cfc f) TCf
 g : G
section
variable {w0 w w' : World} {Bc B R : Nat} {f : Cf} {F : List Nat} {D : List (Nat × Array Value × TypeId)}
theorem NS.drew (h : NS w Bc f (Below w0.heap.size w0 w ∧ ∀ p ∈ D, Bk w p.1 p.2.1 p.2.2 ∧ w0.heap.size ≤ p.1)) : NS w.drew Bc f (Below w0.heap.size w0 w.drew ∧ ∀ p ∈ D, Bk w.drew p.1 p.2.1 p.2.2 ∧ w0.heap.size ≤ p.1) :=
 ⟨h.b.fr (Fr.drew (fun _ => False) w) (fun _ _ h => h), h.g.1.trans ((Fr.drew (fun _ => False) w).below h.g.1.size (fun _ _ h => h)), fun p hp => ⟨(h.g.2 p hp).1.fr (Fr.drew (fun _ => False) w) (fun _ _ h => h), (h.g.2 p hp).2⟩⟩
theorem NS.one (h : NS w Bc f (Below w0.heap.size w0 w ∧ ∀ p ∈ D, Bk w p.1 p.2.1 p.2.2 ∧ w0.heap.size ≤ p.1)) (hi : in64 f.sp ∧ in64 f.tr ∧ in64 f.wi) (hs : Sto.SB w' B (f.at mnI) [] [] [] F) (hF : ∀ k ∈ F, w.heap.size ≤ k) (hb : Below w.heap.size w w') : NS w' Bc f (AZ w0 w' B (f.at mnI) [] F D []) := by
 have hfr := Fr.of_below' hb (fun _ => False)
 refine ⟨h.b.fr hfr (fun _ _ h => h), St.new hs hi, fun k hk => Nat.le_trans h.g.1.size (hF k hk), h.g.1.trans (hb.mono h.g.1.size), fun p hp => ⟨⟨(h.g.2 p hp).1.fr hfr (fun _ _ h => h), fun hm => ?_⟩, (h.g.2 p hp).2⟩, by simp⟩
 have := hF _ hm; have := lt_of_heap (h.g.2 p hp).1; omega
theorem NS.two (h : NS w Bc f (AZ w0 w B (f.at mnI) [] F D [])) (hr : RS w' R (f.at mnI) [] none 0) (hR : w.heap.size ≤ R) (hf : Fr (fun _ => False) w w') : NS w' Bc f (AR w0 w' B (f.at mnI) [] F R (f.at mnI) [] none 0 D []) :=
 ⟨h.b.fr hf (fun _ _ h => h), AR.new (h.g.fr hf) hr (fun hm => by have := h.g.s.lt _ hm; omega) (Nat.le_trans h.g.b.size hR) (fun p hp e => by have := lt_of_heap (h.g.d p hp).1.1; omega)⟩
end
theorem do_no {v : Value} {w : World} (a : Ac) (h : NoS v w) : Calls prog 45 #[v, .agg a.arr] w (NoPost w) := by
 have hf1 := Fr.alloc (fun _ => False) w (.cells a.arr TAc)
 have hf2 := Fr.alloc (fun _ => False) (w.alloc (.cells a.arr TAc)) (.cells #[.slice none 0 0, .slice none 0 0] TDl)
 have hf := hf1.trans hf2 (T := fun _ => False) (fun _ _ h => h) (fun _ _ h => h)
 have HN := Lib.hid (h.below (hf.below (Nat.le_refl _) (fun _ _ h => h))); have HF := Lib.hid hf
 have HBa := Lib.hid ((Bk.new w a.arr TAc).fr hf2 (fun _ _ h => h))
 have HBd := Lib.hid (Bk.new (w.alloc (.cells a.arr TAc)) #[.slice none 0 0, .slice none 0 0] TDl)
 have hz1 : (w.alloc (.cells a.arr TAc)).heap.size = w.heap.size + 1 := by simp
 clear h hf1 hf2 hf
 go_enter func45, ntmps45
 go_upto_region 1 with (fail)
 rw [hz1] at HBd
 (try rw [hz1])
 generalize ((w.alloc (.cells a.arr TAc)).alloc (.cells #[.slice none 0 0, .slice none 0 0] TDl)) = w1 at *
 clear hz1
 have a0 : w1.cell? ⟨w.heap.size, 0, none⟩ = some (.int .i64 a.k) := HBa.out.cell 0
 have a1 : w1.cell? ⟨w.heap.size, 1, none⟩ = some (.slice a.A a.L.length a.c) := HBa.out.cell 1
 have a2 : w1.cell? ⟨w.heap.size, 2, none⟩ = some (.int .i64 a.n) := HBa.out.cell 2
 by_cases hk : a.k = 2
 ·rw [hk] at a0
  have q0 : decide (a.k = 2) = true := by simpa using hk
  have HT := Lib.hid (Tick_no HN.out a.n)
  go_wp2_with fail
  refine HT.out.mono ?_
  rintro e w2 ⟨rfl, hb⟩
  have hf := Fr.of_below' hb (fun _ => False)
  have HBd2 := Lib.hid (HBd.out.fr hf (fun _ _ h => h))
  have HF2 := Lib.hid (HF.out.trans hf (T := fun _ => False) (fun _ _ h => h) (fun _ _ h => h))
  clear hb hf a0 a1 a2 HT
  have r0 := HBd2.out.cell 0; have r1 := HBd2.out.cell 1
  have g0 := HBd2.out.free 0; have g1 := HBd2.out.free 1
  have hf3 : Fr (· = w.heap.size + 1) w2 ((w2.setCell ⟨w.heap.size + 1, 0, none⟩ (.slice none 0 0)).setCell ⟨w.heap.size + 1, 1, none⟩ (.slice none 0 0)) := (Fr.setCell w2 ⟨w.heap.size + 1, 0, none⟩ _ (S := (· = w.heap.size + 1)) rfl).trans (Fr.setCell _ ⟨w.heap.size + 1, 1, none⟩ _ (S := (· = w.heap.size + 1)) rfl) (fun _ _ h => h) (fun _ _ h => h)
  have HR0 : Hid (Bk ((w2.setCell ⟨w.heap.size + 1, 0, none⟩ (.slice none 0 0)).setCell ⟨w.heap.size + 1, 1, none⟩ (.slice none 0 0)) (w.heap.size + 1) #[.slice none 0 0, .slice none 0 0] TDl) := (HBd2.out.set 0 _).set 1 _
  have HP : Hid (NoPost w (.returned (.tuple #[.agg #[.slice none 0 0, .slice none 0 0], .int .i64 10])) ((w2.setCell ⟨w.heap.size + 1, 0, none⟩ (.slice none 0 0)).setCell ⟨w.heap.size + 1, 1, none⟩ (.slice none 0 0))) := ⟨rfl, (HF2.out.below (Nat.le_refl _) (fun _ _ h => h)).trans (hf3.below HF2.out.size (fun k hk e => by omega))⟩
  clear hf3
  go_wp2_with fail
  exact bodyPost_ret (results_row_slot (p := 4) (q := 5) rfl _ _ (w.heap.size + 1) TDl _ _ _ rfl rfl HR0.out underlying35 rfl (by kernel_rfl)) rfl HP.out
 ·have q0 : decide (a.k = 2) = false := by simpa using hk
  have HT := Lib.hid (Put_no HN.out a.A a.L.length a.c)
  go_wp2_with fail
  refine HT.out.mono ?_
  rintro e w2 ⟨rfl, hb⟩
  have hf := Fr.of_below' hb (fun _ => False)
  have HBd2 := Lib.hid (HBd.out.fr hf (fun _ _ h => h))
  have HF2 := Lib.hid (HF.out.trans hf (T := fun _ => False) (fun _ _ h => h) (fun _ _ h => h))
  clear hb hf a0 a1 a2 HT
  have r0 := HBd2.out.cell 0; have r1 := HBd2.out.cell 1
  have g0 := HBd2.out.free 0; have g1 := HBd2.out.free 1
  have hf3 : Fr (· = w.heap.size + 1) w2 ((w2.setCell ⟨w.heap.size + 1, 0, none⟩ (.slice none 0 0)).setCell ⟨w.heap.size + 1, 1, none⟩ (.slice none 0 0)) := (Fr.setCell w2 ⟨w.heap.size + 1, 0, none⟩ _ (S := (· = w.heap.size + 1)) rfl).trans (Fr.setCell _ ⟨w.heap.size + 1, 1, none⟩ _ (S := (· = w.heap.size + 1)) rfl) (fun _ _ h => h) (fun _ _ h => h)
  have HR0 : Hid (Bk ((w2.setCell ⟨w.heap.size + 1, 0, none⟩ (.slice none 0 0)).setCell ⟨w.heap.size + 1, 1, none⟩ (.slice none 0 0)) (w.heap.size + 1) #[.slice none 0 0, .slice none 0 0] TDl) := (HBd2.out.set 0 _).set 1 _
  have HP : Hid (NoPost w (.returned (.tuple #[.agg #[.slice none 0 0, .slice none 0 0], .int .i64 10])) ((w2.setCell ⟨w.heap.size + 1, 0, none⟩ (.slice none 0 0)).setCell ⟨w.heap.size + 1, 1, none⟩ (.slice none 0 0))) := ⟨rfl, (HF2.out.below (Nat.le_refl _) (fun _ _ h => h)).trans (hf3.below HF2.out.size (fun k hk e => by omega))⟩
  clear hf3
  go_wp2_with fail
  exact bodyPost_ret (results_row_slot (p := 4) (q := 5) rfl _ _ (w.heap.size + 1) TDl _ _ _ rfl rfl HR0.out underlying35 rfl (by kernel_rfl)) rfl HP.out
end Law18
end Go.Proofs.YtdpngmgaomghoaaGreat
