/- Layer 18's statements: acts, and how they are done. -/
import Derived.Test.YtdpngmgaomghoaaGreatSto78
namespace Go.Proofs.YtdpngmgaomghoaaGreat
open Tryz
set_option maxRecDepth 100000
set_option maxHeartbeats 1000000
open Go.RowKit
namespace Law18
open Name KeyP PackP SetP SetW SetF Delta Sto
attribute [local go_sem] Eng.ev Eng.getO_cons Eng.getO_nil
structure Ac where
 k : Int
 A : Option Addr
 c : Nat
 L : List Sn
 n : Int
abbrev acc (a : Ac) : List Value := [.int .i64 a.k, .slice a.A a.L.length a.c, .int .i64 a.n]
theorem acc_len (a : Ac) : (acc a).length = 3 := rfl
abbrev Ac.arr (a : Ac) : Array Value := #[.int .i64 a.k, .slice a.A a.L.length a.c, .int .i64 a.n]
abbrev TAc : TypeId := 93
def Rd (w : World) (a : Ac) : Prop := Ls w a.A a.c a.L ∧ in64 a.n
theorem Rd.below {w w' : World} {a : Ac} (h : Rd w a) (hb : Below w.heap.size w w') : Rd w' a := ⟨h.1.below hb, h.2⟩
theorem ac_at {l : List Ac} {k : Nat} (h : k < l.length) (j : Nat) (hj : j < 3) : (l.flatMap acc)[k * 3 + j]? = (acc l[k])[j]? := by
 have h1 : ((l.flatMap acc).drop (k * 3))[j]? = (l.flatMap acc)[k * 3 + j]? := List.getElem?_drop
 rw [← h1, flat_drop acc_len, List.drop_eq_getElem_cons h, List.flatMap_cons, List.getElem?_append_left (by rw [acc_len]; omega)]
def fewsB (l : List Ac) (m : Nat) : Bool := (l.take m).all (fun x => fewB x.L 12) && decide (l.length ≤ m)
theorem Few (A : Option Addr) (c : Nat) (l : List Ac) (m : Nat) (w : World) (hS : Sl w 3 A l.length c (l.flatMap acc)) (hR : ∀ x ∈ l, Rd w x) (hm : m ≤ 1000) :
  Calls prog 43 #[.slice A l.length c, .int .i64 m] w fun e w' => e = .returned (.bool (fewsB l m)) ∧ Fr (fun _ => False) w w' := by
 have hlen : l.length ≤ 9223372036854775807 := by have := hS.2.1; have := hS.2.2.1; unfold maxLen at this; omega
 have HS := Lib.hid hS; have HR := Lib.hid hR
 clear hS hR
 go_enter func43, ntmps43
 go_wp2_with fail
 go_loopg [5] l.length (fun gk i wr => ∃ k : Nat, i = .int .i64 k ∧ k ≤ l.length ∧ k ≤ m ∧ gk = l.length - k ∧ (l.take k).all (fun x => fewB x.L 12) = true ∧ Fr (fun _ => False) w wr)
 case atStart => exact ⟨0, rfl, Nat.zero_le _, Nat.zero_le _, rfl, by simp, Fr.refl _ _⟩
 case round =>
  obtain ⟨k, rfl, hk, hkm, hg, hal, hf⟩ := hrel
  have HG := Lib.hid hg; have HAl := Lib.hid hal; have HF := Lib.hid hf
  clear hg hal hf
  by_cases hlt : k < l.length ∧ k < m
  ·obtain ⟨hlt, hltm⟩ := hlt
   obtain ⟨b1, o1, rfl, hb1, c1⟩ := HS.out.at hlt (by omega)
   have e0 : wr.cell? ⟨b1, o1 + k * 3 + 1, none⟩ = some (.slice l[k].A l[k].L.length l[k].c) := by
    have h1 := c1 (k * 3 + 1) _ (ac_at hlt 1 (by omega))
    rw [← Nat.add_assoc] at h1
    exact (World.cell?_of_block (w := w) (a := ⟨b1, _, none⟩) (HF.out.block b1 hb1 (fun h => h))).trans h1
   have HT : Hid (fewB l[k].L 12 = true → (l.take (k + 1)).all (fun x => fewB x.L 12) = true) := fun h => by rw [List.take_succ_eq_append_getElem hlt, List.all_append, HAl.out]; simpa using h
   have HNo : Hid (fewB l[k].L 12 = false → fewsB l m = false) := fun h => by
    unfold fewsB
    rw [Bool.and_eq_false_iff]
    refine .inl (List.all_eq_false.2 ⟨l[k], ?_, by rw [h]; simp⟩)
    exact List.mem_take_iff_getElem.2 ⟨k, by omega, rfl⟩
   have HX := Lib.hid ((HR.out _ (List.getElem_mem hlt)).1.keep HF.out)
   clear c1 hb1
   generalize l[k] = x at *
   have q1 : (0 : Int) ≤ (k : Int) := by omega
   have q2 : decide ((k : Int) < (l.length : Int)) = true := by simp; omega
   have q3 : decide ((k : Int) < (m : Int)) = true := by simp; omega
   go_wp2_with fail
   refine (SetF.Few x.A x.c 12 x.L wr HX.out.s).mono ?_
   rintro e w2 ⟨rfl, hf⟩
   have HF2 := Lib.hid hf
   clear hf HX
   cases h1 : fewB x.L 12 with
   | true =>
    have HE := Lib.hid (HT.out h1)
    clear h1
    go_wp2_with fail
    go_roundg (l.length - (k + 1))
    case rel => exact ⟨k + 1, by go_num, by omega, by omega, rfl, HE.out, HF.out.trans HF2.out (fun _ _ h => h) (fun _ _ h => h)⟩
    case measure => have := HG.out; omega
   | false =>
    have HE := Lib.hid (HNo.out h1)
    clear h1
    go_wp2_with fail
    go_ret
    exact ⟨by rw [HE.out]; rfl, HF.out.trans HF2.out (fun _ _ h => h) (fun _ _ h => h)⟩
  ·by_cases hlm : l.length ≤ m
   ·have HE : Hid (fewsB l m = true) := by
     show _ = _
     unfold fewsB
     rw [decide_eq_true hlm, Bool.and_true, List.take_of_length_le hlm]
     have h := HAl.out
     rwa [List.take_of_length_le (by omega)] at h
    have hkl : k = l.length := by omega
    have q2 : decide ((k : Int) < (l.length : Int)) = false := by simp; omega
    have q3 : decide ((l.length : Int) ≤ (m : Int)) = true := by simp; omega
    have z1 : ¬ k < l.length := by omega
    clear hlt hkl
    go_wp2_with fail
    go_ret
    exact ⟨by rw [HE.out]; rfl, HF.out⟩
   ·have HE : Hid (fewsB l m = false) := by
     show _ = _
     unfold fewsB
     rw [decide_eq_false hlm, Bool.and_false]
    have q2 : decide ((k : Int) < (l.length : Int)) = true := by simp; omega
    have q3 : decide ((l.length : Int) ≤ (m : Int)) = false := by simp; omega
    have q4 : decide ((k : Int) < (m : Int)) = false := by simp; omega
    have z1 : k < l.length := by omega
    have z2 : ¬ k < m := by omega
    clear hlt
    go_wp2_with fail
    go_ret
    exact ⟨by rw [HE.out]; rfl, HF.out⟩
def doE (f : Cf) (L : List Sn) (a : Ac) : Int := if a.k = 2 then tickE f a.n else canE f L a.L
def doF (f : Cf) (a : Ac) : Cf := if a.k = 2 then tickF f a.n else f
def doL (f : Cf) (L : List Sn) (a : Ac) : List Sn := if a.k = 2 then tickL f a.n L else putL f L a.L
def doO (f : Cf) (L : List Sn) (a : Ac) : List Sn := if a.k = 2 then tickO f a.n L else putO f L a.L
def doI (f : Cf) (L : List Sn) (a : Ac) : List Sn := if a.k = 2 then [] else putI f L a.L
theorem ActOut.fin {B N : Nat} {f : Cf} {L O I : List Sn} {F F' : List Nat} {w0 w1 w2 w3 : World} {A1 A2 : Option Addr} {c1 c2 : Nat} (ho : ActOut B f L O I F w1 w2 A1 c1 A2 c2 F') (hf : Fr (fun _ => False) w0 w1) (hF : ∀ x ∈ F, x < w0.heap.size) (h1 : w0.heap.size ≤ N) (h2 : N < w1.heap.size) (hs : Fr (· = N) w2 w3) : ActOut B f L O I F w0 w3 A1 c1 A2 c2 F' := by
 have hz := hf.size; have hz2 := ho.t.fr.size; have hz3 := hs.size
 have hNF : ∀ x ∈ F', x ≠ N := fun x hx e => by
  rcases (ho.t.sub x hx).1 with h | h
  ·have := hF x h; omega
  ·omega
 have hst : St w3 B f L F' := ⟨ho.st.s.fr hs (fun x hx e => hNF x hx e), ho.st.o, ho.st.k, ho.st.f⟩
 refine ⟨hst, ⟨(hf.trans ho.t.fr (T := (· ∈ F)) (fun _ _ h => h.elim) (fun _ _ h => h)).trans hs (fun _ _ h => h) (fun i hi e => by omega), fun x hx => ⟨?_, hst.s.lt x hx⟩⟩, Ls.frA ho.lo hs (fun hne a ha e => by have := (ho.no hne a ha).1; omega), Ls.frA ho.li hs (fun hne a ha e => by have := (ho.ni hne a ha).1; omega), fun hne a ha => ⟨by have := (ho.no hne a ha).1; omega, (ho.no hne a ha).2⟩, fun hne a ha => ⟨by have := (ho.ni hne a ha).1; omega, (ho.ni hne a ha).2⟩⟩
 rcases (ho.t.sub x hx).1 with h | h
 ·exact .inl h
 ·exact .inr (by omega)
theorem do_ (B : Nat) (f : Cf) (L : List Sn) (F : List Nat) (a : Ac) (w : World) (h : St w B f L F) (hr : Rd w a) (hap : Apt a.A a.L F) (hlen : a.L.length ≤ 10000) (hL : L.length ≤ 100000) :
  Calls prog 45 #[.pointer (some ⟨B, 0, none⟩), .agg a.arr] w (ActPost B (doF f a) (doL f L a) (doO f L a) (doI f L a) F (doE f L a) w) := by
 have hf1 := Fr.alloc (fun _ => False) w (.cells a.arr TAc)
 have hf2 := Fr.alloc (fun _ => False) (w.alloc (.cells a.arr TAc)) (.cells #[.slice none 0 0, .slice none 0 0] TDl)
 have hf := hf1.trans hf2 (T := fun _ => False) (fun _ _ h => h) (fun _ _ h => h)
 have HS := Lib.hid (h.keep hf); have HL := Lib.hid (hr.1.keep hf); have HF := Lib.hid hf; have HFl := Lib.hid h.lt; have HAp := Lib.hid hap; have HN := Lib.hid hr.2
 have HBa := Lib.hid ((Bk.new w a.arr TAc).fr hf2 (fun _ _ h => h))
 have HBd := Lib.hid (Bk.new (w.alloc (.cells a.arr TAc)) #[.slice none 0 0, .slice none 0 0] TDl)
 have hz1 : (w.alloc (.cells a.arr TAc)).heap.size = w.heap.size + 1 := by simp
 have hz2 : ((w.alloc (.cells a.arr TAc)).alloc (.cells #[.slice none 0 0, .slice none 0 0] TDl)).heap.size = w.heap.size + 2 := by simp
 obtain ⟨E, hE⟩ : ∃ E, doE f L a = E := ⟨_, rfl⟩
 obtain ⟨f', hf'⟩ : ∃ E, doF f a = E := ⟨_, rfl⟩
 obtain ⟨RL, hRL⟩ : ∃ E, doL f L a = E := ⟨_, rfl⟩
 obtain ⟨RO, hRO⟩ : ∃ E, doO f L a = E := ⟨_, rfl⟩
 obtain ⟨RI, hRI⟩ : ∃ E, doI f L a = E := ⟨_, rfl⟩
 rw [hE, hf', hRL, hRO, hRI]
 have HE : Hid ((if a.k = 2 then tickE f a.n else canE f L a.L) = E) := hE
 have HE1 : Hid ((if a.k = 2 then tickF f a.n else f) = f') := hf'
 have HE2 : Hid ((if a.k = 2 then tickL f a.n L else putL f L a.L) = RL) := hRL
 have HE3 : Hid ((if a.k = 2 then tickO f a.n L else putO f L a.L) = RO) := hRO
 have HE4 : Hid ((if a.k = 2 then [] else putI f L a.L) = RI) := hRI
 clear hE hf' hRL hRO hRI h hr hap hf1 hf2 hf
 go_enter func45, ntmps45
 go_upto_region 1 with (fail)
 rw [hz1] at HBd
 have HZ := Lib.hid hz2
 (try rw [hz1])
 generalize ((w.alloc (.cells a.arr TAc)).alloc (.cells #[.slice none 0 0, .slice none 0 0] TDl)) = w1 at *
 clear hz1 hz2
 have a0 : w1.cell? ⟨w.heap.size, 0, none⟩ = some (.int .i64 a.k) := HBa.out.cell 0
 have a1 : w1.cell? ⟨w.heap.size, 1, none⟩ = some (.slice a.A a.L.length a.c) := HBa.out.cell 1
 have a2 : w1.cell? ⟨w.heap.size, 2, none⟩ = some (.int .i64 a.n) := HBa.out.cell 2
 by_cases hk : a.k = 2
 ·rw [if_pos hk] at HE HE1 HE2 HE3 HE4
  have HT := Lib.hid (Tick B f L F a.n w1 HS.out HN.out hL)
  rw [HE.out, HE1.out, HE2.out, HE3.out, HE4.out] at HT
  rw [hk] at a0
  have q0 : decide (a.k = 2) = true := by simpa using hk
  go_wp2_with fail
  refine HT.out.mono ?_
  rintro e w2 ⟨A1, c1, A2, c2, F', rfl, ho⟩
  have HO := Lib.hid ho
  have HBd2 := Lib.hid (HBd.out.fr ho.t.fr (fun b hb hm => by simp at hb; subst hb; have := HFl.out _ hm; omega))
  clear ho a0 a1 a2 HT
  have r0 := HBd2.out.cell 0; have r1 := HBd2.out.cell 1
  have g0 := HBd2.out.free 0; have g1 := HBd2.out.free 1
  have hf3 : Fr (· = w.heap.size + 1) w2 ((w2.setCell ⟨w.heap.size + 1, 0, none⟩ (.slice A1 RO.length c1)).setCell ⟨w.heap.size + 1, 1, none⟩ (.slice A2 RI.length c2)) := (Fr.setCell w2 ⟨w.heap.size + 1, 0, none⟩ _ (S := (· = w.heap.size + 1)) rfl).trans (Fr.setCell _ ⟨w.heap.size + 1, 1, none⟩ _ (S := (· = w.heap.size + 1)) rfl) (fun _ _ h => h) (fun _ _ h => h)
  have HR0 : Hid (Bk ((w2.setCell ⟨w.heap.size + 1, 0, none⟩ (.slice A1 RO.length c1)).setCell ⟨w.heap.size + 1, 1, none⟩ (.slice A2 RI.length c2)) (w.heap.size + 1) #[.slice A1 RO.length c1, .slice A2 RI.length c2] TDl) := (HBd2.out.set 0 _).set 1 _
  have HP : Hid (ActPost B f' RL RO RI F E w (.returned (.tuple #[.agg #[.slice A1 RO.length c1, .slice A2 RI.length c2], .int .i64 E])) ((w2.setCell ⟨w.heap.size + 1, 0, none⟩ (.slice A1 RO.length c1)).setCell ⟨w.heap.size + 1, 1, none⟩ (.slice A2 RI.length c2))) := ⟨A1, c1, A2, c2, F', rfl, ActOut.fin HO.out HF.out HFl.out (Nat.le_succ _) (by rw [HZ.out]; omega) hf3⟩
  clear hf3
  go_wp2_with fail
  exact bodyPost_ret (results_row_slot (p := 4) (q := 5) rfl _ _ (w.heap.size + 1) TDl _ _ _ rfl rfl HR0.out underlying35 rfl (by kernel_rfl)) rfl HP.out
 ·rw [if_neg hk] at HE HE1 HE2 HE3 HE4
  have HT := Lib.hid (Put B f L F a.A a.c a.L w1 HS.out HL.out HAp.out hlen hL)
  rw [HE.out, HE2.out, HE3.out, HE4.out] at HT
  obtain rfl : f = f' := HE1.out
  have q0 : decide (a.k = 2) = false := by simpa using hk
  go_wp2_with fail
  refine HT.out.mono ?_
  rintro e w2 ⟨A1, c1, A2, c2, F', rfl, ho⟩
  have HO := Lib.hid ho
  have HBd2 := Lib.hid (HBd.out.fr ho.t.fr (fun b hb hm => by simp at hb; subst hb; have := HFl.out _ hm; omega))
  clear ho a0 a1 a2 HT
  have r0 := HBd2.out.cell 0; have r1 := HBd2.out.cell 1
  have g0 := HBd2.out.free 0; have g1 := HBd2.out.free 1
  have hf3 : Fr (· = w.heap.size + 1) w2 ((w2.setCell ⟨w.heap.size + 1, 0, none⟩ (.slice A1 RO.length c1)).setCell ⟨w.heap.size + 1, 1, none⟩ (.slice A2 RI.length c2)) := (Fr.setCell w2 ⟨w.heap.size + 1, 0, none⟩ _ (S := (· = w.heap.size + 1)) rfl).trans (Fr.setCell _ ⟨w.heap.size + 1, 1, none⟩ _ (S := (· = w.heap.size + 1)) rfl) (fun _ _ h => h) (fun _ _ h => h)
  have HR0 : Hid (Bk ((w2.setCell ⟨w.heap.size + 1, 0, none⟩ (.slice A1 RO.length c1)).setCell ⟨w.heap.size + 1, 1, none⟩ (.slice A2 RI.length c2)) (w.heap.size + 1) #[.slice A1 RO.length c1, .slice A2 RI.length c2] TDl) := (HBd2.out.set 0 _).set 1 _
  have HP : Hid (ActPost B f RL RO RI F E w (.returned (.tuple #[.agg #[.slice A1 RO.length c1, .slice A2 RI.length c2], .int .i64 E])) ((w2.setCell ⟨w.heap.size + 1, 0, none⟩ (.slice A1 RO.length c1)).setCell ⟨w.heap.size + 1, 1, none⟩ (.slice A2 RI.length c2))) := ⟨A1, c1, A2, c2, F', rfl, ActOut.fin HO.out HF.out HFl.out (Nat.le_succ _) (by rw [HZ.out]; omega) hf3⟩
  clear hf3
  go_wp2_with fail
  exact bodyPost_ret (results_row_slot (p := 4) (q := 5) rfl _ _ (w.heap.size + 1) TDl _ _ _ rfl rfl HR0.out underlying35 rfl (by kernel_rfl)) rfl HP.out
end Law18
set_option maxRecDepth 100000
set_option maxHeartbeats 4000000
namespace Law18
open Name KeyP PackP SetP SetW SetF Delta Sto
attribute [local go_sem] Eng.ev Eng.getO_cons Eng.getO_nil
abbrev ss : ByteArray := ⟨#[115]⟩
abbrev so : ByteArray := ⟨#[111]⟩
abbrev of (i r b : Int) : Sn := ⟨1, i, 0, r, ss, so, b, 0, false⟩
instance (n : Int) : Decidable (in64 n) := by unfold in64; infer_instance
theorem of_ok (i r b : Int) (h : in64 i) (h2 : in64 r) (h3 : in64 b) : (of i r b).ok := ⟨by show in64 1; decide, h, by show in64 0; decide, h2, h3, by show in64 0; decide, by show 1 ≤ maxLen; unfold maxLen; omega, by show 1 ≤ maxLen; unfold maxLen; omega⟩
theorem of_ (i r b : Int) (w : World) : Calls prog 106 #[.int .i64 i, .int .i64 r, .int .i64 b] w fun e w' => e = .returned (of i r b).v ∧ Fr (fun _ => False) w w' := by
 have kb : ∀ W : World, (Instr.build 29 #[(0, .int .i64 1), (1, .int .i64 i), (3, .int .i64 r), (4, .string ss), (5, .string so), (6, .int .i64 b)]).run prog W = .ok (.agg #[.int .i64 1, .int .i64 i, .int .i64 0, .int .i64 r, .string ss, .string so, .int .i64 b, .int .i64 0, .bool false]) W := fun W => by kernel_rfl
 go_enter func106, ntmps106
 go_wp2_with fail
 have hh := heap_new w (.cells (of i r b).arr 29)
 exact bodyPost_ret (results_cell_row rfl _ _ w.heap.size 29 _ (0, 0) _ rfl hh underlying29 rfl (by kernel_rfl)) rfl ⟨rfl, Fr.alloc _ _ _⟩
abbrev f0 : Cf := ⟨3, 2, 10, 0, 0⟩
abbrev f1 : Cf := f0.at mnI
abbrev f2 : Cf := f1.at 20
theorem e1 : canE f1 [] [of 1 1 5, of 2 0 50, of 1 0 5] = 0 := by decide +kernel
theorem e1L : putL f1 [] [of 1 1 5, of 2 0 50, of 1 0 5] = [of 1 1 5, of 2 0 50] := by decide +kernel
theorem e1O : putO f1 [] [of 1 1 5, of 2 0 50, of 1 0 5] = [] := by decide +kernel
theorem e1I : putI f1 [] [of 1 1 5, of 2 0 50, of 1 0 5] = [of 1 1 5, of 2 0 50] := by decide +kernel
theorem e2 : canE f1 [of 1 1 5, of 2 0 50] [of 3 0 5] = 5 := by decide +kernel
theorem e2L : putL f1 [of 1 1 5, of 2 0 50] [of 3 0 5] = [of 1 1 5, of 2 0 50] := by decide +kernel
theorem e2O : putO f1 [of 1 1 5, of 2 0 50] [of 3 0 5] = [] := by decide +kernel
theorem e2I : putI f1 [of 1 1 5, of 2 0 50] [of 3 0 5] = [] := by decide +kernel
theorem e3 : tickE f1 20 = 0 := by decide +kernel
theorem e3F : tickF f1 20 = f2 := by unfold tickF; rw [if_neg (by decide)]
theorem e3L : tickL f1 20 [of 1 1 5, of 2 0 50] = [of 2 0 50] := by decide +kernel
theorem e3O : tickO f1 20 [of 1 1 5, of 2 0 50] = [of 1 1 5] := by decide +kernel
theorem e4 : canE f2 [of 2 0 50] [of 1 9 5] = 6 := by decide +kernel
theorem e4L : putL f2 [of 2 0 50] [of 1 9 5] = [of 2 0 50] := by decide +kernel
theorem e4O : putO f2 [of 2 0 50] [of 1 9 5] = [] := by decide +kernel
theorem e4I : putI f2 [of 2 0 50] [of 1 9 5] = [] := by decide +kernel
theorem e5 : tickE f2 19 = 1 := by decide +kernel
theorem e5F : tickF f2 19 = f2 := by unfold tickF; rw [if_pos (by decide)]
theorem e5L : tickL f2 19 [of 2 0 50] = [of 2 0 50] := by decide +kernel
theorem e5O : tickO f2 19 [of 2 0 50] = [] := by decide +kernel
theorem hz2 : hz f2 = 10 := by decide +kernel
theorem SameT {A A2 : Option Addr} {c c2 n n2 : Nat} {L M : List Sn} {w : World} (hS : Ls w A c L) (hS2 : Ls w A2 c2 M) (hn : L.length = n) (hn2 : M.length = n2) (h : L = M) :
  Calls prog 19 #[.slice A n c, .slice A2 n2 c2] w fun e w' => e = .returned (.bool true) ∧ Fr (fun _ => False) w w' := by
 subst hn; subst hn2
 exact (SetF.Same A A2 c c2 L M w hS.s hS2.s).mono (fun _ _ ⟨h1, h2⟩ => ⟨by rw [h1, decide_eq_true h], h2⟩)
theorem Now20 {B : Nat} {L : List Sn} {F : List Nat} {w : World} (h : St w B f2 L F) : Calls prog 46 #[.pointer (some ⟨B, 0, none⟩)] w fun e w' => e = .returned (.int .i64 20) ∧ w = w' := Sto.Now B f2 _ _ _ F w h.s
theorem Hor10 {B : Nat} {L : List Sn} {F : List Nat} {w : World} (h : St w B f2 L F) : Calls prog 49 #[.pointer (some ⟨B, 0, none⟩)] w fun e w' => e = .returned (.int .i64 10) ∧ Fr (fun _ => False) w w' := by
 have h1 := Sto.Horizon B f2 _ _ _ F w h.s h.f.2.2.1 h.f.2.2.2
 rwa [hz2] at h1
structure A7 (w0 w : World) (B : Nat) (F : List Nat) (D : List (Nat × Array Value × TypeId)) (K : List (Option Addr × Nat × List Sn)) (bo oo : Nat) : Prop where
 z : AZ w0 w B f2 [of 2 0 50] F D K
 o : At w bo oo (of 1 1 5)
theorem A7.fr {w0 w w' : World} {B : Nat} {F : List Nat} {D : List (Nat × Array Value × TypeId)} {K : List (Option Addr × Nat × List Sn)} {bo oo : Nat} (h : A7 w0 w B F D K bo oo) (hf : Fr (fun _ => False) w w') : A7 w0 w' B F D K bo oo := ⟨h.z.fr hf, h.o.fr hf (fun h => h)⟩
theorem aw7 {ops : Array Oper} (hops : Eng.fnOps Tryz.f44 7 = ops) (a0 : Act) (Q : Exit → Act → World → Prop) (w0 w : World) (B : Nat) (F : List Nat) (b2 b6 bo oo : Nat) (A1 A2 A4 : Option Addr) (c1 c2 c3 c4 : Nat) (hst : A7 w0 w B F [(b2, #[.slice A1 0 c1, .slice A2 2 c2], TDl), (b6, #[.slice (some ⟨bo, oo, none⟩) 1 c3, .slice A4 0 c4], TDl)] [] bo oo)
  (hn : a0.tmps.size = 108) (h_1 : a0.tmps.getD 1 undef = .pointer (some ⟨B, 0, none⟩)) (h_2 : a0.tmps.getD 2 undef = .pointer (some ⟨b2, 0, none⟩)) (h_3 : a0.tmps.getD 3 undef = .int .i64 0) (h_5 : a0.tmps.getD 5 undef = .int .i64 5) (h_6 : a0.tmps.getD 6 undef = .pointer (some ⟨b6, 0, none⟩)) (h_7 : a0.tmps.getD 7 undef = .int .i64 0) (h_9 : a0.tmps.getD 9 undef = .int .i64 6) (h_11 : a0.tmps.getD 11 undef = .int .i64 1)
  (hpost : ∀ (x : Nat → Value) (w' : World), x 0 = .bool true → AZ w0 w' B f2 [of 2 0 50] F [] [] → Q .normal (Eng.setAll a0 [0, 47, 48, 49, 50, 51, 52, 53, 54, 55, 56, 57, 58, 59, 60, 61, 62, 63, 64, 65, 66, 67, 68, 69, 70, 71, 72, 73, 74, 75, 76, 77, 78, 79, 80, 81, 82, 83, 84, 85, 86, 87, 88, 89, 90, 91, 92, 93, 94, 95, 96, 97, 98, 99, 100, 101, 102, 103, 104, 105, 106, 107] x) w') :
  (Code.region 7 ops true).wp prog Q a0 w := by
 simp only [Eng.fnOps, Eng.regOps, Tryz.f44, Option.bind_some, Option.getD_some, Nat.reduceEqDiff, ↓reduceIte] at hops
 subst hops
 have hq : ∀ V : World, (binOp .eql TSn (.agg #[.int .i64 1, .int .i64 1, .int .i64 0, .int .i64 1, .string ss, .string so, .int .i64 5, .int .i64 0, .bool false]) (.agg #[.int .i64 1, .int .i64 1, .int .i64 0, .int .i64 1, .string ss, .string so, .int .i64 5, .int .i64 0, .bool false])).run prog V = .ok (.bool true) V := fun V => by kernel_rfl
 have HSt := Lib.hid (hst.fr (Fr.drew _ _))
 refine Eng.regionN [(0, true), (1, true), (2, true), (3, true), (4, true), (5, true), (6, true), (7, true), (8, true), (9, true), (10, true), (11, true), (12, true), (13, true), (14, true), (15, true), (16, true), (17, true), (18, true), (19, true), (20, true), (21, true), (22, true), (23, true), (24, true), (25, true), (26, true), (27, true), (28, true), (29, false), (30, true), (31, true), (32, true), (33, true), (34, true), (35, true), (36, true), (37, true), (38, true), (39, true), (40, true), (41, true), (42, true), (43, true), (44, true), (45, true), (46, false), (47, false), (48, false), (49, false), (50, true), (51, true), (52, true), (53, false), (54, true), (55, true), (56, true), (57, true), (58, false), (59, true), (60, true), (61, true)] (fun w' => w'.cell? ⟨b2, 0, none⟩ = some (.slice A1 0 c1) ∧ w'.cell? ⟨b2, 1, none⟩ = some (.slice A2 2 c2) ∧ w'.cell? ⟨b6, 0, none⟩ = some (.slice (some ⟨bo, oo, none⟩) 1 c3) ∧ w'.cell? ⟨bo, oo, none⟩ = some (.int .i64 1) ∧ w'.cell? ⟨bo, oo + 1, none⟩ = some (.int .i64 1) ∧ w'.cell? ⟨bo, oo + 1 + 1, none⟩ = some (.int .i64 0) ∧ w'.cell? ⟨bo, oo + 1 + 1 + 1, none⟩ = some (.int .i64 1) ∧ w'.cell? ⟨bo, oo + 1 + 1 + 1 + 1, none⟩ = some (.string ss) ∧ w'.cell? ⟨bo, oo + 1 + 1 + 1 + 1 + 1, none⟩ = some (.string so) ∧ w'.cell? ⟨bo, oo + 1 + 1 + 1 + 1 + 1 + 1, none⟩ = some (.int .i64 5) ∧ w'.cell? ⟨bo, oo + 1 + 1 + 1 + 1 + 1 + 1 + 1, none⟩ = some (.int .i64 0) ∧ w'.cell? ⟨bo, oo + 1 + 1 + 1 + 1 + 1 + 1 + 1 + 1, none⟩ = some (.bool false)) (by kernel_rfl) 108 hn (by kernel_rfl) rfl (by kernel_rfl) (⟨(HSt.out.z.d (b2, #[.slice A1 0 c1, .slice A2 2 c2], TDl) (by simp)).1.1.cell 0, (HSt.out.z.d (b2, #[.slice A1 0 c1, .slice A2 2 c2], TDl) (by simp)).1.1.cell 1, (HSt.out.z.d (b6, #[.slice (some ⟨bo, oo, none⟩) 1 c3, .slice A4 0 c4], TDl) (by simp)).1.1.cell 0, HSt.out.o 0 _ rfl, HSt.out.o 1 _ rfl, HSt.out.o 2 _ rfl, HSt.out.o 3 _ rfl, HSt.out.o 4 _ rfl, HSt.out.o 5 _ rfl, HSt.out.o 6 _ rfl, HSt.out.o 7 _ rfl, HSt.out.o 8 _ rfl⟩) (fun a b ha hb => ?_)
 subst ha
 have hb1 : b 1 = .pointer (some ⟨B, 0, none⟩) := (hb 1).symm.trans h_1
 have hb2 : b 2 = .pointer (some ⟨b2, 0, none⟩) := (hb 2).symm.trans h_2
 have hb3 : b 3 = .int .i64 0 := (hb 3).symm.trans h_3
 have hb5 : b 5 = .int .i64 5 := (hb 5).symm.trans h_5
 have hb6 : b 6 = .pointer (some ⟨b6, 0, none⟩) := (hb 6).symm.trans h_6
 have hb7 : b 7 = .int .i64 0 := (hb 7).symm.trans h_7
 have hb9 : b 9 = .int .i64 6 := (hb 9).symm.trans h_9
 have hb11 : b 11 = .int .i64 1 := (hb 11).symm.trans h_11
 clear hb h_1 h_2 h_3 h_5 h_6 h_7 h_9 h_11
 have HP := Lib.hid hpost; have HN := Lib.hid hn
 clear hpost hn
 iterate 29 (refine Eng.Sch.tk ?_)
 refine Eng.Sch.call rfl rfl (by decide) (by kernel_rfl) ?_ (of_ 1 1 5 _) ?_
 ·go_simp
 rintro e w2 ⟨rfl, hf⟩
 have HSt1 := Lib.hid (HSt.out.fr hf)
 refine ⟨_, rfl, ⟨(HSt1.out.z.d (b2, #[.slice A1 0 c1, .slice A2 2 c2], TDl) (by simp)).1.1.cell 0, (HSt1.out.z.d (b2, #[.slice A1 0 c1, .slice A2 2 c2], TDl) (by simp)).1.1.cell 1, (HSt1.out.z.d (b6, #[.slice (some ⟨bo, oo, none⟩) 1 c3, .slice A4 0 c4], TDl) (by simp)).1.1.cell 0, HSt1.out.o 0 _ rfl, HSt1.out.o 1 _ rfl, HSt1.out.o 2 _ rfl, HSt1.out.o 3 _ rfl, HSt1.out.o 4 _ rfl, HSt1.out.o 5 _ rfl, HSt1.out.o 6 _ rfl, HSt1.out.o 7 _ rfl, HSt1.out.o 8 _ rfl⟩, ?_⟩
 iterate 16 (refine Eng.Sch.tk ?_)
 refine Eng.Sch.call rfl rfl (by decide) (by kernel_rfl) ?_ (Sto.All B f2 [of 2 0 50] F _ HSt1.out.z.s (by simp)) ?_
 ·go_simp
 rintro e w3 ⟨A9, c9, rfl, hls, hown, hb⟩
 have HSt2 := Lib.hid ((⟨HSt1.out.z.own hls hown hb, HSt1.out.o.fr (Fr.of_below' hb (fun _ => False)) (fun h => h)⟩ : A7 w0 w3 B F [(b2, #[.slice A1 0 c1, .slice A2 2 c2], TDl), (b6, #[.slice (some ⟨bo, oo, none⟩) 1 c3, .slice A4 0 c4], TDl)] [(A9, c9, [of 2 0 50])] bo oo))
 refine ⟨_, rfl, ⟨(HSt2.out.z.d (b2, #[.slice A1 0 c1, .slice A2 2 c2], TDl) (by simp)).1.1.cell 0, (HSt2.out.z.d (b2, #[.slice A1 0 c1, .slice A2 2 c2], TDl) (by simp)).1.1.cell 1, (HSt2.out.z.d (b6, #[.slice (some ⟨bo, oo, none⟩) 1 c3, .slice A4 0 c4], TDl) (by simp)).1.1.cell 0, HSt2.out.o 0 _ rfl, HSt2.out.o 1 _ rfl, HSt2.out.o 2 _ rfl, HSt2.out.o 3 _ rfl, HSt2.out.o 4 _ rfl, HSt2.out.o 5 _ rfl, HSt2.out.o 6 _ rfl, HSt2.out.o 7 _ rfl, HSt2.out.o 8 _ rfl⟩, ?_⟩
 refine Eng.Sch.call rfl rfl (by decide) (by kernel_rfl) ?_ (of_ 2 0 50 _) ?_
 ·go_simp
 rintro e w4 ⟨rfl, hf4⟩
 have HSt3 := Lib.hid (HSt2.out.fr hf4)
 refine ⟨_, rfl, ⟨(HSt3.out.z.d (b2, #[.slice A1 0 c1, .slice A2 2 c2], TDl) (by simp)).1.1.cell 0, (HSt3.out.z.d (b2, #[.slice A1 0 c1, .slice A2 2 c2], TDl) (by simp)).1.1.cell 1, (HSt3.out.z.d (b6, #[.slice (some ⟨bo, oo, none⟩) 1 c3, .slice A4 0 c4], TDl) (by simp)).1.1.cell 0, HSt3.out.o 0 _ rfl, HSt3.out.o 1 _ rfl, HSt3.out.o 2 _ rfl, HSt3.out.o 3 _ rfl, HSt3.out.o 4 _ rfl, HSt3.out.o 5 _ rfl, HSt3.out.o 6 _ rfl, HSt3.out.o 7 _ rfl, HSt3.out.o 8 _ rfl⟩, ?_⟩
 have HSt4 := Lib.hid ((⟨HSt3.out.z.lit (M := [of 2 0 50]) #[.int .i64 1, .int .i64 2, .int .i64 0, .int .i64 0, .string ss, .string so, .int .i64 50, .int .i64 0, .bool false] rfl 1 rfl (by simp) (by intro x hx; simp at hx; subst hx; exact of_ok 2 0 50 (by decide) (by decide) (by decide)), HSt3.out.o.fr (Fr.alloc (fun _ => False) _ _) (fun h => h)⟩ : A7 w0 (w4.alloc (.cells #[.int .i64 1, .int .i64 2, .int .i64 0, .int .i64 0, .string ss, .string so, .int .i64 50, .int .i64 0, .bool false] TSn)) B F [(b2, #[.slice A1 0 c1, .slice A2 2 c2], TDl), (b6, #[.slice (some ⟨bo, oo, none⟩) 1 c3, .slice A4 0 c4], TDl)] [(some ⟨w4.heap.size, 0, none⟩, 1, [of 2 0 50]), (A9, c9, [of 2 0 50])] bo oo))
 refine Eng.Sch.step rfl rfl (by decide) (by kernel_rfl) (by go_simp; first | done | with_reducible rfl | exact ⟨rfl, rfl⟩) (⟨(HSt4.out.z.d (b2, #[.slice A1 0 c1, .slice A2 2 c2], TDl) (by simp)).1.1.cell 0, (HSt4.out.z.d (b2, #[.slice A1 0 c1, .slice A2 2 c2], TDl) (by simp)).1.1.cell 1, (HSt4.out.z.d (b6, #[.slice (some ⟨bo, oo, none⟩) 1 c3, .slice A4 0 c4], TDl) (by simp)).1.1.cell 0, HSt4.out.o 0 _ rfl, HSt4.out.o 1 _ rfl, HSt4.out.o 2 _ rfl, HSt4.out.o 3 _ rfl, HSt4.out.o 4 _ rfl, HSt4.out.o 5 _ rfl, HSt4.out.o 6 _ rfl, HSt4.out.o 7 _ rfl, HSt4.out.o 8 _ rfl⟩) ?_
 have hSS : (w4.alloc (.cells #[.int .i64 1, .int .i64 2, .int .i64 0, .int .i64 0, .string ss, .string so, .int .i64 50, .int .i64 0, .bool false] TSn)).cell? ⟨b2, 0, none⟩ = some (.slice A1 0 c1) ∧ (w4.alloc (.cells #[.int .i64 1, .int .i64 2, .int .i64 0, .int .i64 0, .string ss, .string so, .int .i64 50, .int .i64 0, .bool false] TSn)).cell? ⟨b2, 1, none⟩ = some (.slice A2 2 c2) ∧ (w4.alloc (.cells #[.int .i64 1, .int .i64 2, .int .i64 0, .int .i64 0, .string ss, .string so, .int .i64 50, .int .i64 0, .bool false] TSn)).cell? ⟨b6, 0, none⟩ = some (.slice (some ⟨bo, oo, none⟩) 1 c3) ∧ (w4.alloc (.cells #[.int .i64 1, .int .i64 2, .int .i64 0, .int .i64 0, .string ss, .string so, .int .i64 50, .int .i64 0, .bool false] TSn)).cell? ⟨bo, oo, none⟩ = some (.int .i64 1) ∧ (w4.alloc (.cells #[.int .i64 1, .int .i64 2, .int .i64 0, .int .i64 0, .string ss, .string so, .int .i64 50, .int .i64 0, .bool false] TSn)).cell? ⟨bo, oo + 1, none⟩ = some (.int .i64 1) ∧ (w4.alloc (.cells #[.int .i64 1, .int .i64 2, .int .i64 0, .int .i64 0, .string ss, .string so, .int .i64 50, .int .i64 0, .bool false] TSn)).cell? ⟨bo, oo + 1 + 1, none⟩ = some (.int .i64 0) ∧ (w4.alloc (.cells #[.int .i64 1, .int .i64 2, .int .i64 0, .int .i64 0, .string ss, .string so, .int .i64 50, .int .i64 0, .bool false] TSn)).cell? ⟨bo, oo + 1 + 1 + 1, none⟩ = some (.int .i64 1) ∧ (w4.alloc (.cells #[.int .i64 1, .int .i64 2, .int .i64 0, .int .i64 0, .string ss, .string so, .int .i64 50, .int .i64 0, .bool false] TSn)).cell? ⟨bo, oo + 1 + 1 + 1 + 1, none⟩ = some (.string ss) ∧ (w4.alloc (.cells #[.int .i64 1, .int .i64 2, .int .i64 0, .int .i64 0, .string ss, .string so, .int .i64 50, .int .i64 0, .bool false] TSn)).cell? ⟨bo, oo + 1 + 1 + 1 + 1 + 1, none⟩ = some (.string so) ∧ (w4.alloc (.cells #[.int .i64 1, .int .i64 2, .int .i64 0, .int .i64 0, .string ss, .string so, .int .i64 50, .int .i64 0, .bool false] TSn)).cell? ⟨bo, oo + 1 + 1 + 1 + 1 + 1 + 1, none⟩ = some (.int .i64 5) ∧ (w4.alloc (.cells #[.int .i64 1, .int .i64 2, .int .i64 0, .int .i64 0, .string ss, .string so, .int .i64 50, .int .i64 0, .bool false] TSn)).cell? ⟨bo, oo + 1 + 1 + 1 + 1 + 1 + 1 + 1, none⟩ = some (.int .i64 0) ∧ (w4.alloc (.cells #[.int .i64 1, .int .i64 2, .int .i64 0, .int .i64 0, .string ss, .string so, .int .i64 50, .int .i64 0, .bool false] TSn)).cell? ⟨bo, oo + 1 + 1 + 1 + 1 + 1 + 1 + 1 + 1, none⟩ = some (.bool false) := ⟨(HSt4.out.z.d (b2, #[.slice A1 0 c1, .slice A2 2 c2], TDl) (by simp)).1.1.cell 0, (HSt4.out.z.d (b2, #[.slice A1 0 c1, .slice A2 2 c2], TDl) (by simp)).1.1.cell 1, (HSt4.out.z.d (b6, #[.slice (some ⟨bo, oo, none⟩) 1 c3, .slice A4 0 c4], TDl) (by simp)).1.1.cell 0, HSt4.out.o 0 _ rfl, HSt4.out.o 1 _ rfl, HSt4.out.o 2 _ rfl, HSt4.out.o 3 _ rfl, HSt4.out.o 4 _ rfl, HSt4.out.o 5 _ rfl, HSt4.out.o 6 _ rfl, HSt4.out.o 7 _ rfl, HSt4.out.o 8 _ rfl⟩
 refine Eng.Sch.call rfl rfl (by decide) (by kernel_rfl) ?_ (SameT (HSt4.out.z.k (A9, c9, [of 2 0 50]) (by simp)).1 (HSt4.out.z.k (some ⟨_, 0, none⟩, 1, [of 2 0 50]) (by simp; exact .inl rfl)).1 rfl rfl rfl) ?_
 ·go_simp
 rintro e w6 ⟨rfl, hf6⟩
 have HSt5 := Lib.hid (HSt4.out.fr hf6)
 have hSS : w6.cell? ⟨b2, 0, none⟩ = some (.slice A1 0 c1) ∧ w6.cell? ⟨b2, 1, none⟩ = some (.slice A2 2 c2) ∧ w6.cell? ⟨b6, 0, none⟩ = some (.slice (some ⟨bo, oo, none⟩) 1 c3) ∧ w6.cell? ⟨bo, oo, none⟩ = some (.int .i64 1) ∧ w6.cell? ⟨bo, oo + 1, none⟩ = some (.int .i64 1) ∧ w6.cell? ⟨bo, oo + 1 + 1, none⟩ = some (.int .i64 0) ∧ w6.cell? ⟨bo, oo + 1 + 1 + 1, none⟩ = some (.int .i64 1) ∧ w6.cell? ⟨bo, oo + 1 + 1 + 1 + 1, none⟩ = some (.string ss) ∧ w6.cell? ⟨bo, oo + 1 + 1 + 1 + 1 + 1, none⟩ = some (.string so) ∧ w6.cell? ⟨bo, oo + 1 + 1 + 1 + 1 + 1 + 1, none⟩ = some (.int .i64 5) ∧ w6.cell? ⟨bo, oo + 1 + 1 + 1 + 1 + 1 + 1 + 1, none⟩ = some (.int .i64 0) ∧ w6.cell? ⟨bo, oo + 1 + 1 + 1 + 1 + 1 + 1 + 1 + 1, none⟩ = some (.bool false) := ⟨(HSt5.out.z.d (b2, #[.slice A1 0 c1, .slice A2 2 c2], TDl) (by simp)).1.1.cell 0, (HSt5.out.z.d (b2, #[.slice A1 0 c1, .slice A2 2 c2], TDl) (by simp)).1.1.cell 1, (HSt5.out.z.d (b6, #[.slice (some ⟨bo, oo, none⟩) 1 c3, .slice A4 0 c4], TDl) (by simp)).1.1.cell 0, HSt5.out.o 0 _ rfl, HSt5.out.o 1 _ rfl, HSt5.out.o 2 _ rfl, HSt5.out.o 3 _ rfl, HSt5.out.o 4 _ rfl, HSt5.out.o 5 _ rfl, HSt5.out.o 6 _ rfl, HSt5.out.o 7 _ rfl, HSt5.out.o 8 _ rfl⟩
 refine ⟨_, rfl, hSS, ?_⟩
 iterate 3 (refine Eng.Sch.tk ?_)
 refine Eng.Sch.call rfl rfl (by decide) (by kernel_rfl) ?_ (Now20 HSt5.out.z.s) ?_
 ·go_simp
 rintro e w_6 ⟨rfl, rfl⟩
 refine ⟨_, rfl, hSS, ?_⟩
 iterate 4 (refine Eng.Sch.tk ?_)
 refine Eng.Sch.call rfl rfl (by decide) (by kernel_rfl) ?_ (Hor10 HSt5.out.z.s) ?_
 ·go_simp
 rintro e w7 ⟨rfl, hf7⟩
 have HSt6 := Lib.hid (HSt5.out.fr hf7)
 refine ⟨_, rfl, ⟨(HSt6.out.z.d (b2, #[.slice A1 0 c1, .slice A2 2 c2], TDl) (by simp)).1.1.cell 0, (HSt6.out.z.d (b2, #[.slice A1 0 c1, .slice A2 2 c2], TDl) (by simp)).1.1.cell 1, (HSt6.out.z.d (b6, #[.slice (some ⟨bo, oo, none⟩) 1 c3, .slice A4 0 c4], TDl) (by simp)).1.1.cell 0, HSt6.out.o 0 _ rfl, HSt6.out.o 1 _ rfl, HSt6.out.o 2 _ rfl, HSt6.out.o 3 _ rfl, HSt6.out.o 4 _ rfl, HSt6.out.o 5 _ rfl, HSt6.out.o 6 _ rfl, HSt6.out.o 7 _ rfl, HSt6.out.o 8 _ rfl⟩, ?_⟩
 iterate 3 (refine Eng.Sch.tk ?_)
 refine Eng.Sch.end_ [0, 47, 48, 49, 50, 51, 52, 53, 54, 55, 56, 57, 58, 59, 60, 61, 62, 63, 64, 65, 66, 67, 68, 69, 70, 71, 72, 73, 74, 75, 76, 77, 78, 79, 80, 81, 82, 83, 84, 85, 86, 87, 88, 89, 90, 91, 92, 93, 94, 95, 96, 97, 98, 99, 100, 101, 102, 103, 104, 105, 106, 107] HN.out (by kernel_rfl) (by kernel_rfl) ?_
 exact HP.out _ _ rfl HSt6.out.z.only
theorem awake (w : World) : Calls prog 44 #[] w fun e w' => e = .returned (.bool true) ∧ Below w.heap.size w w' := by
 have Fx11 := Lib.hid (of_ 1 1 5); have Jx11 := of_ok 1 1 5 (by decide) (by decide) (by decide)
 have Fx20 := Lib.hid (of_ 2 0 50); have Jx20 := of_ok 2 0 50 (by decide) (by decide) (by decide)
 have Fx10 := Lib.hid (of_ 1 0 5); have Jx10 := of_ok 1 0 5 (by decide) (by decide) (by decide)
 have Fx30 := Lib.hid (of_ 3 0 5); have Jx30 := of_ok 3 0 5 (by decide) (by decide) (by decide)
 have Fx19 := Lib.hid (of_ 1 9 5); have Jx19 := of_ok 1 9 5 (by decide) (by decide) (by decide)
 have E1 := Lib.hid e1; have E1L := Lib.hid e1L; have E1O := Lib.hid e1O; have E1I := Lib.hid e1I; have E2 := Lib.hid e2; have E2L := Lib.hid e2L; have E2O := Lib.hid e2O; have E2I := Lib.hid e2I; have E3 := Lib.hid e3; have E3F := Lib.hid e3F; have E3L := Lib.hid e3L; have E3O := Lib.hid e3O; have E4 := Lib.hid e4; have E4L := Lib.hid e4L; have E4O := Lib.hid e4O; have E4I := Lib.hid e4I; have E5 := Lib.hid e5; have E5F := Lib.hid e5F; have E5L := Lib.hid e5L; have E5O := Lib.hid e5O
 generalize hxx11 : of 1 1 5 = x11 at *
 generalize hxx20 : of 2 0 50 = x20 at *
 generalize hxx10 : of 1 0 5 = x10 at *
 generalize hxx30 : of 3 0 5 = x30 at *
 generalize hxx19 : of 1 9 5 = x19 at *
 have HOk_x11x20x10 : Hid (∀ x ∈ [x11, x20, x10], x.ok) := by
  intro x hx
  simp only [List.mem_cons, List.not_mem_nil, or_false] at hx
  rcases hx with rfl | rfl | rfl <;> assumption
 have HOk_x30 : Hid (∀ x ∈ [x30], x.ok) := by
  intro x hx
  simp only [List.mem_cons, List.not_mem_nil, or_false] at hx
  subst hx; assumption
 have HOk_x19 : Hid (∀ x ∈ [x19], x.ok) := by
  intro x hx
  simp only [List.mem_cons, List.not_mem_nil, or_false] at hx
  subst hx; assumption
 clear Jx11 Jx20 Jx10 Jx30 Jx19
 have HX := Lib.hid (And.intro hxx11 hxx20)
 clear hxx11 hxx20 hxx10 hxx30 hxx19
 go_enter func44, ntmps44
 go_wp2_with fail
 refine (Sto.New f0 w).mono ?_
 rintro e w1 ⟨B, F, rfl, hs, hF, hb⟩
 have HZ : Hid (AZ w w1 B f1 [] F [] []) := AZ.new (Below.refl _ _) (St.new hs (by unfold in64; decide)) hF hb
 clear hs hF hb
 go_wp2_with fail
 refine (Fx11.out w1).mono ?_
 rintro e w2 ⟨rfl, hf⟩
 replace HZ := Lib.hid (HZ.out.fr hf)
 clear hf
 go_wp2_with fail
 refine (Fx20.out w2).mono ?_
 rintro e w3 ⟨rfl, hf⟩
 replace HZ := Lib.hid (HZ.out.fr hf)
 clear hf
 go_wp2_with fail
 refine (Fx10.out w3).mono ?_
 rintro e w4 ⟨rfl, hf⟩
 replace HZ := Lib.hid (HZ.out.fr hf)
 clear hf
 go_wp2_with fail
 replace HZ := Lib.hid (HZ.out.lit (M := [x11, x20, x10]) #[.int .i64 x11.t, .int .i64 x11.i, .int .i64 x11.p, .int .i64 x11.r, .string x11.s, .string x11.o, .int .i64 x11.b, .int .i64 x11.d, .bool x11.g, .int .i64 x20.t, .int .i64 x20.i, .int .i64 x20.p, .int .i64 x20.r, .string x20.s, .string x20.o, .int .i64 x20.b, .int .i64 x20.d, .bool x20.g, .int .i64 x10.t, .int .i64 x10.i, .int .i64 x10.p, .int .i64 x10.r, .string x10.s, .string x10.o, .int .i64 x10.b, .int .i64 x10.d, .bool x10.g] rfl 3 rfl (by simp) HOk_x11x20x10.out)
 generalize hg : w4.alloc (.cells #[.int .i64 x11.t, .int .i64 x11.i, .int .i64 x11.p, .int .i64 x11.r, .string x11.s, .string x11.o, .int .i64 x11.b, .int .i64 x11.d, .bool x11.g, .int .i64 x20.t, .int .i64 x20.i, .int .i64 x20.p, .int .i64 x20.r, .string x20.s, .string x20.o, .int .i64 x20.b, .int .i64 x20.d, .bool x20.g, .int .i64 x10.t, .int .i64 x10.i, .int .i64 x10.p, .int .i64 x10.r, .string x10.s, .string x10.o, .int .i64 x10.b, .int .i64 x10.d, .bool x10.g] TSn) = w5 at *
 clear hg
 go_wp2_with fail
 have HK := Lib.hid (HZ.out.k (_, _, [x11, x20, x10]) (.head _))
 have HA := Lib.hid (Sto.Put B _ _ _ _ _ [x11, x20, x10] w5 HZ.out.s HK.out.1 HK.out.2 (by simp) (by simp))
 rw [E1L.out] at HA
 rw [E1O.out] at HA
 rw [E1I.out] at HA
 rw [E1.out] at HA
 refine HA.out.mono ?_
 rintro e w6 ⟨A1, c1, a1, d1, F1, rfl, ho⟩
 replace HZ := Lib.hid (HZ.out.act ho)
 clear ho HA
 clear HK
 replace HZ := Lib.hid (HZ.out.pickL (K' := []) (by simp))
 replace HZ := Lib.hid (HZ.out.alloc #[.slice A1 0 c1, .slice a1 2 d1] TDl)
 go_upto_region 3 with (fail)
 obtain ⟨b2, hb2⟩ : ∃ b, w6.heap.size = b := ⟨_, rfl⟩
 generalize hg : w6.alloc (.cells #[.slice A1 0 c1, .slice a1 2 d1] TDl) = w7 at *
 clear hg
 rw [hb2] at HZ ⊢
 clear hb2
 go_wp2_with fail
 refine (Fx30.out w7).mono ?_
 rintro e w8 ⟨rfl, hf⟩
 replace HZ := Lib.hid (HZ.out.fr hf)
 clear hf
 go_wp2_with fail
 replace HZ := Lib.hid (HZ.out.lit (M := [x30]) #[.int .i64 x30.t, .int .i64 x30.i, .int .i64 x30.p, .int .i64 x30.r, .string x30.s, .string x30.o, .int .i64 x30.b, .int .i64 x30.d, .bool x30.g] rfl 1 rfl (by simp) HOk_x30.out)
 generalize hg : w8.alloc (.cells #[.int .i64 x30.t, .int .i64 x30.i, .int .i64 x30.p, .int .i64 x30.r, .string x30.s, .string x30.o, .int .i64 x30.b, .int .i64 x30.d, .bool x30.g] TSn) = w9 at *
 clear hg
 go_wp2_with fail
 have HK := Lib.hid (HZ.out.k (_, _, [x30]) (.head _))
 have HA := Lib.hid (Sto.Put B _ _ _ _ _ [x30] w9 HZ.out.s HK.out.1 HK.out.2 (by simp) (by simp))
 rw [E2L.out] at HA
 rw [E2O.out] at HA
 rw [E2I.out] at HA
 rw [E2.out] at HA
 refine HA.out.mono ?_
 rintro e w10 ⟨A2, c2, a2, d2, F2, rfl, ho⟩
 replace HZ := Lib.hid (HZ.out.act ho)
 clear ho HA
 clear HK
 replace HZ := Lib.hid (HZ.out.pickL (K' := []) (by simp))
 replace HZ := Lib.hid (HZ.out.alloc #[.slice A2 0 c2, .slice a2 0 d2] TDl)
 go_upto_region 4 with (fail)
 generalize hg : w10.alloc (.cells #[.slice A2 0 c2, .slice a2 0 d2] TDl) = w11 at *
 clear hg
 replace HZ := Lib.hid HZ.out.lessD
 go_wp2_with fail
 have HA := Lib.hid (Sto.Tick B _ _ _ 20 w11 HZ.out.s (by unfold in64; decide) (by simp))
 rw [E3F.out] at HA
 rw [E3L.out] at HA
 rw [E3O.out] at HA
 rw [E3.out] at HA
 refine HA.out.mono ?_
 rintro e w12 ⟨A3, c3, a3, d3, F3, rfl, ho⟩
 replace HZ := Lib.hid (HZ.out.act ho)
 clear ho HA
 replace HZ := Lib.hid (HZ.out.alloc #[.slice A3 1 c3, .slice a3 0 d3] TDl)
 go_upto_region 5 with (fail)
 obtain ⟨b6, hb6⟩ : ∃ b, w12.heap.size = b := ⟨_, rfl⟩
 generalize hg : w12.alloc (.cells #[.slice A3 1 c3, .slice a3 0 d3] TDl) = w13 at *
 clear hg
 rw [hb6] at HZ ⊢
 clear hb6
 replace HZ := Lib.hid (HZ.out.pickL (K' := [(A3, c3, [x11])]) (by simp))
 go_wp2_with fail
 refine (Fx19.out w13).mono ?_
 rintro e w14 ⟨rfl, hf⟩
 replace HZ := Lib.hid (HZ.out.fr hf)
 clear hf
 go_wp2_with fail
 replace HZ := Lib.hid (HZ.out.lit (M := [x19]) #[.int .i64 x19.t, .int .i64 x19.i, .int .i64 x19.p, .int .i64 x19.r, .string x19.s, .string x19.o, .int .i64 x19.b, .int .i64 x19.d, .bool x19.g] rfl 1 rfl (by simp) HOk_x19.out)
 generalize hg : w14.alloc (.cells #[.int .i64 x19.t, .int .i64 x19.i, .int .i64 x19.p, .int .i64 x19.r, .string x19.s, .string x19.o, .int .i64 x19.b, .int .i64 x19.d, .bool x19.g] TSn) = w15 at *
 clear hg
 go_wp2_with fail
 have HK := Lib.hid (HZ.out.k (_, _, [x19]) (.head _))
 have HA := Lib.hid (Sto.Put B _ _ _ _ _ [x19] w15 HZ.out.s HK.out.1 HK.out.2 (by simp) (by simp))
 rw [E4L.out] at HA
 rw [E4O.out] at HA
 rw [E4I.out] at HA
 rw [E4.out] at HA
 refine HA.out.mono ?_
 rintro e w16 ⟨A4, c4, a4, d4, F4, rfl, ho⟩
 replace HZ := Lib.hid (HZ.out.act ho)
 clear ho HA
 clear HK
 replace HZ := Lib.hid (HZ.out.pickL (K' := [(A3, c3, [x11])]) (by simp))
 replace HZ := Lib.hid (HZ.out.alloc #[.slice A4 0 c4, .slice a4 0 d4] TDl)
 go_upto_region 6 with (fail)
 generalize hg : w16.alloc (.cells #[.slice A4 0 c4, .slice a4 0 d4] TDl) = w17 at *
 clear hg
 replace HZ := Lib.hid HZ.out.lessD
 go_wp2_with fail
 have HA := Lib.hid (Sto.Tick B _ _ _ 19 w17 HZ.out.s (by unfold in64; decide) (by simp))
 rw [E5F.out] at HA
 rw [E5L.out] at HA
 rw [E5O.out] at HA
 rw [E5.out] at HA
 refine HA.out.mono ?_
 rintro e w18 ⟨A5, c5, a5, d5, F5, rfl, ho⟩
 replace HZ := Lib.hid (HZ.out.act ho)
 clear ho HA
 replace HZ := Lib.hid (HZ.out.alloc #[.slice A5 0 c5, .slice a5 0 d5] TDl)
 go_upto_region 7 with (fail)
 generalize hg : w18.alloc (.cells #[.slice A5 0 c5, .slice a5 0 d5] TDl) = w19 at *
 clear hg
 replace HZ := Lib.hid HZ.out.lessD
 have hl3 := (HZ.out.k (A3, c3, [x11]) (by simp)).1
 obtain ⟨bo, oo, rfl, hbo, cA⟩ := hl3.s.at (i := 0) (by simp) (by omega)
 have hAt : At w19 bo oo x11 := by simpa using At.row (L := [x11]) cA (k := 0) (by simp)
 clear hl3 hbo cA
 replace HZ := Lib.hid ((HZ.out.pickL (K' := []) (by simp)).pickD (D' := [(b2, #[.slice A1 0 c1, .slice a1 2 d1], TDl), (b6, #[.slice (some ⟨bo, oo, none⟩) 1 c3, .slice a3 0 d3], TDl)]) (by intro p hp; simp at hp; rcases hp with rfl | rfl <;> simp))
 obtain ⟨rfl, rfl⟩ := HX.out
 refine aw7 (by kernel_rfl) _ _ w w19 B _ b2 b6 bo oo _ _ _ _ _ _ _ ⟨HZ.out, hAt⟩ rfl rfl rfl rfl rfl rfl rfl rfl rfl ?_
 intro x wq h0 hz
 simp only [Eng.setAll, Act.put, List.setIfInBounds_toArray, List.set_cons_succ, List.set_cons_zero]
 rw [h0]
 have HB := Lib.hid hz.b
 clear h0 hz HZ
 go_wp2_with fail
 go_ret
 exact ⟨rfl, HB.out⟩
end Law18
set_option maxRecDepth 100000
set_option maxHeartbeats 2000000
namespace Ref18
open Name KeyP PackP SetP SetW SetF Delta Sto
attribute [local go_sem] Eng.ev Eng.getO_cons Eng.getO_nil
theorem Trace (A : Option Addr) (c : Nat) (L : List Sn) (t : Int) (w : World) (h : Ls w A c L) (hl : L.length ≤ 1000000) :
  Calls prog 57 #[.slice A L.length c, .int .i64 t] w (LsPost (L.filter (fun x => decide (x.t = t))) w) := by
 obtain ⟨i0, hi, hz0, hz1, hz2⟩ := info_parts infoS
 have HMok : Hid (∀ x ∈ L.filter (fun x => decide (x.t = t)), x.ok) := fun x hx => h.ok x (List.mem_filter.1 hx).1
 have HY := Lib.hid h
 clear h
 go_enter func57, ntmps57
 go_wp2_with fail
 go_loopg [5, 6] L.length (fun gk v i wr => ∃ k : Nat, i = .int .i64 k ∧ k ≤ L.length ∧ gk = L.length - k ∧ wr.ownsRow w.heap.size TSn 9 v ((L.take k).filter (fun x => decide (x.t = t))).length (((L.take k).filter (fun x => decide (x.t = t))).flatMap scs) ∧ Below w.heap.size w wr)
 case atStart => exact ⟨0, rfl, Nat.zero_le _, rfl, World.ownsRow_nil _ _ _ _, Below.refl _ _⟩
 case round =>
  obtain ⟨k, rfl, hk, hg, hown, hbel⟩ := hrel
  have HG := Lib.hid hg; have HO := Lib.hid hown; have HB := Lib.hid hbel
  have hszw : w.heap.size ≤ wr.heap.size := hbel.size
  clear hg hown hbel
  by_cases hlt : k < L.length
  ·have HYr := Lib.hid (HY.out.below HB.out)
   obtain ⟨b1, o1, rfl, hb1, c1⟩ := HYr.out.s.at hlt (by omega)
   have HA := Lib.hid (At.row c1 hlt)
   have HSn := Lib.hid (filter_snoc (p := (fun x => decide (x.t = t))) hlt)
   have hfl : ((L.take k).filter (fun x => decide (x.t = t))).length ≤ k := Nat.le_trans (List.length_filter_le _ _) (by rw [List.length_take]; omega)
   clear c1 hb1
   generalize hyy : L[k] = y at *
   generalize (L.take k).filter (fun x => decide (x.t = t)) = M at *
   clear hyy
   have q1 : (0 : Int) ≤ (k : Int) := by omega
   have q2 : decide ((k : Int) < (L.length : Int)) = true := by simp; omega
   have q3 : wrap64 ((k : Int) + 1) = (k : Int) + 1 := by unfold wrap64; omega
   obtain ⟨yc0, yc1, yc2, yc3, yc4, yc5, yc6, yc7, yc8⟩ := SetW.at9 HA.out
   by_cases hp : y.t = t
   ·have HE : Hid ((L.take (k + 1)).filter (fun x => decide (x.t = t)) = M ++ [y]) := by show _ = _; rw [HSn.out]; simp [hp]
    have q4 : (y.t == t) = true := by simpa using hp
    clear hp
    have hown' := HO.out.alloc (.cells y.arr TSn)
    have HBk := Lib.hid (ownsRow_blk HO.out)
    go_wp2_with (at_builtin; refine wpList_append_sl _ rfl (.tmp 20) (.tmp 25) TSs rfl w.heap.size TSn i0 (.agg #[.int .i64 0, .int .i64 0, .int .i64 0, .int .i64 0, .string ByteArray.empty, .string ByteArray.empty, .int .i64 0, .int .i64 0, .bool false]) 9 88 underlying22 hi hz0 hz1 hz2 rfl (by decide) _ _ _ rfl hown' _ _ _ _ rfl (Sl.one wr TSn (scs y) 9 rfl) (by simp [Value.oneCell']) ?_ ?_ ?_ ?_)
    ·unfold maxLen; omega
    ·omega
    ·first | omega | (simp; omega)
    intro v1 w7 hown1 hgrow1
    have HO7 := Lib.hid hown1; have HGr := Lib.hid hgrow1
    clear hown1 hgrow1 hown' yc0 yc1 yc2 yc3 yc4 yc5 yc6 yc7 yc8
    go_wp2_with fail
    go_roundg (L.length - (k + 1))
    case rel => exact ⟨k + 1, by go_num, by omega, rfl, by rw [HE.out]; simpa using HO7.out, (HB.out.alloc hszw _).grown HGr.out (by simp; omega) (fun k e => (HBk.out k e).1)⟩
    case measure => have := HG.out; omega
   ·have HE : Hid ((L.take (k + 1)).filter (fun x => decide (x.t = t)) = M) := by show _ = _; rw [HSn.out]; simp [hp]
    have q4 : (y.t == t) = false := by simpa using hp
    clear hp
    go_wp2_with fail
    go_roundg (L.length - (k + 1))
    case rel => exact ⟨k + 1, by go_num, by omega, rfl, by rw [HE.out]; exact HO.out, HB.out⟩
    case measure => have := HG.out; omega
  ·obtain rfl : k = L.length := by omega
   have q2 : decide ((L.length : Int) < (L.length : Int)) = false := by simp
   rw [List.take_length] at HO
   go_wp2_with fail
   go_ret
   exact LsPost.of ⟨_, rfl, HO.out, HB.out⟩ HMok.out
theorem Live (A : Option Addr) (c : Nat) (L : List Sn) (w : World) (h : Ls w A c L) (hl : L.length ≤ 1000000) :
  Calls prog 66 #[.slice A L.length c] w (LsPost (L.filter (fun x => !x.g)) w) := by
 obtain ⟨i0, hi, hz0, hz1, hz2⟩ := info_parts infoS
 have HMok : Hid (∀ x ∈ L.filter (fun x => !x.g), x.ok) := fun x hx => h.ok x (List.mem_filter.1 hx).1
 have HY := Lib.hid h
 clear h
 go_enter func66, ntmps66
 go_wp2_with fail
 go_loopg [3, 4] L.length (fun gk v i wr => ∃ k : Nat, i = .int .i64 k ∧ k ≤ L.length ∧ gk = L.length - k ∧ wr.ownsRow w.heap.size TSn 9 v ((L.take k).filter (fun x => !x.g)).length (((L.take k).filter (fun x => !x.g)).flatMap scs) ∧ Below w.heap.size w wr)
 case atStart => exact ⟨0, rfl, Nat.zero_le _, rfl, World.ownsRow_nil _ _ _ _, Below.refl _ _⟩
 case round =>
  obtain ⟨k, rfl, hk, hg, hown, hbel⟩ := hrel
  have HG := Lib.hid hg; have HO := Lib.hid hown; have HB := Lib.hid hbel
  have hszw : w.heap.size ≤ wr.heap.size := hbel.size
  clear hg hown hbel
  by_cases hlt : k < L.length
  ·have HYr := Lib.hid (HY.out.below HB.out)
   obtain ⟨b1, o1, rfl, hb1, c1⟩ := HYr.out.s.at hlt (by omega)
   have HA := Lib.hid (At.row c1 hlt)
   have HSn := Lib.hid (filter_snoc (p := (fun x => !x.g)) hlt)
   have hfl : ((L.take k).filter (fun x => !x.g)).length ≤ k := Nat.le_trans (List.length_filter_le _ _) (by rw [List.length_take]; omega)
   clear c1 hb1
   generalize hyy : L[k] = y at *
   generalize (L.take k).filter (fun x => !x.g) = M at *
   clear hyy
   have q1 : (0 : Int) ≤ (k : Int) := by omega
   have q2 : decide ((k : Int) < (L.length : Int)) = true := by simp; omega
   have q3 : wrap64 ((k : Int) + 1) = (k : Int) + 1 := by unfold wrap64; omega
   obtain ⟨yc0, yc1, yc2, yc3, yc4, yc5, yc6, yc7, yc8⟩ := SetW.at9 HA.out
   by_cases hp : y.g = false
   ·have HE : Hid ((L.take (k + 1)).filter (fun x => !x.g) = M ++ [y]) := by show _ = _; rw [HSn.out]; simp [hp]
    have q4 : (!y.g) = true := by rw [hp]; rfl
    clear hp
    have hown' := HO.out.alloc (.cells y.arr TSn)
    have HBk := Lib.hid (ownsRow_blk HO.out)
    go_wp2_with (at_builtin; refine wpList_append_sl _ rfl (.tmp 17) (.tmp 22) TSs rfl w.heap.size TSn i0 (.agg #[.int .i64 0, .int .i64 0, .int .i64 0, .int .i64 0, .string ByteArray.empty, .string ByteArray.empty, .int .i64 0, .int .i64 0, .bool false]) 9 88 underlying22 hi hz0 hz1 hz2 rfl (by decide) _ _ _ rfl hown' _ _ _ _ rfl (Sl.one wr TSn (scs y) 9 rfl) (by simp [Value.oneCell']) ?_ ?_ ?_ ?_)
    ·unfold maxLen; omega
    ·omega
    ·first | omega | (simp; omega)
    intro v1 w7 hown1 hgrow1
    have HO7 := Lib.hid hown1; have HGr := Lib.hid hgrow1
    clear hown1 hgrow1 hown' yc0 yc1 yc2 yc3 yc4 yc5 yc6 yc7 yc8
    go_wp2_with fail
    go_roundg (L.length - (k + 1))
    case rel => exact ⟨k + 1, by go_num, by omega, rfl, by rw [HE.out]; simpa using HO7.out, (HB.out.alloc hszw _).grown HGr.out (by simp; omega) (fun k e => (HBk.out k e).1)⟩
    case measure => have := HG.out; omega
   ·have HE : Hid ((L.take (k + 1)).filter (fun x => !x.g) = M) := by show _ = _; rw [HSn.out]; simp [hp]
    have q4 : (!y.g) = false := by simpa using hp
    clear hp
    go_wp2_with fail
    go_roundg (L.length - (k + 1))
    case rel => exact ⟨k + 1, by go_num, by omega, rfl, by rw [HE.out]; exact HO.out, HB.out⟩
    case measure => have := HG.out; omega
  ·obtain rfl : k = L.length := by omega
   have q2 : decide ((L.length : Int) < (L.length : Int)) = false := by simp
   rw [List.take_length] at HO
   go_wp2_with fail
   go_ret
   exact LsPost.of ⟨_, rfl, HO.out, HB.out⟩ HMok.out
end Ref18
namespace Law18
open Name KeyP PackP SetP SetW SetF Delta Sto BagP
attribute [local go_sem] Eng.ev Eng.getO_cons Eng.getO_nil
theorem few_len {l : List Ac} {m : Nat} (h : fewsB l m = true) : l.length ≤ m ∧ ∀ a ∈ l, a.L.length ≤ 12 := by
 unfold fewsB at h
 rw [Bool.and_eq_true, List.all_eq_true] at h
 have h2 : l.length ≤ m := of_decide_eq_true h.2
 refine ⟨h2, fun a ha => ?_⟩
 have := h.1 a (by rwa [List.take_of_length_le h2])
 unfold fewB at this
 simp at this
 exact this.2
theorem doF_c (f : Cf) (a : Ac) : (doF f a).sp = f.sp ∧ (doF f a).tr = f.tr ∧ (doF f a).wi = f.wi := by
 unfold doF tickF
 split
 ·split <;> exact ⟨rfl, rfl, rfl⟩
 ·exact ⟨rfl, rfl, rfl⟩
theorem doL_len (f : Cf) (L : List Sn) (a : Ac) : (doL f L a).length ≤ L.length + a.L.length := by
 unfold doL tickL putL
 split
 ·split
  ·omega
  ·have := List.length_filter_le (fun x => !past (hz (f.at a.n)) x) L; omega
 ·split
  ·have := setOf_len (L ++ a.L); rw [List.length_append] at this; exact this
  ·omega
theorem put_fits {f : Cf} {L l : List Sn} (hL : Ok L) (h : fits (max f.sp 0) (max f.tr 0) L = true) : fits (max f.sp 0) (max f.tr 0) (putL f L l) = true := by
 unfold putL
 split
 ·rename_i hc
  unfold canE at hc
  split at hc
  ·rename_i hm; rw [hc] at hm; simp at hm
  ·split at hc
   ·rename_i hk
    rw [room hL (setOf_ok l) h, Bool.or_eq_true] at hk
    rcases hk with hk | hk
    ·have h1 := next_eq hL (setOf_ok l)
     rw [in_eq hL (setOf_ok l), of_decide_eq_true hk] at h1
     rw [← setOf_app_r, ← h1]
     exact h
    ·rwa [setOf_app_r] at hk
   ·cases hc
 ·exact h
theorem len_sum : ∀ (M : List (Int × Int)), (∀ x ∈ M, 0 < x.2) → (M.length : Int) ≤ sumL M
 | [], _ => by simp [sumL]
 | x :: M, h => by
  have h1 := len_sum M (fun y hy => h y (List.mem_cons_of_mem _ hy))
  have h2 := h x List.mem_cons_self
  rw [List.length_cons]
  have h3 : sumL (x :: M) = x.2 + sumL M := by simp [sumL]
  omega
theorem cts_len (L : List Sn) : (cts L).length ≤ L.length := by
 have h1 := len_sum (cts L) (fun x hx => (cts_cs L).pos x hx)
 rw [cts_sum] at h1
 omega
theorem do_fits {f : Cf} {L : List Sn} {a : Ac} (hL : Ok L) (h : fits (max f.sp 0) (max f.tr 0) L = true) : fits (max f.sp 0) (max f.tr 0) (doL f L a) = true := by
 unfold doL tickL
 split
 ·split
  ·exact h
  ·exact fits_drop _ h
 ·exact put_fits hL h
theorem at3 {w : World} {A : Option Addr} {c : Nat} {l : List Ac} (hS : Sl w 3 A l.length c (l.flatMap acc)) {k : Nat} (hk : k < l.length) : ∃ b1 o1, A = some ⟨b1, o1, none⟩ ∧ b1 < w.heap.size ∧ w.cell? ⟨b1, o1 + k * 3, none⟩ = some (.int .i64 l[k].k) ∧ w.cell? ⟨b1, o1 + k * 3 + 1, none⟩ = some (.slice l[k].A l[k].L.length l[k].c) ∧ w.cell? ⟨b1, o1 + k * 3 + 1 + 1, none⟩ = some (.int .i64 l[k].n) := by
 obtain ⟨b1, o1, rfl, hb1, c1⟩ := hS.at hk (by omega)
 have h0 := c1 (k * 3 + 0) _ (ac_at hk 0 (by omega)); have h1 := c1 (k * 3 + 1) _ (ac_at hk 1 (by omega)); have h2 := c1 (k * 3 + 2) _ (ac_at hk 2 (by omega))
 exact ⟨b1, o1, rfl, hb1, h0, h1, h2⟩
end Law18
namespace Law18
open Name KeyP PackP SetP SetW SetF Delta Sto
abbrev alv (L : List Sn) : List Sn := L.filter (fun x => !x.g)
section
variable {f : Cf} {L l : List Sn} {n : Int} {a : Ac}
theorem tickL_ok (hL : Ok L) : Ok (tickL f n L) := by
 unfold tickL
 split
 ·exact hL
 ·exact hL.filter _
theorem putL_ok (hL : Ok L) : Ok (putL f L l) := by
 unfold putL
 split
 ·exact setOf_ok _
 ·exact hL
theorem doL_ok (hL : Ok L) : Ok (doL f L a) := by
 unfold doL
 split
 ·exact tickL_ok hL
 ·exact putL_ok hL
theorem putO_eq (hL : Ok L) : putO f L l = wout (putL f L l) L := by
 unfold putO putL
 split
 ·rw [out_eq hL (setOf_ok l), setOf_app_r]
 ·exact (Comp.wout_self L).symm
theorem putI_eq (hL : Ok L) : putI f L l = wout L (putL f L l) := by
 unfold putI putL
 split
 ·rw [in_eq hL (setOf_ok l), setOf_app_r]
 ·exact (Comp.wout_self L).symm
theorem tickO_eq : tickO f n L = wout (tickL f n L) L := by
 unfold tickO tickL
 split
 ·exact (Comp.wout_self L).symm
 ·exact (tick_out _ L).symm
theorem tickI_eq : [] = wout L (tickL f n L) := by
 unfold tickL
 split
 ·exact (Comp.wout_self L).symm
 ·exact (tick_in _ L).symm
theorem doO_eq (hL : Ok L) : doO f L a = wout (doL f L a) L := by
 unfold doO doL
 split
 ·exact tickO_eq
 ·exact putO_eq hL
theorem doI_eq (hL : Ok L) : doI f L a = wout L (doL f L a) := by
 unfold doI doL
 split
 ·exact tickI_eq
 ·exact putI_eq hL
theorem wout_len (M L : List Sn) : (wout M L).length ≤ L.length := List.length_filter_le _ _
theorem doO_len (hL : Ok L) : (doO f L a).length ≤ L.length := by rw [doO_eq hL]; exact wout_len _ _
theorem doI_len (hL : Ok L) : (doI f L a).length ≤ (doL f L a).length := by rw [doI_eq hL]; exact wout_len _ _
end
end Law18
end Go.Proofs.YtdpngmgaomghoaaGreat
