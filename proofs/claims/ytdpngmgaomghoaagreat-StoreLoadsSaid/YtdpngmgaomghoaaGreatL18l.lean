/- The document's store: Load. -/
import Derived.Test.YtdpngmgaomghoaaGreatR18
import Derived.Test.YtdpngmgaomghoaaGreatRefD
import Derived.Test.YtdpngmgaomghoaaGreatSto78
import Derived.Test.YtdpngmgaomghoaaGreatL18q
import Derived.Test.YtdpngmgaomghoaaGreatSameD
namespace Go.Proofs.YtdpngmgaomghoaaGreat
open Go.RowKit
namespace Ref18
open Name KeyP PackP SetP SetW SetF Delta Sto Law18
open Sat2 (endS cl cl_in)
attribute [local go_sem] Eng.ev Eng.getO_cons Eng.getO_nil
def LdPost (f : Cf) (l : List Sn) (E : Int) (w : World) (e : Ending) (w' : World) : Prop :=
 (∃ p, e = .returned (.tuple #[.pointer p, .int .i64 E]) ∧ (E ≠ 0 → p = none) ∧ (E = 0 → ∃ B A c, p = some ⟨B, 0, none⟩ ∧ RS w' B f l A c ∧ w.heap.size ≤ B ∧ (l ≠ [] → ∀ a, A = some a → w.heap.size ≤ a.block))) ∧ Fr (fun _ => False) w w'
set_option maxRecDepth 100000 in
set_option maxHeartbeats 2000000 in
theorem Load (f : Cf) (A : Option Addr) (c : Nat) (l : List Sn) (w : World) (hl : Ls w A c l) (hlen : l.length ≤ 10000) (hfi : in64 f.sp ∧ in64 f.tr ∧ in64 f.wi ∧ in64 f.now) :
  Calls Tryz.prog 61 #[.agg (cfc f), .int .i64 f.now, .slice A l.length c] w (LdPost f l (loadE f l) w) := by
 obtain ⟨i0, hi, hz0, hz1, hz2⟩ := info_parts infoS
 have hf := Fr.alloc (fun _ => False) w (.cells (cfc f) TCf)
 have HBk := Lib.hid (Bk.new w (cfc f) TCf)
 have HL := Lib.hid (hl.keep hf); have HF := Lib.hid hf; have HI := Lib.hid hfi
 have hzw : w.heap.size ≤ (w.alloc (.cells (cfc f) TCf)).heap.size := by simp
 obtain ⟨q1, hq1⟩ : ∃ q, isB l = q := ⟨_, rfl⟩
 obtain ⟨q2, hq2⟩ : ∃ q, l.any (past (hz f)) = q := ⟨_, rfl⟩
 obtain ⟨q3, hq3⟩ : ∃ q, fits (max f.sp 0) (max f.tr 0) l = q := ⟨_, rfl⟩
 have HE : Hid (loadE f l = if !q1 || q2 then 2 else if q3 then 0 else 5) := by
  show _ = _
  rw [← hq1, ← hq2, ← hq3]; rfl
 have HQ1 := Lib.hid hq1; have HQ2 := Lib.hid hq2; have HQ3 := Lib.hid hq3
 clear hl hf hfi hq1 hq2 hq3
 generalize loadE f l = E at *
 go_enter Tryz.func61, Tryz.ntmps61
 go_upto_region 1 with (fail)
 obtain ⟨n0, hn0⟩ : ∃ b, w.heap.size = b := ⟨_, rfl⟩
 have HN0 := Lib.hid hn0
 rw [hn0] at HBk hzw
 (try rw [hn0])
 clear hn0
 generalize w.alloc (.cells (cfc f) TCf) = w1 at *
 have e0 : w1.cell? ⟨n0, 0, none⟩ = some (.int .i64 f.sp) := HBk.out.cell 0
 have e1 : w1.cell? ⟨n0, 1, none⟩ = some (.int .i64 f.tr) := HBk.out.cell 1
 have e2 : w1.cell? ⟨n0, 2, none⟩ = some (.int .i64 f.wi) := HBk.out.cell 2
 have e3 : w1.cell? ⟨n0, 3, none⟩ = some (.int .i64 f.sg) := HBk.out.cell 3
 have hf2 := Fr.alloc (fun _ => False) w1 (.cells (rsc f none 0 0) TRs)
 have HR : Hid (RS (w1.alloc (.cells (rsc f none 0 0) TRs)) w1.heap.size f [] none 0) := ⟨Bk.new _ _ _, Ls.nil _, HI.out⟩
 have HL2 := Lib.hid (HL.out.keep hf2); have HF2 := Lib.hid (HF.out.trans hf2 (T := fun _ => False) (fun _ _ h => h) (fun _ _ h => h)); have HBk2 := Lib.hid (HBk.out.fr hf2 (fun _ _ h => h))
 go_upto_region 2 with (fail)
 obtain ⟨B, hB⟩ : ∃ b, w1.heap.size = b := ⟨_, rfl⟩
 rw [hB] at HR hzw
 (try rw [hB])
 generalize w1.alloc (.cells (rsc f none 0 0) TRs) = w2 at *
 clear hB e0 e1 e2 e3 hf2 HL HF HBk
 go_wp2_with fail
 refine (RefD.Is A c l w2 HL2.out (by omega)).mono ?_
 rintro e w3 ⟨rfl, hf⟩
 replace HR := Lib.hid (HR.out.fr hf); have HL3 := Lib.hid (HL2.out.keep hf); have HF3 := Lib.hid (HF2.out.trans hf (T := fun _ => False) (fun _ _ h => h) (fun _ _ h => h)); have HBk3 := Lib.hid (HBk2.out.fr hf (fun _ _ h => h))
 clear hf HL2 HF2 HBk2
 rw [HQ1.out]
 cases q1 with
 | false =>
  have hE : E = 2 := HE.out
  have HP : Hid (LdPost f l E w (.returned (.tuple #[.pointer none, .int .i64 2])) w3) := ⟨⟨none, by rw [hE], fun _ => rfl, fun h => by rw [hE] at h; cases h⟩, HF3.out⟩
  clear hE
  go_wp2_with fail
  go_ret2
  exact HP.out
 | true =>
  go_wp2_with fail
  refine (Horizon HR.out).mono ?_
  rintro e w4 ⟨rfl, hf⟩
  replace HR := Lib.hid (HR.out.fr hf); have HL4 := Lib.hid (HL3.out.keep hf); have HF4 := Lib.hid (HF3.out.trans hf (T := fun _ => False) (fun _ _ h => h) (fun _ _ h => h)); have HBk4 := Lib.hid (HBk3.out.fr hf (fun _ _ h => h))
  clear hf HL3 HF3 HBk3
  go_wp2_with fail
  refine (Past_ A c l (Sto.hz f) w4 HL4.out (by omega)).mono ?_
  rintro e w5 ⟨rfl, hf⟩
  replace HR := Lib.hid (HR.out.fr hf); have HL5 := Lib.hid (HL4.out.keep hf); have HF5 := Lib.hid (HF4.out.trans hf (T := fun _ => False) (fun _ _ h => h) (fun _ _ h => h)); have HBk5 := Lib.hid (HBk4.out.fr hf (fun _ _ h => h))
  clear hf HL4 HF4 HBk4
  rw [HQ2.out]
  cases q2 with
  | true =>
   have hE : E = 2 := HE.out
   have HP : Hid (LdPost f l E w (.returned (.tuple #[.pointer none, .int .i64 2])) w5) := ⟨⟨none, by rw [hE], fun _ => rfl, fun h => by rw [hE] at h; cases h⟩, HF5.out⟩
   clear hE
   go_wp2_with fail
   go_ret2
   exact HP.out
  | false =>
   have e0 : w5.cell? ⟨n0, 0, none⟩ = some (.int .i64 f.sp) := HBk5.out.cell 0
   have e1 : w5.cell? ⟨n0, 1, none⟩ = some (.int .i64 f.tr) := HBk5.out.cell 1
   have e2 : w5.cell? ⟨n0, 2, none⟩ = some (.int .i64 f.wi) := HBk5.out.cell 2
   have e3 : w5.cell? ⟨n0, 3, none⟩ = some (.int .i64 f.sg) := HBk5.out.cell 3
   go_wp2_with fail
   refine (Lets f A c l w5 HL5.out (by omega)).mono ?_
   rintro e w6 ⟨rfl, hf⟩
   replace HR := Lib.hid (HR.out.fr hf); have HL6 := Lib.hid (HL5.out.keep hf); have HF6 := Lib.hid (HF5.out.trans hf (T := fun _ => False) (fun _ _ h => h) (fun _ _ h => h))
   clear hf HL5 HF5 HBk5 e0 e1 e2 e3
   rw [HQ3.out]
   cases q3 with
   | false =>
    have hE : E = 5 := HE.out
    have HP : Hid (LdPost f l E w (.returned (.tuple #[.pointer none, .int .i64 5])) w6) := ⟨⟨none, by rw [hE], fun _ => rfl, fun h => by rw [hE] at h; cases h⟩, HF6.out⟩
    clear hE
    go_wp2_with fail
    go_ret2
    exact HP.out
   | true =>
    have hE : E = 0 := HE.out
    have HEE := Lib.hid hE
    clear hE
    have z5 := HR.out.cs.2.2.2.2.2
    go_wp2_with (at_builtin; refine wpList_append_sl _ rfl (.tmp 30) (.tmp 31) TSs rfl w6.heap.size TSn i0 (.agg #[.int .i64 0, .int .i64 0, .int .i64 0, .int .i64 0, .string ByteArray.empty, .string ByteArray.empty, .int .i64 0, .int .i64 0, .bool false]) 9 88 Tryz.underlying22 hi hz0 hz1 hz2 rfl (by decide) _ _ _ rfl (World.ownsRow_nil _ _ _ _) _ _ _ _ rfl HL6.out.s (cells_one _) ?_ ?_ ?_ ?_)
    ·unfold maxLen; omega
    ·omega
    ·exact Nat.le_refl _
    intro va w7 howna hgrowa
    have hfa := Fr.grown hgrowa (S := fun _ => False) (fun k e => by cases e)
    obtain ⟨Aa, ca, hva, hsa, hna⟩ := Sl.of_own howna
    subst hva
    have HLa : Hid (Ls w7 Aa ca l) := ⟨by simpa using hsa, HL6.out.ok⟩
    have HR7 := Lib.hid (HR.out.fr hfa); have HF7 := Lib.hid (HF6.out.trans hfa (T := fun _ => False) (fun _ _ h => h) (fun _ _ h => h))
    have hn0l : (0 : Nat) + l.length = l.length := by omega
    have HNa : Hid (l ≠ [] → ∀ a, Aa = some a → w.heap.size ≤ a.block) := fun _ a ha => by have := (hna a ha).1; have := HF6.out.size; omega
    clear hsa hna howna hgrowa hfa z5 HR HF6 HL6
    have z5 := HR7.out.cs.2.2.2.2.2
    have gB := HR7.out.b.free 5
    have hfs := Fr.setCell w7 ⟨B, 5, none⟩ (.slice Aa l.length ca) (S := (· = B)) rfl
    have hb5 := HR7.out.b.set 5 (.slice Aa l.length ca)
    have HRn : Hid (RS (w7.setCell ⟨B, 5, none⟩ (.slice Aa l.length ca)) B f l Aa ca) := ⟨hb5, Ls.frA HLa.out hfs (fun hne a ha => not_small HR7.out.b (show (6 : Nat) < 9 by decide) HLa.out hne a ha), HI.out⟩
    have HP : Hid (LdPost f l E w (.returned (.tuple #[.pointer (some ⟨B, 0, none⟩), .int .i64 0])) (w7.setCell ⟨B, 5, none⟩ (.slice Aa l.length ca))) :=
     ⟨⟨some ⟨B, 0, none⟩, by rw [HEE.out], fun h => absurd HEE.out h, fun _ => ⟨B, Aa, ca, rfl, HRn.out, by have := HN0.out; omega, HNa.out⟩⟩, HF7.out.trans hfs (fun _ _ h => h) (fun i hi e => by have := HN0.out; omega)⟩
    clear hfs hb5
    go_wp2_with fail
    go_ret2
    exact HP.out
end Ref18
end Go.Proofs.YtdpngmgaomghoaaGreat
namespace Go.Proofs.YtdpngmgaomghoaaGreat
open Go.RowKit
namespace Law18
open Name KeyP PackP SetP SetW SetF Delta Sto BagP Ref18
open Sat2 (endS cl cl_in)
attribute [local go_sem] Eng.ev Eng.getO_cons Eng.getO_nil
theorem endS_kp (x : Sn) : endS (kp x) = endS x := by
 unfold endS kp
 have : Sat2.kd (kdr x.d) = Sat2.kd x.d := by unfold Sat2.kd kdr; omega
 show cl (x.b + Sat2.kd (kdr x.d)) = _
 rw [this]
def NP (f : Cf) (L : List Sn) : Prop := ∀ x ∈ L, past (hz f) x = false
theorem do_np {f : Cf} {L : List Sn} {a : Ac} (_hL : Ok L) (h : NP f L) : NP (doF f a) (doL f L a) := by
 unfold doF doL
 by_cases hk : a.k = 2
 ·rw [if_pos hk, if_pos hk]
  unfold tickF tickL
  by_cases hn : a.n < f.now
  ·rw [if_pos hn, if_pos hn]; exact h
  ·rw [if_neg hn, if_neg hn]
   intro x hx
   have := (List.mem_filter.1 hx).2
   simpa using this
 ·rw [if_neg hk, if_neg hk]
  unfold putL
  by_cases hc : canE f L a.L = 0
  ·rw [if_pos hc]
   intro y hy
   obtain ⟨⟨x, hx, -, rfl⟩, -⟩ := ((isSet (L ++ a.L)).mem' y).1 hy
   show decide (endS (kp x) < hz f) = false
   rw [endS_kp]
   rcases List.mem_append.1 hx with hx | hx
   ·exact h x hx
   ·have h0 : mayE f a.L = 0 := by
     unfold canE at hc
     split at hc
     ·exact hc
     ·rename_i hm; simpa using hm
    unfold mayE at h0
    split at h0
    ·cases h0
    ·split at h0
     ·cases h0
     ·rename_i _ hp
      have hp2 : ∀ x ∈ a.L, hz f ≤ endS x := by simpa using hp
      have := hp2 x hx
      simp; omega
  ·rw [if_neg hc]; exact h
theorem load_0 {f : Cf} {L : List Sn} (hL : Ok L) (hft : fits (max f.sp 0) (max f.tr 0) L = true) (h : NP f L) : loadE f L = 0 := by
 unfold loadE
 have h1 : L.any (past (hz f)) = false := List.any_eq_false.2 (fun x hx => by rw [h x hx]; simp)
 have h2 : QuotaP.okM (max f.sp 0) (max f.tr 0) (L.map Sn.t) [] = true := hft
 rw [hL.set, h1, h2]; simp
theorem doF_cfc (f : Cf) (a : Ac) : cfc (doF f a) = cfc f := by
 unfold doF tickF
 split
 ·split <;> rfl
 ·rfl
structure BZ (w0 w : World) (B1 : Nat) (f1 : Cf) (L1 : List Sn) (F1 : List Nat) (B2 : Nat) (f2 : Cf) (L2 : List Sn) (F2 : List Nat) (D : List (Nat × Array Value × TypeId)) (K : List (Option Addr × Nat × List Sn)) : Prop where
 z : AZ w0 w B1 f1 L1 F1 D K
 y : AZ w0 w B2 f2 L2 F2 D K
 n : ∀ x ∈ F1, x ∉ F2
section
variable {w0 w w' : World} {B1 B2 : Nat} {f1 f2 f' : Cf} {L1 L2 L' M : List Sn} {F1 F2 F' : List Nat} {D : List (Nat × Array Value × TypeId)} {K : List (Option Addr × Nat × List Sn)}
theorem BZ.below (h : BZ w0 w B1 f1 L1 F1 B2 f2 L2 F2 D K) (hb : Below w.heap.size w w') : BZ w0 w' B1 f1 L1 F1 B2 f2 L2 F2 D K := ⟨h.z.below hb, h.y.below hb, h.n⟩
theorem BZ.fr (h : BZ w0 w B1 f1 L1 F1 B2 f2 L2 F2 D K) (hf : Fr (fun _ => False) w w') : BZ w0 w' B1 f1 L1 F1 B2 f2 L2 F2 D K := h.below (hf.below (Nat.le_refl _) (fun _ _ h => h))
theorem BZ.d (h : BZ w0 w B1 f1 L1 F1 B2 f2 L2 F2 D K) : ∀ p ∈ D, (Bk w p.1 p.2.1 p.2.2 ∧ p.1 ∉ F1) ∧ w0.heap.size ≤ p.1 := h.z.d
theorem BZ.k (h : BZ w0 w B1 f1 L1 F1 B2 f2 L2 F2 D K) : ∀ q ∈ K, Ls w q.1 q.2.1 q.2.2 ∧ (q.2.2 ≠ [] → ∀ a, q.1 = some a → a.block ∉ F1) := h.z.k
theorem AZ.stay (h : AZ w0 w B2 f2 L2 F2 D K) (hz : AZ w0 w B1 f1 L1 F1 D K) (hn : ∀ x ∈ F2, x ∉ F1) (ht : Tn F1 F' w w') : AZ w0 w' B2 f2 L2 F2 D K := by
 refine ⟨⟨h.s.s.fr ht.fr (fun x hx e => hn x hx e), h.s.o, h.s.k, h.s.f⟩, h.l, (Tn.new ht hz.l hz.b).2, fun p hp => ⟨⟨(h.d p hp).1.1.fr ht.fr (fun b hb hm => (hz.d p hp).1.2 (by simp at hb; subst hb; exact hm)), (h.d p hp).1.2⟩, (h.d p hp).2⟩, fun q hq => ⟨Ls.frA (h.k q hq).1 ht.fr (fun hne a ha => (hz.k q hq).2 hne a ha), (h.k q hq).2⟩⟩
theorem tn_n {G : List Nat} (ht : Tn F1 F' w w') (hn : ∀ x ∈ F1, x ∉ G) (hG : ∀ x ∈ G, x < w.heap.size) : ∀ x ∈ F', x ∉ G := fun x hx hm => by
 rcases (ht.sub _ hx).1 with h1 | h1
 ·exact hn x h1 hm
 ·have := hG x hm; omega
theorem sw {G : List Nat} (hn : ∀ x ∈ F1, x ∉ G) : ∀ x ∈ G, x ∉ F1 := fun x hx hm => hn x hm hx
theorem BZ.act1 {O I : List Sn} {A1 A2 : Option Addr} {c1 c2 : Nat} (h : BZ w0 w B1 f1 L1 F1 B2 f2 L2 F2 D K) (ho : ActOut B1 f' L' O I F1 w w' A1 c1 A2 c2 F') : BZ w0 w' B1 f' L' F' B2 f2 L2 F2 D ((A1, c1, O) :: (A2, c2, I) :: K) := by
 have hy := AZ.stay h.y h.z (sw h.n) ho.t
 have lt := fun x hx => h.y.s.lt x hx
 exact ⟨h.z.act ho, (hy.addL ho.li (fun hne a ha hm => by have := (ho.ni hne a ha).1; have := lt _ hm; omega)).addL ho.lo (fun hne a ha hm => by have := (ho.no hne a ha).1; have := lt _ hm; omega), tn_n ho.t h.n lt⟩
theorem BZ.act2 {O I : List Sn} {A1 A2 : Option Addr} {c1 c2 : Nat} (h : BZ w0 w B1 f1 L1 F1 B2 f2 L2 F2 D K) (ho : ActOut B2 f' L' O I F2 w w' A1 c1 A2 c2 F') : BZ w0 w' B1 f1 L1 F1 B2 f' L' F' D ((A1, c1, O) :: (A2, c2, I) :: K) := by
 have hz := AZ.stay h.z h.y h.n ho.t
 have lt := fun x hx => h.z.s.lt x hx
 exact ⟨(hz.addL ho.li (fun hne a ha hm => by have := (ho.ni hne a ha).1; have := lt _ hm; omega)).addL ho.lo (fun hne a ha hm => by have := (ho.no hne a ha).1; have := lt _ hm; omega), h.y.act ho, sw (tn_n ho.t (sw h.n) lt)⟩
theorem BZ.alloc (h : BZ w0 w B1 f1 L1 F1 B2 f2 L2 F2 D K) (cs : Array Value) (T : TypeId) : BZ w0 (w.alloc (.cells cs T)) B1 f1 L1 F1 B2 f2 L2 F2 ((w.heap.size, cs, T) :: D) K := ⟨h.z.alloc cs T, h.y.alloc cs T, h.n⟩
theorem BZ.pickD {D' : List (Nat × Array Value × TypeId)} (h : BZ w0 w B1 f1 L1 F1 B2 f2 L2 F2 D K) (hs : ∀ p ∈ D', p ∈ D) : BZ w0 w B1 f1 L1 F1 B2 f2 L2 F2 D' K := ⟨h.z.pickD hs, h.y.pickD hs, h.n⟩
theorem BZ.pickL {K' : List (Option Addr × Nat × List Sn)} (h : BZ w0 w B1 f1 L1 F1 B2 f2 L2 F2 D K) (hs : ∀ p ∈ K', p ∈ K) : BZ w0 w B1 f1 L1 F1 B2 f2 L2 F2 D K' := ⟨h.z.pickL hs, h.y.pickL hs, h.n⟩
theorem BZ.new (h : AZ w0 w B1 f1 L1 F1 D K) (hs : St w' B2 f2 L2 F2) (hF : ∀ k ∈ F2, w.heap.size ≤ k) (hb : Below w.heap.size w w') : BZ w0 w' B1 f1 L1 F1 B2 f2 L2 F2 D K := by
 have h' := h.below hb
 refine ⟨h', ⟨hs, fun k hk => Nat.le_trans h.b.size (hF k hk), h'.b, fun p hp => ⟨⟨(h'.d p hp).1.1, fun hm => ?_⟩, (h'.d p hp).2⟩, fun q hq => ⟨(h'.k q hq).1, fun hne a ha hm => ?_⟩⟩, fun x hx hm => ?_⟩
 ·have := hF _ hm; have := lt_of_heap (h.d p hp).1.1; omega
 ·have := hF _ hm; have := (h.k q hq).1.s.lt (fun e => hne (by cases hL : q.2.2 with | nil => rfl | cons x t => rw [hL] at e; simp [scs] at e)) a ha; omega
 ·have := hF _ hm; have := h.s.lt _ hx; omega
end
theorem LoadE {f : Cf} {A : Option Addr} {c : Nat} {L : List Sn} {w : World} {cf : Array Value} (hl : Ls w A c L) (hlen : L.length ≤ 10000) (hfi : in64 f.sp ∧ in64 f.tr ∧ in64 f.wi ∧ in64 f.now) (h0 : loadE f L = 0) (hc : cfc f = cf) :
  Calls Tryz.prog 60 #[.agg cf, .int .i64 f.now, .slice A L.length c] w fun e w' => ∃ B F, e = .returned (.tuple #[.pointer (some ⟨B, 0, none⟩), .int .i64 0]) ∧ St w' B f L F ∧ (∀ k ∈ F, w.heap.size ≤ k) ∧ Below w.heap.size w w' := by
 subst hc
 refine (Sto.Load f A c L w hl hlen hfi).mono ?_
 rintro e w' ⟨⟨p, rfl, -, h2⟩, hb⟩
 obtain ⟨B, F, rfl, hs, hF⟩ := h2 h0
 exact ⟨B, F, by rw [h0], hs, hF, hb⟩
theorem NowL {B : Nat} {f : Cf} {L : List Sn} {F : List Nat} {w : World} (hs : St w B f L F) : Calls Tryz.prog 46 #[.pointer (some ⟨B, 0, none⟩)] w fun e w' => e = .returned (.int .i64 f.now) ∧ w = w' := Sto.Now B f _ _ _ F w hs.s
theorem LenL {B : Nat} {f : Cf} {L : List Sn} {F : List Nat} {w : World} (hs : St w B f L F) : Calls Tryz.prog 62 #[.pointer (some ⟨B, 0, none⟩)] w fun e w' => e = .returned (.int .i64 (L.length : Int)) ∧ w = w' := by
 have := Sto.Len B f _ _ _ F w hs.s
 rwa [cts_sum] at this
set_option maxRecDepth 100000 in
set_option maxHeartbeats 1000000 in
theorem lo5e {ops : Array Oper} (hops : Eng.fnOps Tryz.f10 5 = ops) (a0 : Act) (Q : Exit → Act → World → Prop) (w0 w : World) (E : Int) (hst : Fr (fun _ => False) w0 w)
  (hn : a0.tmps.size = 166) (h_7 : a0.tmps.getD 7 undef = .pointer none) (h_8 : a0.tmps.getD 8 undef = .int .i64 E) (h_9 : a0.tmps.getD 9 undef = .pointer none) (h_10 : a0.tmps.getD 10 undef = .int .i64 E)
  (hpost : ∀ (x : Nat → Value) (w' : World), x 90 = .bool false → Fr (fun _ => False) w0 w' → Q .normal (Eng.setAll a0 [48, 49, 50, 51, 52, 53, 54, 55, 56, 57, 58, 59, 60, 61, 62, 63, 64, 65, 66, 67, 68, 69, 70, 71, 72, 73, 74, 75, 76, 77, 78, 79, 80, 81, 82, 83, 84, 85, 86, 87, 88, 89, 90] x) w') :
  (Code.region 5 ops true).wp Tryz.prog Q a0 w := by
 simp only [Eng.fnOps, Eng.regOps, Tryz.f10, Option.bind_some, Option.getD_some, Nat.reduceEqDiff, ↓reduceIte] at hops
 subst hops
 have HSt := Lib.hid (hst.trans (Fr.drew (fun _ => False) w) (fun _ _ h => h) (fun _ _ h => h))
 have hSS : True := trivial
 refine Eng.regionN [(0, true), (1, true), (2, true), (3, true), (4, true), (5, true), (6, true), (7, true), (8, true), (9, true), (10, true), (11, true), (12, true), (13, true), (14, true), (15, true), (16, true), (17, true), (18, true), (19, true), (20, true), (21, true), (22, true), (23, true), (24, true), (25, true), (26, true), (27, true), (28, true), (29, true), (30, true), (31, true), (32, true), (33, true), (34, true), (35, true), (36, true), (37, true), (38, true), (39, true), (40, true), (41, true), (42, true)] (fun w' => True) (by kernel_rfl) 166 hn (by kernel_rfl) rfl (by kernel_rfl) (hSS) (fun a b ha hb => ?_)
 subst ha
 have hb7 : b 7 = .pointer none := (hb 7).symm.trans h_7
 have hb8 : b 8 = .int .i64 E := (hb 8).symm.trans h_8
 have hb9 : b 9 = .pointer none := (hb 9).symm.trans h_9
 have hb10 : b 10 = .int .i64 E := (hb 10).symm.trans h_10
 clear hb h_7 h_8 h_9 h_10
 have HP := Lib.hid hpost; have HN := Lib.hid hn
 clear hpost hn
 iterate 14 (refine Eng.Sch.take (v := ?_) rfl rfl (by decide) (by kernel_rfl) (fun w hw => ?_) ?_; rotate_left; · (try dsimp only at hw); go_simp; first | done | with_reducible rfl)
 iterate 27 (refine Eng.Sch.skip rfl rfl (by decide) (by kernel_rfl) ?_)
 iterate 2 (refine Eng.Sch.take (v := ?_) rfl rfl (by decide) (by kernel_rfl) (fun w hw => ?_) ?_; rotate_left; · (try dsimp only at hw); go_simp; first | done | with_reducible rfl)
 refine Eng.Sch.end_ [48, 49, 50, 51, 52, 53, 54, 55, 56, 57, 58, 59, 60, 61, 62, 63, 64, 65, 66, 67, 68, 69, 70, 71, 72, 73, 74, 75, 76, 77, 78, 79, 80, 81, 82, 83, 84, 85, 86, 87, 88, 89, 90] HN.out (by kernel_rfl) (by kernel_rfl) ?_
 exact HP.out _ _ rfl HSt.out
set_option maxRecDepth 100000 in
set_option maxHeartbeats 2000000 in
theorem lo5 {ops : Array Oper} (hops : Eng.fnOps Tryz.f10 5 = ops) (a0 : Act) (Q : Exit → Act → World → Prop) (w0 w : World) (B : Nat) (f : Cf) (L : List Sn) (F : List Nat) (R : Nat) (A : Option Addr) (c : Nat) (D : List (Nat × Array Value × TypeId)) (hst : AR w0 w B f L F R f L A c D []) (hl : L.length ≤ 1000000)
  (hn : a0.tmps.size = 166) (h_7 : a0.tmps.getD 7 undef = .pointer (some ⟨B, 0, none⟩)) (h_8 : a0.tmps.getD 8 undef = .int .i64 0) (h_9 : a0.tmps.getD 9 undef = .pointer (some ⟨R, 0, none⟩)) (h_10 : a0.tmps.getD 10 undef = .int .i64 0)
  (hpost : ∀ (x : Nat → Value) (w' : World), x 90 = .bool false → AR w0 w' B f L F R f L A c D [] → Q .normal (Eng.setAll a0 [48, 49, 50, 51, 52, 53, 54, 55, 56, 57, 58, 59, 60, 61, 62, 63, 64, 65, 66, 67, 68, 69, 70, 71, 72, 73, 74, 75, 76, 77, 78, 79, 80, 81, 82, 83, 84, 85, 86, 87, 88, 89, 90] x) w') :
  (Code.region 5 ops true).wp Tryz.prog Q a0 w := by
 simp only [Eng.fnOps, Eng.regOps, Tryz.f10, Option.bind_some, Option.getD_some, Nat.reduceEqDiff, ↓reduceIte] at hops
 subst hops
 have HSt := Lib.hid (hst.fr (Fr.drew _ _))
 have hSS : w.drew.cell? ⟨R, 5, none⟩ = some (.slice A L.length c) ∧ w.drew.cell? ⟨R, 4, none⟩ = some (.int .i64 f.now) := ⟨HSt.out.r.cs.2.2.2.2.2, HSt.out.r.cs.2.2.2.2.1⟩
 refine Eng.regionN [(0, true), (1, true), (2, true), (3, true), (4, true), (5, true), (6, true), (7, true), (8, true), (9, true), (10, true), (11, true), (12, true), (13, true), (14, true), (16, true), (17, true), (18, true), (19, true), (15, false), (20, false), (21, true), (22, true), (23, true), (25, true), (26, true), (27, true), (28, true), (24, false), (29, true), (30, true), (31, true), (32, true), (34, true), (35, true), (36, true), (37, true), (38, true), (33, false), (39, true), (40, true), (41, true), (42, true)] (fun w' => w'.cell? ⟨R, 5, none⟩ = some (.slice A L.length c) ∧ w'.cell? ⟨R, 4, none⟩ = some (.int .i64 f.now)) (by kernel_rfl) 166 hn (by kernel_rfl) rfl (by kernel_rfl) (hSS) (fun a b ha hb => ?_)
 subst ha
 have hb7 : b 7 = .pointer (some ⟨B, 0, none⟩) := (hb 7).symm.trans h_7
 have hb8 : b 8 = .int .i64 0 := (hb 8).symm.trans h_8
 have hb9 : b 9 = .pointer (some ⟨R, 0, none⟩) := (hb 9).symm.trans h_9
 have hb10 : b 10 = .int .i64 0 := (hb 10).symm.trans h_10
 clear hb h_7 h_8 h_9 h_10
 have HP := Lib.hid hpost; have HN := Lib.hid hn
 clear hpost hn
 iterate 19 (refine Eng.Sch.take (v := ?_) rfl rfl (by decide) (by kernel_rfl) (fun w hw => ?_) ?_; rotate_left; · (try dsimp only at hw); go_simp; first | done | with_reducible rfl)
 refine Eng.Sch.call rfl rfl (by decide) (by kernel_rfl) ?_ (Sto.All B f L F _ HSt.out.z.s hl) ?_
 ·go_simp
 rintro e w2 ⟨A9, c9, rfl, hls, -, hb⟩
 have HL9 := Lib.hid hls
 clear hls
 have HSt1 := Lib.hid (HSt.out.below hb)
 refine ⟨_, rfl, ⟨HSt1.out.r.cs.2.2.2.2.2, HSt1.out.r.cs.2.2.2.2.1⟩, ?_⟩
 refine Eng.Sch.call rfl rfl (by decide) (by kernel_rfl) ?_ (SameT HL9.out HSt1.out.r.l rfl rfl rfl) ?_
 ·go_simp
 rintro e w3 ⟨rfl, hf1⟩
 have HSt2 := Lib.hid (HSt1.out.fr hf1)
 have hSS : w3.cell? ⟨R, 5, none⟩ = some (.slice A L.length c) ∧ w3.cell? ⟨R, 4, none⟩ = some (.int .i64 f.now) := ⟨HSt2.out.r.cs.2.2.2.2.2, HSt2.out.r.cs.2.2.2.2.1⟩
 refine ⟨_, rfl, hSS, ?_⟩
 iterate 7 (refine Eng.Sch.take (v := ?_) rfl rfl (by decide) (by kernel_rfl) (fun w hw => ?_) ?_; rotate_left; · (try dsimp only at hw); go_simp; first | done | with_reducible rfl)
 refine Eng.Sch.call rfl rfl (by decide) (by kernel_rfl) ?_ (NowL HSt2.out.z.s) ?_
 ·go_simp
 rintro e w_3 ⟨rfl, rfl⟩
 refine ⟨_, rfl, hSS, ?_⟩
 iterate 9 (refine Eng.Sch.take (v := ?_) rfl rfl (by decide) (by kernel_rfl) (fun w hw => ?_) ?_; rotate_left; · (try dsimp only at hw); go_simp; first | done | with_reducible rfl)
 refine Eng.Sch.call rfl rfl (by decide) (by kernel_rfl) ?_ (LenL HSt2.out.z.s) ?_
 ·go_simp
 rintro e w_3 ⟨rfl, rfl⟩
 refine ⟨_, rfl, hSS, ?_⟩
 iterate 4 (refine Eng.Sch.take (v := ?_) rfl rfl (by decide) (by kernel_rfl) (fun w hw => ?_) ?_; rotate_left; · (try dsimp only at hw); go_simp; first | done | with_reducible rfl)
 refine Eng.Sch.end_ [48, 49, 50, 51, 52, 53, 54, 55, 56, 57, 58, 59, 60, 61, 62, 63, 64, 65, 66, 67, 68, 69, 70, 71, 72, 73, 74, 75, 76, 77, 78, 79, 80, 81, 82, 83, 84, 85, 86, 87, 88, 89, 90] HN.out (by kernel_rfl) (by kernel_rfl) ?_
 exact HP.out _ _ rfl HSt2.out
set_option maxRecDepth 100000 in
set_option maxHeartbeats 2000000 in
theorem lo12 {ops : Array Oper} (hops : Eng.fnOps Tryz.f10 12 = ops) (a0 : Act) (Q : Exit → Act → World → Prop) (w0 w : World) (B : Nat) (f fc : Cf) (L : List Sn) (F : List Nat) (Bc : Nat) (D : List (Nat × Array Value × TypeId)) (hD : (Bc, cfc fc, TCf) ∈ D) (hst : AZ w0 w B f L F D []) (hl : L.length ≤ 10000) (hl2 : L.length ≤ 1000000) (h0 : loadE f L = 0) (hc : cfc f = cfc fc)
  (hn : a0.tmps.size = 166) (h_3 : a0.tmps.getD 3 undef = .pointer (some ⟨Bc, 0, none⟩)) (h_11 : a0.tmps.getD 11 undef = .pointer (some ⟨B, 0, none⟩))
  (hpost : ∀ (x : Nat → Value) (w' : World) (B2 : Nat) (F2 : List Nat), x 13 = .pointer (some ⟨B2, 0, none⟩) → x 14 = .int .i64 0 → BZ w0 w' B f L F B2 f L F2 D [] → Q .normal (Eng.setAll a0 [13, 14, 106, 107, 108, 109, 110, 111, 112, 113, 114] x) w') :
  (Code.region 12 ops true).wp Tryz.prog Q a0 w := by
 simp only [Eng.fnOps, Eng.regOps, Tryz.f10, Option.bind_some, Option.getD_some, Nat.reduceEqDiff, ↓reduceIte] at hops
 subst hops
 have HSt := Lib.hid (hst.fr (Fr.drew _ _))
 have hSS : w.drew.cell? ⟨Bc, 0, none⟩ = some (.int .i64 fc.sp) ∧ w.drew.cell? ⟨Bc, 1, none⟩ = some (.int .i64 fc.tr) ∧ w.drew.cell? ⟨Bc, 2, none⟩ = some (.int .i64 fc.wi) ∧ w.drew.cell? ⟨Bc, 3, none⟩ = some (.int .i64 fc.sg) := ⟨(HSt.out.d _ hD).1.1.cell 0, (HSt.out.d _ hD).1.1.cell 1, (HSt.out.d _ hD).1.1.cell 2, (HSt.out.d _ hD).1.1.cell 3⟩
 refine Eng.regionN [(0, true), (1, true), (3, true), (2, false), (4, false), (5, false), (6, true), (7, true), (8, true), (9, true), (10, true)] (fun w' => w'.cell? ⟨Bc, 0, none⟩ = some (.int .i64 fc.sp) ∧ w'.cell? ⟨Bc, 1, none⟩ = some (.int .i64 fc.tr) ∧ w'.cell? ⟨Bc, 2, none⟩ = some (.int .i64 fc.wi) ∧ w'.cell? ⟨Bc, 3, none⟩ = some (.int .i64 fc.sg)) (by kernel_rfl) 166 hn (by kernel_rfl) rfl (by kernel_rfl) (hSS) (fun a b ha hb => ?_)
 subst ha
 have hb3 : b 3 = .pointer (some ⟨Bc, 0, none⟩) := (hb 3).symm.trans h_3
 have hb11 : b 11 = .pointer (some ⟨B, 0, none⟩) := (hb 11).symm.trans h_11
 clear hb h_3 h_11
 have HP := Lib.hid hpost; have HN := Lib.hid hn
 clear hpost hn
 iterate 3 (refine Eng.Sch.take (v := ?_) rfl rfl (by decide) (by kernel_rfl) (fun w hw => ?_) ?_; rotate_left; · (try dsimp only at hw); go_simp; first | done | with_reducible rfl)
 refine Eng.Sch.call rfl rfl (by decide) (by kernel_rfl) ?_ (NowL HSt.out.s) ?_
 ·go_simp
 rintro e w_1 ⟨rfl, rfl⟩
 refine ⟨_, rfl, hSS, ?_⟩
 refine Eng.Sch.call rfl rfl (by decide) (by kernel_rfl) ?_ (Sto.All B f L F _ HSt.out.s hl2) ?_
 ·go_simp
 rintro e w2 ⟨A9, c9, rfl, hls, -, hb⟩
 have HL9 := Lib.hid hls
 clear hls
 have HSt1 := Lib.hid (HSt.out.below hb)
 refine ⟨_, rfl, ⟨(HSt1.out.d _ hD).1.1.cell 0, (HSt1.out.d _ hD).1.1.cell 1, (HSt1.out.d _ hD).1.1.cell 2, (HSt1.out.d _ hD).1.1.cell 3⟩, ?_⟩
 refine Eng.Sch.call rfl rfl (by decide) (by kernel_rfl) ?_ (LoadE HL9.out hl hst.s.f h0 hc) ?_
 ·go_simp
 rintro e w3 ⟨B2, F2, rfl, hs2, hF2, hb2⟩
 have HSt2 := Lib.hid (BZ.new HSt1.out hs2 hF2 hb2)
 refine ⟨_, rfl, ⟨(HSt2.out.d _ hD).1.1.cell 0, (HSt2.out.d _ hD).1.1.cell 1, (HSt2.out.d _ hD).1.1.cell 2, (HSt2.out.d _ hD).1.1.cell 3⟩, ?_⟩
 iterate 5 (refine Eng.Sch.take (v := ?_) rfl rfl (by decide) (by kernel_rfl) (fun w hw => ?_) ?_; rotate_left; · (try dsimp only at hw); go_simp; first | done | with_reducible rfl)
 refine Eng.Sch.end_ [13, 14, 106, 107, 108, 109, 110, 111, 112, 113, 114] HN.out (by kernel_rfl) (by kernel_rfl) ?_
 exact HP.out _ _ B2 F2 rfl rfl HSt2.out
end Law18
end Go.Proofs.YtdpngmgaomghoaaGreat
