/- The chain above a span: the program's. -/
import Derived.Test.YtmcghchhegfilaaClsF
import Derived.Test.YtmcghchhegfilaaClsS
namespace Go.Proofs.Ytmcghchhegfilaa
open Go.RowKit
namespace ClsF
open KeyP PackP SetP SetW SetF Cls ClsW ClsS
attribute [local go_sem] Eng.ev Eng.getO_cons Eng.getO_nil
abbrev TSt : TypeId := 9
abbrev TSts : TypeId := 101
theorem infoT : (Try.prog.info? TSt).map (fun i => (i.zero, i.size, i.bytes)) = some (some (.string ByteArray.empty), 1, 16) := by kernel_rfl
abbrev ky (y : Sn) : ByteArray := key2 y.t y.i
abbrev kys (s : List Sn) : List ByteArray := s.map ky
/-- Where the loop stands: spans and their keys, in lists of one's own. -/
structure CC (wc w : World) (s : List Sn) (v u : Value) : Prop where
  o : w.ownsRow wc.heap.size TSn 9 v s.length (s.flatMap scs)
  q : w.ownsRow wc.heap.size TSt 1 u s.length (strs (kys s))
  b : Below wc.heap.size wc w
theorem CC.fr {wc w w' : World} {s : List Sn} {v u : Value} (h : CC wc w s v u) (hf : Fr (fun _ => False) w w') : CC wc w' s v u :=
  ⟨ownsRow_fr h.o hf (fun _ _ h => h), ownsRow_fr h.q hf (fun _ _ h => h), h.b.trans (hf.below h.b.size (fun _ _ h => h))⟩
theorem own_apart {w : World} {B1 B2 n1 n2 s1 s2 : Nat} {v u : Value} {xs ys : List Value} (h1 : w.ownsRow B1 TSn s1 v n1 xs) (h2 : w.ownsRow B2 TSt s2 u n2 ys) : ∀ b, v.ownBlock = some b → u.ownBlock ≠ some b := fun b hb hb2 => by
  obtain ⟨-, -, c1, e1⟩ := ownsRow_blk h1 b hb
  obtain ⟨-, -, c2, e2⟩ := ownsRow_blk h2 b hb2
  rw [e1] at e2
  have : TSn = TSt := by injection e2 with e2; injection e2
  exact absurd this (by decide)
theorem kys_mem {s : List Sn} {y : Sn} (hs : ∀ x ∈ s, wf64 x.t ∧ wf64 x.i) (h1 : wf64 y.t) (h2 : wf64 y.i) : ky y ∈ kys s ↔ (fnd y s).isSome = true := by
  constructor
  · intro h
    obtain ⟨x, hx, he⟩ := List.mem_map.1 h
    have hk := key2_inj (hs x hx).1 (hs x hx).2 h1 h2 he
    cases hf : fnd y s with
    | some z => rfl
    | none =>
      have := fnd_none hf x hx
      rw [one_iff.2 hk] at this; cases this
  · intro h
    obtain ⟨z, hz⟩ := Option.isSome_iff_exists.1 h
    obtain ⟨h1, h2⟩ := fnd_some hz
    have := one_iff.1 h2
    exact List.mem_map.2 ⟨z, h1, by show key2 _ _ = key2 _ _; rw [this.1, this.2]⟩
theorem cw_none {L : List Sn} {t i : Int} {K : Int → Bool} {n : Nat} {s : List Sn} (h : nx L t i = none) : cw L t K (n + 1) s i = (s, i) := by unfold cw; rw [h]
theorem cw_stop {L : List Sn} {t i : Int} {K : Int → Bool} {n : Nat} {s : List Sn} {y : Sn} (h : nx L t i = some y) (hk : (K i || (fnd y s).isSome) = true) : cw L t K (n + 1) s i = (s, i) := by unfold cw; rw [h]; dsimp only; rw [if_pos hk]
theorem cw_go {L : List Sn} {t i : Int} {K : Int → Bool} {n : Nat} {s : List Sn} {y : Sn} (h : nx L t i = some y) (hk : (K i || (fnd y s).isSome) = false) : cw L t K (n + 1) s i = cw L t K n (s ++ [y]) y.p := by
  conv => lhs; unfold cw
  rw [h]; dsimp only; rw [if_neg (by rw [hk]; simp)]
theorem nodup_snoc {s : List Sn} {y : Sn} (hn : s.Nodup) (hf : (fnd y s).isSome = false) : (s ++ [y]).Nodup := by
  rw [List.nodup_append]
  refine ⟨hn, by simp, fun a ha b hb e => ?_⟩
  simp at hb; subst hb; subst e
  have : fnd a s = none := by cases hq : fnd a s with
    | none => rfl
    | some q => rw [hq] at hf; cases hf
  have := fnd_none this a ha
  rw [one_refl] at this; cases this
def ChPost (wc : World) (t : Int) (SE : List Sn × Int) (e : Ending) (w' : World) : Prop := ∃ A c, e = .returned (.tuple #[.slice A SE.1.length c, .string (key2 t SE.2)]) ∧ Sl w' 9 A SE.1.length c (SE.1.flatMap scs) ∧ Below wc.heap.size wc w' ∧ ∀ a, A = some a → wc.heap.size ≤ a.block ∧ a.block < w'.heap.size
theorem ContainsN (A : Option Addr) (ca : Nat) (l : List ByteArray) (k : Nat) (hk : l.length = k) (n : ByteArray) (w : World) (ha : Sl w 1 A k ca (strs l)) :
    Calls Try.prog 95 #[.slice A k ca, .string n] w fun e w' => e = .returned (.bool (decide (n ∈ l))) ∧ w' = w := by
  subst hk
  exact ClsS.Contains A ca l n w ha
set_option maxRecDepth 100000 in
set_option maxHeartbeats 4000000 in
theorem chain {w0 : World} {h n m : Nat} {L : List Sn} {P : Int → Int → Option Pc} (x : Sn) (w : World) (hF : Fo w0 w h L L n m P) (hok : ∀ y ∈ L, y.ok) (hx : wf64 x.t) (hxi : wf64 x.i) (hlen : L.length ≤ 1000) (SE : List Sn × Int) (hSE : cw L x.t (fun i => (P x.t i).isSome) (L.length + 1) [] x.i = SE) :
    Calls Try.prog 63 #[.pointer (some ⟨h + 3, 0, none⟩), x.v] w (ChPost w x.t SE) := by
  obtain ⟨i0, hi, hz0, hz1, hz2⟩ := info_parts infoS
  obtain ⟨i1, ki, kz0, kz1, kz2⟩ := info_parts infoT
  have HF := Lib.hid hF; have HOk := Lib.hid hok; have HSE := Lib.hid hSE
  have hf := Fr.alloc (fun _ => False) w (.cells x.arr TSn)
  have HF1 := Lib.hid hf
  have HA1 := Lib.hid (At.box (Bk.new w x.arr TSn))
  have HK := Lib.hid (fun W : World => Key.Span x hx hxi W)
  clear hF hok hSE hf
  go_enter Try.func63, Try.ntmps63
  go_wp2_with fail
  go_step3
  go_upto_region 3 with (fail)
  generalize (w.alloc (.cells x.arr TSn)) = w1 at *
  have xc0 : w1.cell? ⟨w.heap.size, 0, none⟩ = some (.int .i64 x.t) := HA1.out 0 _ rfl
  have xc1 : w1.cell? ⟨w.heap.size, 1, none⟩ = some (.int .i64 x.i) := HA1.out 1 _ rfl
  have xc2 : w1.cell? ⟨w.heap.size, 2, none⟩ = some (.int .i64 x.p) := HA1.out 2 _ rfl
  have xc3 : w1.cell? ⟨w.heap.size, 3, none⟩ = some (.int .i64 x.r) := HA1.out 3 _ rfl
  have xc4 : w1.cell? ⟨w.heap.size, 4, none⟩ = some (.string x.s) := HA1.out 4 _ rfl
  have xc5 : w1.cell? ⟨w.heap.size, 5, none⟩ = some (.string x.o) := HA1.out 5 _ rfl
  have xc6 : w1.cell? ⟨w.heap.size, 6, none⟩ = some (.int .i64 x.b) := HA1.out 6 _ rfl
  have xc7 : w1.cell? ⟨w.heap.size, 7, none⟩ = some (.int .i64 x.d) := HA1.out 7 _ rfl
  have xc8 : w1.cell? ⟨w.heap.size, 8, none⟩ = some (.bool x.g) := HA1.out 8 _ rfl
  go_wp2_with fail
  refine (HK.out _).mono ?_
  rintro e w2 ⟨rfl, hb⟩
  have HB := Lib.hid ((HF1.out.below (Nat.le_refl _) (fun _ _ h => h)).trans (hb.mono HF1.out.size))
  clear hb HF1 HA1 HK xc0 xc1 xc2 xc3 xc4 xc5 xc6 xc7 xc8
  go_wp2_with fail
  go_step3
  go_wp2_with fail
  go_loopg [6, 7, 8, 9, 10, 11, 12] (L.length + 1) (fun gk v u s8 _ _ _ _ wr => ∃ (s : List Sn) (i : Int), s8 = .string (key2 x.t i) ∧ wf64 i ∧ gk = L.length + 1 - s.length ∧ CC w wr s v u ∧ Ch L x.t x.i s i ∧ s.Nodup ∧ cw L x.t (fun i => (P x.t i).isSome) gk s i = SE)
  case atStart => exact ⟨[], x.i, rfl, hxi, rfl, ⟨World.ownsRow_nil _ _ _ _, World.ownsRow_nil _ _ _ _, HB.out⟩, .nil _, List.nodup_nil, HSE.out⟩
  case round =>
    clear HB HSE
    obtain ⟨s, i, rfl, hwi, hg, hcc, hch, hnd, hcw⟩ := hrel
    have hsl : s.length ≤ L.length := sub_len hnd (fun z hz => (hch.mem z hz).1)
    obtain ⟨r, hr⟩ : ∃ r, gk = r + 1 := ⟨L.length - s.length, by omega⟩
    subst hr
    have HG := Lib.hid hg; have HC := Lib.hid hcc; have HCh := Lib.hid hch; have HNd := Lib.hid hnd; have HCw := Lib.hid hcw
    have HFr := Lib.hid (HF.out.below hcc.b)
    clear hg hcc hch hnd hcw
    have HSk : Hid (∀ z ∈ s, wf64 z.t ∧ wf64 z.i) := fun z hz => by have h := HOk.out z (HCh.out.mem z hz).1; exact ⟨h.t, h.i⟩
    obtain ⟨A6, c6, hv6, h6, hA6⟩ := Sl.of_own HC.out.o
    obtain ⟨A7, c7, hv7, h7, -⟩ := Sl.of_own HC.out.q
    subst hv6
    subst hv7
    have H6 := Lib.hid h6; have H7 := Lib.hid h7
    clear hA6
    have HBr6 := Lib.hid (fun b e => (ownsRow_blk HC.out.o b e).2.1); have HBr7 := Lib.hid (fun b e => (ownsRow_blk HC.out.q b e).2.1)
    clear h6 h7
    have e0 := (cell3 HFr.out).1
    have hl1 := HFr.out.s.look_ok uS zeroS hx hwi
    have HKm := Lib.hid (fun (y : Sn) (h1 : wf64 y.t) (h2 : wf64 y.i) => kys_mem HSk.out h1 h2)
    cases hn : nx L x.t i with
    | none =>
      have HCn := Lib.hid (HCw.out.symm.trans (cw_none hn))
      rw [show spv L x.t i = none by unfold spv; rw [hn]; rfl] at hl1
      replace hl1 : (Instr.lookup TMs (.map (some h)) (.string (key2 x.t i)) true).run Try.prog wr = .ok (.tuple #[zS, .bool false]) wr := hl1
      clear hn
      go_upto_region 5 with (fail)
      have f3 := Fr.alloc (fun _ => False) wr (.cells #[.int .i64 0, .int .i64 0, .int .i64 0, .int .i64 0, .string ByteArray.empty, .string ByteArray.empty, .int .i64 0, .int .i64 0, .bool false] TSn)
      generalize (wr.alloc (.cells #[.int .i64 0, .int .i64 0, .int .i64 0, .int .i64 0, .string ByteArray.empty, .string ByteArray.empty, .int .i64 0, .int .i64 0, .bool false] TSn)) = w3 at *
      have HF3 := Lib.hid (HFr.out.fr f3); have HC3 := Lib.hid (HC.out.fr f3); have HO6 := Lib.hid (H6.out.fr f3 (fun _ _ h => h))
      clear f3 hl1 e0 HFr HC H6 H7
      have e1 := (cell3 HF3.out).2.1
      have hl2 := HF3.out.p.look_ok uP zeroP hx hwi
      obtain ⟨pv, hpv⟩ : ∃ p : Pc, ((P x.t i).map Pc.v).getD zP = p.v := by
        cases P x.t i with
        | none => exact ⟨⟨0, 0, 0, 0, 0, 0⟩, rfl⟩
        | some p => exact ⟨p, rfl⟩
      rw [hpv] at hl2
      generalize ((P x.t i).map Pc.v).isSome = pb at hl2
      clear hpv
      go_upto_region 6 with (fail)
      have f4 := Fr.alloc (fun _ => False) w3 (.cells pv.arr TPl)
      generalize (w3.alloc (.cells pv.arr TPl)) = w4 at *
      replace HC3 := Lib.hid (HC3.out.fr f4); replace HO6 := Lib.hid (HO6.out.fr f4 (fun _ _ h => h))
      clear f4 hl2 e1 HF3
      have hq := HCn.out
      subst hq
      go_wp2_with fail
      try rw [Exit.noGoto_ret]
      go_ret2
      exact ⟨A6, c6, rfl, HO6.out, HC3.out.b, fun a ha => by subst ha; have := ownsRow_blk HC3.out.o a.block rfl; exact ⟨this.1, this.2.1⟩⟩
    | some y =>
      obtain ⟨hyL, hyt, hyi⟩ := nx_some hn
      subst hyi
      have HYo := Lib.hid (HOk.out y hyL)
      have HYt := Lib.hid hyt
      rw [show spv L x.t y.i = some y.v by unfold spv; rw [hn]; rfl] at hl1
      replace hl1 : (Instr.lookup TMs (.map (some h)) (.string (key2 x.t y.i)) true).run Try.prog wr = .ok (.tuple #[y.v, .bool true]) wr := hl1
      have HSt := Lib.hid (fun (hk : ((P x.t y.i).isSome || (fnd y s).isSome) = true) => HCw.out.symm.trans (cw_stop (K := fun i => (P x.t i).isSome) (n := r) (s := s) hn hk))
      have HGo := Lib.hid (fun (hk : ((P x.t y.i).isSome || (fnd y s).isSome) = false) => (cw_go (K := fun i => (P x.t i).isSome) (n := r) (s := s) hn hk).symm.trans HCw.out)
      have HSn := Lib.hid (HCh.out.snoc hn)
      clear hn hyL hyt
      go_upto_region 5 with (fail)
      have f3 := Fr.alloc (fun _ => False) wr (.cells y.arr TSn)
      have a3 := At.box (Bk.new wr y.arr TSn)
      generalize (wr.alloc (.cells y.arr TSn)) = w3 at *
      have HF3 := Lib.hid (HFr.out.fr f3); have HC3 := Lib.hid (HC.out.fr f3); have HO6 := Lib.hid (H6.out.fr f3 (fun _ _ h => h)); have HO7 := Lib.hid (H7.out.fr f3 (fun _ _ h => h)); have HA3 := Lib.hid a3
      clear f3 a3 hl1 e0 HFr HC H6 H7
      have e1 := (cell3 HF3.out).2.1
      have hl2 := HF3.out.p.look_ok uP zeroP hx hwi
      cases hP : P x.t y.i with
      | some p =>
        rw [hP] at hl2 HSt
        replace hl2 : (Instr.lookup TMp (.map (some (h + 1))) (.string (key2 x.t y.i)) true).run Try.prog w3 = .ok (.tuple #[p.v, .bool true]) w3 := hl2
        have hq := HSt.out rfl
        subst hq
        clear hP
        go_upto_region 6 with (fail)
        have f4 := Fr.alloc (fun _ => False) w3 (.cells p.arr TPl)
        generalize (w3.alloc (.cells p.arr TPl)) = w4 at *
        replace HC3 := Lib.hid (HC3.out.fr f4); replace HO6 := Lib.hid (HO6.out.fr f4 (fun _ _ h => h))
        clear f4 hl2 e1 HF3 HGo HSt
        go_wp2_with fail
        try rw [Exit.noGoto_ret]
        go_ret2
        exact ⟨A6, c6, rfl, HO6.out, HC3.out.b, fun a ha => by subst ha; have := ownsRow_blk HC3.out.o a.block rfl; exact ⟨this.1, this.2.1⟩⟩
      | none =>
        rw [hP] at hl2 HSt HGo
        replace hl2 : (Instr.lookup TMp (.map (some (h + 1))) (.string (key2 x.t y.i)) true).run Try.prog w3 = .ok (.tuple #[zP, .bool false]) w3 := hl2
        clear hP
        go_upto_region 6 with (fail)
        have f4 := Fr.alloc (fun _ => False) w3 (.cells #[.int .i64 0, .int .i64 0, .int .i64 0, .int .i64 0, .int .i64 0, .int .i64 0] TPl)
        generalize (w3.alloc (.cells #[.int .i64 0, .int .i64 0, .int .i64 0, .int .i64 0, .int .i64 0, .int .i64 0] TPl)) = w4 at *
        replace HC3 := Lib.hid (HC3.out.fr f4); replace HO6 := Lib.hid (HO6.out.fr f4 (fun _ _ h => h)); replace HO7 := Lib.hid (HO7.out.fr f4 (fun _ _ h => h)); replace HA3 := Lib.hid (HA3.out.keep f4)
        clear f4 hl2 e1 HF3
        go_wp2_with fail
        refine (ContainsN A7 c7 (kys s) s.length (by simp) (key2 x.t y.i) w4 HO7.out).mono ?_
        rintro e w5 ⟨rfl, rfl⟩
        have hkm := HKm.out y HYo.out.t HYo.out.i
        have hky : ky y = key2 x.t y.i := by show key2 y.t y.i = _; rw [HYt.out]
        rw [hky] at hkm
        cases hc : (fnd y s).isSome with
        | true =>
          have hq := HSt.out (by rw [hc]; rfl)
          subst hq
          rw [decide_eq_true (hkm.2 hc)]
          clear hkm hky hc HSt HGo
          go_wp2_with fail
          try rw [Exit.noGoto_ret]
          go_ret2
          exact ⟨A6, c6, rfl, HO6.out, HC3.out.b, fun a ha => by subst ha; have := ownsRow_blk HC3.out.o a.block rfl; exact ⟨this.1, this.2.1⟩⟩
        | false =>
          have hg := HGo.out (by rw [hc]; rfl)
          have HGo2 := Lib.hid hg
          have HNd2 := Lib.hid (nodup_snoc HNd.out hc)
          rw [decide_eq_false (fun hm => by rw [hkm.1 hm] at hc; cases hc)]
          have HKy := Lib.hid hky
          have hown1' := HC3.out.o.alloc (.cells y.arr TSn)
          have HAp := Lib.hid (own_apart HC3.out.o HC3.out.q)
          have HBk := Lib.hid (ownsRow_blk HC3.out.o)
          have HBk7 := Lib.hid (ownsRow_blk HC3.out.q)
          have hszw := HC3.out.b.size
          clear hkm hc hg hky HSt HGo
          have yc0 : w5.cell? ⟨wr.heap.size, 0, none⟩ = some (.int .i64 y.t) := HA3.out 0 _ rfl
          have yc1 : w5.cell? ⟨wr.heap.size, 1, none⟩ = some (.int .i64 y.i) := HA3.out 1 _ rfl
          have yc2 : w5.cell? ⟨wr.heap.size, 2, none⟩ = some (.int .i64 y.p) := HA3.out 2 _ rfl
          have yc3 : w5.cell? ⟨wr.heap.size, 3, none⟩ = some (.int .i64 y.r) := HA3.out 3 _ rfl
          have yc4 : w5.cell? ⟨wr.heap.size, 4, none⟩ = some (.string y.s) := HA3.out 4 _ rfl
          have yc5 : w5.cell? ⟨wr.heap.size, 5, none⟩ = some (.string y.o) := HA3.out 5 _ rfl
          have yc6 : w5.cell? ⟨wr.heap.size, 6, none⟩ = some (.int .i64 y.b) := HA3.out 6 _ rfl
          have yc7 : w5.cell? ⟨wr.heap.size, 7, none⟩ = some (.int .i64 y.d) := HA3.out 7 _ rfl
          have yc8 : w5.cell? ⟨wr.heap.size, 8, none⟩ = some (.bool y.g) := HA3.out 8 _ rfl
          go_wp2_with (at_builtin; refine wpList_append_sl _ rfl (.tmp 43) (.tmp 45) TSs rfl w.heap.size TSn i0 (.agg #[.int .i64 0, .int .i64 0, .int .i64 0, .int .i64 0, .string ByteArray.empty, .string ByteArray.empty, .int .i64 0, .int .i64 0, .bool false]) 9 88 Try.underlying22 hi hz0 hz1 hz2 rfl (by decide) _ _ _ rfl hown1' _ _ _ _ rfl (Sl.one w5 TSn (scs y) 9 rfl) (by simp [Value.oneCell']) ?_ ?_ ?_ ?_)
          · unfold maxLen; omega
          · omega
          · first | omega | (simp; omega)
          intro v1 w6 hown1 hgrow1
          have hf6 : Fr (fun b => (Value.slice A6 s.length c6).ownBlock = some b) w5 w6 := (Fr.alloc (fun _ => False) w5 (.cells y.arr TSn)).trans (Fr.grown hgrow1 (S := fun b => (Value.slice A6 s.length c6).ownBlock = some b) (fun _ h => h)) (fun _ _ h => h.elim) (fun _ _ h => h)
          have hq6 := ownsRow_fr HC3.out.q hf6 (fun b hb e => HAp.out b e hb)
          have hbW : wr.heap.size < w5.heap.size := HA3.out.lt
          have HQ6 := Lib.hid hq6
          have HO8 := Lib.hid hown1
          have HB6 := Lib.hid (HC3.out.b.trans (hf6.below hszw (fun b hb e => by have := (HBk.out b e).1; omega)))
          have HF6 := Lib.hid hf6
          have hown2' := hq6.alloc (.cells #[.string (key2 x.t y.i)] TSt)
          have hsz6 := hf6.size
          clear hown1 hgrow1 hown1' hq6 hf6 yc0 yc1 yc2 yc3 yc4 yc5 yc6 yc7 yc8
          go_wp2_with (at_builtin; refine wpList_append_sl _ rfl (.tmp 47) (.tmp 49) TSts rfl w.heap.size TSt i1 (.string ByteArray.empty) 1 16 Try.underlying101 ki kz0 kz1 kz2 rfl (by decide) _ _ _ rfl hown2' _ _ _ _ rfl (Sl.one w6 TSt [.string (key2 x.t y.i)] 1 rfl) (by simp [Value.oneCell']) ?_ ?_ ?_ ?_)
          · unfold maxLen; omega
          · omega
          · first | omega | (simp; omega)
          intro v2 w7 hown2 hgrow2
          have hf7 : Fr (fun b => (Value.slice A7 s.length c7).ownBlock = some b) w6 w7 := (Fr.alloc (fun _ => False) w6 (.cells #[.string (key2 x.t y.i)] TSt)).trans (Fr.grown hgrow2 (S := fun b => (Value.slice A7 s.length c7).ownBlock = some b) (fun _ h => h)) (fun _ _ h => h.elim) (fun _ _ h => h)
          have HC7 : Hid (CC w w7 (s ++ [y]) v1 v2) := by
            have h9 := own_apart HO8.out HQ6.out
            refine ⟨?_, ?_, HB6.out.trans (hf7.below HB6.out.size (fun b hb e => by have := (HBk7.out b e).1; omega))⟩
            · have := ownsRow_fr HO8.out hf7 (fun b hb e => h9 b hb e)
              simpa using this
            · have e1 : strs (kys (s ++ [y])) = strs (kys s) ++ [.string (key2 x.t y.i)] := by simp [strs, kys, HKy.out]
              rw [e1]; simpa using hown2
          have HA7 : Hid (At w7 wr.heap.size 0 y) := by
            have h5 := HA3.out.fr HF6.out (fun e => by have := HBr6.out wr.heap.size e; omega)
            exact h5.fr hf7 (fun e => by have := HBr7.out wr.heap.size e; omega)
          clear hf7 hgrow2 hown2 hown2' HO8 HQ6 HB6 HF6
          have d0 : w7.cell? ⟨wr.heap.size, 0, none⟩ = some (.int .i64 y.t) := HA7.out 0 _ rfl
          have d2 : w7.cell? ⟨wr.heap.size, 2, none⟩ = some (.int .i64 y.p) := HA7.out 2 _ rfl
          go_wp2_with fail
          refine (Key.Of HYo.out.t HYo.out.p w7).mono ?_
          rintro e w8 ⟨rfl, hb⟩
          have HC8 := Lib.hid (HC7.out.fr (Fr.of_below' hb _))
          clear hb d0 d2
          go_wp2_with fail
          go_roundg r
          case rel => exact ⟨s ++ [y], y.p, by rw [HYt.out], HYo.out.p, by rw [List.length_append, List.length_singleton]; have := HG.out; omega, HC8.out, HSn.out, HNd2.out, HGo2.out⟩
          case measure => omega
end ClsF
end Go.Proofs.Ytmcghchhegfilaa
