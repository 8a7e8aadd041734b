/- Plain maths: storms, more days, other sizes, no fewer days. -/
import Derived.Test.YtgglfngkomgadaaN1
namespace Go.Proofs.Ytgglfngkomgadaa
set_option linter.unusedVariables false
set_option linter.unusedSimpArgs false
set_option maxRecDepth 100000

theorem mo_same {r : Riv} (ok : Ok r) (t : Tr) {xs xs' : List Int} {S S' T T' : Int} (h0 : 0 ≤ S) (h1 : r.start ≤ S) (hS : S ≤ S') (hT : T' = T ∨ T' = -1) (hp : ∀ D : Nat, (D : Int) ∈ xs → (D : Int) ∈ xs') : Mo r r t t xs xs' S S' T T' :=
  ⟨ok, ok, rfl, h0, hS, h1, by omega, Int.le_refl _, Int.le_refl _, fun _ => Int.le_refl _, fun _ _ h => h, hp, hT⟩
theorem sure_storm {r : Riv} (ok : Ok r) {S T : Int} {xs : List Int} (h0 : 0 ≤ S) (h1 : r.start ≤ S) (h : Sure r S T xs) : Sure r S (-1) xs :=
  sure_mono (fun t ht => ⟨t, ht, mo_same ok t h0 h1 (Int.le_refl _) (.inr rfl) fun _ h => h⟩) h
theorem sure_more {r : Riv} (ok : Ok r) {S S' T : Int} {xs xs' : List Int} (h0 : 0 ≤ S) (h1 : r.start ≤ S) (hS : S ≤ S') (hp : ∀ D : Nat, (D : Int) ∈ xs → (D : Int) ∈ xs') (h : Sure r S T xs) : Sure r S' T xs' :=
  sure_mono (fun t ht => ⟨t, ht, mo_same ok t h0 h1 hS (.inl rfl) hp⟩) h
/-- The search with a storm against that without one. -/
theorem storm_facts {r : Riv} (h : r.faultI = 0) {D : Nat} (hD : (D : Int) ≤ r.last) (hne : askR r true = 0) :
    (∃ b g, fewA r (inB (D : Int) 0 r.last) D = ([], 10) ∧ fewA r true (-1) = (b, g) ∧ (g = 0 ∨ g = 10)) ∨
    (∃ a b, fewA r (inB (D : Int) 0 r.last) D = (a, 0) ∧ fewA r true (-1) = (b, 0) ∧ b.length ≤ a.length ∧ a.length ≤ 6 ∧ sureP r a = true) := by
  have ok := (ok_of_fault h).1
  have hin : inB (D : Int) 0 r.last = true := by simp [inB]; omega
  have hsz := ok.sz; have hst := ok.st
  rw [hin]
  rcases few_cases h (D : Int) hne with ⟨e1, _⟩ | ⟨a, e1, fa⟩
  · left
    rcases few_cases h (-1) hne with ⟨e2, _⟩ | ⟨b, e2, _⟩
    · exact ⟨_, _, e1, e2, .inr rfl⟩
    · exact ⟨_, _, e1, e2, .inl rfl⟩
  · right
    have hs := sure_storm ok hsz.1 hst.2 fa.sure
    have hs2 : Sure r r.size (-1) (bitsL (bitsN a)) := by rw [fa.bits.2]; exact hs
    rcases few_cases h (-1) hne with ⟨_, no⟩ | ⟨b, e2, fb⟩
    · exact absurd hs2 (no _ fa.bits.1)
    · refine ⟨a, b, e1, e2, ?_, ?_, ?_⟩
      · have := fb.best _ fa.bits.1 hs2
        rw [fa.bits.2] at this
        exact shortB_len this
      · have := bitsL_len (bitsN a); rw [fa.bits.2] at this; exact this
      · have := (sureP_iff h fa.bits.1).2 ⟨(askR_ok h).1 hne, hs2⟩
        rw [fa.bits.2] at this
        exact this

/-! ### All days -/
theorem planM_all {r : Riv} (ok : Ok r) : planM r 255 = 2 ^ (r.last + 1).toNat - 1 := by
  refine Nat.eq_of_testBit_eq fun i => ?_
  rw [planM_bit ok, Nat.testBit_two_pow_sub_one]
  have h0 := ok.l0; have h5 := ok.l5
  rw [show (255 : Nat) = 2 ^ 8 - 1 by rfl, Nat.testBit_two_pow_sub_one]
  rw [Bool.eq_iff_iff]
  simp only [Bool.and_eq_true, decide_eq_true_eq]
  omega
theorem mem_all {r : Riv} (ok : Ok r) {m : Nat} (hm : m < 2 ^ (r.last + 1).toNat) (D : Nat) (h : (D : Int) ∈ bitsL m) : (D : Int) ∈ bitsL (2 ^ (r.last + 1).toNat - 1) := by
  have h6 := pow6 ok
  rw [bitsL_mem _ _ (by omega)] at h
  rw [bitsL_mem _ _ (by omega), Nat.testBit_two_pow_sub_one, decide_eq_true_eq]
  have := Nat.ge_two_pow_of_testBit h
  exact (Nat.pow_lt_pow_iff_right (a := 2) (by omega)).1 (by omega)
theorem sure_all {r : Riv} (ok : Ok r) {S T : Int} (h0 : 0 ≤ S) (h1 : r.start ≤ S) {m : Nat} (hm : m < 2 ^ (r.last + 1).toNat) (h : Sure r S T (bitsL m)) : Sure r S T (bitsL (2 ^ (r.last + 1).toNat - 1)) :=
  sure_more ok h0 h1 (Int.le_refl _) (mem_all ok hm) h

/-! ### No fewer -/
theorem bef_congr {r : Riv} {t : Tr} {xs ys : List Int} {S T : Int} (h : ∀ D : Nat, (D : Int) ≤ r.last → (xs.contains (D : Int) && goodD r t D) = (ys.contains (D : Int) && goodD r t D)) : ∀ D : Nat, (D : Int) ≤ r.last + 1 → aftV r t xs S T D = aftV r t ys S T D
  | 0, _ => rfl
  | D + 1, hD => by
    have ih := bef_congr (S := S) (T := T) h D (by omega)
    simp only [aftV, befV, ih, h D (by omega)]
theorem sure_congr {r : Riv} {xs ys : List Int} {S T : Int} (h : ∀ t, isT r t → ∀ D : Nat, (D : Int) ≤ r.last → (xs.contains (D : Int) && goodD r t D) = (ys.contains (D : Int) && goodD r t D)) (hs : Sure r S T xs) : Sure r S T ys := by
  intro t ht D hD
  have h1 := hs t ht D hD
  unfold befR at h1 ⊢
  rw [← bef_congr (h t ht) D (by omega)]
  unfold befV at h1 ⊢
  rw [← h t ht D hD]
  exact h1
theorem drop_bit : ∀ m : Nat, m < 64 → ∀ d : Nat, d < 6 → m.testBit d = true → (m ^^^ 2 ^ d) ≤ m ∧ (bitsL (m ^^^ 2 ^ d)).length < (bitsL m).length := by decide +kernel
theorem few_good {r : Riv} (h : r.faultI = 0) (hne : ∃ t, isT r t) {y : List Int} (fy : Few r (-1) y) {D : Nat} (hD : (D : Int) ∈ y) : goodRf r (truthsR r) D ≠ 2 := by
  intro e
  have ok := (ok_of_fault h).1
  have h6 := pow6 ok
  have hbad := ((good_spec h D).2 hne).1 e
  obtain ⟨m, hm⟩ : ∃ m, m = bitsN y := ⟨_, rfl⟩
  have hb := fy.bits
  rw [← hm] at hb
  have hbit : m.testBit D = true := (bitsL_mem m D (by omega)).1 (by rw [hb.2]; exact hD)
  have hD6 : D < 6 := by
    have := Nat.ge_two_pow_of_testBit hbit
    rcases Nat.lt_or_ge D 6 with h | h
    · exact h
    · have := Nat.pow_le_pow_right (show 0 < 2 by omega) h; omega
  obtain ⟨d1, d2⟩ := drop_bit m (by omega) D hD6 hbit
  have hs : Sure r r.size (-1) (bitsL (m ^^^ 2 ^ D)) := by
    have h0 : Sure r r.size (-1) (bitsL m) := by rw [hb.2]; exact fy.sure
    refine sure_congr (fun t ht D' hD' => ?_) h0
    by_cases c : D' = D
    · subst c
      rw [hbad t ht, Bool.and_false, Bool.and_false]
    · congr 1
      rw [Bool.eq_iff_iff, List.contains_iff_mem, List.contains_iff_mem, bitsL_mem _ _ (by omega), bitsL_mem _ _ (by omega), Nat.testBit_xor, Nat.testBit_two_pow]
      simp [show ¬ D = D' from fun e => c e.symm]
  have := fy.best _ (Nat.lt_of_le_of_lt d1 hb.1) hs
  have hl := shortB_len this
  rw [← hb.2] at hl
  omega
theorem nofewer_facts {r : Riv} (h : r.faultI = 0) (hne : askR r true = 0) (b : Nat) :
    (fewA r true (-1) = ([], 10) ∧ sureP r (planL r b) = false ∧ sureP r (planL r 255) = false) ∨
    (∃ y, fewA r true (-1) = (y, 0) ∧ y.length ≤ 6 ∧ sureP r (planL r 255) = true ∧ isPlanB r.last y = true ∧ proveP r y y.length = true ∧ (sureP r (planL r b) = true → shortB (planL r b) y = false) ∧
      ∀ D : Nat, (D : Int) ∈ y → (D : Int) ≤ r.last ∧ ∃ v, goodA r D = (v, 0) ∧ v ≠ 2) := by
  have ok := (ok_of_fault h).1
  have hsz := ok.sz; have hst := ok.st
  have hT := (askR_ok h).1 hne
  rw [planL_eq, planL_eq]
  have hb := planM_lt ok b
  have ha := planM_lt ok 255
  rcases few_cases h (-1) hne with ⟨e, no⟩ | ⟨y, e, fy⟩
  · refine .inl ⟨e, ?_, ?_⟩
    · rw [Bool.eq_false_iff]; intro c; exact no _ hb ((sureP_iff h hb).1 c).2
    · rw [Bool.eq_false_iff]; intro c; exact no _ ha ((sureP_iff h ha).1 c).2
  · have hys : Sure r r.size (-1) (bitsL (bitsN y)) := by rw [fy.bits.2]; exact fy.sure
    refine .inr ⟨y, e, ?_, ?_, fy.plan ok, ?_, fun c => fy.best _ hb ((sureP_iff h hb).1 c).2, fun D hD => ?_⟩
    · have := bitsL_len (bitsN y); rw [fy.bits.2] at this; exact this
    · rw [sureP_iff h ha, planM_all ok]
      exact ⟨hT, sure_all ok hsz.1 hst.2 fy.bits.1 hys⟩
    · exact (prove_iff h (fy.plan ok) _).2 ⟨hT, fy.sure, Int.le_refl _⟩
    · have hDl : (D : Int) ≤ r.last := by
        rw [← fy.bits.2, bitsL_mem _ _ (by have := pow6 ok; have := fy.bits.1; omega)] at hD
        have := Nat.ge_two_pow_of_testBit hD
        have h2 := (Nat.pow_lt_pow_iff_right (a := 2) (by omega)).1 (Nat.lt_of_le_of_lt this fy.bits.1)
        have := ok.l0
        omega
      refine ⟨hDl, goodRf r (truthsR r) D, ?_, few_good h hT fy hD⟩
      rw [good_ans D hDl h, if_pos hne]

/-! ### Other sizes -/
theorem size_fault {r : Riv} (h : r.faultI = 0) {s : Int} (h1 : r.start ≤ s) (h2 : s ≤ 99) : ({ r with size := s } : Riv).faultI = 0 := by
  have ok := (ok_of_fault h).1
  have hst := ok.st
  exact fault_mk { ok with sz := ⟨by show 0 ≤ s; omega, h2⟩, st := ⟨hst.1, h1⟩ } (ok_of_fault h).2
theorem aft_size (r : Riv) (s : Int) (t : Tr) (xs : List Int) (S T : Int) : ∀ D, aftV { r with size := s } t xs S T D = aftV r t xs S T D
  | 0 => rfl
  | D + 1 => by
    have ih := aft_size r s t xs S T D
    simp only [aftV, ih]
    rfl
theorem sure_size {r : Riv} {s S T : Int} {xs : List Int} : Sure { r with size := s } S T xs ↔ Sure r S T xs := by
  unfold Sure
  refine forall_congr' fun t => forall_congr' fun ht => forall_congr' fun D => forall_congr' fun hD => ?_
  unfold befR
  rw [aft_size]
  exact Iff.rfl
theorem size_few {r : Riv} (h : r.faultI = 0) (hne : askR r true = 0) {s : Int} (h1 : r.start ≤ s) (h2 : s ≤ 99) :
    (∃ y, fewA { r with size := s } true (-1) = (y, 0) ∧ Sure r s (-1) (bitsL (2 ^ (r.last + 1).toNat - 1))) ∨ (fewA { r with size := s } true (-1) = ([], 10) ∧ ¬ Sure r s (-1) (bitsL (2 ^ (r.last + 1).toNat - 1))) := by
  have ok := (ok_of_fault h).1
  have hf := size_fault h h1 h2
  have hst := ok.st
  have ha : askR { r with size := s } true = 0 := by
    rw [askR_ok hf]
    exact (askR_ok h).1 hne
  have hp := Nat.two_pow_pos (r.last + 1).toNat
  rcases few_cases hf (-1) ha with ⟨e, no⟩ | ⟨y, e, fy⟩
  · exact .inr ⟨e, fun c => no (2 ^ (r.last + 1).toNat - 1) (by show _ < 2 ^ (r.last + 1).toNat; omega) (sure_size.2 c)⟩
  · refine .inl ⟨y, e, ?_⟩
    have hys : Sure r s (-1) (bitsL (bitsN y)) := by rw [fy.bits.2]; exact sure_size.1 fy.sure
    exact sure_all ok (by omega) h1 fy.bits.1 hys
theorem small_facts {r : Riv} (h : r.faultI = 0) :
    (∃ e a, (e = 10 ∨ e = 11) ∧ needA r = (0, e) ∧ fewA r true (-1) = (a, e)) ∨
    (∃ (s : Nat) (y : List Int) (Y : List Int × Int), needA r = ((s : Int), 0) ∧ r.start ≤ s ∧ s ≤ 99 ∧ fewA { r with size := (s : Int) } true (-1) = (y, 0) ∧ fewA { r with size := (s : Int) - 1 } true (-1) = Y ∧ ((s : Int) ≠ r.start → Y = ([], 10))) := by
  have ok := (ok_of_fault h).1
  have hst := ok.st; have hsz := ok.sz; have hl0 := ok.l0
  rcases askR_or h with ha | ha
  · have hna := need_ans h ha
    have e1 : 2 ^ (r.last.toNat + 1) - 1 = 2 ^ (r.last + 1).toNat - 1 := by rw [show (r.last + 1).toNat = r.last.toNat + 1 by omega]
    rw [e1] at hna
    have key : ∀ s : Nat, decide (r.last < lacksR r (truthsR r) (bitsL (2 ^ (r.last + 1).toNat - 1)) s (-1)) = true ↔ Sure r s (-1) (bitsL (2 ^ (r.last + 1).toNat - 1)) := fun s => sureR_iff h _ _ _
    cases hf : (List.range' r.start.toNat (100 - r.start.toNat)).find? (fun (s : Nat) => decide (r.last < lacksR r (truthsR r) (bitsL (2 ^ (r.last + 1).toNat - 1)) s (-1))) with
    | none =>
      rw [hf] at hna
      left
      rw [List.find?_eq_none] at hf
      have hn := hf r.size.toNat (by rw [List.mem_range'_1]; omega)
      rw [key, show ((r.size.toNat : Nat) : Int) = r.size by omega] at hn
      rcases size_few h ha hst.2 hsz.2 with ⟨y, _, hs⟩ | ⟨e, _⟩
      · exact absurd hs hn
      · exact ⟨10, [], .inl rfl, hna, e⟩
    | some s =>
      rw [hf] at hna
      right
      have h1 := List.find?_some hf
      rw [List.find?_range'_eq_some] at hf
      obtain ⟨_, h2, h3⟩ := hf
      rw [List.mem_range'_1] at h2
      rw [key] at h1
      have hs1 : r.start ≤ (s : Int) := by omega
      have hs2 : (s : Int) ≤ 99 := by omega
      rcases size_few h ha hs1 hs2 with ⟨y, e, _⟩ | ⟨_, no⟩
      · refine ⟨s, y, _, hna, hs1, by omega, e, rfl, fun hne => ?_⟩
        have h4 := h3 (s - 1) (by omega) (by omega)
        rw [Bool.not_eq_true', ← Bool.not_eq_true, key, show ((s - 1 : Nat) : Int) = (s : Int) - 1 by omega] at h4
        rcases size_few h ha (s := (s : Int) - 1) (by omega) (by omega) with ⟨_, _, hs⟩ | ⟨e2, _⟩
        · exact absurd hs h4
        · exact e2
      · exact absurd h1 no
  · left
    refine ⟨11, [], .inr rfl, ?_, ?_⟩
    · unfold needA; rw [ask_eq, if_neg (by rw [ha]; decide), ha]
    · rw [few_err (by rw [ha]; decide), ha]

/-! ### One day more -/
theorem more_bits {r : Riv} (ok : Ok r) (b d : Nat) (D : Nat) (h : (D : Int) ∈ planL r b) : (D : Int) ∈ planL r (b ||| 2 ^ d) := by
  rw [planL_eq] at h ⊢
  have h1 := planM_lt ok b
  have h2 := planM_lt ok (b ||| 2 ^ d)
  have h6 := pow6 ok
  rw [bitsL_mem _ _ (by omega), planM_bit ok, Bool.and_eq_true] at h ⊢
  rw [Nat.testBit_or, h.1]
  exact ⟨rfl, h.2⟩
theorem lacks_mono {r : Riv} {ts : List Tr} {xs xs' : List Int} {S S' T T' : Int} (h : ∀ t ∈ ts, lackR r t xs S T ≤ lackR r t xs' S' T') : lacksR r ts xs S T ≤ lacksR r ts xs' S' T' := by
  have h1 := foldMin_le (fun t => lackR r t xs S T) ts (r.last + 1) (lacksR r ts xs S T - 1)
  have h2 := foldMin_le (fun t => lackR r t xs' S' T') ts (r.last + 1) (lacksR r ts xs S T - 1)
  have e1 : ts.foldl (fun n t => min n (lackR r t xs S T)) (r.last + 1) = lacksR r ts xs S T := rfl
  have e2 : ts.foldl (fun n t => min n (lackR r t xs' S' T')) (r.last + 1) = lacksR r ts xs' S' T' := rfl
  rw [e1] at h1
  rw [e2] at h2
  obtain ⟨a, b⟩ := h1.1 (by omega)
  have := h2.2 ⟨a, fun t ht => by have := h t ht; have := b t ht; omega⟩
  omega
theorem days_facts {r : Riv} (h : r.faultI = 0) (b d : Nat) :
    (sureP r (planL r b) = true → sureP r (planL r (b ||| 2 ^ d)) = true) ∧
    ((dryA r (planL r b) = (0, 7) ∧ dryA r (planL r (b ||| 2 ^ d)) = (0, 7)) ∨ (dryA r (planL r b) = (0, 11) ∧ dryA r (planL r (b ||| 2 ^ d)) = (0, 11)) ∨
      (∃ x, dryA r (planL r b) = (x, 0) ∧ (dryA r (planL r (b ||| 2 ^ d)) = (0, 7) ∨ ∃ y, dryA r (planL r (b ||| 2 ^ d)) = (y, 0) ∧ x ≤ y))) ∧
    (∀ t, fitT r t = true → ∀ D : Nat, (D : Int) ≤ r.last → aftV r t (planL r b) r.size (-1) (D + 1) ≤ aftV r t (planL r (b ||| 2 ^ d)) r.size (-1) (D + 1)) := by
  have ok := (ok_of_fault h).1
  have hsz := ok.sz; have hst := ok.st
  have hb := planM_lt ok b
  have hq := planM_lt ok (b ||| 2 ^ d)
  have mo : ∀ t, Mo r r t t (planL r b) (planL r (b ||| 2 ^ d)) r.size r.size (-1) (-1) := fun t => mo_same ok t hsz.1 hst.2 (Int.le_refl _) (.inl rfl) (more_bits ok b d)
  refine ⟨fun c => ?_, ?_, fun t _ D hD => (mo t).aft (D + 1) (by omega)⟩
  · have h1 := (sureP_iff h hb).1 c
    exact (sureP_iff h hq).2 ⟨h1.1, sure_more ok hsz.1 hst.2 (Int.le_refl _) (more_bits ok b d) h1.2⟩
  · have hp1 := plan_bits ok hb
    have hp2 := plan_bits ok hq
    rw [← planL_eq] at hp1 hp2
    rcases askR_or h with ha | ha
    · have d1 := dry_ok (r := r) (xs := planL r b) (by rw [hp1]; exact ha)
      have d2 := dry_ok (r := r) (xs := planL r (b ||| 2 ^ d)) (by rw [hp2]; exact ha)
      have hm := lacks_mono (ts := truthsR r) fun t _ => (mo t).lack
      rw [d1, d2]
      by_cases c1 : r.last < lacksR r (truthsR r) (planL r b) r.size (-1)
      · rw [if_pos c1, if_pos (by omega)]; exact .inl ⟨rfl, rfl⟩
      · rw [if_neg c1]
        by_cases c2 : r.last < lacksR r (truthsR r) (planL r (b ||| 2 ^ d)) r.size (-1)
        · rw [if_pos c2]; exact .inr (.inr ⟨_, rfl, .inl rfl⟩)
        · rw [if_neg c2]; exact .inr (.inr ⟨_, rfl, .inr ⟨_, rfl, hm⟩⟩)
    · have d1 := dry_err (r := r) (xs := planL r b) (by rw [hp1, ha]; decide)
      have d2 := dry_err (r := r) (xs := planL r (b ||| 2 ^ d)) (by rw [hp2, ha]; decide)
      rw [d1, d2, hp1, hp2, ha]
      exact .inr (.inl ⟨rfl, rfl⟩)
end Go.Proofs.Ytgglfngkomgadaa
