/- Plain maths: a river with other gauges. -/
import Derived.Test.YtgglfngkomgadaaJU
import Derived.Test.YtgglfngkomgadaaH7
namespace Go.Proofs.Ytgglfngkomgadaa
set_option linter.unusedVariables false
set_option linter.unusedSimpArgs false
set_option maxRecDepth 100000

theorem fault_mk {r : Riv} (ok : Ok r) (hc : capS (r.salt ++ r.mud) ≤ 2000) : r.faultI = 0 := by
  have h1 := ok.l5; have h2 := ok.ng; have h3 := ok.l0
  unfold Riv.faultI
  rw [if_neg (by omega), if_neg, if_neg, if_neg (by omega)]
  · simp only [not_or, Bool.not_eq_false, List.all_eq_true, Rg.upTo, decide_eq_true_eq, inB, Riv.gaugeB, Bool.and_eq_true]
    exact ⟨ok.so, ok.mo, ok.uo, ok.go⟩
  · have e : r.validB = true := by
      simp only [Riv.validB, Bool.and_eq_true, inB, decide_eq_true_eq]
      exact ⟨⟨⟨⟨ok.sw, ok.cl⟩, ok.sz⟩, ok.st⟩, ok.dr⟩
    simp only [not_or, e]
    exact ⟨by omega, by simp [ok.ns], by simp [ok.nm], by simp [ok.nu], by decide⟩
theorem ok_gauges {r : Riv} (ok : Ok r) (G : List Gg) (hl : G.length ≤ 5) (hg : ∀ g ∈ G, (0 ≤ g.day ∧ g.day ≤ r.last) ∧ (0 ≤ g.rd.lo ∧ g.rd.lo ≤ g.rd.hi ∧ g.rd.hi ≤ 9)) : Ok { r with gauges := G } :=
  { ok with ng := hl, go := hg }
theorem fault_gauges {r : Riv} (h : r.faultI = 0) (G : List Gg) (hl : G.length ≤ 5) (hg : ∀ g ∈ G, (0 ≤ g.day ∧ g.day ≤ r.last) ∧ (0 ≤ g.rd.lo ∧ g.rd.lo ≤ g.rd.hi ∧ g.rd.hi ≤ 9)) : ({ r with gauges := G } : Riv).faultI = 0 :=
  fault_mk (ok_gauges (ok_of_fault h).1 G hl hg) (ok_of_fault h).2
theorem mem_someK {gs : List Gg} {m : Nat} {g : Gg} : ∀ {k : Nat}, g ∈ someK gs m k ↔ ∃ i, i < k ∧ m.testBit i = true ∧ g = gs.getD i default
  | 0 => by simp [someK]
  | k + 1 => by
    have ih := @mem_someK gs m g k
    simp only [someK]
    cases hb : m.testBit k
    · simp only [Bool.false_eq_true, if_false, ih]
      constructor
      · rintro ⟨i, h1, h2, h3⟩; exact ⟨i, by omega, h2, h3⟩
      · rintro ⟨i, h1, h2, h3⟩
        refine ⟨i, ?_, h2, h3⟩
        have : i ≠ k := by rintro rfl; rw [hb] at h2; cases h2
        omega
    · simp only [if_true, List.mem_append, List.mem_singleton, ih]
      constructor
      · rintro (⟨i, h1, h2, h3⟩ | h)
        · exact ⟨i, by omega, h2, h3⟩
        · exact ⟨k, by omega, hb, h⟩
      · rintro ⟨i, h1, h2, h3⟩
        by_cases e : i = k
        · subst e; exact .inr h3
        · exact .inl ⟨i, by omega, h2, h3⟩
theorem someK_sub {gs : List Gg} {m : Nat} {g : Gg} (h : g ∈ someK gs m gs.length) : g ∈ gs := by
  obtain ⟨i, hi, _, rfl⟩ := mem_someK.1 h
  rw [List.getD_eq_getElem?_getD, List.getElem?_eq_getElem hi]; simp
theorem fault_some {r : Riv} (h : r.faultI = 0) (m : Nat) : (someR r m).faultI = 0 := by
  have ok := (ok_of_fault h).1
  exact fault_gauges h _ (Nat.le_trans (someK_len _ _ _) ok.ng) fun g hg => ok.go g (someK_sub hg)
theorem some_lens (r : Riv) (m : Nat) (hl : r.salt.length ≤ 30 ∧ r.mud.length ≤ 30 ∧ r.use.length ≤ 30 ∧ r.gauges.length ≤ 30) : (someR r m).salt.length ≤ 30 ∧ (someR r m).mud.length ≤ 30 ∧ (someR r m).use.length ≤ 30 ∧ (someR r m).gauges.length ≤ 30 :=
  ⟨hl.1, hl.2.1, hl.2.2.1, Nat.le_trans (someK_len _ _ _) hl.2.2.2⟩
/-- All gauges of a list are right in a truth. -/
theorem isT_all {r : Riv} {t : Tr} : isT r t ↔ fitT r t = true ∧ ∀ g ∈ r.gauges, g.rd.has (gval t g) = true := by
  unfold isT okG
  refine and_congr Iff.rfl ⟨fun h g hg => ?_, fun h i hi => ?_⟩
  · obtain ⟨i, hi⟩ := List.mem_iff_getElem?.1 hg
    have := h i (List.getElem?_eq_some_iff.1 hi).1
    rw [List.getD_eq_getElem?_getD, hi] at this
    exact this
  · apply h
    rw [List.getD_eq_getElem?_getD, List.getElem?_eq_getElem hi]; simp
theorem isT_some {r : Riv} {m : Nat} {t : Tr} : isT (someR r m) t ↔ fitT r t = true ∧ ∀ i, i < r.gauges.length → m.testBit i = true → okG r t i = true := by
  rw [isT_all]
  refine and_congr Iff.rfl ⟨fun h i hi hb => ?_, fun h g hg => ?_⟩
  · exact h _ (mem_someK.2 ⟨i, hi, hb, rfl⟩)
  · obtain ⟨i, hi, hb, rfl⟩ := mem_someK.1 hg
    exact h i hi hb
theorem ask_some {r : Riv} (h : r.faultI = 0) (m : Nat) : (askR (someR r m) true = 0 ↔ ∃ t, fitT r t = true ∧ ∀ i, i < r.gauges.length → m.testBit i = true → okG r t i = true) ∧ (askR (someR r m) true = 0 ∨ askR (someR r m) true = 11) := by
  refine ⟨?_, askR_or (fault_some h m)⟩
  rw [askR_ok (fault_some h m)]
  exact exists_congr fun t => isT_some
theorem first_no {r : Riv} (h : r.faultI = 0) (e : firstF r = none) : askR r true = 0 := by
  have ok := (ok_of_fault h).1
  unfold firstF at e
  rw [List.find?_eq_none] at e
  rw [askR_ok h]
  by_cases hz : r.gauges.length = 0
  · exact ⟨nthT r 0, nthT_fit ok 0, fun i hi => by omega⟩
  · have := e (r.gauges.length - 1) (List.mem_range.2 (by omega))
    simp only [Bool.not_eq_true', Bool.not_eq_false] at this
    have e1 : cutG r (r.gauges.length - 1 + 1) = r := by
      unfold cutG
      rw [show r.gauges.length - 1 + 1 = r.gauges.length by omega, List.take_length]
    rw [e1, posB_iff ok] at this
    obtain ⟨t, ht, hh⟩ := this
    exact ⟨t, ht, fun i hi => hh i hi (by simp)⟩
theorem cut_iff {r : Riv} (ok : Ok r) (k : Nat) : posB (cutG r k) [] = true ↔ ∃ t, fitT r t = true ∧ ∀ i, i < r.gauges.length → i < k → okG r t i = true := by
  have okc : Ok (cutG r k) := { ok with ng := by have := ok.ng; simp only [cutG, List.length_take]; omega, go := fun g hg => ok.go g (List.mem_of_mem_take hg) }
  rw [posB_iff okc]
  refine exists_congr fun t => and_congr Iff.rfl ?_
  have hok : ∀ j, j < k → okG (cutG r k) t j = okG r t j := fun j hj => by
    unfold okG cutG
    simp only [List.getD_eq_getElem?_getD, List.getElem?_take_of_lt hj]
  simp only [cutG, List.length_take]
  constructor
  · intro H i hi hk
    rw [← hok i hk]
    exact H i (by omega) (by simp)
  · intro H i hi _
    have := H i (by omega) (by omega)
    rw [← hok i (by omega)] at this
    exact this
theorem first_yes {r : Riv} (h : r.faultI = 0) {n : Nat} (e : firstF r = some n) : n < r.gauges.length ∧ askR (someR r (2 ^ n - 1)) true = 0 ∧ askR (someR r (2 ^ (n + 1) - 1)) true = 11 := by
  have ok := (ok_of_fault h).1
  unfold firstF at e
  rw [List.find?_range_eq_some] at e
  obtain ⟨h1, h2, h3⟩ := e
  rw [List.mem_range] at h2
  refine ⟨h2, ?_, ?_⟩
  · rw [(ask_some h _).1]
    simp only [Nat.testBit_two_pow_sub_one, decide_eq_true_eq]
    by_cases hz : n = 0
    · subst hz
      exact ⟨nthT r 0, nthT_fit ok 0, fun i hi h0 => by omega⟩
    · have h4 := h3 (n - 1) (by omega)
      simp only [Bool.not_not] at h4
      rw [show n - 1 + 1 = n by omega, cut_iff ok] at h4
      exact h4
  · have h5 := (ask_some h (2 ^ (n + 1) - 1))
    rcases h5.2 with h6 | h6
    · rw [h5.1] at h6
      simp only [Nat.testBit_two_pow_sub_one, decide_eq_true_eq] at h6
      rw [← cut_iff ok] at h6
      simp [h6] at h1
    · exact h6
theorem left_iff {r : Riv} (h : r.faultI = 0) {n : Nat} (hn : n < 2 ^ r.gauges.length) : askR (someR r (fullR r ^^^ (fullR r &&& n))) true = 0 ↔ posB r (bitsL n) = true := by
  have ok := (ok_of_fault h).1
  have hn6 : n < 64 := Nat.lt_of_lt_of_le hn (Nat.le_trans (Nat.pow_le_pow_right (by omega) (show r.gauges.length ≤ 6 by have := ok.ng; omega)) (by decide))
  rw [(ask_some h _).1, posB_iff ok]
  refine exists_congr fun t => and_congr Iff.rfl (forall_congr' fun i => forall_congr' fun hi => ?_)
  have hbit : (fullR r ^^^ (fullR r &&& n)).testBit i = !n.testBit i := by
    rw [Nat.testBit_xor, Nat.testBit_and, full_bit]
    simp only [hi, decide_true]
    cases n.testBit i <;> rfl
  rw [hbit, bitsL_mem n i hn6]
  simp
theorem sorted64 : ∀ m : Nat, m < 64 → ∀ k : Nat, k < 6 → k + 1 < (bitsL m).length → (bitsL m).getD k 0 < (bitsL m).getD (k + 1) 0 := by decide +kernel
theorem below64 : ∀ N : Nat, N ≤ 6 → ∀ m : Nat, m < 2 ^ N → ∀ x ∈ bitsL m, 0 ≤ x ∧ x < N := by decide +kernel
end Go.Proofs.Ytgglfngkomgadaa
