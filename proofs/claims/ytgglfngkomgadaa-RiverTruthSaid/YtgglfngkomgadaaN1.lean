/- Plain maths: a river with other gauges, the first part. -/
import Derived.Test.YtgglfngkomgadaaJU
namespace Go.Proofs.Ytgglfngkomgadaa
set_option linter.unusedVariables false
set_option linter.unusedSimpArgs false
set_option maxRecDepth 100000

theorem fault_mk {r : Riv} (ok : Ok r) (hc : capS (r.salt ++ r.mud) ≤ 2000) : r.faultI = 0 := by
  have h1 := ok.l5; have h2 := ok.ng; have h3 := ok.l0
  unfold Riv.faultI
  rw [if_neg (by omega), if_neg, if_neg, if_neg (by omega)]
  · simp only [not_or, Bool.not_eq_false, List.all_eq_true, Rg.upTo, decide_eq_true_eq, inB, Riv.gaugeB, Bool.and_eq_true]
    exact ⟨ok.so, ok.mo, ok.uo, ok.go⟩
  · have e : r.validB = true := by
      simp only [Riv.validB, Bool.and_eq_true, inB, decide_eq_true_eq]
      exact ⟨⟨⟨⟨ok.sw, ok.cl⟩, ok.sz⟩, ok.st⟩, ok.dr⟩
    simp only [not_or, e]
    exact ⟨by omega, by simp [ok.ns], by simp [ok.nm], by simp [ok.nu], by decide⟩
theorem ok_gauges {r : Riv} (ok : Ok r) (G : List Gg) (hl : G.length ≤ 5) (hg : ∀ g ∈ G, (0 ≤ g.day ∧ g.day ≤ r.last) ∧ (0 ≤ g.rd.lo ∧ g.rd.lo ≤ g.rd.hi ∧ g.rd.hi ≤ 9)) : Ok { r with gauges := G } :=
  { ok with ng := hl, go := hg }
theorem fault_gauges {r : Riv} (h : r.faultI = 0) (G : List Gg) (hl : G.length ≤ 5) (hg : ∀ g ∈ G, (0 ≤ g.day ∧ g.day ≤ r.last) ∧ (0 ≤ g.rd.lo ∧ g.rd.lo ≤ g.rd.hi ∧ g.rd.hi ≤ 9)) : ({ r with gauges := G } : Riv).faultI = 0 :=
  fault_mk (ok_gauges (ok_of_fault h).1 G hl hg) (ok_of_fault h).2
/-- All gauges of a list are right in a truth. -/
theorem isT_all {r : Riv} {t : Tr} : isT r t ↔ fitT r t = true ∧ ∀ g ∈ r.gauges, g.rd.has (gval t g) = true := by
  unfold isT okG
  refine and_congr Iff.rfl ⟨fun h g hg => ?_, fun h i hi => ?_⟩
  · obtain ⟨i, hi⟩ := List.mem_iff_getElem?.1 hg
    have := h i (List.getElem?_eq_some_iff.1 hi).1
    rw [List.getD_eq_getElem?_getD, hi] at this
    exact this
  · apply h
    rw [List.getD_eq_getElem?_getD, List.getElem?_eq_getElem hi]; simp
theorem first_no {r : Riv} (h : r.faultI = 0) (e : firstF r = none) : askR r true = 0 := by
  have ok := (ok_of_fault h).1
  unfold firstF at e
  rw [List.find?_eq_none] at e
  rw [askR_ok h]
  by_cases hz : r.gauges.length = 0
  · exact ⟨nthT r 0, nthT_fit ok 0, fun i hi => by omega⟩
  · have := e (r.gauges.length - 1) (List.mem_range.2 (by omega))
    simp only [Bool.not_eq_true', Bool.not_eq_false] at this
    have e1 : cutG r (r.gauges.length - 1 + 1) = r := by
      unfold cutG
      rw [show r.gauges.length - 1 + 1 = r.gauges.length by omega, List.take_length]
    rw [e1, posB_iff ok] at this
    obtain ⟨t, ht, hh⟩ := this
    exact ⟨t, ht, fun i hi => hh i hi (by simp)⟩
theorem cut_iff {r : Riv} (ok : Ok r) (k : Nat) : posB (cutG r k) [] = true ↔ ∃ t, fitT r t = true ∧ ∀ i, i < r.gauges.length → i < k → okG r t i = true := by
  have okc : Ok (cutG r k) := { ok with ng := by have := ok.ng; simp only [cutG, List.length_take]; omega, go := fun g hg => ok.go g (List.mem_of_mem_take hg) }
  rw [posB_iff okc]
  refine exists_congr fun t => and_congr Iff.rfl ?_
  have hok : ∀ j, j < k → okG (cutG r k) t j = okG r t j := fun j hj => by
    unfold okG cutG
    simp only [List.getD_eq_getElem?_getD, List.getElem?_take_of_lt hj]
  simp only [cutG, List.length_take]
  constructor
  · intro H i hi hk
    rw [← hok i hk]
    exact H i (by omega) (by simp)
  · intro H i hi _
    have := H i (by omega) (by omega)
    rw [← hok i (by omega)] at this
    exact this
end Go.Proofs.Ytgglfngkomgadaa
