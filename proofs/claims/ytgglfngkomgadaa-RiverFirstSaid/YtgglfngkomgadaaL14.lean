/- Walks of the laws: RiverFirst. -/
import Derived.Test.YtgglfngkomgadaaL0
import Derived.Test.YtgglfngkomgadaaM5
namespace Go.Proofs.Ytgglfngkomgadaa
open Go.RowKit Go.Shelf
set_option linter.unusedVariables false
set_option linter.unusedSimpArgs false
set_option maxRecDepth 100000

set_option maxHeartbeats 4000000 in
theorem law14_c (r : Riv) (A : RA) (w : World) (hr : Rd w r A) :
    Calls Try.prog 14 #[rivV r A] w (RetB true w) := by
  have HB := Lib.hid (al_b w (rO26 r A))
  have HX := Lib.hid (box_new w r A)
  have HR := Lib.hid hr
  clear hr
  cases hrd : (thinB r && decide (r.faultI = 0))
  · have HRD := Lib.hid hrd
    clear hrd
    go_enter Try.func14, Try.ntmps14
    go_wp2_with fail
    obtain ⟨wq, hwq⟩ : ∃ wq, w.alloc (rO26 r A) = wq := ⟨_, rfl⟩
    rw [hwq] at HB HX ⊢
    clear hwq
    replace HR := Lib.hid (HR.out.below HB.out)
    with_reducible refine (ready_c r A _ HR.out).mono ?_
    rintro e w3 ⟨rfl, hb⟩
    replace HB := Lib.hid (HB.out.trans (hb.mono HB.out.size))
    replace HX := Lib.hid (HX.out.below hb)
    replace HR := Lib.hid (HR.out.below hb)
    clear hb
    rw [HRD.out]
    obtain ⟨k0, k1, k2, k3, k4, k5, k6, k7, k8, k9⟩ := HX.out
    go_wp2_with fail
    clear k0 k1 k2 k3 k4 k5 k6 k7 k8 k9
    with_reducible refine (awake_c _).mono ?_
    rintro e wz ⟨rfl, hbz⟩
    go_wp2_with fail
    go_ret
    exact ⟨rfl, HB.out.trans (hbz.mono HB.out.size)⟩
  · have HRD := Lib.hid hrd
    have hrd2 := Bool.and_eq_true_iff.1 hrd
    have HL := Lib.hid (thin_lens hrd2.1)
    have HZ := Lib.hid (of_decide_eq_true hrd2.2)
    have HOK := Lib.hid (ok_of_fault HZ.out).1
    clear hrd hrd2
    cases hff : firstF r with
    | none =>
      have HFI := Lib.hid (show firstA r = (0, 7) from by unfold firstA; rw [if_pos HZ.out, hff]; rfl)
      have HCN := Lib.hid (show canE r = 0 from by rw [can_ans HZ.out]; exact first_no HZ.out hff)
      clear hff
      go_enter Try.func14, Try.ntmps14
      go_wp2_with fail
      obtain ⟨wq, hwq⟩ : ∃ wq, w.alloc (rO26 r A) = wq := ⟨_, rfl⟩
      rw [hwq] at HB HX ⊢
      clear hwq
      replace HR := Lib.hid (HR.out.below HB.out)
      with_reducible refine (ready_c r A _ HR.out).mono ?_
      rintro e w3 ⟨rfl, hb⟩
      replace HB := Lib.hid (HB.out.trans (hb.mono HB.out.size))
      replace HX := Lib.hid (HX.out.below hb)
      replace HR := Lib.hid (HR.out.below hb)
      clear hb
      rw [HRD.out]
      obtain ⟨k0, k1, k2, k3, k4, k5, k6, k7, k8, k9⟩ := HX.out
      go_wp2_with fail
      clear k0 k1 k2 k3 k4 k5 k6 k7 k8 k9
      with_reducible refine (River_c r A _ HR.out HL.out.1 HL.out.2.1 HL.out.2.2.1 HL.out.2.2.2).mono ?_
      rintro e w4 ⟨A1, rfl, hr1, hg1, hb⟩
      replace HB := Lib.hid (HB.out.trans (hb.mono HB.out.size))
      replace HX := Lib.hid (HX.out.below hb)
      replace HR := Lib.hid (HR.out.below hb)
      clear hb
      have HR1 := Lib.hid hr1
      clear hr1
      have HG1 := Lib.hid hg1
      clear hg1
      obtain ⟨k0, k1, k2, k3, k4, k5, k6, k7, k8, k9⟩ := HX.out
      go_wp2_with fail
      clear k0 k1 k2 k3 k4 k5 k6 k7 k8 k9
      with_reducible refine (First_c r A1 _ HR1.out HL.out.1 HL.out.2.1 HL.out.2.2.1 HL.out.2.2.2 HG1.out).mono ?_
      rintro e w5 ⟨rfl, hb⟩
      replace HB := Lib.hid (HB.out.trans (hb.mono HB.out.size))
      replace HX := Lib.hid (HX.out.below hb)
      replace HR := Lib.hid (HR.out.below hb)
      replace HR1 := Lib.hid (HR1.out.below hb)
      clear hb
      rw [HFI.out]
      obtain ⟨k0, k1, k2, k3, k4, k5, k6, k7, k8, k9⟩ := HX.out
      go_wp2_with fail
      clear k0 k1 k2 k3 k4 k5 k6 k7 k8 k9
      with_reducible refine (can_c r A _ HR.out HL.out.1 HL.out.2.1 HL.out.2.2.1 HL.out.2.2.2).mono ?_
      rintro e w6 ⟨rfl, hb⟩
      replace HB := Lib.hid (HB.out.trans (hb.mono HB.out.size))
      replace HX := Lib.hid (HX.out.below hb)
      replace HR := Lib.hid (HR.out.below hb)
      replace HR1 := Lib.hid (HR1.out.below hb)
      clear hb
      rw [HCN.out]
      obtain ⟨k0, k1, k2, k3, k4, k5, k6, k7, k8, k9⟩ := HX.out
      go_wp2_with fail
      clear k0 k1 k2 k3 k4 k5 k6 k7 k8 k9
      with_reducible refine (awake_c _).mono ?_
      rintro e wz ⟨rfl, hbz⟩
      go_wp2_with fail
      go_ret
      exact ⟨rfl, HB.out.trans (hbz.mono HB.out.size)⟩
    | some n =>
      have HFI := Lib.hid (show firstA r = ((n : Int), 0) from by unfold firstA; rw [if_pos HZ.out, hff]; rfl)
      have hy := first_yes HZ.out hff
      have hn5 : n < 5 := by have := HOK.out.ng; omega
      have HIN := Lib.hid (show inB (n : Int) 0 ((r.gauges.length : Int) - 1) = true from by simp only [inB, decide_eq_true_eq]; omega)
      have HC2 := Lib.hid (show canE (someR r (2 ^ n - 1)) = 0 from by rw [can_ans (fault_some HZ.out _)]; exact hy.2.1)
      have HC3 := Lib.hid (show canE (someR r (2 ^ (n + 1) - 1)) = 11 from by rw [can_ans (fault_some HZ.out _)]; exact hy.2.2)
      have HE1 := Lib.hid (full_eval n (by omega)).1
      have HM1 := Lib.hid (full_eval n (by omega)).2
      have HE2 := Lib.hid (two_shl n hn5).1
      have HM2 := Lib.hid (two_shl n hn5).2
      have hl30 : r.gauges.length ≤ 30 := HL.out.2.2.2
      clear hff hy
      go_enter Try.func14, Try.ntmps14
      go_wp2_with fail
      obtain ⟨wq, hwq⟩ : ∃ wq, w.alloc (rO26 r A) = wq := ⟨_, rfl⟩
      rw [hwq] at HB HX ⊢
      clear hwq
      replace HR := Lib.hid (HR.out.below HB.out)
      with_reducible refine (ready_c r A _ HR.out).mono ?_
      rintro e w3 ⟨rfl, hb⟩
      replace HB := Lib.hid (HB.out.trans (hb.mono HB.out.size))
      replace HX := Lib.hid (HX.out.below hb)
      replace HR := Lib.hid (HR.out.below hb)
      clear hb
      rw [HRD.out]
      obtain ⟨k0, k1, k2, k3, k4, k5, k6, k7, k8, k9⟩ := HX.out
      go_wp2_with fail
      clear k0 k1 k2 k3 k4 k5 k6 k7 k8 k9
      with_reducible refine (River_c r A _ HR.out HL.out.1 HL.out.2.1 HL.out.2.2.1 HL.out.2.2.2).mono ?_
      rintro e w4 ⟨A1, rfl, hr1, hg1, hb⟩
      replace HB := Lib.hid (HB.out.trans (hb.mono HB.out.size))
      replace HX := Lib.hid (HX.out.below hb)
      replace HR := Lib.hid (HR.out.below hb)
      clear hb
      have HR1 := Lib.hid hr1
      clear hr1
      have HG1 := Lib.hid hg1
      clear hg1
      obtain ⟨k0, k1, k2, k3, k4, k5, k6, k7, k8, k9⟩ := HX.out
      go_wp2_with fail
      clear k0 k1 k2 k3 k4 k5 k6 k7 k8 k9
      with_reducible refine (First_c r A1 _ HR1.out HL.out.1 HL.out.2.1 HL.out.2.2.1 HL.out.2.2.2 HG1.out).mono ?_
      rintro e w5 ⟨rfl, hb⟩
      replace HB := Lib.hid (HB.out.trans (hb.mono HB.out.size))
      replace HX := Lib.hid (HX.out.below hb)
      replace HR := Lib.hid (HR.out.below hb)
      replace HR1 := Lib.hid (HR1.out.below hb)
      clear hb
      rw [HFI.out]
      obtain ⟨k0, k1, k2, k3, k4, k5, k6, k7, k8, k9⟩ := HX.out
      go_wp2_with fail
      clear k0 k1 k2 k3 k4 k5 k6 k7 k8 k9
      (with_reducible refine (In_c _ _ _ _).mono ?_)
      rintro e wi ⟨rfl, rfl⟩
      rw [HIN.out]
      obtain ⟨k0, k1, k2, k3, k4, k5, k6, k7, k8, k9⟩ := HX.out
      go_wp2_with fail
      clear k0 k1 k2 k3 k4 k5 k6 k7 k8 k9
      rw [HE1.out]
      with_reducible refine (some_c r A (2 ^ n - 1) _ HR.out HM1.out HOK.out.ng).mono ?_
      rintro e w6 ⟨A2, rfl, hr1, hb⟩
      replace HB := Lib.hid (HB.out.trans (hb.mono HB.out.size))
      replace HX := Lib.hid (HX.out.below hb)
      replace HR := Lib.hid (HR.out.below hb)
      replace HR1 := Lib.hid (HR1.out.below hb)
      clear hb
      have HR2 := Lib.hid hr1
      clear hr1
      obtain ⟨k0, k1, k2, k3, k4, k5, k6, k7, k8, k9⟩ := HX.out
      go_wp2_with fail
      clear k0 k1 k2 k3 k4 k5 k6 k7 k8 k9
      with_reducible refine (can_c (someR r (2 ^ n - 1)) A2 _ HR2.out (Lib.hid (some_lens r (2 ^ n - 1) HL.out)).out.1 (Lib.hid (some_lens r (2 ^ n - 1) HL.out)).out.2.1 (Lib.hid (some_lens r (2 ^ n - 1) HL.out)).out.2.2.1 (Lib.hid (some_lens r (2 ^ n - 1) HL.out)).out.2.2.2).mono ?_
      rintro e w7 ⟨rfl, hb⟩
      replace HB := Lib.hid (HB.out.trans (hb.mono HB.out.size))
      replace HX := Lib.hid (HX.out.below hb)
      replace HR := Lib.hid (HR.out.below hb)
      replace HR1 := Lib.hid (HR1.out.below hb)
      replace HR2 := Lib.hid (HR2.out.below hb)
      clear hb
      rw [HC2.out]
      obtain ⟨k0, k1, k2, k3, k4, k5, k6, k7, k8, k9⟩ := HX.out
      go_wp2_with fail
      clear k0 k1 k2 k3 k4 k5 k6 k7 k8 k9
      rw [HE2.out]
      with_reducible refine (some_c r A (2 ^ (n + 1) - 1) _ HR.out HM2.out HOK.out.ng).mono ?_
      rintro e w8 ⟨A3, rfl, hr1, hb⟩
      replace HB := Lib.hid (HB.out.trans (hb.mono HB.out.size))
      replace HX := Lib.hid (HX.out.below hb)
      replace HR := Lib.hid (HR.out.below hb)
      replace HR1 := Lib.hid (HR1.out.below hb)
      replace HR2 := Lib.hid (HR2.out.below hb)
      clear hb
      have HR3 := Lib.hid hr1
      clear hr1
      obtain ⟨k0, k1, k2, k3, k4, k5, k6, k7, k8, k9⟩ := HX.out
      go_wp2_with fail
      clear k0 k1 k2 k3 k4 k5 k6 k7 k8 k9
      with_reducible refine (can_c (someR r (2 ^ (n + 1) - 1)) A3 _ HR3.out (Lib.hid (some_lens r (2 ^ (n + 1) - 1) HL.out)).out.1 (Lib.hid (some_lens r (2 ^ (n + 1) - 1) HL.out)).out.2.1 (Lib.hid (some_lens r (2 ^ (n + 1) - 1) HL.out)).out.2.2.1 (Lib.hid (some_lens r (2 ^ (n + 1) - 1) HL.out)).out.2.2.2).mono ?_
      rintro e w9 ⟨rfl, hb⟩
      replace HB := Lib.hid (HB.out.trans (hb.mono HB.out.size))
      replace HX := Lib.hid (HX.out.below hb)
      replace HR := Lib.hid (HR.out.below hb)
      replace HR1 := Lib.hid (HR1.out.below hb)
      replace HR2 := Lib.hid (HR2.out.below hb)
      replace HR3 := Lib.hid (HR3.out.below hb)
      clear hb
      rw [HC3.out]
      obtain ⟨k0, k1, k2, k3, k4, k5, k6, k7, k8, k9⟩ := HX.out
      go_wp2_with fail
      clear k0 k1 k2 k3 k4 k5 k6 k7 k8 k9
      with_reducible refine (awake_c _).mono ?_
      rintro e wz ⟨rfl, hbz⟩
      go_wp2_with fail
      go_ret
      exact ⟨rfl, HB.out.trans (hbz.mono HB.out.size)⟩
end Go.Proofs.Ytgglfngkomgadaa
