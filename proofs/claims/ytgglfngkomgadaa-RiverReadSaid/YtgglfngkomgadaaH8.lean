/- Walks of the laws: fewer, inside. -/
import Derived.Test.YtgglfngkomgadaaL0
namespace Go.Proofs.Ytgglfngkomgadaa
open Go.RowKit Go.Shelf
set_option linter.unusedVariables false
set_option linter.unusedSimpArgs false
set_option maxRecDepth 100000

theorem two_rivs (w : World) (r : Riv) (A : RA) (r' : Riv) (A' : RA) : Below w.heap.size w ((w.alloc (rO26 r A)).alloc (rO26 r' A')) ∧ BoxR w.heap.size r A ((w.alloc (rO26 r A)).alloc (rO26 r' A')) ∧ BoxR (w.heap.size + 1) r' A' ((w.alloc (rO26 r A)).alloc (rO26 r' A')) := by
  have h := box_new (w.alloc (rO26 r A)) r' A'
  rw [World.size_alloc] at h
  exact ⟨((Below.refl _ _).alloc (Nat.le_refl _) _).alloc (by simp) _, (box_new w r A).below ((Below.refl _ _).alloc (Nat.le_refl _) _), h⟩
set_option maxHeartbeats 8000000 in
theorem fewer_c (r : Riv) (A : RA) (r' : Riv) (A' : RA) (a : Option Addr) (xs : List Int) (c : Nat) (w : World) (hr : Rd w r A) (hr' : Rd w r' A') (hl : r.salt.length ≤ 30 ∧ r.mud.length ≤ 30 ∧ r.use.length ≤ 30 ∧ r.gauges.length ≤ 30) (hl' : r'.salt.length ≤ 30 ∧ r'.mud.length ≤ 30 ∧ r'.use.length ≤ 30 ∧ r'.gauges.length ≤ 30)
    (hs : Sl w a (ints xs)) (hlen : xs.length ≤ 1000) (hsu : sureP r xs = true → sureP r' xs = true)
    (hc : (∃ y y' e, fewA r true (-1) = (y, 10) ∧ fewA r' true (-1) = (y', e) ∧ (e = 0 ∨ e = 10)) ∨ (∃ y y', fewA r true (-1) = (y, 0) ∧ fewA r' true (-1) = (y', 0) ∧ y'.length ≤ y.length)) :
    Calls Try.prog 72 #[rivV r A, rivV r' A', .slice a xs.length c] w (RetB true w) := by
  have hall : (sureP r xs = false ∨ (sureP r xs = true ∧ sureP r' xs = true)) := by
    cases h : sureP r xs
    · exact .inl rfl
    · exact .inr ⟨rfl, hsu h⟩
  have HALL := Lib.hid hall
  have HB := Lib.hid (two_rivs w r A r' A').1
  have HX := Lib.hid (two_rivs w r A r' A').2.1
  have HY := Lib.hid (two_rivs w r A r' A').2.2
  have HR := Lib.hid hr
  have HQ := Lib.hid hr'
  have HS := Lib.hid hs
  have HL := Lib.hid hl
  have HK := Lib.hid hl'
  clear hall hsu hr hr' hs hl hl'
  rcases hc with ⟨y, y', e, h1, h2, he⟩ | ⟨y, y', h1, h2, hle⟩
  · have HF1 := Lib.hid h1
    clear h1
    rcases he with rfl | rfl
    · have HF2 := Lib.hid h2
      clear h2
      go_enter Try.func72, Try.ntmps72
      go_wp2_with fail
      obtain ⟨wq, hwq⟩ : ∃ wq, (w.alloc (rO26 r A)).alloc (rO26 r' A') = wq := ⟨_, rfl⟩
      rw [hwq] at HB HX HY ⊢
      clear hwq
      replace HR := Lib.hid (HR.out.below HB.out)
      replace HQ := Lib.hid (HQ.out.below HB.out)
      replace HS := Lib.hid (HS.out.below HB.out)
      obtain ⟨k0, k1, k2, k3, k4, k5, k6, k7, k8, k9⟩ := HX.out
      obtain ⟨j0, j1, j2, j3, j4, j5, j6, j7, j8, j9⟩ := HY.out
      with_reducible refine (River_c r A _ HR.out HL.out.1 HL.out.2.1 HL.out.2.2.1 HL.out.2.2.2).mono ?_
      rintro e w3 ⟨A1, rfl, hr1, -, hb⟩
      replace HB := Lib.hid (HB.out.trans (hb.mono HB.out.size))
      replace HX := Lib.hid (HX.out.below hb)
      replace HY := Lib.hid (HY.out.below hb)
      replace HR := Lib.hid (HR.out.below hb)
      replace HQ := Lib.hid (HQ.out.below hb)
      replace HS := Lib.hid (HS.out.below hb)
      clear hb
      have HR1 := Lib.hid hr1
      clear hr1
      clear k0 k1 k2 k3 k4 k5 k6 k7 k8 k9 j0 j1 j2 j3 j4 j5 j6 j7 j8 j9
      obtain ⟨k0, k1, k2, k3, k4, k5, k6, k7, k8, k9⟩ := HX.out
      obtain ⟨j0, j1, j2, j3, j4, j5, j6, j7, j8, j9⟩ := HY.out
      go_wp2_with fail
      clear k0 k1 k2 k3 k4 k5 k6 k7 k8 k9 j0 j1 j2 j3 j4 j5 j6 j7 j8 j9
      with_reducible refine (Fewest_c r A1 _ HR1.out HL.out.1 HL.out.2.1 HL.out.2.2.1 HL.out.2.2.2).mono ?_
      rintro e w4 ⟨sa, sc, rfl, hsl, hb⟩
      replace HB := Lib.hid (HB.out.trans (hb.mono HB.out.size))
      replace HX := Lib.hid (HX.out.below hb)
      replace HY := Lib.hid (HY.out.below hb)
      replace HR := Lib.hid (HR.out.below hb)
      replace HQ := Lib.hid (HQ.out.below hb)
      replace HS := Lib.hid (HS.out.below hb)
      replace HR1 := Lib.hid (HR1.out.below hb)
      clear hb
      rw [HF1.out]
      clear hsl
      obtain ⟨k0, k1, k2, k3, k4, k5, k6, k7, k8, k9⟩ := HX.out
      obtain ⟨j0, j1, j2, j3, j4, j5, j6, j7, j8, j9⟩ := HY.out
      go_wp2_with fail
      clear k0 k1 k2 k3 k4 k5 k6 k7 k8 k9 j0 j1 j2 j3 j4 j5 j6 j7 j8 j9
      with_reducible refine (River_c r' A' _ HQ.out HK.out.1 HK.out.2.1 HK.out.2.2.1 HK.out.2.2.2).mono ?_
      rintro e w5 ⟨A2, rfl, hr1, -, hb⟩
      replace HB := Lib.hid (HB.out.trans (hb.mono HB.out.size))
      replace HX := Lib.hid (HX.out.below hb)
      replace HY := Lib.hid (HY.out.below hb)
      replace HR := Lib.hid (HR.out.below hb)
      replace HQ := Lib.hid (HQ.out.below hb)
      replace HS := Lib.hid (HS.out.below hb)
      replace HR1 := Lib.hid (HR1.out.below hb)
      clear hb
      have HR2 := Lib.hid hr1
      clear hr1
      obtain ⟨k0, k1, k2, k3, k4, k5, k6, k7, k8, k9⟩ := HX.out
      obtain ⟨j0, j1, j2, j3, j4, j5, j6, j7, j8, j9⟩ := HY.out
      go_wp2_with fail
      clear k0 k1 k2 k3 k4 k5 k6 k7 k8 k9 j0 j1 j2 j3 j4 j5 j6 j7 j8 j9
      with_reducible refine (Fewest_c r' A2 _ HR2.out HK.out.1 HK.out.2.1 HK.out.2.2.1 HK.out.2.2.2).mono ?_
      rintro e w6 ⟨sb, sd, rfl, hsl, hb⟩
      replace HB := Lib.hid (HB.out.trans (hb.mono HB.out.size))
      replace HX := Lib.hid (HX.out.below hb)
      replace HY := Lib.hid (HY.out.below hb)
      replace HR := Lib.hid (HR.out.below hb)
      replace HQ := Lib.hid (HQ.out.below hb)
      replace HS := Lib.hid (HS.out.below hb)
      replace HR1 := Lib.hid (HR1.out.below hb)
      replace HR2 := Lib.hid (HR2.out.below hb)
      clear hb
      rw [HF2.out]
      clear hsl
      obtain ⟨k0, k1, k2, k3, k4, k5, k6, k7, k8, k9⟩ := HX.out
      obtain ⟨j0, j1, j2, j3, j4, j5, j6, j7, j8, j9⟩ := HY.out
      go_wp2_with fail
      clear k0 k1 k2 k3 k4 k5 k6 k7 k8 k9 j0 j1 j2 j3 j4 j5 j6 j7 j8 j9
      with_reducible refine (sure_c r A a xs c _ HR.out HL.out.1 HL.out.2.1 HL.out.2.2.1 HL.out.2.2.2 HS.out hlen).mono ?_
      rintro e w7 ⟨rfl, hb⟩
      replace HB := Lib.hid (HB.out.trans (hb.mono HB.out.size))
      replace HX := Lib.hid (HX.out.below hb)
      replace HY := Lib.hid (HY.out.below hb)
      replace HR := Lib.hid (HR.out.below hb)
      replace HQ := Lib.hid (HQ.out.below hb)
      replace HS := Lib.hid (HS.out.below hb)
      replace HR1 := Lib.hid (HR1.out.below hb)
      replace HR2 := Lib.hid (HR2.out.below hb)
      clear hb
      rcases HALL.out with hs1 | ⟨hs1, hs2⟩
      · rw [hs1]
        clear hs1
        obtain ⟨k0, k1, k2, k3, k4, k5, k6, k7, k8, k9⟩ := HX.out
        obtain ⟨j0, j1, j2, j3, j4, j5, j6, j7, j8, j9⟩ := HY.out
        go_wp2_with fail
        clear k0 k1 k2 k3 k4 k5 k6 k7 k8 k9 j0 j1 j2 j3 j4 j5 j6 j7 j8 j9
        go_ret
        exact ⟨rfl, HB.out⟩
      · rw [hs1]
        have HS2 := Lib.hid hs2
        clear hs1 hs2
        obtain ⟨k0, k1, k2, k3, k4, k5, k6, k7, k8, k9⟩ := HX.out
        obtain ⟨j0, j1, j2, j3, j4, j5, j6, j7, j8, j9⟩ := HY.out
        go_wp2_with fail
        clear k0 k1 k2 k3 k4 k5 k6 k7 k8 k9 j0 j1 j2 j3 j4 j5 j6 j7 j8 j9
        with_reducible refine (sure_c r' A' a xs c _ HQ.out HK.out.1 HK.out.2.1 HK.out.2.2.1 HK.out.2.2.2 HS.out hlen).mono ?_
        rintro e w8 ⟨rfl, hb⟩
        replace HB := Lib.hid (HB.out.trans (hb.mono HB.out.size))
        replace HX := Lib.hid (HX.out.below hb)
        replace HY := Lib.hid (HY.out.below hb)
        replace HR := Lib.hid (HR.out.below hb)
        replace HQ := Lib.hid (HQ.out.below hb)
        replace HS := Lib.hid (HS.out.below hb)
        replace HR1 := Lib.hid (HR1.out.below hb)
        replace HR2 := Lib.hid (HR2.out.below hb)
        clear hb
        rw [HS2.out]
        obtain ⟨k0, k1, k2, k3, k4, k5, k6, k7, k8, k9⟩ := HX.out
        obtain ⟨j0, j1, j2, j3, j4, j5, j6, j7, j8, j9⟩ := HY.out
        go_wp2_with fail
        clear k0 k1 k2 k3 k4 k5 k6 k7 k8 k9 j0 j1 j2 j3 j4 j5 j6 j7 j8 j9
        go_ret
        exact ⟨rfl, HB.out⟩
    · have HF2 := Lib.hid h2
      clear h2
      go_enter Try.func72, Try.ntmps72
      go_wp2_with fail
      obtain ⟨wq, hwq⟩ : ∃ wq, (w.alloc (rO26 r A)).alloc (rO26 r' A') = wq := ⟨_, rfl⟩
      rw [hwq] at HB HX HY ⊢
      clear hwq
      replace HR := Lib.hid (HR.out.below HB.out)
      replace HQ := Lib.hid (HQ.out.below HB.out)
      replace HS := Lib.hid (HS.out.below HB.out)
      obtain ⟨k0, k1, k2, k3, k4, k5, k6, k7, k8, k9⟩ := HX.out
      obtain ⟨j0, j1, j2, j3, j4, j5, j6, j7, j8, j9⟩ := HY.out
      with_reducible refine (River_c r A _ HR.out HL.out.1 HL.out.2.1 HL.out.2.2.1 HL.out.2.2.2).mono ?_
      rintro e w3 ⟨A1, rfl, hr1, -, hb⟩
      replace HB := Lib.hid (HB.out.trans (hb.mono HB.out.size))
      replace HX := Lib.hid (HX.out.below hb)
      replace HY := Lib.hid (HY.out.below hb)
      replace HR := Lib.hid (HR.out.below hb)
      replace HQ := Lib.hid (HQ.out.below hb)
      replace HS := Lib.hid (HS.out.below hb)
      clear hb
      have HR1 := Lib.hid hr1
      clear hr1
      clear k0 k1 k2 k3 k4 k5 k6 k7 k8 k9 j0 j1 j2 j3 j4 j5 j6 j7 j8 j9
      obtain ⟨k0, k1, k2, k3, k4, k5, k6, k7, k8, k9⟩ := HX.out
      obtain ⟨j0, j1, j2, j3, j4, j5, j6, j7, j8, j9⟩ := HY.out
      go_wp2_with fail
      clear k0 k1 k2 k3 k4 k5 k6 k7 k8 k9 j0 j1 j2 j3 j4 j5 j6 j7 j8 j9
      with_reducible refine (Fewest_c r A1 _ HR1.out HL.out.1 HL.out.2.1 HL.out.2.2.1 HL.out.2.2.2).mono ?_
      rintro e w4 ⟨sa, sc, rfl, hsl, hb⟩
      replace HB := Lib.hid (HB.out.trans (hb.mono HB.out.size))
      replace HX := Lib.hid (HX.out.below hb)
      replace HY := Lib.hid (HY.out.below hb)
      replace HR := Lib.hid (HR.out.below hb)
      replace HQ := Lib.hid (HQ.out.below hb)
      replace HS := Lib.hid (HS.out.below hb)
      replace HR1 := Lib.hid (HR1.out.below hb)
      clear hb
      rw [HF1.out]
      clear hsl
      obtain ⟨k0, k1, k2, k3, k4, k5, k6, k7, k8, k9⟩ := HX.out
      obtain ⟨j0, j1, j2, j3, j4, j5, j6, j7, j8, j9⟩ := HY.out
      go_wp2_with fail
      clear k0 k1 k2 k3 k4 k5 k6 k7 k8 k9 j0 j1 j2 j3 j4 j5 j6 j7 j8 j9
      with_reducible refine (River_c r' A' _ HQ.out HK.out.1 HK.out.2.1 HK.out.2.2.1 HK.out.2.2.2).mono ?_
      rintro e w5 ⟨A2, rfl, hr1, -, hb⟩
      replace HB := Lib.hid (HB.out.trans (hb.mono HB.out.size))
      replace HX := Lib.hid (HX.out.below hb)
      replace HY := Lib.hid (HY.out.below hb)
      replace HR := Lib.hid (HR.out.below hb)
      replace HQ := Lib.hid (HQ.out.below hb)
      replace HS := Lib.hid (HS.out.below hb)
      replace HR1 := Lib.hid (HR1.out.below hb)
      clear hb
      have HR2 := Lib.hid hr1
      clear hr1
      obtain ⟨k0, k1, k2, k3, k4, k5, k6, k7, k8, k9⟩ := HX.out
      obtain ⟨j0, j1, j2, j3, j4, j5, j6, j7, j8, j9⟩ := HY.out
      go_wp2_with fail
      clear k0 k1 k2 k3 k4 k5 k6 k7 k8 k9 j0 j1 j2 j3 j4 j5 j6 j7 j8 j9
      with_reducible refine (Fewest_c r' A2 _ HR2.out HK.out.1 HK.out.2.1 HK.out.2.2.1 HK.out.2.2.2).mono ?_
      rintro e w6 ⟨sb, sd, rfl, hsl, hb⟩
      replace HB := Lib.hid (HB.out.trans (hb.mono HB.out.size))
      replace HX := Lib.hid (HX.out.below hb)
      replace HY := Lib.hid (HY.out.below hb)
      replace HR := Lib.hid (HR.out.below hb)
      replace HQ := Lib.hid (HQ.out.below hb)
      replace HS := Lib.hid (HS.out.below hb)
      replace HR1 := Lib.hid (HR1.out.below hb)
      replace HR2 := Lib.hid (HR2.out.below hb)
      clear hb
      rw [HF2.out]
      clear hsl
      obtain ⟨k0, k1, k2, k3, k4, k5, k6, k7, k8, k9⟩ := HX.out
      obtain ⟨j0, j1, j2, j3, j4, j5, j6, j7, j8, j9⟩ := HY.out
      go_wp2_with fail
      clear k0 k1 k2 k3 k4 k5 k6 k7 k8 k9 j0 j1 j2 j3 j4 j5 j6 j7 j8 j9
      with_reducible refine (sure_c r A a xs c _ HR.out HL.out.1 HL.out.2.1 HL.out.2.2.1 HL.out.2.2.2 HS.out hlen).mono ?_
      rintro e w7 ⟨rfl, hb⟩
      replace HB := Lib.hid (HB.out.trans (hb.mono HB.out.size))
      replace HX := Lib.hid (HX.out.below hb)
      replace HY := Lib.hid (HY.out.below hb)
      replace HR := Lib.hid (HR.out.below hb)
      replace HQ := Lib.hid (HQ.out.below hb)
      replace HS := Lib.hid (HS.out.below hb)
      replace HR1 := Lib.hid (HR1.out.below hb)
      replace HR2 := Lib.hid (HR2.out.below hb)
      clear hb
      rcases HALL.out with hs1 | ⟨hs1, hs2⟩
      · rw [hs1]
        clear hs1
        obtain ⟨k0, k1, k2, k3, k4, k5, k6, k7, k8, k9⟩ := HX.out
        obtain ⟨j0, j1, j2, j3, j4, j5, j6, j7, j8, j9⟩ := HY.out
        go_wp2_with fail
        clear k0 k1 k2 k3 k4 k5 k6 k7 k8 k9 j0 j1 j2 j3 j4 j5 j6 j7 j8 j9
        go_ret
        exact ⟨rfl, HB.out⟩
      · rw [hs1]
        have HS2 := Lib.hid hs2
        clear hs1 hs2
        obtain ⟨k0, k1, k2, k3, k4, k5, k6, k7, k8, k9⟩ := HX.out
        obtain ⟨j0, j1, j2, j3, j4, j5, j6, j7, j8, j9⟩ := HY.out
        go_wp2_with fail
        clear k0 k1 k2 k3 k4 k5 k6 k7 k8 k9 j0 j1 j2 j3 j4 j5 j6 j7 j8 j9
        with_reducible refine (sure_c r' A' a xs c _ HQ.out HK.out.1 HK.out.2.1 HK.out.2.2.1 HK.out.2.2.2 HS.out hlen).mono ?_
        rintro e w8 ⟨rfl, hb⟩
        replace HB := Lib.hid (HB.out.trans (hb.mono HB.out.size))
        replace HX := Lib.hid (HX.out.below hb)
        replace HY := Lib.hid (HY.out.below hb)
        replace HR := Lib.hid (HR.out.below hb)
        replace HQ := Lib.hid (HQ.out.below hb)
        replace HS := Lib.hid (HS.out.below hb)
        replace HR1 := Lib.hid (HR1.out.below hb)
        replace HR2 := Lib.hid (HR2.out.below hb)
        clear hb
        rw [HS2.out]
        obtain ⟨k0, k1, k2, k3, k4, k5, k6, k7, k8, k9⟩ := HX.out
        obtain ⟨j0, j1, j2, j3, j4, j5, j6, j7, j8, j9⟩ := HY.out
        go_wp2_with fail
        clear k0 k1 k2 k3 k4 k5 k6 k7 k8 k9 j0 j1 j2 j3 j4 j5 j6 j7 j8 j9
        go_ret
        exact ⟨rfl, HB.out⟩
  · have HF1 := Lib.hid h1
    have HF2 := Lib.hid h2
    clear h1 h2
    go_enter Try.func72, Try.ntmps72
    go_wp2_with fail
    obtain ⟨wq, hwq⟩ : ∃ wq, (w.alloc (rO26 r A)).alloc (rO26 r' A') = wq := ⟨_, rfl⟩
    rw [hwq] at HB HX HY ⊢
    clear hwq
    replace HR := Lib.hid (HR.out.below HB.out)
    replace HQ := Lib.hid (HQ.out.below HB.out)
    replace HS := Lib.hid (HS.out.below HB.out)
    obtain ⟨k0, k1, k2, k3, k4, k5, k6, k7, k8, k9⟩ := HX.out
    obtain ⟨j0, j1, j2, j3, j4, j5, j6, j7, j8, j9⟩ := HY.out
    with_reducible refine (River_c r A _ HR.out HL.out.1 HL.out.2.1 HL.out.2.2.1 HL.out.2.2.2).mono ?_
    rintro e w3 ⟨A1, rfl, hr1, -, hb⟩
    replace HB := Lib.hid (HB.out.trans (hb.mono HB.out.size))
    replace HX := Lib.hid (HX.out.below hb)
    replace HY := Lib.hid (HY.out.below hb)
    replace HR := Lib.hid (HR.out.below hb)
    replace HQ := Lib.hid (HQ.out.below hb)
    replace HS := Lib.hid (HS.out.below hb)
    clear hb
    have HR1 := Lib.hid hr1
    clear hr1
    clear k0 k1 k2 k3 k4 k5 k6 k7 k8 k9 j0 j1 j2 j3 j4 j5 j6 j7 j8 j9
    obtain ⟨k0, k1, k2, k3, k4, k5, k6, k7, k8, k9⟩ := HX.out
    obtain ⟨j0, j1, j2, j3, j4, j5, j6, j7, j8, j9⟩ := HY.out
    go_wp2_with fail
    clear k0 k1 k2 k3 k4 k5 k6 k7 k8 k9 j0 j1 j2 j3 j4 j5 j6 j7 j8 j9
    with_reducible refine (Fewest_c r A1 _ HR1.out HL.out.1 HL.out.2.1 HL.out.2.2.1 HL.out.2.2.2).mono ?_
    rintro e w4 ⟨sa, sc, rfl, hsl, hb⟩
    replace HB := Lib.hid (HB.out.trans (hb.mono HB.out.size))
    replace HX := Lib.hid (HX.out.below hb)
    replace HY := Lib.hid (HY.out.below hb)
    replace HR := Lib.hid (HR.out.below hb)
    replace HQ := Lib.hid (HQ.out.below hb)
    replace HS := Lib.hid (HS.out.below hb)
    replace HR1 := Lib.hid (HR1.out.below hb)
    clear hb
    rw [HF1.out]
    clear hsl
    obtain ⟨k0, k1, k2, k3, k4, k5, k6, k7, k8, k9⟩ := HX.out
    obtain ⟨j0, j1, j2, j3, j4, j5, j6, j7, j8, j9⟩ := HY.out
    go_wp2_with fail
    clear k0 k1 k2 k3 k4 k5 k6 k7 k8 k9 j0 j1 j2 j3 j4 j5 j6 j7 j8 j9
    with_reducible refine (River_c r' A' _ HQ.out HK.out.1 HK.out.2.1 HK.out.2.2.1 HK.out.2.2.2).mono ?_
    rintro e w5 ⟨A2, rfl, hr1, -, hb⟩
    replace HB := Lib.hid (HB.out.trans (hb.mono HB.out.size))
    replace HX := Lib.hid (HX.out.below hb)
    replace HY := Lib.hid (HY.out.below hb)
    replace HR := Lib.hid (HR.out.below hb)
    replace HQ := Lib.hid (HQ.out.below hb)
    replace HS := Lib.hid (HS.out.below hb)
    replace HR1 := Lib.hid (HR1.out.below hb)
    clear hb
    have HR2 := Lib.hid hr1
    clear hr1
    obtain ⟨k0, k1, k2, k3, k4, k5, k6, k7, k8, k9⟩ := HX.out
    obtain ⟨j0, j1, j2, j3, j4, j5, j6, j7, j8, j9⟩ := HY.out
    go_wp2_with fail
    clear k0 k1 k2 k3 k4 k5 k6 k7 k8 k9 j0 j1 j2 j3 j4 j5 j6 j7 j8 j9
    with_reducible refine (Fewest_c r' A2 _ HR2.out HK.out.1 HK.out.2.1 HK.out.2.2.1 HK.out.2.2.2).mono ?_
    rintro e w6 ⟨sb, sd, rfl, hsl, hb⟩
    replace HB := Lib.hid (HB.out.trans (hb.mono HB.out.size))
    replace HX := Lib.hid (HX.out.below hb)
    replace HY := Lib.hid (HY.out.below hb)
    replace HR := Lib.hid (HR.out.below hb)
    replace HQ := Lib.hid (HQ.out.below hb)
    replace HS := Lib.hid (HS.out.below hb)
    replace HR1 := Lib.hid (HR1.out.below hb)
    replace HR2 := Lib.hid (HR2.out.below hb)
    clear hb
    rw [HF2.out]
    clear hsl
    obtain ⟨k0, k1, k2, k3, k4, k5, k6, k7, k8, k9⟩ := HX.out
    obtain ⟨j0, j1, j2, j3, j4, j5, j6, j7, j8, j9⟩ := HY.out
    go_wp2_with fail
    clear k0 k1 k2 k3 k4 k5 k6 k7 k8 k9 j0 j1 j2 j3 j4 j5 j6 j7 j8 j9
    with_reducible refine (sure_c r A a xs c _ HR.out HL.out.1 HL.out.2.1 HL.out.2.2.1 HL.out.2.2.2 HS.out hlen).mono ?_
    rintro e w7 ⟨rfl, hb⟩
    replace HB := Lib.hid (HB.out.trans (hb.mono HB.out.size))
    replace HX := Lib.hid (HX.out.below hb)
    replace HY := Lib.hid (HY.out.below hb)
    replace HR := Lib.hid (HR.out.below hb)
    replace HQ := Lib.hid (HQ.out.below hb)
    replace HS := Lib.hid (HS.out.below hb)
    replace HR1 := Lib.hid (HR1.out.below hb)
    replace HR2 := Lib.hid (HR2.out.below hb)
    clear hb
    rcases HALL.out with hs1 | ⟨hs1, hs2⟩
    · rw [hs1]
      clear hs1
      obtain ⟨k0, k1, k2, k3, k4, k5, k6, k7, k8, k9⟩ := HX.out
      obtain ⟨j0, j1, j2, j3, j4, j5, j6, j7, j8, j9⟩ := HY.out
      go_wp2_with fail
      clear k0 k1 k2 k3 k4 k5 k6 k7 k8 k9 j0 j1 j2 j3 j4 j5 j6 j7 j8 j9
      go_ret
      exact ⟨rfl, HB.out⟩
    · rw [hs1]
      have HS2 := Lib.hid hs2
      clear hs1 hs2
      obtain ⟨k0, k1, k2, k3, k4, k5, k6, k7, k8, k9⟩ := HX.out
      obtain ⟨j0, j1, j2, j3, j4, j5, j6, j7, j8, j9⟩ := HY.out
      go_wp2_with fail
      clear k0 k1 k2 k3 k4 k5 k6 k7 k8 k9 j0 j1 j2 j3 j4 j5 j6 j7 j8 j9
      with_reducible refine (sure_c r' A' a xs c _ HQ.out HK.out.1 HK.out.2.1 HK.out.2.2.1 HK.out.2.2.2 HS.out hlen).mono ?_
      rintro e w8 ⟨rfl, hb⟩
      replace HB := Lib.hid (HB.out.trans (hb.mono HB.out.size))
      replace HX := Lib.hid (HX.out.below hb)
      replace HY := Lib.hid (HY.out.below hb)
      replace HR := Lib.hid (HR.out.below hb)
      replace HQ := Lib.hid (HQ.out.below hb)
      replace HS := Lib.hid (HS.out.below hb)
      replace HR1 := Lib.hid (HR1.out.below hb)
      replace HR2 := Lib.hid (HR2.out.below hb)
      clear hb
      rw [HS2.out]
      obtain ⟨k0, k1, k2, k3, k4, k5, k6, k7, k8, k9⟩ := HX.out
      obtain ⟨j0, j1, j2, j3, j4, j5, j6, j7, j8, j9⟩ := HY.out
      go_wp2_with fail
      clear k0 k1 k2 k3 k4 k5 k6 k7 k8 k9 j0 j1 j2 j3 j4 j5 j6 j7 j8 j9
      go_ret
      exact ⟨rfl, HB.out⟩
/-- Two ranges in lists. -/
structure RrG (b o b' o' : Nat) (x y : Rg) (W : World) : Prop where
  c0 : W.cell? ⟨b, o, none⟩ = some (.int .i64 x.lo)
  c1 : W.cell? ⟨b, o + 1, none⟩ = some (.int .i64 x.hi)
  d0 : W.cell? ⟨b', o', none⟩ = some (.int .i64 y.lo)
  d1 : W.cell? ⟨b', o' + 1, none⟩ = some (.int .i64 y.hi)
theorem RrG.below {b o b' o' : Nat} {x y : Rg} {W W' : World} (h : RrG b o b' o' x y W) (hb : Below W.heap.size W W') : RrG b o b' o' x y W' :=
  have hw : Wr (fun _ => False) W W' := Wr.of_below hb
  ⟨hw.cell (fun e => e) h.c0, hw.cell (fun e => e) h.c1, hw.cell (fun e => e) h.d0, hw.cell (fun e => e) h.d1⟩
set_option maxHeartbeats 4000000 in
theorem inside_c (a a' : Option Addr) (xs ys : List Rg) (c c' : Nat) (w : World) (hs : Sl w a (rgs xs)) (hs' : Sl w a' (rgs ys)) (hn : xs.length = ys.length) (hlen : xs.length ≤ 1000) (h : ∀ (k : Nat) (x y : Rg), xs[k]? = some x → ys[k]? = some y → y.lo ≤ x.lo ∧ x.hi ≤ y.hi) :
    Calls Try.prog 73 #[.slice a xs.length c, .slice a' xs.length c'] w (RetB true w) := by
  have HS := Lib.hid hs
  have HT := Lib.hid hs'
  have HN := Lib.hid hn
  have HH := Lib.hid h
  have HB := Lib.hid (Below.refl w.heap.size w)
  clear hs hs' hn h
  go_enter Try.func73, Try.ntmps73
  go_wp2_with fail
  go_loopw [5] (fun i wr => ∃ k : Nat, k ≤ xs.length ∧ i = .int .i64 k ∧ Below w.heap.size w wr) (fun i _ => xs.length - (intOf i).toNat)
  case atStart => exact ⟨0, Nat.zero_le _, rfl, Below.refl _ _⟩
  case round =>
    obtain ⟨k, hk, rfl, hB⟩ := hrel
    replace HB := Lib.hid (HB.out.trans (hB.mono HB.out.size))
    replace HS := Lib.hid (HS.out.below hB)
    replace HT := Lib.hid (HT.out.below hB)
    have HC := Lib.hid hB
    clear hB
    by_cases hlt : k < xs.length
    · obtain ⟨x, hx⟩ : ∃ x, xs[k]? = some x := ⟨_, List.getElem?_eq_getElem hlt⟩
      obtain ⟨y, hy⟩ : ∃ y, ys[k]? = some y := ⟨_, List.getElem?_eq_getElem (by have := HN.out; omega)⟩
      obtain ⟨h1, h2⟩ := HH.out k x y hx hy
      have hn1 : ¬ x.lo < y.lo := by omega
      have hn2 : ¬ y.hi < x.hi := by omega
      have hd1 : decide (x.lo < y.lo) = false := decide_eq_false hn1
      have hd2 : decide (y.hi < x.hi) = false := decide_eq_false hn2
      obtain ⟨b, o, rfl, c0, c1⟩ := HS.out.rg_at hx
      obtain ⟨b', o', rfl, d0, d1⟩ := HT.out.rg_at hy
      have HSS := Lib.hid (show RrG b (o + k * 2) b' (o' + k * 2) x y wr from ⟨c0, c1, d0, d1⟩)
      have ew : IntKind.i64.wrap ((k : Int) + 1) = (k : Int) + 1 := IntWalk.i64_in _ (by omega)
      clear hx hy c0 c1 d0 d1
      go_wp2_with fail
      refine region_o (S := RrG b (o + k * 2) b' (o' + k * 2) x y) (.take 0 (.take 1 (.take 2 (.take 3 (.take 4 (.take 5 (.take 6 (.take 7 (.take 8 (.take 9 (.take 10 (.take 11 (.take 12 (.take 13 (.take 14 (.take 15 (.take 16 (.take 17 (.take 18 (.take 19 (.take 20 (.take 21 (.take 22 (.take 23 .nil)))))))))))))))))))))))) (by kernel_rfl) (by kernel_rfl) (fun _ _ d _ _ h => by cases d <;> exact h) (HSS.out.below (Below.refl _ _).drew) ?_
      intro W0 hW0 hS0
      have hBW : Below wr.heap.size wr W0 := by subst hW0; exact (Below.refl _ _).drew
      clear hW0
      repeat (first
        | (refine ord_skip rfl ?_ ?_; rfl; simp only [List.getElem_toArray, List.getElem_cons_zero, List.getElem_cons_succ, Act.put, List.setIfInBounds_toArray, List.set_cons_zero, List.set_cons_succ])
        | (refine ord_take (v := ?_) rfl ?_ (fun W hW => ?_) ?_; rotate_left; rfl; (obtain ⟨c0, c1, d0, d1⟩ := hW; go_simp; (first | done | with_reducible rfl)); simp only [List.getElem_toArray, List.getElem_cons_zero, List.getElem_cons_succ, Act.put, List.setIfInBounds_toArray, List.set_cons_zero, List.set_cons_succ]))
      refine ord_nil ?_
      replace HB := Lib.hid (HB.out.trans (hBW.mono HB.out.size))
      replace HC := Lib.hid (HC.out.trans (hBW.mono HC.out.size))
      replace HS := Lib.hid (HS.out.below hBW)
      replace HT := Lib.hid (HT.out.below hBW)
      clear hBW
      go_wp2_with fail
      go_roundw
      case rel => exact ⟨k + 1, by omega, by go_num, HC.out⟩
      case measure => simp [intOf]; omega
    · go_wp2_with fail
      go_ret
      exact ⟨rfl, HB.out⟩
end Go.Proofs.Ytgglfngkomgadaa
