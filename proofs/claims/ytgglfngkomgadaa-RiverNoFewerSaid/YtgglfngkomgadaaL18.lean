/- Walks of the laws: RiverNoFewer. -/
import Derived.Test.YtgglfngkomgadaaL0
import Derived.Test.YtgglfngkomgadaaM6
namespace Go.Proofs.Ytgglfngkomgadaa
open Go.RowKit Go.Shelf
set_option linter.unusedVariables false
set_option linter.unusedSimpArgs false
set_option maxRecDepth 100000

theorem Planned255_c (r : Riv) (A : RA) (w : World) (h0 : 0 ≤ r.last) (h5 : r.last ≤ 5) :
    Calls Try.prog 57 #[rivV r A, .int .i64 255] w (RetOwn 3 1 (planL r 255).length (ints (planL r 255)) w) := Planned_c r A 255 w h0 h5 (by decide)

set_option maxHeartbeats 12000000 in
theorem law18_c (r : Riv) (A : RA) (b : Nat) (w : World) (hr : Rd w r A) (hbb : b < 256) :
    Calls Try.prog 18 #[rivV r A, .int .u8 b] w (RetB true w) := by
  have HB := Lib.hid (al_b w (rO26 r A))
  have HX := Lib.hid (box_new w r A)
  have HR := Lib.hid hr
  clear hr
  cases hrd : (thinB r && decide (r.faultI = 0))
  · have HRD := Lib.hid hrd
    clear hrd
    go_enter Try.func18, Try.ntmps18
    go_wp2_with fail
    obtain ⟨wq, hwq⟩ : ∃ wq, w.alloc (rO26 r A) = wq := ⟨_, rfl⟩
    rw [hwq] at HB HX ⊢
    clear hwq
    replace HR := Lib.hid (HR.out.below HB.out)
    with_reducible refine (ready_c r A _ HR.out).mono ?_
    rintro e w3 ⟨rfl, hb⟩
    replace HB := Lib.hid (HB.out.trans (hb.mono HB.out.size))
    replace HX := Lib.hid (HX.out.below hb)
    replace HR := Lib.hid (HR.out.below hb)
    clear hb
    rw [HRD.out]
    obtain ⟨k0, k1, k2, k3, k4, k5, k6, k7, k8, k9⟩ := HX.out
    go_wp2_with fail
    clear k0 k1 k2 k3 k4 k5 k6 k7 k8 k9
    with_reducible refine (awake_c _).mono ?_
    rintro e wz ⟨rfl, hbz⟩
    go_wp2_with fail
    go_ret
    exact ⟨rfl, HB.out.trans (hbz.mono HB.out.size)⟩
  · have HRD := Lib.hid hrd
    have hrd2 := Bool.and_eq_true_iff.1 hrd
    have HL := Lib.hid (thin_lens hrd2.1)
    have HZ := Lib.hid (of_decide_eq_true hrd2.2)
    have HOK := Lib.hid (ok_of_fault HZ.out).1
    obtain ⟨nt, hnt⟩ : ∃ n, (truthsR r).length = n := ⟨_, rfl⟩
    have HNT := Lib.hid hnt
    clear hrd hrd2
    by_cases hn0 : nt = 0
    · subst hn0
      clear hnt
      go_enter Try.func18, Try.ntmps18
      go_wp2_with fail
      obtain ⟨wq, hwq⟩ : ∃ wq, w.alloc (rO26 r A) = wq := ⟨_, rfl⟩
      rw [hwq] at HB HX ⊢
      clear hwq
      replace HR := Lib.hid (HR.out.below HB.out)
      with_reducible refine (ready_c r A _ HR.out).mono ?_
      rintro e w3 ⟨rfl, hb⟩
      replace HB := Lib.hid (HB.out.trans (hb.mono HB.out.size))
      replace HX := Lib.hid (HX.out.below hb)
      replace HR := Lib.hid (HR.out.below hb)
      clear hb
      rw [HRD.out]
      obtain ⟨k0, k1, k2, k3, k4, k5, k6, k7, k8, k9⟩ := HX.out
      go_wp2_with fail
      clear k0 k1 k2 k3 k4 k5 k6 k7 k8 k9
      with_reducible refine (Truths_c r A _ HOK.out HR.out).mono ?_
      rintro e w4 ⟨lt, ct, rfl, htl, hb⟩
      replace HB := Lib.hid (HB.out.trans (hb.mono HB.out.size))
      replace HX := Lib.hid (HX.out.below hb)
      replace HR := Lib.hid (HR.out.below hb)
      clear hb
      clear htl
      rw [HNT.out]
      obtain ⟨k0, k1, k2, k3, k4, k5, k6, k7, k8, k9⟩ := HX.out
      go_wp2_with fail
      clear k0 k1 k2 k3 k4 k5 k6 k7 k8 k9
      with_reducible refine (awake_c _).mono ?_
      rintro e wz ⟨rfl, hbz⟩
      go_wp2_with fail
      go_ret
      exact ⟨rfl, HB.out.trans (hbz.mono HB.out.size)⟩
    · have HN0 := Lib.hid (show ((nt : Int) == 0) = false from by rw [beq_eq_false_iff_ne]; omega)
      have HA1 := Lib.hid (show askR r true = 0 from by
        have h := askR_true HZ.out
        rw [h, if_neg]
        intro e
        rw [List.isEmpty_iff] at e
        rw [e] at hnt
        exact hn0 hnt.symm)
      clear hnt hn0
      have hnf := nofewer_facts HZ.out HA1.out b
      have hpl6 := planL_len r b
      have hpa6 := planL_len r 255
      obtain ⟨PL, hPL⟩ : ∃ L, planL r b = L := ⟨_, rfl⟩
      obtain ⟨PA, hPA⟩ : ∃ L, planL r 255 = L := ⟨_, rfl⟩
      rw [hPL, hPA] at hnf
      rw [hPL] at hpl6
      rw [hPA] at hpa6
      have HPL := Lib.hid hPL
      have HPA := Lib.hid hPA
      clear hPL hPA
      rcases hnf with ⟨e1, hs1, hs2⟩ | ⟨y, e1, hy6, hs2, hpn, hpv, hsh, hgd⟩
      · have HFE := Lib.hid e1
        have HS1 := Lib.hid hs1
        have HS2 := Lib.hid hs2
        clear e1 hs1 hs2
        go_enter Try.func18, Try.ntmps18
        go_wp2_with fail
        obtain ⟨wq, hwq⟩ : ∃ wq, w.alloc (rO26 r A) = wq := ⟨_, rfl⟩
        rw [hwq] at HB HX ⊢
        clear hwq
        replace HR := Lib.hid (HR.out.below HB.out)
        with_reducible refine (ready_c r A _ HR.out).mono ?_
        rintro e w3 ⟨rfl, hb⟩
        replace HB := Lib.hid (HB.out.trans (hb.mono HB.out.size))
        replace HX := Lib.hid (HX.out.below hb)
        replace HR := Lib.hid (HR.out.below hb)
        clear hb
        rw [HRD.out]
        obtain ⟨k0, k1, k2, k3, k4, k5, k6, k7, k8, k9⟩ := HX.out
        go_wp2_with fail
        clear k0 k1 k2 k3 k4 k5 k6 k7 k8 k9
        with_reducible refine (Truths_c r A _ HOK.out HR.out).mono ?_
        rintro e w4 ⟨lt, ct, rfl, htl, hb⟩
        replace HB := Lib.hid (HB.out.trans (hb.mono HB.out.size))
        replace HX := Lib.hid (HX.out.below hb)
        replace HR := Lib.hid (HR.out.below hb)
        clear hb
        clear htl
        rw [HNT.out]
        have hn0 := HN0.out
        obtain ⟨k0, k1, k2, k3, k4, k5, k6, k7, k8, k9⟩ := HX.out
        go_wp2_with fail
        clear k0 k1 k2 k3 k4 k5 k6 k7 k8 k9
        clear hn0
        with_reducible refine (Planned_c r A b _ HOK.out.l0 HOK.out.l5 hbb).mono ?_
        rintro e w5 ⟨v, rfl, hown, hb⟩
        replace HB := Lib.hid (HB.out.trans (hb.mono HB.out.size))
        replace HX := Lib.hid (HX.out.below hb)
        replace HR := Lib.hid (HR.out.below hb)
        clear hb
        rw [HPL.out] at hown
        obtain ⟨pa, pc, rfl, -, hs⟩ := own_Sl hown
        clear hown
        have HSP := Lib.hid hs
        clear hs
        obtain ⟨k0, k1, k2, k3, k4, k5, k6, k7, k8, k9⟩ := HX.out
        go_wp2_with fail
        clear k0 k1 k2 k3 k4 k5 k6 k7 k8 k9
        with_reducible refine (River_c r A _ HR.out HL.out.1 HL.out.2.1 HL.out.2.2.1 HL.out.2.2.2).mono ?_
        rintro e w6 ⟨A1, rfl, hr1, -, hb⟩
        replace HB := Lib.hid (HB.out.trans (hb.mono HB.out.size))
        replace HX := Lib.hid (HX.out.below hb)
        replace HR := Lib.hid (HR.out.below hb)
        replace HSP := Lib.hid (HSP.out.below hb)
        clear hb
        have HR1 := Lib.hid hr1
        clear hr1
        obtain ⟨k0, k1, k2, k3, k4, k5, k6, k7, k8, k9⟩ := HX.out
        go_wp2_with fail
        clear k0 k1 k2 k3 k4 k5 k6 k7 k8 k9
        with_reducible refine (Fewest_c r A1 _ HR1.out HL.out.1 HL.out.2.1 HL.out.2.2.1 HL.out.2.2.2).mono ?_
        rintro e w7 ⟨sa, sc, rfl, hsl, hb⟩
        replace HB := Lib.hid (HB.out.trans (hb.mono HB.out.size))
        replace HX := Lib.hid (HX.out.below hb)
        replace HR := Lib.hid (HR.out.below hb)
        replace HSP := Lib.hid (HSP.out.below hb)
        replace HR1 := Lib.hid (HR1.out.below hb)
        clear hb
        rw [HFE.out] at hsl ⊢
        have HS := Lib.hid hsl
        clear hsl
        obtain ⟨k0, k1, k2, k3, k4, k5, k6, k7, k8, k9⟩ := HX.out
        go_wp2_with fail
        clear k0 k1 k2 k3 k4 k5 k6 k7 k8 k9
        refine region_o (S := BoxR w.heap.size r A) (.take 0 (.take 1 (.take 3 (.take 4 (.one 2 (.one 5 (.one 6 (.take 7 (.take 8 .nil))))))))) (by kernel_rfl) (by kernel_rfl) (fun _ _ d _ _ h => by cases d <;> exact h) (HX.out.below (Below.refl _ _).drew) ?_
        intro W0 hW0 hS0
        have hBW : Below w7.heap.size w7 W0 := by subst hW0; exact (Below.refl _ _).drew
        clear hW0
        repeat (first
          | (refine ord_skip rfl ?_ ?_; rfl; simp only [List.getElem_toArray, List.getElem_cons_zero, List.getElem_cons_succ, Act.put, List.setIfInBounds_toArray, List.set_cons_zero, List.set_cons_succ])
          | (refine ord_take (v := ?_) rfl ?_ (fun W hW => ?_) ?_; rotate_left; rfl; (obtain ⟨k0, k1, k2, k3, k4, k5, k6, k7, k8, k9⟩ := hW; go_simp; (first | done | with_reducible rfl)); simp only [List.getElem_toArray, List.getElem_cons_zero, List.getElem_cons_succ, Act.put, List.setIfInBounds_toArray, List.set_cons_zero, List.set_cons_succ]))
        (refine ord_op rfl ?_ (fun K hK => ?_); rfl; go_simp; (with_reducible refine (sure_c r A pa PL pc _ (HR.out.below hBW) HL.out.1 HL.out.2.1 HL.out.2.2.1 HL.out.2.2.2 (HSP.out.below hBW) (by omega)).mono ?_); rintro e W1 ⟨rfl, hb⟩; have hS1 := BoxR.below hS0 hb; replace hBW := hBW.trans (hb.mono hBW.size); rw [HS1.out]; clear hb; refine hK _ _ hS1 ?_; clear hK K; try simp only [List.getElem_toArray, List.getElem_cons_zero, List.getElem_cons_succ, Act.put, List.setIfInBounds_toArray, List.set_cons_zero, List.set_cons_succ])
        (refine ord_op rfl ?_ (fun K hK => ?_); rfl; go_simp; (with_reducible refine (Planned255_c r A _ HOK.out.l0 HOK.out.l5).mono ?_); rintro e W2 ⟨v, rfl, hown, hb⟩; have hS2 := BoxR.below hS1 hb; replace hBW := hBW.trans (hb.mono hBW.size); rw [HPA.out] at hown; obtain ⟨aa, ac, rfl, -, hs⟩ := own_Sl hown; have HSA := Lib.hid hs; clear hown hs; clear hb; refine hK _ _ hS2 ?_; clear hK K; try simp only [List.getElem_toArray, List.getElem_cons_zero, List.getElem_cons_succ, Act.put, List.setIfInBounds_toArray, List.set_cons_zero, List.set_cons_succ])
        (refine ord_op rfl ?_ (fun K hK => ?_); rfl; go_simp; (with_reducible refine (sure_c r A aa PA ac _ (HR.out.below hBW) HL.out.1 HL.out.2.1 HL.out.2.2.1 HL.out.2.2.2 HSA.out (by omega)).mono ?_); rintro e W3 ⟨rfl, hb⟩; have hS3 := BoxR.below hS2 hb; replace hBW := hBW.trans (hb.mono hBW.size); rw [HS2.out]; clear hb; refine hK _ _ hS3 ?_; clear hK K; try simp only [List.getElem_toArray, List.getElem_cons_zero, List.getElem_cons_succ, Act.put, List.setIfInBounds_toArray, List.set_cons_zero, List.set_cons_succ])
        repeat (first
          | (refine ord_skip rfl ?_ ?_; rfl; simp only [List.getElem_toArray, List.getElem_cons_zero, List.getElem_cons_succ, Act.put, List.setIfInBounds_toArray, List.set_cons_zero, List.set_cons_succ])
          | (refine ord_take (v := ?_) rfl ?_ (fun W hW => ?_) ?_; rotate_left; rfl; (obtain ⟨k0, k1, k2, k3, k4, k5, k6, k7, k8, k9⟩ := hW; go_simp; (first | done | with_reducible rfl)); simp only [List.getElem_toArray, List.getElem_cons_zero, List.getElem_cons_succ, Act.put, List.setIfInBounds_toArray, List.set_cons_zero, List.set_cons_succ]))
        refine ord_nil ?_
        replace HB := Lib.hid (HB.out.trans (hBW.mono HB.out.size))
        replace HX := Lib.hid (HX.out.below hBW)
        replace HR := Lib.hid (HR.out.below hBW)
        replace HSP := Lib.hid (HSP.out.below hBW)
        replace HR1 := Lib.hid (HR1.out.below hBW)
        replace HS := Lib.hid (HS.out.below hBW)
        clear hBW
        obtain ⟨k0, k1, k2, k3, k4, k5, k6, k7, k8, k9⟩ := HX.out
        go_wp2_with fail
        clear k0 k1 k2 k3 k4 k5 k6 k7 k8 k9
        with_reducible refine (awake_c _).mono ?_
        rintro e wz ⟨rfl, hbz⟩
        go_wp2_with fail
        go_ret
        exact ⟨rfl, HB.out.trans (hbz.mono HB.out.size)⟩
      · have HFE := Lib.hid e1
        have HS2 := Lib.hid hs2
        have HPN := Lib.hid hpn
        have HPV := Lib.hid hpv
        have HGD := Lib.hid hgd
        clear e1 hs2 hpn hpv hgd
        cases his : sureP r PL
        · have HS1 := Lib.hid his
          clear his hsh
          go_enter Try.func18, Try.ntmps18
          go_wp2_with fail
          obtain ⟨wq, hwq⟩ : ∃ wq, w.alloc (rO26 r A) = wq := ⟨_, rfl⟩
          rw [hwq] at HB HX ⊢
          clear hwq
          replace HR := Lib.hid (HR.out.below HB.out)
          with_reducible refine (ready_c r A _ HR.out).mono ?_
          rintro e w3 ⟨rfl, hb⟩
          replace HB := Lib.hid (HB.out.trans (hb.mono HB.out.size))
          replace HX := Lib.hid (HX.out.below hb)
          replace HR := Lib.hid (HR.out.below hb)
          clear hb
          rw [HRD.out]
          obtain ⟨k0, k1, k2, k3, k4, k5, k6, k7, k8, k9⟩ := HX.out
          go_wp2_with fail
          clear k0 k1 k2 k3 k4 k5 k6 k7 k8 k9
          with_reducible refine (Truths_c r A _ HOK.out HR.out).mono ?_
          rintro e w4 ⟨lt, ct, rfl, htl, hb⟩
          replace HB := Lib.hid (HB.out.trans (hb.mono HB.out.size))
          replace HX := Lib.hid (HX.out.below hb)
          replace HR := Lib.hid (HR.out.below hb)
          clear hb
          clear htl
          rw [HNT.out]
          have hn0 := HN0.out
          obtain ⟨k0, k1, k2, k3, k4, k5, k6, k7, k8, k9⟩ := HX.out
          go_wp2_with fail
          clear k0 k1 k2 k3 k4 k5 k6 k7 k8 k9
          clear hn0
          with_reducible refine (Planned_c r A b _ HOK.out.l0 HOK.out.l5 hbb).mono ?_
          rintro e w5 ⟨v, rfl, hown, hb⟩
          replace HB := Lib.hid (HB.out.trans (hb.mono HB.out.size))
          replace HX := Lib.hid (HX.out.below hb)
          replace HR := Lib.hid (HR.out.below hb)
          clear hb
          rw [HPL.out] at hown
          obtain ⟨pa, pc, rfl, -, hs⟩ := own_Sl hown
          clear hown
          have HSP := Lib.hid hs
          clear hs
          obtain ⟨k0, k1, k2, k3, k4, k5, k6, k7, k8, k9⟩ := HX.out
          go_wp2_with fail
          clear k0 k1 k2 k3 k4 k5 k6 k7 k8 k9
          with_reducible refine (River_c r A _ HR.out HL.out.1 HL.out.2.1 HL.out.2.2.1 HL.out.2.2.2).mono ?_
          rintro e w6 ⟨A1, rfl, hr1, -, hb⟩
          replace HB := Lib.hid (HB.out.trans (hb.mono HB.out.size))
          replace HX := Lib.hid (HX.out.below hb)
          replace HR := Lib.hid (HR.out.below hb)
          replace HSP := Lib.hid (HSP.out.below hb)
          clear hb
          have HR1 := Lib.hid hr1
          clear hr1
          obtain ⟨k0, k1, k2, k3, k4, k5, k6, k7, k8, k9⟩ := HX.out
          go_wp2_with fail
          clear k0 k1 k2 k3 k4 k5 k6 k7 k8 k9
          with_reducible refine (Fewest_c r A1 _ HR1.out HL.out.1 HL.out.2.1 HL.out.2.2.1 HL.out.2.2.2).mono ?_
          rintro e w7 ⟨sa, sc, rfl, hsl, hb⟩
          replace HB := Lib.hid (HB.out.trans (hb.mono HB.out.size))
          replace HX := Lib.hid (HX.out.below hb)
          replace HR := Lib.hid (HR.out.below hb)
          replace HSP := Lib.hid (HSP.out.below hb)
          replace HR1 := Lib.hid (HR1.out.below hb)
          clear hb
          rw [HFE.out] at hsl ⊢
          have HS := Lib.hid hsl
          clear hsl
          obtain ⟨k0, k1, k2, k3, k4, k5, k6, k7, k8, k9⟩ := HX.out
          go_wp2_with fail
          clear k0 k1 k2 k3 k4 k5 k6 k7 k8 k9
          refine region_o (S := BoxR w.heap.size r A) (.take 0 (.take 1 (.take 3 (.take 4 (.one 2 (.one 5 (.one 6 (.take 7 (.take 8 .nil))))))))) (by kernel_rfl) (by kernel_rfl) (fun _ _ d _ _ h => by cases d <;> exact h) (HX.out.below (Below.refl _ _).drew) ?_
          intro W0 hW0 hS0
          have hBW : Below w7.heap.size w7 W0 := by subst hW0; exact (Below.refl _ _).drew
          clear hW0
          repeat (first
            | (refine ord_skip rfl ?_ ?_; rfl; simp only [List.getElem_toArray, List.getElem_cons_zero, List.getElem_cons_succ, Act.put, List.setIfInBounds_toArray, List.set_cons_zero, List.set_cons_succ])
            | (refine ord_take (v := ?_) rfl ?_ (fun W hW => ?_) ?_; rotate_left; rfl; (obtain ⟨k0, k1, k2, k3, k4, k5, k6, k7, k8, k9⟩ := hW; go_simp; (first | done | with_reducible rfl)); simp only [List.getElem_toArray, List.getElem_cons_zero, List.getElem_cons_succ, Act.put, List.setIfInBounds_toArray, List.set_cons_zero, List.set_cons_succ]))
          (refine ord_op rfl ?_ (fun K hK => ?_); rfl; go_simp; (with_reducible refine (sure_c r A pa PL pc _ (HR.out.below hBW) HL.out.1 HL.out.2.1 HL.out.2.2.1 HL.out.2.2.2 (HSP.out.below hBW) (by omega)).mono ?_); rintro e W1 ⟨rfl, hb⟩; have hS1 := BoxR.below hS0 hb; replace hBW := hBW.trans (hb.mono hBW.size); rw [HS1.out]; clear hb; refine hK _ _ hS1 ?_; clear hK K; try simp only [List.getElem_toArray, List.getElem_cons_zero, List.getElem_cons_succ, Act.put, List.setIfInBounds_toArray, List.set_cons_zero, List.set_cons_succ])
          (refine ord_op rfl ?_ (fun K hK => ?_); rfl; go_simp; (with_reducible refine (Planned255_c r A _ HOK.out.l0 HOK.out.l5).mono ?_); rintro e W2 ⟨v, rfl, hown, hb⟩; have hS2 := BoxR.below hS1 hb; replace hBW := hBW.trans (hb.mono hBW.size); rw [HPA.out] at hown; obtain ⟨aa, ac, rfl, -, hs⟩ := own_Sl hown; have HSA := Lib.hid hs; clear hown hs; clear hb; refine hK _ _ hS2 ?_; clear hK K; try simp only [List.getElem_toArray, List.getElem_cons_zero, List.getElem_cons_succ, Act.put, List.setIfInBounds_toArray, List.set_cons_zero, List.set_cons_succ])
          (refine ord_op rfl ?_ (fun K hK => ?_); rfl; go_simp; (with_reducible refine (sure_c r A aa PA ac _ (HR.out.below hBW) HL.out.1 HL.out.2.1 HL.out.2.2.1 HL.out.2.2.2 HSA.out (by omega)).mono ?_); rintro e W3 ⟨rfl, hb⟩; have hS3 := BoxR.below hS2 hb; replace hBW := hBW.trans (hb.mono hBW.size); rw [HS2.out]; clear hb; refine hK _ _ hS3 ?_; clear hK K; try simp only [List.getElem_toArray, List.getElem_cons_zero, List.getElem_cons_succ, Act.put, List.setIfInBounds_toArray, List.set_cons_zero, List.set_cons_succ])
          repeat (first
            | (refine ord_skip rfl ?_ ?_; rfl; simp only [List.getElem_toArray, List.getElem_cons_zero, List.getElem_cons_succ, Act.put, List.setIfInBounds_toArray, List.set_cons_zero, List.set_cons_succ])
            | (refine ord_take (v := ?_) rfl ?_ (fun W hW => ?_) ?_; rotate_left; rfl; (obtain ⟨k0, k1, k2, k3, k4, k5, k6, k7, k8, k9⟩ := hW; go_simp; (first | done | with_reducible rfl)); simp only [List.getElem_toArray, List.getElem_cons_zero, List.getElem_cons_succ, Act.put, List.setIfInBounds_toArray, List.set_cons_zero, List.set_cons_succ]))
          refine ord_nil ?_
          replace HB := Lib.hid (HB.out.trans (hBW.mono HB.out.size))
          replace HX := Lib.hid (HX.out.below hBW)
          replace HR := Lib.hid (HR.out.below hBW)
          replace HSP := Lib.hid (HSP.out.below hBW)
          replace HR1 := Lib.hid (HR1.out.below hBW)
          replace HS := Lib.hid (HS.out.below hBW)
          clear hBW
          obtain ⟨k0, k1, k2, k3, k4, k5, k6, k7, k8, k9⟩ := HX.out
          go_wp2_with fail
          clear k0 k1 k2 k3 k4 k5 k6 k7 k8 k9
          with_reducible refine (IsPlan_c r A sa y sc _ HS.out (by omega) HOK.out.l0 HOK.out.l5).mono ?_
          rintro e w8 ⟨rfl, hb⟩
          replace HB := Lib.hid (HB.out.trans (hb.mono HB.out.size))
          replace HX := Lib.hid (HX.out.below hb)
          replace HR := Lib.hid (HR.out.below hb)
          replace HSP := Lib.hid (HSP.out.below hb)
          replace HR1 := Lib.hid (HR1.out.below hb)
          replace HS := Lib.hid (HS.out.below hb)
          clear hb
          rw [HPN.out]
          obtain ⟨k0, k1, k2, k3, k4, k5, k6, k7, k8, k9⟩ := HX.out
          go_wp2_with fail
          clear k0 k1 k2 k3 k4 k5 k6 k7 k8 k9
          with_reducible refine (River_c r A _ HR.out HL.out.1 HL.out.2.1 HL.out.2.2.1 HL.out.2.2.2).mono ?_
          rintro e w9 ⟨A2, rfl, hr1, -, hb⟩
          replace HB := Lib.hid (HB.out.trans (hb.mono HB.out.size))
          replace HX := Lib.hid (HX.out.below hb)
          replace HR := Lib.hid (HR.out.below hb)
          replace HSP := Lib.hid (HSP.out.below hb)
          replace HR1 := Lib.hid (HR1.out.below hb)
          replace HS := Lib.hid (HS.out.below hb)
          clear hb
          have HR2 := Lib.hid hr1
          clear hr1
          obtain ⟨k0, k1, k2, k3, k4, k5, k6, k7, k8, k9⟩ := HX.out
          go_wp2_with fail
          clear k0 k1 k2 k3 k4 k5 k6 k7 k8 k9
          with_reducible refine (list_c sa y sc _ HS.out (by omega)).mono ?_
          rintro e w10 ⟨v, rfl, hown, hb⟩
          replace HB := Lib.hid (HB.out.trans (hb.mono HB.out.size))
          replace HX := Lib.hid (HX.out.below hb)
          replace HR := Lib.hid (HR.out.below hb)
          replace HSP := Lib.hid (HSP.out.below hb)
          replace HR1 := Lib.hid (HR1.out.below hb)
          replace HS := Lib.hid (HS.out.below hb)
          replace HR2 := Lib.hid (HR2.out.below hb)
          clear hb
          obtain ⟨s2, c2, rfl, -, hs2⟩ := own_Sl hown
          clear hown
          have HS2L := Lib.hid hs2
          clear hs2
          obtain ⟨k0, k1, k2, k3, k4, k5, k6, k7, k8, k9⟩ := HX.out
          go_wp2_with fail
          clear k0 k1 k2 k3 k4 k5 k6 k7 k8 k9
          with_reducible refine (ProvePlan_c r A2 s2 y c2 (y.length : Int) _ HR2.out HL.out.1 HL.out.2.1 HL.out.2.2.1 HL.out.2.2.2 HS2L.out (by omega)).mono ?_
          rintro e w11 ⟨rfl, hb⟩
          replace HB := Lib.hid (HB.out.trans (hb.mono HB.out.size))
          replace HX := Lib.hid (HX.out.below hb)
          replace HR := Lib.hid (HR.out.below hb)
          replace HSP := Lib.hid (HSP.out.below hb)
          replace HR1 := Lib.hid (HR1.out.below hb)
          replace HS := Lib.hid (HS.out.below hb)
          replace HR2 := Lib.hid (HR2.out.below hb)
          replace HS2L := Lib.hid (HS2L.out.below hb)
          clear hb
          rw [HPV.out]
          obtain ⟨k0, k1, k2, k3, k4, k5, k6, k7, k8, k9⟩ := HX.out
          go_wp2_with fail
          clear k0 k1 k2 k3 k4 k5 k6 k7 k8 k9
          go_loopw [10] (fun i wr => ∃ k : Nat, k ≤ y.length ∧ i = .int .i64 k ∧ Below w11.heap.size w11 wr) (fun i _ => y.length - (intOf i).toNat)
          case atStart => exact ⟨0, Nat.zero_le _, rfl, Below.refl _ _⟩
          case round =>
            obtain ⟨k, hk, rfl, hB⟩ := hrel
            replace HB := Lib.hid (HB.out.trans (hB.mono HB.out.size))
            replace HX := Lib.hid (HX.out.below hB)
            replace HR := Lib.hid (HR.out.below hB)
            replace HSP := Lib.hid (HSP.out.below hB)
            replace HR1 := Lib.hid (HR1.out.below hB)
            replace HS := Lib.hid (HS.out.below hB)
            replace HR2 := Lib.hid (HR2.out.below hB)
            replace HS2L := Lib.hid (HS2L.out.below hB)
            have HC := Lib.hid hB
            clear hB
            by_cases hlt : k < y.length
            · obtain ⟨x, hx⟩ : ∃ x, y[k]? = some x := ⟨_, List.getElem?_eq_getElem hlt⟩
              have hx0 := (isPlanB_in r.last HOK.out.l5 y HPN.out x (List.mem_of_getElem? hx)).1
              obtain ⟨b0, o, ea, d⟩ := HS.out.int_at hx
              subst ea
              obtain ⟨D, rfl⟩ := Int.eq_ofNat_of_zero_le hx0
              obtain ⟨_, v, hgv, hv2⟩ := HGD.out D (List.mem_of_getElem? hx)
              have HGV := Lib.hid hgv
              have HV2 := Lib.hid (show (v == 2) = false from by rw [beq_eq_false_iff_ne]; exact hv2)
              have HSS := Lib.hid (show InS w.heap.size b0 (o + k) r A D wr from ⟨HX.out, d⟩)
              have ew : IntKind.i64.wrap ((k : Int) + 1) = (k : Int) + 1 := IntWalk.i64_in _ (by omega)
              clear hx hgv hv2 d
              obtain ⟨k0, k1, k2, k3, k4, k5, k6, k7, k8, k9⟩ := HX.out
              go_wp2_with fail
              clear k0 k1 k2 k3 k4 k5 k6 k7 k8 k9
              refine region_o (S := InS w.heap.size b0 (o + k) r A D) (.take 0 (.take 2 (.take 3 (.take 4 (.take 5 (.one 1 (.one 6 (.take 7 (.take 8 (.take 9 (.take 10 (.take 11 .nil)))))))))))) (by kernel_rfl) (by kernel_rfl) (fun _ _ d _ _ h => by cases d <;> exact h) (HSS.out.below (Below.refl _ _).drew) ?_
              intro W0 hW0 hS0
              have hBW : Below wr.heap.size wr W0 := by subst hW0; exact (Below.refl _ _).drew
              clear hW0
              repeat (first
                | (refine ord_skip rfl ?_ ?_; rfl; simp only [List.getElem_toArray, List.getElem_cons_zero, List.getElem_cons_succ, Act.put, List.setIfInBounds_toArray, List.set_cons_zero, List.set_cons_succ])
                | (refine ord_take (v := ?_) rfl ?_ (fun W hW => ?_) ?_; rotate_left; rfl; (obtain ⟨⟨k0, k1, k2, k3, k4, k5, k6, k7, k8, k9⟩, d⟩ := hW; go_simp; (first | done | with_reducible rfl)); simp only [List.getElem_toArray, List.getElem_cons_zero, List.getElem_cons_succ, Act.put, List.setIfInBounds_toArray, List.set_cons_zero, List.set_cons_succ]))
              (refine ord_op rfl ?_ (fun K hK => ?_); rfl; go_simp; (with_reducible refine (River_c r A _ (HR.out.below hBW) HL.out.1 HL.out.2.1 HL.out.2.2.1 HL.out.2.2.2).mono ?_); rintro e W1 ⟨A3, rfl, hr3, -, hb⟩; have hS1 := InS.below hS0 hb; replace hBW := hBW.trans (hb.mono hBW.size); have HR3 := Lib.hid hr3; clear hr3; clear hb; refine hK _ _ hS1 ?_; clear hK K; try simp only [List.getElem_toArray, List.getElem_cons_zero, List.getElem_cons_succ, Act.put, List.setIfInBounds_toArray, List.set_cons_zero, List.set_cons_succ])
              (refine ord_op rfl ?_ (fun K hK => ?_); rfl; go_simp; (with_reducible refine (Good_c r A3 (D : Int) _ (HR3.out) HL.out.1 HL.out.2.1 HL.out.2.2.1 HL.out.2.2.2).mono ?_); rintro e W2 ⟨rfl, hb⟩; have hS2 := InS.below hS1 hb; replace hBW := hBW.trans (hb.mono hBW.size); rw [HGV.out]; clear hb; refine hK _ _ hS2 ?_; clear hK K; try simp only [List.getElem_toArray, List.getElem_cons_zero, List.getElem_cons_succ, Act.put, List.setIfInBounds_toArray, List.set_cons_zero, List.set_cons_succ])
              repeat (first
                | (refine ord_skip rfl ?_ ?_; rfl; simp only [List.getElem_toArray, List.getElem_cons_zero, List.getElem_cons_succ, Act.put, List.setIfInBounds_toArray, List.set_cons_zero, List.set_cons_succ])
                | (refine ord_take (v := ?_) rfl ?_ (fun W hW => ?_) ?_; rotate_left; rfl; (obtain ⟨⟨k0, k1, k2, k3, k4, k5, k6, k7, k8, k9⟩, d⟩ := hW; go_simp; (first | done | with_reducible rfl)); simp only [List.getElem_toArray, List.getElem_cons_zero, List.getElem_cons_succ, Act.put, List.setIfInBounds_toArray, List.set_cons_zero, List.set_cons_succ]))
              refine ord_nil ?_
              replace HB := Lib.hid (HB.out.trans (hBW.mono HB.out.size))
              replace HC := Lib.hid (HC.out.trans (hBW.mono HC.out.size))
              replace HX := Lib.hid (HX.out.below hBW)
              replace HR := Lib.hid (HR.out.below hBW)
              replace HSP := Lib.hid (HSP.out.below hBW)
              replace HR1 := Lib.hid (HR1.out.below hBW)
              replace HS := Lib.hid (HS.out.below hBW)
              replace HR2 := Lib.hid (HR2.out.below hBW)
              replace HS2L := Lib.hid (HS2L.out.below hBW)
              clear hBW
              obtain ⟨k0, k1, k2, k3, k4, k5, k6, k7, k8, k9⟩ := HX.out
              have hv2 := HV2.out
              go_wp2_with fail
              clear k0 k1 k2 k3 k4 k5 k6 k7 k8 k9
              go_roundw
              case rel => exact ⟨k + 1, by omega, by go_num, HC.out⟩
              case measure => simp [intOf]; omega
            · obtain ⟨k0, k1, k2, k3, k4, k5, k6, k7, k8, k9⟩ := HX.out
              go_wp2_with fail
              clear k0 k1 k2 k3 k4 k5 k6 k7 k8 k9
              with_reducible refine (awake_c _).mono ?_
              rintro e wz ⟨rfl, hbz⟩
              go_wp2_with fail
              go_ret
              exact ⟨rfl, HB.out.trans (hbz.mono HB.out.size)⟩
        · have HS1 := Lib.hid his
          have HSH := Lib.hid (hsh his)
          clear his hsh
          go_enter Try.func18, Try.ntmps18
          go_wp2_with fail
          obtain ⟨wq, hwq⟩ : ∃ wq, w.alloc (rO26 r A) = wq := ⟨_, rfl⟩
          rw [hwq] at HB HX ⊢
          clear hwq
          replace HR := Lib.hid (HR.out.below HB.out)
          with_reducible refine (ready_c r A _ HR.out).mono ?_
          rintro e w3 ⟨rfl, hb⟩
          replace HB := Lib.hid (HB.out.trans (hb.mono HB.out.size))
          replace HX := Lib.hid (HX.out.below hb)
          replace HR := Lib.hid (HR.out.below hb)
          clear hb
          rw [HRD.out]
          obtain ⟨k0, k1, k2, k3, k4, k5, k6, k7, k8, k9⟩ := HX.out
          go_wp2_with fail
          clear k0 k1 k2 k3 k4 k5 k6 k7 k8 k9
          with_reducible refine (Truths_c r A _ HOK.out HR.out).mono ?_
          rintro e w4 ⟨lt, ct, rfl, htl, hb⟩
          replace HB := Lib.hid (HB.out.trans (hb.mono HB.out.size))
          replace HX := Lib.hid (HX.out.below hb)
          replace HR := Lib.hid (HR.out.below hb)
          clear hb
          clear htl
          rw [HNT.out]
          have hn0 := HN0.out
          obtain ⟨k0, k1, k2, k3, k4, k5, k6, k7, k8, k9⟩ := HX.out
          go_wp2_with fail
          clear k0 k1 k2 k3 k4 k5 k6 k7 k8 k9
          clear hn0
          with_reducible refine (Planned_c r A b _ HOK.out.l0 HOK.out.l5 hbb).mono ?_
          rintro e w5 ⟨v, rfl, hown, hb⟩
          replace HB := Lib.hid (HB.out.trans (hb.mono HB.out.size))
          replace HX := Lib.hid (HX.out.below hb)
          replace HR := Lib.hid (HR.out.below hb)
          clear hb
          rw [HPL.out] at hown
          obtain ⟨pa, pc, rfl, -, hs⟩ := own_Sl hown
          clear hown
          have HSP := Lib.hid hs
          clear hs
          obtain ⟨k0, k1, k2, k3, k4, k5, k6, k7, k8, k9⟩ := HX.out
          go_wp2_with fail
          clear k0 k1 k2 k3 k4 k5 k6 k7 k8 k9
          with_reducible refine (River_c r A _ HR.out HL.out.1 HL.out.2.1 HL.out.2.2.1 HL.out.2.2.2).mono ?_
          rintro e w6 ⟨A1, rfl, hr1, -, hb⟩
          replace HB := Lib.hid (HB.out.trans (hb.mono HB.out.size))
          replace HX := Lib.hid (HX.out.below hb)
          replace HR := Lib.hid (HR.out.below hb)
          replace HSP := Lib.hid (HSP.out.below hb)
          clear hb
          have HR1 := Lib.hid hr1
          clear hr1
          obtain ⟨k0, k1, k2, k3, k4, k5, k6, k7, k8, k9⟩ := HX.out
          go_wp2_with fail
          clear k0 k1 k2 k3 k4 k5 k6 k7 k8 k9
          with_reducible refine (Fewest_c r A1 _ HR1.out HL.out.1 HL.out.2.1 HL.out.2.2.1 HL.out.2.2.2).mono ?_
          rintro e w7 ⟨sa, sc, rfl, hsl, hb⟩
          replace HB := Lib.hid (HB.out.trans (hb.mono HB.out.size))
          replace HX := Lib.hid (HX.out.below hb)
          replace HR := Lib.hid (HR.out.below hb)
          replace HSP := Lib.hid (HSP.out.below hb)
          replace HR1 := Lib.hid (HR1.out.below hb)
          clear hb
          rw [HFE.out] at hsl ⊢
          have HS := Lib.hid hsl
          clear hsl
          obtain ⟨k0, k1, k2, k3, k4, k5, k6, k7, k8, k9⟩ := HX.out
          go_wp2_with fail
          clear k0 k1 k2 k3 k4 k5 k6 k7 k8 k9
          refine region_o (S := BoxR w.heap.size r A) (.take 0 (.take 1 (.take 3 (.take 4 (.one 2 (.one 5 (.one 6 (.take 7 (.take 8 .nil))))))))) (by kernel_rfl) (by kernel_rfl) (fun _ _ d _ _ h => by cases d <;> exact h) (HX.out.below (Below.refl _ _).drew) ?_
          intro W0 hW0 hS0
          have hBW : Below w7.heap.size w7 W0 := by subst hW0; exact (Below.refl _ _).drew
          clear hW0
          repeat (first
            | (refine ord_skip rfl ?_ ?_; rfl; simp only [List.getElem_toArray, List.getElem_cons_zero, List.getElem_cons_succ, Act.put, List.setIfInBounds_toArray, List.set_cons_zero, List.set_cons_succ])
            | (refine ord_take (v := ?_) rfl ?_ (fun W hW => ?_) ?_; rotate_left; rfl; (obtain ⟨k0, k1, k2, k3, k4, k5, k6, k7, k8, k9⟩ := hW; go_simp; (first | done | with_reducible rfl)); simp only [List.getElem_toArray, List.getElem_cons_zero, List.getElem_cons_succ, Act.put, List.setIfInBounds_toArray, List.set_cons_zero, List.set_cons_succ]))
          (refine ord_op rfl ?_ (fun K hK => ?_); rfl; go_simp; (with_reducible refine (sure_c r A pa PL pc _ (HR.out.below hBW) HL.out.1 HL.out.2.1 HL.out.2.2.1 HL.out.2.2.2 (HSP.out.below hBW) (by omega)).mono ?_); rintro e W1 ⟨rfl, hb⟩; have hS1 := BoxR.below hS0 hb; replace hBW := hBW.trans (hb.mono hBW.size); rw [HS1.out]; clear hb; refine hK _ _ hS1 ?_; clear hK K; try simp only [List.getElem_toArray, List.getElem_cons_zero, List.getElem_cons_succ, Act.put, List.setIfInBounds_toArray, List.set_cons_zero, List.set_cons_succ])
          (refine ord_op rfl ?_ (fun K hK => ?_); rfl; go_simp; (with_reducible refine (Planned255_c r A _ HOK.out.l0 HOK.out.l5).mono ?_); rintro e W2 ⟨v, rfl, hown, hb⟩; have hS2 := BoxR.below hS1 hb; replace hBW := hBW.trans (hb.mono hBW.size); rw [HPA.out] at hown; obtain ⟨aa, ac, rfl, -, hs⟩ := own_Sl hown; have HSA := Lib.hid hs; clear hown hs; clear hb; refine hK _ _ hS2 ?_; clear hK K; try simp only [List.getElem_toArray, List.getElem_cons_zero, List.getElem_cons_succ, Act.put, List.setIfInBounds_toArray, List.set_cons_zero, List.set_cons_succ])
          (refine ord_op rfl ?_ (fun K hK => ?_); rfl; go_simp; (with_reducible refine (sure_c r A aa PA ac _ (HR.out.below hBW) HL.out.1 HL.out.2.1 HL.out.2.2.1 HL.out.2.2.2 HSA.out (by omega)).mono ?_); rintro e W3 ⟨rfl, hb⟩; have hS3 := BoxR.below hS2 hb; replace hBW := hBW.trans (hb.mono hBW.size); rw [HS2.out]; clear hb; refine hK _ _ hS3 ?_; clear hK K; try simp only [List.getElem_toArray, List.getElem_cons_zero, List.getElem_cons_succ, Act.put, List.setIfInBounds_toArray, List.set_cons_zero, List.set_cons_succ])
          repeat (first
            | (refine ord_skip rfl ?_ ?_; rfl; simp only [List.getElem_toArray, List.getElem_cons_zero, List.getElem_cons_succ, Act.put, List.setIfInBounds_toArray, List.set_cons_zero, List.set_cons_succ])
            | (refine ord_take (v := ?_) rfl ?_ (fun W hW => ?_) ?_; rotate_left; rfl; (obtain ⟨k0, k1, k2, k3, k4, k5, k6, k7, k8, k9⟩ := hW; go_simp; (first | done | with_reducible rfl)); simp only [List.getElem_toArray, List.getElem_cons_zero, List.getElem_cons_succ, Act.put, List.setIfInBounds_toArray, List.set_cons_zero, List.set_cons_succ]))
          refine ord_nil ?_
          replace HB := Lib.hid (HB.out.trans (hBW.mono HB.out.size))
          replace HX := Lib.hid (HX.out.below hBW)
          replace HR := Lib.hid (HR.out.below hBW)
          replace HSP := Lib.hid (HSP.out.below hBW)
          replace HR1 := Lib.hid (HR1.out.below hBW)
          replace HS := Lib.hid (HS.out.below hBW)
          clear hBW
          obtain ⟨k0, k1, k2, k3, k4, k5, k6, k7, k8, k9⟩ := HX.out
          go_wp2_with fail
          clear k0 k1 k2 k3 k4 k5 k6 k7 k8 k9
          with_reducible refine (IsPlan_c r A sa y sc _ HS.out (by omega) HOK.out.l0 HOK.out.l5).mono ?_
          rintro e w8 ⟨rfl, hb⟩
          replace HB := Lib.hid (HB.out.trans (hb.mono HB.out.size))
          replace HX := Lib.hid (HX.out.below hb)
          replace HR := Lib.hid (HR.out.below hb)
          replace HSP := Lib.hid (HSP.out.below hb)
          replace HR1 := Lib.hid (HR1.out.below hb)
          replace HS := Lib.hid (HS.out.below hb)
          clear hb
          rw [HPN.out]
          obtain ⟨k0, k1, k2, k3, k4, k5, k6, k7, k8, k9⟩ := HX.out
          go_wp2_with fail
          clear k0 k1 k2 k3 k4 k5 k6 k7 k8 k9
          with_reducible refine (River_c r A _ HR.out HL.out.1 HL.out.2.1 HL.out.2.2.1 HL.out.2.2.2).mono ?_
          rintro e w9 ⟨A2, rfl, hr1, -, hb⟩
          replace HB := Lib.hid (HB.out.trans (hb.mono HB.out.size))
          replace HX := Lib.hid (HX.out.below hb)
          replace HR := Lib.hid (HR.out.below hb)
          replace HSP := Lib.hid (HSP.out.below hb)
          replace HR1 := Lib.hid (HR1.out.below hb)
          replace HS := Lib.hid (HS.out.below hb)
          clear hb
          have HR2 := Lib.hid hr1
          clear hr1
          obtain ⟨k0, k1, k2, k3, k4, k5, k6, k7, k8, k9⟩ := HX.out
          go_wp2_with fail
          clear k0 k1 k2 k3 k4 k5 k6 k7 k8 k9
          with_reducible refine (list_c sa y sc _ HS.out (by omega)).mono ?_
          rintro e w10 ⟨v, rfl, hown, hb⟩
          replace HB := Lib.hid (HB.out.trans (hb.mono HB.out.size))
          replace HX := Lib.hid (HX.out.below hb)
          replace HR := Lib.hid (HR.out.below hb)
          replace HSP := Lib.hid (HSP.out.below hb)
          replace HR1 := Lib.hid (HR1.out.below hb)
          replace HS := Lib.hid (HS.out.below hb)
          replace HR2 := Lib.hid (HR2.out.below hb)
          clear hb
          obtain ⟨s2, c2, rfl, -, hs2⟩ := own_Sl hown
          clear hown
          have HS2L := Lib.hid hs2
          clear hs2
          obtain ⟨k0, k1, k2, k3, k4, k5, k6, k7, k8, k9⟩ := HX.out
          go_wp2_with fail
          clear k0 k1 k2 k3 k4 k5 k6 k7 k8 k9
          with_reducible refine (ProvePlan_c r A2 s2 y c2 (y.length : Int) _ HR2.out HL.out.1 HL.out.2.1 HL.out.2.2.1 HL.out.2.2.2 HS2L.out (by omega)).mono ?_
          rintro e w11 ⟨rfl, hb⟩
          replace HB := Lib.hid (HB.out.trans (hb.mono HB.out.size))
          replace HX := Lib.hid (HX.out.below hb)
          replace HR := Lib.hid (HR.out.below hb)
          replace HSP := Lib.hid (HSP.out.below hb)
          replace HR1 := Lib.hid (HR1.out.below hb)
          replace HS := Lib.hid (HS.out.below hb)
          replace HR2 := Lib.hid (HR2.out.below hb)
          replace HS2L := Lib.hid (HS2L.out.below hb)
          clear hb
          rw [HPV.out]
          obtain ⟨k0, k1, k2, k3, k4, k5, k6, k7, k8, k9⟩ := HX.out
          go_wp2_with fail
          clear k0 k1 k2 k3 k4 k5 k6 k7 k8 k9
          with_reducible refine (Shorter_c pa sa PL y pc sc _ HSP.out HS.out (by omega) (by omega)).mono ?_
          rintro e w12 ⟨rfl, hb⟩
          replace HB := Lib.hid (HB.out.trans (hb.mono HB.out.size))
          replace HX := Lib.hid (HX.out.below hb)
          replace HR := Lib.hid (HR.out.below hb)
          replace HSP := Lib.hid (HSP.out.below hb)
          replace HR1 := Lib.hid (HR1.out.below hb)
          replace HS := Lib.hid (HS.out.below hb)
          replace HR2 := Lib.hid (HR2.out.below hb)
          replace HS2L := Lib.hid (HS2L.out.below hb)
          clear hb
          rw [HSH.out]
          obtain ⟨k0, k1, k2, k3, k4, k5, k6, k7, k8, k9⟩ := HX.out
          go_wp2_with fail
          clear k0 k1 k2 k3 k4 k5 k6 k7 k8 k9
          go_loopw [10] (fun i wr => ∃ k : Nat, k ≤ y.length ∧ i = .int .i64 k ∧ Below w12.heap.size w12 wr) (fun i _ => y.length - (intOf i).toNat)
          case atStart => exact ⟨0, Nat.zero_le _, rfl, Below.refl _ _⟩
          case round =>
            obtain ⟨k, hk, rfl, hB⟩ := hrel
            replace HB := Lib.hid (HB.out.trans (hB.mono HB.out.size))
            replace HX := Lib.hid (HX.out.below hB)
            replace HR := Lib.hid (HR.out.below hB)
            replace HSP := Lib.hid (HSP.out.below hB)
            replace HR1 := Lib.hid (HR1.out.below hB)
            replace HS := Lib.hid (HS.out.below hB)
            replace HR2 := Lib.hid (HR2.out.below hB)
            replace HS2L := Lib.hid (HS2L.out.below hB)
            have HC := Lib.hid hB
            clear hB
            by_cases hlt : k < y.length
            · obtain ⟨x, hx⟩ : ∃ x, y[k]? = some x := ⟨_, List.getElem?_eq_getElem hlt⟩
              have hx0 := (isPlanB_in r.last HOK.out.l5 y HPN.out x (List.mem_of_getElem? hx)).1
              obtain ⟨b0, o, ea, d⟩ := HS.out.int_at hx
              subst ea
              obtain ⟨D, rfl⟩ := Int.eq_ofNat_of_zero_le hx0
              obtain ⟨_, v, hgv, hv2⟩ := HGD.out D (List.mem_of_getElem? hx)
              have HGV := Lib.hid hgv
              have HV2 := Lib.hid (show (v == 2) = false from by rw [beq_eq_false_iff_ne]; exact hv2)
              have HSS := Lib.hid (show InS w.heap.size b0 (o + k) r A D wr from ⟨HX.out, d⟩)
              have ew : IntKind.i64.wrap ((k : Int) + 1) = (k : Int) + 1 := IntWalk.i64_in _ (by omega)
              clear hx hgv hv2 d
              obtain ⟨k0, k1, k2, k3, k4, k5, k6, k7, k8, k9⟩ := HX.out
              go_wp2_with fail
              clear k0 k1 k2 k3 k4 k5 k6 k7 k8 k9
              refine region_o (S := InS w.heap.size b0 (o + k) r A D) (.take 0 (.take 2 (.take 3 (.take 4 (.take 5 (.one 1 (.one 6 (.take 7 (.take 8 (.take 9 (.take 10 (.take 11 .nil)))))))))))) (by kernel_rfl) (by kernel_rfl) (fun _ _ d _ _ h => by cases d <;> exact h) (HSS.out.below (Below.refl _ _).drew) ?_
              intro W0 hW0 hS0
              have hBW : Below wr.heap.size wr W0 := by subst hW0; exact (Below.refl _ _).drew
              clear hW0
              repeat (first
                | (refine ord_skip rfl ?_ ?_; rfl; simp only [List.getElem_toArray, List.getElem_cons_zero, List.getElem_cons_succ, Act.put, List.setIfInBounds_toArray, List.set_cons_zero, List.set_cons_succ])
                | (refine ord_take (v := ?_) rfl ?_ (fun W hW => ?_) ?_; rotate_left; rfl; (obtain ⟨⟨k0, k1, k2, k3, k4, k5, k6, k7, k8, k9⟩, d⟩ := hW; go_simp; (first | done | with_reducible rfl)); simp only [List.getElem_toArray, List.getElem_cons_zero, List.getElem_cons_succ, Act.put, List.setIfInBounds_toArray, List.set_cons_zero, List.set_cons_succ]))
              (refine ord_op rfl ?_ (fun K hK => ?_); rfl; go_simp; (with_reducible refine (River_c r A _ (HR.out.below hBW) HL.out.1 HL.out.2.1 HL.out.2.2.1 HL.out.2.2.2).mono ?_); rintro e W1 ⟨A3, rfl, hr3, -, hb⟩; have hS1 := InS.below hS0 hb; replace hBW := hBW.trans (hb.mono hBW.size); have HR3 := Lib.hid hr3; clear hr3; clear hb; refine hK _ _ hS1 ?_; clear hK K; try simp only [List.getElem_toArray, List.getElem_cons_zero, List.getElem_cons_succ, Act.put, List.setIfInBounds_toArray, List.set_cons_zero, List.set_cons_succ])
              (refine ord_op rfl ?_ (fun K hK => ?_); rfl; go_simp; (with_reducible refine (Good_c r A3 (D : Int) _ (HR3.out) HL.out.1 HL.out.2.1 HL.out.2.2.1 HL.out.2.2.2).mono ?_); rintro e W2 ⟨rfl, hb⟩; have hS2 := InS.below hS1 hb; replace hBW := hBW.trans (hb.mono hBW.size); rw [HGV.out]; clear hb; refine hK _ _ hS2 ?_; clear hK K; try simp only [List.getElem_toArray, List.getElem_cons_zero, List.getElem_cons_succ, Act.put, List.setIfInBounds_toArray, List.set_cons_zero, List.set_cons_succ])
              repeat (first
                | (refine ord_skip rfl ?_ ?_; rfl; simp only [List.getElem_toArray, List.getElem_cons_zero, List.getElem_cons_succ, Act.put, List.setIfInBounds_toArray, List.set_cons_zero, List.set_cons_succ])
                | (refine ord_take (v := ?_) rfl ?_ (fun W hW => ?_) ?_; rotate_left; rfl; (obtain ⟨⟨k0, k1, k2, k3, k4, k5, k6, k7, k8, k9⟩, d⟩ := hW; go_simp; (first | done | with_reducible rfl)); simp only [List.getElem_toArray, List.getElem_cons_zero, List.getElem_cons_succ, Act.put, List.setIfInBounds_toArray, List.set_cons_zero, List.set_cons_succ]))
              refine ord_nil ?_
              replace HB := Lib.hid (HB.out.trans (hBW.mono HB.out.size))
              replace HC := Lib.hid (HC.out.trans (hBW.mono HC.out.size))
              replace HX := Lib.hid (HX.out.below hBW)
              replace HR := Lib.hid (HR.out.below hBW)
              replace HSP := Lib.hid (HSP.out.below hBW)
              replace HR1 := Lib.hid (HR1.out.below hBW)
              replace HS := Lib.hid (HS.out.below hBW)
              replace HR2 := Lib.hid (HR2.out.below hBW)
              replace HS2L := Lib.hid (HS2L.out.below hBW)
              clear hBW
              obtain ⟨k0, k1, k2, k3, k4, k5, k6, k7, k8, k9⟩ := HX.out
              have hv2 := HV2.out
              go_wp2_with fail
              clear k0 k1 k2 k3 k4 k5 k6 k7 k8 k9
              go_roundw
              case rel => exact ⟨k + 1, by omega, by go_num, HC.out⟩
              case measure => simp [intOf]; omega
            · obtain ⟨k0, k1, k2, k3, k4, k5, k6, k7, k8, k9⟩ := HX.out
              go_wp2_with fail
              clear k0 k1 k2 k3 k4 k5 k6 k7 k8 k9
              with_reducible refine (awake_c _).mono ?_
              rintro e wz ⟨rfl, hbz⟩
              go_wp2_with fail
              go_ret
              exact ⟨rfl, HB.out.trans (hbz.mono HB.out.size)⟩
end Go.Proofs.Ytgglfngkomgadaa
