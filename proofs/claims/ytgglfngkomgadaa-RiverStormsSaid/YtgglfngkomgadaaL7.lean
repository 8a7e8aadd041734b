/- Walks of the laws: RiverStorms. -/
import Derived.Test.YtgglfngkomgadaaL5
namespace Go.Proofs.Ytgglfngkomgadaa
open Go.RowKit Go.Shelf
set_option linter.unusedVariables false
set_option linter.unusedSimpArgs false
set_option maxRecDepth 100000

set_option maxHeartbeats 4000000 in
theorem law7_c (r : Riv) (A : RA) (day : Int) (w : World) (hr : Rd w r A) :
    Calls Try.prog 7 #[rivV r A, .int .i64 day] w (RetB true w) := by
  have HB := Lib.hid (al_b w (rO26 r A))
  have HX := Lib.hid (box_new w r A)
  have HR := Lib.hid hr
  clear hr
  cases hth : thinB r
  · have HT := Lib.hid hth
    clear hth
    go_enter Try.func7, Try.ntmps7
    go_wp2_with fail
    obtain ⟨wq, hwq⟩ : ∃ wq, w.alloc (rO26 r A) = wq := ⟨_, rfl⟩
    rw [hwq] at HB HX ⊢
    clear hwq
    replace HR := Lib.hid (HR.out.below HB.out)
    with_reducible refine (thin_c r A _).mono ?_
    rintro e w3 ⟨rfl, hb⟩
    replace HB := Lib.hid (HB.out.trans (hb.mono HB.out.size))
    replace HX := Lib.hid (HX.out.below hb)
    replace HR := Lib.hid (HR.out.below hb)
    clear hb
    rw [HT.out]
    obtain ⟨k0, k1, k2, k3, k4, k5, k6, k7, k8, k9⟩ := HX.out
    go_wp2_with fail
    clear k0 k1 k2 k3 k4 k5 k6 k7 k8 k9
    with_reducible refine (awake_c _).mono ?_
    rintro e wz ⟨rfl, hbz⟩
    go_wp2_with fail
    go_ret
    exact ⟨rfl, HB.out.trans (hbz.mono HB.out.size)⟩
  · have HT := Lib.hid hth
    have HL := Lib.hid (thin_lens hth)
    obtain ⟨N, hN⟩ : ∃ N, N = askR r (inB day 0 r.last) := ⟨_, rfl⟩
    have HN := Lib.hid hN
    clear hth
    by_cases hn : N = 0
    · have HA := Lib.hid (show askR r (inB day 0 r.last) = 0 from by rw [← hN, hn])
      have HOK := Lib.hid (ask_in HA.out).2
      have HF := Lib.hid (asked_fits HA.out)
      obtain ⟨O, hO⟩ : ∃ O, fewRf r (truthsR r) r.size day = O := ⟨_, rfl⟩
      have hgo : fewA r (inB day 0 r.last) day = fewR O := by rw [few_ans HA.out, hO]
      clear hn hN
      cases O with
      | none =>
        have HGO := Lib.hid (show fewA r (inB day 0 r.last) day = ([], 10) from hgo)
        have HO := Lib.hid hO
        clear hgo hO
        go_enter Try.func7, Try.ntmps7
        go_wp2_with fail
        obtain ⟨wq, hwq⟩ : ∃ wq, w.alloc (rO26 r A) = wq := ⟨_, rfl⟩
        rw [hwq] at HB HX ⊢
        clear hwq
        replace HR := Lib.hid (HR.out.below HB.out)
        with_reducible refine (thin_c r A _).mono ?_
        rintro e w3 ⟨rfl, hb⟩
        replace HB := Lib.hid (HB.out.trans (hb.mono HB.out.size))
        replace HX := Lib.hid (HX.out.below hb)
        replace HR := Lib.hid (HR.out.below hb)
        clear hb
        rw [HT.out]
        obtain ⟨k0, k1, k2, k3, k4, k5, k6, k7, k8, k9⟩ := HX.out
        go_wp2_with fail
        clear k0 k1 k2 k3 k4 k5 k6 k7 k8 k9
        with_reducible refine (River_c r A _ HR.out HL.out.1 HL.out.2.1 HL.out.2.2.1 HL.out.2.2.2).mono ?_
        rintro e w4 ⟨A1, rfl, hr1, -, hb⟩
        replace HB := Lib.hid (HB.out.trans (hb.mono HB.out.size))
        replace HX := Lib.hid (HX.out.below hb)
        replace HR := Lib.hid (HR.out.below hb)
        clear hb
        have HR1 := Lib.hid hr1
        clear hr1
        obtain ⟨k0, k1, k2, k3, k4, k5, k6, k7, k8, k9⟩ := HX.out
        go_wp2_with fail
        clear k0 k1 k2 k3 k4 k5 k6 k7 k8 k9
        with_reducible refine (Storm_c r A1 day _ HR1.out HL.out.1 HL.out.2.1 HL.out.2.2.1 HL.out.2.2.2).mono ?_
        rintro e w5 ⟨sa, sc, rfl, hsl, hb⟩
        replace HB := Lib.hid (HB.out.trans (hb.mono HB.out.size))
        replace HX := Lib.hid (HX.out.below hb)
        replace HR := Lib.hid (HR.out.below hb)
        replace HR1 := Lib.hid (HR1.out.below hb)
        clear hb
        rw [HGO.out] at hsl ⊢
        have HS := Lib.hid hsl
        clear hsl
        obtain ⟨k0, k1, k2, k3, k4, k5, k6, k7, k8, k9⟩ := HX.out
        go_wp2_with fail
        clear k0 k1 k2 k3 k4 k5 k6 k7 k8 k9
        refine region_o (S := BoxR w.heap.size r A) (.take 0 (.take 1 (.take 2 (.take 3 (.one 4 (.one 5 (.take 6 (.take 7 (.take 8 (.take 9 (.take 10 .nil))))))))))) (by kernel_rfl) (by kernel_rfl) (fun _ _ d _ _ h => by cases d <;> exact h) (HX.out.below (Below.refl _ _).drew) ?_
        intro W0 hW0 hS0
        have hBW : Below w5.heap.size w5 W0 := by subst hW0; exact (Below.refl _ _).drew
        clear hW0
        repeat (first
          | (refine ord_skip rfl ?_ ?_; rfl; simp only [List.getElem_toArray, List.getElem_cons_zero, List.getElem_cons_succ, Act.put, List.setIfInBounds_toArray, List.set_cons_zero, List.set_cons_succ])
          | (refine ord_take (v := ?_) rfl ?_ (fun W hW => ?_) ?_; rotate_left; rfl; (obtain ⟨k0, k1, k2, k3, k4, k5, k6, k7, k8, k9⟩ := hW; go_simp; (first | done | with_reducible rfl)); simp only [List.getElem_toArray, List.getElem_cons_zero, List.getElem_cons_succ, Act.put, List.setIfInBounds_toArray, List.set_cons_zero, List.set_cons_succ]))
        (refine ord_op rfl ?_ (fun K hK => ?_); rfl; go_simp; (with_reducible refine (In_c _ _ _ _).mono ?_); rintro e w1 ⟨rfl, rfl⟩; obtain ⟨W1, hWj⟩ : ∃ Q, Q = W0 := ⟨_, rfl⟩; subst hWj; have hS1 := hS0; refine hK _ _ hS1 ?_; clear hK K; try simp only [List.getElem_toArray, List.getElem_cons_zero, List.getElem_cons_succ, Act.put, List.setIfInBounds_toArray, List.set_cons_zero, List.set_cons_succ])
        (refine ord_op rfl ?_ (fun K hK => ?_); rfl; go_simp; (with_reducible refine (asked_ok_c r A _ _ (HR.out.below hBW) HL.out HA.out).mono ?_); rintro e W2 ⟨la, lc, rfl, htl, hb⟩; have hS2 := BoxR.below hS1 hb; replace hBW := hBW.trans (hb.mono hBW.size); have HTL := Lib.hid htl; clear htl; clear hb; refine hK _ _ hS2 ?_; clear hK K; try simp only [List.getElem_toArray, List.getElem_cons_zero, List.getElem_cons_succ, Act.put, List.setIfInBounds_toArray, List.set_cons_zero, List.set_cons_succ])
        repeat (first
          | (refine ord_skip rfl ?_ ?_; rfl; simp only [List.getElem_toArray, List.getElem_cons_zero, List.getElem_cons_succ, Act.put, List.setIfInBounds_toArray, List.set_cons_zero, List.set_cons_succ])
          | (refine ord_take (v := ?_) rfl ?_ (fun W hW => ?_) ?_; rotate_left; rfl; (obtain ⟨k0, k1, k2, k3, k4, k5, k6, k7, k8, k9⟩ := hW; go_simp; (first | done | with_reducible rfl)); simp only [List.getElem_toArray, List.getElem_cons_zero, List.getElem_cons_succ, Act.put, List.setIfInBounds_toArray, List.set_cons_zero, List.set_cons_succ]))
        refine ord_nil ?_
        replace HB := Lib.hid (HB.out.trans (hBW.mono HB.out.size))
        replace HX := Lib.hid (HX.out.below hBW)
        replace HR := Lib.hid (HR.out.below hBW)
        replace HR1 := Lib.hid (HR1.out.below hBW)
        replace HS := Lib.hid (HS.out.below hBW)
        clear hBW
        obtain ⟨k0, k1, k2, k3, k4, k5, k6, k7, k8, k9⟩ := HX.out
        go_wp2_with fail
        clear k0 k1 k2 k3 k4 k5 k6 k7 k8 k9
        with_reducible refine (FewestR_c r A la _ lc r.size day HOK.out HOK.out.sz.1 HOK.out.sz.2 HF.out.1 HF.out.2.1 _ HR.out HTL.out).mono ?_
        rintro e w6 ⟨v, f, rfl, hbest, hb⟩
        replace HB := Lib.hid (HB.out.trans (hb.mono HB.out.size))
        replace HX := Lib.hid (HX.out.below hb)
        replace HR := Lib.hid (HR.out.below hb)
        replace HR1 := Lib.hid (HR1.out.below hb)
        replace HS := Lib.hid (HS.out.below hb)
        replace HTL := Lib.hid (HTL.out.below hb)
        clear hb
        rw [HO.out] at hbest
        obtain ⟨rfl, rfl⟩ := hbest
        obtain ⟨k0, k1, k2, k3, k4, k5, k6, k7, k8, k9⟩ := HX.out
        go_wp2_with fail
        clear k0 k1 k2 k3 k4 k5 k6 k7 k8 k9
        with_reducible refine (awake_c _).mono ?_
        rintro e wz ⟨rfl, hbz⟩
        go_wp2_with fail
        go_ret
        exact ⟨rfl, HB.out.trans (hbz.mono HB.out.size)⟩
      | some y =>
        have HGO := Lib.hid (show fewA r (inB day 0 r.last) day = (y, 0) from hgo)
        have HO := Lib.hid hO
        have HYL := Lib.hid (fewRf_len hO)
        clear hgo hO
        go_enter Try.func7, Try.ntmps7
        go_wp2_with fail
        obtain ⟨wq, hwq⟩ : ∃ wq, w.alloc (rO26 r A) = wq := ⟨_, rfl⟩
        rw [hwq] at HB HX ⊢
        clear hwq
        replace HR := Lib.hid (HR.out.below HB.out)
        with_reducible refine (thin_c r A _).mono ?_
        rintro e w3 ⟨rfl, hb⟩
        replace HB := Lib.hid (HB.out.trans (hb.mono HB.out.size))
        replace HX := Lib.hid (HX.out.below hb)
        replace HR := Lib.hid (HR.out.below hb)
        clear hb
        rw [HT.out]
        obtain ⟨k0, k1, k2, k3, k4, k5, k6, k7, k8, k9⟩ := HX.out
        go_wp2_with fail
        clear k0 k1 k2 k3 k4 k5 k6 k7 k8 k9
        with_reducible refine (River_c r A _ HR.out HL.out.1 HL.out.2.1 HL.out.2.2.1 HL.out.2.2.2).mono ?_
        rintro e w4 ⟨A1, rfl, hr1, -, hb⟩
        replace HB := Lib.hid (HB.out.trans (hb.mono HB.out.size))
        replace HX := Lib.hid (HX.out.below hb)
        replace HR := Lib.hid (HR.out.below hb)
        clear hb
        have HR1 := Lib.hid hr1
        clear hr1
        obtain ⟨k0, k1, k2, k3, k4, k5, k6, k7, k8, k9⟩ := HX.out
        go_wp2_with fail
        clear k0 k1 k2 k3 k4 k5 k6 k7 k8 k9
        with_reducible refine (Storm_c r A1 day _ HR1.out HL.out.1 HL.out.2.1 HL.out.2.2.1 HL.out.2.2.2).mono ?_
        rintro e w5 ⟨sa, sc, rfl, hsl, hb⟩
        replace HB := Lib.hid (HB.out.trans (hb.mono HB.out.size))
        replace HX := Lib.hid (HX.out.below hb)
        replace HR := Lib.hid (HR.out.below hb)
        replace HR1 := Lib.hid (HR1.out.below hb)
        clear hb
        rw [HGO.out] at hsl ⊢
        have HS := Lib.hid hsl
        clear hsl
        obtain ⟨k0, k1, k2, k3, k4, k5, k6, k7, k8, k9⟩ := HX.out
        go_wp2_with fail
        clear k0 k1 k2 k3 k4 k5 k6 k7 k8 k9
        refine region_o (S := BoxR w.heap.size r A) (.take 0 (.take 1 (.take 2 (.take 3 (.one 4 (.one 5 (.take 6 (.take 7 (.take 8 (.take 9 (.take 10 .nil))))))))))) (by kernel_rfl) (by kernel_rfl) (fun _ _ d _ _ h => by cases d <;> exact h) (HX.out.below (Below.refl _ _).drew) ?_
        intro W0 hW0 hS0
        have hBW : Below w5.heap.size w5 W0 := by subst hW0; exact (Below.refl _ _).drew
        clear hW0
        repeat (first
          | (refine ord_skip rfl ?_ ?_; rfl; simp only [List.getElem_toArray, List.getElem_cons_zero, List.getElem_cons_succ, Act.put, List.setIfInBounds_toArray, List.set_cons_zero, List.set_cons_succ])
          | (refine ord_take (v := ?_) rfl ?_ (fun W hW => ?_) ?_; rotate_left; rfl; (obtain ⟨k0, k1, k2, k3, k4, k5, k6, k7, k8, k9⟩ := hW; go_simp; (first | done | with_reducible rfl)); simp only [List.getElem_toArray, List.getElem_cons_zero, List.getElem_cons_succ, Act.put, List.setIfInBounds_toArray, List.set_cons_zero, List.set_cons_succ]))
        (refine ord_op rfl ?_ (fun K hK => ?_); rfl; go_simp; (with_reducible refine (In_c _ _ _ _).mono ?_); rintro e w1 ⟨rfl, rfl⟩; obtain ⟨W1, hWj⟩ : ∃ Q, Q = W0 := ⟨_, rfl⟩; subst hWj; have hS1 := hS0; refine hK _ _ hS1 ?_; clear hK K; try simp only [List.getElem_toArray, List.getElem_cons_zero, List.getElem_cons_succ, Act.put, List.setIfInBounds_toArray, List.set_cons_zero, List.set_cons_succ])
        (refine ord_op rfl ?_ (fun K hK => ?_); rfl; go_simp; (with_reducible refine (asked_ok_c r A _ _ (HR.out.below hBW) HL.out HA.out).mono ?_); rintro e W2 ⟨la, lc, rfl, htl, hb⟩; have hS2 := BoxR.below hS1 hb; replace hBW := hBW.trans (hb.mono hBW.size); have HTL := Lib.hid htl; clear htl; clear hb; refine hK _ _ hS2 ?_; clear hK K; try simp only [List.getElem_toArray, List.getElem_cons_zero, List.getElem_cons_succ, Act.put, List.setIfInBounds_toArray, List.set_cons_zero, List.set_cons_succ])
        repeat (first
          | (refine ord_skip rfl ?_ ?_; rfl; simp only [List.getElem_toArray, List.getElem_cons_zero, List.getElem_cons_succ, Act.put, List.setIfInBounds_toArray, List.set_cons_zero, List.set_cons_succ])
          | (refine ord_take (v := ?_) rfl ?_ (fun W hW => ?_) ?_; rotate_left; rfl; (obtain ⟨k0, k1, k2, k3, k4, k5, k6, k7, k8, k9⟩ := hW; go_simp; (first | done | with_reducible rfl)); simp only [List.getElem_toArray, List.getElem_cons_zero, List.getElem_cons_succ, Act.put, List.setIfInBounds_toArray, List.set_cons_zero, List.set_cons_succ]))
        refine ord_nil ?_
        replace HB := Lib.hid (HB.out.trans (hBW.mono HB.out.size))
        replace HX := Lib.hid (HX.out.below hBW)
        replace HR := Lib.hid (HR.out.below hBW)
        replace HR1 := Lib.hid (HR1.out.below hBW)
        replace HS := Lib.hid (HS.out.below hBW)
        clear hBW
        obtain ⟨k0, k1, k2, k3, k4, k5, k6, k7, k8, k9⟩ := HX.out
        go_wp2_with fail
        clear k0 k1 k2 k3 k4 k5 k6 k7 k8 k9
        with_reducible refine (FewestR_c r A la _ lc r.size day HOK.out HOK.out.sz.1 HOK.out.sz.2 HF.out.1 HF.out.2.1 _ HR.out HTL.out).mono ?_
        rintro e w6 ⟨v, f, rfl, hbest, hb⟩
        replace HB := Lib.hid (HB.out.trans (hb.mono HB.out.size))
        replace HX := Lib.hid (HX.out.below hb)
        replace HR := Lib.hid (HR.out.below hb)
        replace HR1 := Lib.hid (HR1.out.below hb)
        replace HS := Lib.hid (HS.out.below hb)
        replace HTL := Lib.hid (HTL.out.below hb)
        clear hb
        rw [HO.out] at hbest
        obtain ⟨ba, bc, rfl, rfl, hsb⟩ := hbest
        have HSB := Lib.hid hsb
        clear hsb
        obtain ⟨k0, k1, k2, k3, k4, k5, k6, k7, k8, k9⟩ := HX.out
        go_wp2_with fail
        clear k0 k1 k2 k3 k4 k5 k6 k7 k8 k9
        with_reducible refine (ints_c sa ba y y sc bc _ HS.out HSB.out (by have := HYL.out; omega)).mono ?_
        rintro e w7 ⟨rfl, hb⟩
        replace HB := Lib.hid (HB.out.trans (hb.mono HB.out.size))
        replace HX := Lib.hid (HX.out.below hb)
        replace HR := Lib.hid (HR.out.below hb)
        replace HR1 := Lib.hid (HR1.out.below hb)
        replace HS := Lib.hid (HS.out.below hb)
        replace HTL := Lib.hid (HTL.out.below hb)
        replace HSB := Lib.hid (HSB.out.below hb)
        clear hb
        rw [show (y == y) = true from beq_self_eq_true y]
        obtain ⟨k0, k1, k2, k3, k4, k5, k6, k7, k8, k9⟩ := HX.out
        go_wp2_with fail
        clear k0 k1 k2 k3 k4 k5 k6 k7 k8 k9
        with_reducible refine (awake_c _).mono ?_
        rintro e wz ⟨rfl, hbz⟩
        go_wp2_with fail
        go_ret
        exact ⟨rfl, HB.out.trans (hbz.mono HB.out.size)⟩
    · have hN1 : (N == 0) = false := by simpa using hn
      have HN1 := Lib.hid hn
      have HGO := Lib.hid (show fewA r (inB day 0 r.last) day = ([], N) from by rw [few_err (by rw [← hN]; exact hn), ← hN])
      clear hN hn
      go_enter Try.func7, Try.ntmps7
      go_wp2_with fail
      obtain ⟨wq, hwq⟩ : ∃ wq, w.alloc (rO26 r A) = wq := ⟨_, rfl⟩
      rw [hwq] at HB HX ⊢
      clear hwq
      replace HR := Lib.hid (HR.out.below HB.out)
      with_reducible refine (thin_c r A _).mono ?_
      rintro e w3 ⟨rfl, hb⟩
      replace HB := Lib.hid (HB.out.trans (hb.mono HB.out.size))
      replace HX := Lib.hid (HX.out.below hb)
      replace HR := Lib.hid (HR.out.below hb)
      clear hb
      rw [HT.out]
      obtain ⟨k0, k1, k2, k3, k4, k5, k6, k7, k8, k9⟩ := HX.out
      go_wp2_with fail
      clear k0 k1 k2 k3 k4 k5 k6 k7 k8 k9
      with_reducible refine (River_c r A _ HR.out HL.out.1 HL.out.2.1 HL.out.2.2.1 HL.out.2.2.2).mono ?_
      rintro e w4 ⟨A1, rfl, hr1, -, hb⟩
      replace HB := Lib.hid (HB.out.trans (hb.mono HB.out.size))
      replace HX := Lib.hid (HX.out.below hb)
      replace HR := Lib.hid (HR.out.below hb)
      clear hb
      have HR1 := Lib.hid hr1
      clear hr1
      obtain ⟨k0, k1, k2, k3, k4, k5, k6, k7, k8, k9⟩ := HX.out
      go_wp2_with fail
      clear k0 k1 k2 k3 k4 k5 k6 k7 k8 k9
      with_reducible refine (Storm_c r A1 day _ HR1.out HL.out.1 HL.out.2.1 HL.out.2.2.1 HL.out.2.2.2).mono ?_
      rintro e w5 ⟨sa, sc, rfl, hsl, hb⟩
      replace HB := Lib.hid (HB.out.trans (hb.mono HB.out.size))
      replace HX := Lib.hid (HX.out.below hb)
      replace HR := Lib.hid (HR.out.below hb)
      replace HR1 := Lib.hid (HR1.out.below hb)
      clear hb
      rw [HGO.out] at hsl ⊢
      have HS := Lib.hid hsl
      clear hsl
      obtain ⟨k0, k1, k2, k3, k4, k5, k6, k7, k8, k9⟩ := HX.out
      go_wp2_with fail
      clear k0 k1 k2 k3 k4 k5 k6 k7 k8 k9
      refine region_o (S := BoxR w.heap.size r A) (.take 0 (.take 1 (.take 2 (.take 3 (.one 4 (.one 5 (.take 6 (.take 7 (.take 8 (.take 9 (.take 10 .nil))))))))))) (by kernel_rfl) (by kernel_rfl) (fun _ _ d _ _ h => by cases d <;> exact h) (HX.out.below (Below.refl _ _).drew) ?_
      intro W0 hW0 hS0
      have hBW : Below w5.heap.size w5 W0 := by subst hW0; exact (Below.refl _ _).drew
      clear hW0
      repeat (first
        | (refine ord_skip rfl ?_ ?_; rfl; simp only [List.getElem_toArray, List.getElem_cons_zero, List.getElem_cons_succ, Act.put, List.setIfInBounds_toArray, List.set_cons_zero, List.set_cons_succ])
        | (refine ord_take (v := ?_) rfl ?_ (fun W hW => ?_) ?_; rotate_left; rfl; (obtain ⟨k0, k1, k2, k3, k4, k5, k6, k7, k8, k9⟩ := hW; go_simp; (first | done | with_reducible rfl)); simp only [List.getElem_toArray, List.getElem_cons_zero, List.getElem_cons_succ, Act.put, List.setIfInBounds_toArray, List.set_cons_zero, List.set_cons_succ]))
      (refine ord_op rfl ?_ (fun K hK => ?_); rfl; go_simp; (with_reducible refine (In_c _ _ _ _).mono ?_); rintro e w1 ⟨rfl, rfl⟩; obtain ⟨W1, hWj⟩ : ∃ Q, Q = W0 := ⟨_, rfl⟩; subst hWj; have hS1 := hS0; refine hK _ _ hS1 ?_; clear hK K; try simp only [List.getElem_toArray, List.getElem_cons_zero, List.getElem_cons_succ, Act.put, List.setIfInBounds_toArray, List.set_cons_zero, List.set_cons_succ])
      (refine ord_op rfl ?_ (fun K hK => ?_); rfl; go_simp; (with_reducible refine (asked_no_c r A _ _ (HR.out.below hBW) HL.out N HN.out HN1.out).mono ?_); rintro e W2 ⟨la, lc, rfl, hb⟩; have hS2 := BoxR.below hS1 hb; replace hBW := hBW.trans (hb.mono hBW.size); clear hb; refine hK _ _ hS2 ?_; clear hK K; try simp only [List.getElem_toArray, List.getElem_cons_zero, List.getElem_cons_succ, Act.put, List.setIfInBounds_toArray, List.set_cons_zero, List.set_cons_succ])
      repeat (first
        | (refine ord_skip rfl ?_ ?_; rfl; simp only [List.getElem_toArray, List.getElem_cons_zero, List.getElem_cons_succ, Act.put, List.setIfInBounds_toArray, List.set_cons_zero, List.set_cons_succ])
        | (refine ord_take (v := ?_) rfl ?_ (fun W hW => ?_) ?_; rotate_left; rfl; (obtain ⟨k0, k1, k2, k3, k4, k5, k6, k7, k8, k9⟩ := hW; go_simp; (first | done | with_reducible rfl)); simp only [List.getElem_toArray, List.getElem_cons_zero, List.getElem_cons_succ, Act.put, List.setIfInBounds_toArray, List.set_cons_zero, List.set_cons_succ]))
      refine ord_nil ?_
      replace HB := Lib.hid (HB.out.trans (hBW.mono HB.out.size))
      replace HX := Lib.hid (HX.out.below hBW)
      replace HR := Lib.hid (HR.out.below hBW)
      replace HR1 := Lib.hid (HR1.out.below hBW)
      replace HS := Lib.hid (HS.out.below hBW)
      clear hBW
      obtain ⟨k0, k1, k2, k3, k4, k5, k6, k7, k8, k9⟩ := HX.out
      go_wp2_with fail
      clear k0 k1 k2 k3 k4 k5 k6 k7 k8 k9
      with_reducible refine (awake_c _).mono ?_
      rintro e wz ⟨rfl, hbz⟩
      go_wp2_with fail
      go_ret
      exact ⟨rfl, HB.out.trans (hbz.mono HB.out.size)⟩
end Go.Proofs.Ytgglfngkomgadaa
