/- Walks of the laws: RiverGood. -/
import Derived.Test.YtgglfngkomgadaaL0
namespace Go.Proofs.Ytgglfngkomgadaa
open Go.RowKit Go.Shelf
set_option linter.unusedVariables false
set_option linter.unusedSimpArgs false
set_option maxRecDepth 100000

set_option maxHeartbeats 4000000 in
theorem law3_c (r : Riv) (A : RA) (day : Int) (w : World) (hr : Rd w r A) :
    Calls Try.prog 3 #[rivV r A, .int .i64 day] w (RetB true w) := by
  have HB0 := Lib.hid (al_b w (rO26 r A))
  have HX0 := Lib.hid (box_new w r A)
  cases hth : thinB r
  · have HT := Lib.hid hth
    clear hth
    go_enter Try.func3, Try.ntmps3
    go_wp2_with fail
    obtain ⟨wq, hwq⟩ : ∃ wq, w.alloc (rO26 r A) = wq := ⟨_, rfl⟩
    rw [hwq] at HB0 HX0 ⊢
    clear hwq
    refine (thin_c r A _).mono ?_
    rintro e w2 ⟨rfl, hb⟩
    have HB2 := Lib.hid (HB0.out.trans (hb.mono HB0.out.size))
    have HX2 := Lib.hid (HX0.out.below hb)
    rw [HT.out]
    clear hb
    go_wp2_with fail
    refine (awake_c _).mono ?_
    rintro e wz ⟨rfl, hbz⟩
    go_wp2_with fail
    go_ret
    exact ⟨rfl, HB2.out.trans (hbz.mono HB2.out.size)⟩
  · have HT := Lib.hid hth
    have hl := thin_lens hth
    have HL := Lib.hid hl
    obtain ⟨N, hN⟩ : ∃ N, N = askR r (inB day 0 r.last) := ⟨_, rfl⟩
    have HN := Lib.hid hN
    clear hth hl
    by_cases hn : N = 0
    · have HA := Lib.hid (show askR r (inB day 0 r.last) = 0 from by rw [← hN, hn])
      obtain ⟨D, rfl, hDl⟩ := day_of (ask_in HA.out).1
      have HOK := Lib.hid (ask_in HA.out).2
      have HF := Lib.hid (asked_fits HA.out)
      obtain ⟨V, hV⟩ : ∃ V, V = goodRf r (truthsR r) D := ⟨_, rfl⟩
      have HV := Lib.hid hV
      have hgo : goodA r D = (V, 0) := by rw [good_ans D hDl (askOk HA.out).1, if_pos (ask_one HA.out), ← HV.out]
      have HGO := Lib.hid hgo
      clear hV hgo hN hn
      go_enter Try.func3, Try.ntmps3
      go_wp2_with fail
      obtain ⟨wq, hwq⟩ : ∃ wq, w.alloc (rO26 r A) = wq := ⟨_, rfl⟩
      rw [hwq] at HB0 HX0 ⊢
      clear hwq
      refine (thin_c r A _).mono ?_
      rintro e w2 ⟨rfl, hb⟩
      have HB2 := Lib.hid (HB0.out.trans (hb.mono HB0.out.size))
      have HX2 := Lib.hid (HX0.out.below hb)
      rw [HT.out]
      clear hb
      obtain ⟨k0, k1, k2, k3, k4, k5, k6, k7, k8, k9⟩ := HX2.out
      go_wp2_with fail
      with_reducible refine (River_c r A _ (hr.below HB2.out) HL.out.1 HL.out.2.1 HL.out.2.2.1 HL.out.2.2.2).mono ?_
      rintro e w3 ⟨A1, rfl, hr1, -, hb⟩
      have HB3 := Lib.hid (HB2.out.trans (hb.mono HB2.out.size))
      have HX3 := Lib.hid (HX2.out.below hb)
      clear hb
      go_wp2_with fail
      with_reducible refine (Good_c r A1 _ _ hr1 HL.out.1 HL.out.2.1 HL.out.2.2.1 HL.out.2.2.2).mono ?_
      rintro e w4 ⟨rfl, hb⟩
      have HB4 := Lib.hid (HB3.out.trans (hb.mono HB3.out.size))
      have HX4 := Lib.hid (HX3.out.below hb)
      rw [HGO.out]
      clear hb hr1 k0 k1 k2 k3 k4 k5 k6 k7 k8 k9
      go_wp2_with fail
      refine region_o (S := BoxR w.heap.size r A) (.take 0 (.take 1 (.take 2 (.take 3 (.one 4 (.one 5 (.take 6 (.take 7 (.take 8 (.take 9 (.take 10 .nil))))))))))) (by kernel_rfl) (by kernel_rfl) (fun _ _ d _ _ h => by cases d <;> exact h) (HX4.out.below (Below.refl _ _).drew) ?_
      intro W0 hW0 hS0
      have hBW : Below w4.heap.size w4 W0 := by subst hW0; exact (Below.refl _ _).drew
      clear hW0
      repeat (first
        | (refine ord_skip rfl ?_ ?_; rfl; simp only [List.getElem_toArray, List.getElem_cons_zero, List.getElem_cons_succ, Act.put, List.setIfInBounds_toArray, List.set_cons_zero, List.set_cons_succ])
        | (refine ord_take (v := ?_) rfl ?_ (fun W hW => ?_) ?_; rotate_left; rfl; (obtain ⟨k0, k1, k2, k3, k4, k5, k6, k7, k8, k9⟩ := hW; go_simp; (first | done | with_reducible rfl)); simp only [List.getElem_toArray, List.getElem_cons_zero, List.getElem_cons_succ, Act.put, List.setIfInBounds_toArray, List.set_cons_zero, List.set_cons_succ]))
      (refine ord_op rfl ?_ (fun K hK => ?_); rfl; go_simp; refine (In_c _ _ _ _).mono ?_; rintro e w1 ⟨rfl, rfl⟩; obtain ⟨W1, hWj⟩ : ∃ Q, Q = W0 := ⟨_, rfl⟩; subst hWj; have hS1 := hS0; refine hK _ _ hS1 ?_; clear hK K; try simp only [List.getElem_toArray, List.getElem_cons_zero, List.getElem_cons_succ, Act.put, List.setIfInBounds_toArray, List.set_cons_zero, List.set_cons_succ])
      (refine ord_op rfl ?_ (fun K hK => ?_); rfl; go_simp; refine (asked_ok_c r A _ _ (hr.below (HB4.out.trans (hBW.mono HB4.out.size))) HL.out HA.out).mono ?_; rintro e W2 ⟨la, lc, rfl, htl2, hb2⟩; have hS2 := BoxR.below hS1 hb2; have hBc := hBW.trans (hb2.mono hBW.size); refine hK _ _ hS2 ?_; clear hK K; try simp only [List.getElem_toArray, List.getElem_cons_zero, List.getElem_cons_succ, Act.put, List.setIfInBounds_toArray, List.set_cons_zero, List.set_cons_succ])
      repeat (first
        | (refine ord_skip rfl ?_ ?_; rfl; simp only [List.getElem_toArray, List.getElem_cons_zero, List.getElem_cons_succ, Act.put, List.setIfInBounds_toArray, List.set_cons_zero, List.set_cons_succ])
        | (refine ord_take (v := ?_) rfl ?_ (fun W hW => ?_) ?_; rotate_left; rfl; (obtain ⟨k0, k1, k2, k3, k4, k5, k6, k7, k8, k9⟩ := hW; go_simp; (first | done | with_reducible rfl)); simp only [List.getElem_toArray, List.getElem_cons_zero, List.getElem_cons_succ, Act.put, List.setIfInBounds_toArray, List.set_cons_zero, List.set_cons_succ]))
      refine ord_nil ?_
      have HB5 := Lib.hid (HB4.out.trans (hBc.mono HB4.out.size))
      obtain ⟨k0, k1, k2, k3, k4, k5, k6, k7, k8, k9⟩ := hS2
      clear hBc
      go_wp2_with fail
      with_reducible refine (GoodR_c r A la _ lc D hDl HOK.out HF.out.1 HF.out.2.1 _ (hr.below HB5.out) htl2).mono ?_
      rintro e w6 ⟨rfl, hb⟩
      have HB6 := Lib.hid (HB5.out.trans (hb.mono HB5.out.size))
      rw [← HV.out]
      clear hb
      go_wp2_with fail
      refine (awake_c _).mono ?_
      rintro e wz ⟨rfl, hbz⟩
      go_wp2_with fail
      go_ret
      exact ⟨rfl, HB6.out.trans (hbz.mono HB6.out.size)⟩
    · have hN1 : (N == 0) = false := by simpa using hn
      have HN1 := Lib.hid hn
      have hgo : goodA r day = (0, N) := by unfold goodA; rw [ask_eq, ← HN.out, if_neg hn]
      have HGO := Lib.hid hgo
      clear hgo hN hn
      go_enter Try.func3, Try.ntmps3
      go_wp2_with fail
      obtain ⟨wq, hwq⟩ : ∃ wq, w.alloc (rO26 r A) = wq := ⟨_, rfl⟩
      rw [hwq] at HB0 HX0 ⊢
      clear hwq
      refine (thin_c r A _).mono ?_
      rintro e w2 ⟨rfl, hb⟩
      have HB2 := Lib.hid (HB0.out.trans (hb.mono HB0.out.size))
      have HX2 := Lib.hid (HX0.out.below hb)
      rw [HT.out]
      clear hb
      obtain ⟨k0, k1, k2, k3, k4, k5, k6, k7, k8, k9⟩ := HX2.out
      go_wp2_with fail
      with_reducible refine (River_c r A _ (hr.below HB2.out) HL.out.1 HL.out.2.1 HL.out.2.2.1 HL.out.2.2.2).mono ?_
      rintro e w3 ⟨A1, rfl, hr1, -, hb⟩
      have HB3 := Lib.hid (HB2.out.trans (hb.mono HB2.out.size))
      have HX3 := Lib.hid (HX2.out.below hb)
      clear hb
      go_wp2_with fail
      with_reducible refine (Good_c r A1 _ _ hr1 HL.out.1 HL.out.2.1 HL.out.2.2.1 HL.out.2.2.2).mono ?_
      rintro e w4 ⟨rfl, hb⟩
      have HB4 := Lib.hid (HB3.out.trans (hb.mono HB3.out.size))
      have HX4 := Lib.hid (HX3.out.below hb)
      rw [HGO.out]
      clear hb hr1 k0 k1 k2 k3 k4 k5 k6 k7 k8 k9
      go_wp2_with fail
      refine region_o (S := BoxR w.heap.size r A) (.take 0 (.take 1 (.take 2 (.take 3 (.one 4 (.one 5 (.take 6 (.take 7 (.take 8 (.take 9 (.take 10 .nil))))))))))) (by kernel_rfl) (by kernel_rfl) (fun _ _ d _ _ h => by cases d <;> exact h) (HX4.out.below (Below.refl _ _).drew) ?_
      intro W0 hW0 hS0
      have hBW : Below w4.heap.size w4 W0 := by subst hW0; exact (Below.refl _ _).drew
      clear hW0
      repeat (first
        | (refine ord_skip rfl ?_ ?_; rfl; simp only [List.getElem_toArray, List.getElem_cons_zero, List.getElem_cons_succ, Act.put, List.setIfInBounds_toArray, List.set_cons_zero, List.set_cons_succ])
        | (refine ord_take (v := ?_) rfl ?_ (fun W hW => ?_) ?_; rotate_left; rfl; (obtain ⟨k0, k1, k2, k3, k4, k5, k6, k7, k8, k9⟩ := hW; go_simp; (first | done | with_reducible rfl)); simp only [List.getElem_toArray, List.getElem_cons_zero, List.getElem_cons_succ, Act.put, List.setIfInBounds_toArray, List.set_cons_zero, List.set_cons_succ]))
      (refine ord_op rfl ?_ (fun K hK => ?_); rfl; go_simp; refine (In_c _ _ _ _).mono ?_; rintro e w1 ⟨rfl, rfl⟩; obtain ⟨W1, hWj⟩ : ∃ Q, Q = W0 := ⟨_, rfl⟩; subst hWj; have hS1 := hS0; refine hK _ _ hS1 ?_; clear hK K; try simp only [List.getElem_toArray, List.getElem_cons_zero, List.getElem_cons_succ, Act.put, List.setIfInBounds_toArray, List.set_cons_zero, List.set_cons_succ])
      (refine ord_op rfl ?_ (fun K hK => ?_); rfl; go_simp; refine (asked_no_c r A _ _ (hr.below (HB4.out.trans (hBW.mono HB4.out.size))) HL.out N HN.out HN1.out).mono ?_; rintro e W2 ⟨la, lc, rfl, hb2⟩; have hS2 := BoxR.below hS1 hb2; have hBc := hBW.trans (hb2.mono hBW.size); refine hK _ _ hS2 ?_; clear hK K; try simp only [List.getElem_toArray, List.getElem_cons_zero, List.getElem_cons_succ, Act.put, List.setIfInBounds_toArray, List.set_cons_zero, List.set_cons_succ])
      repeat (first
        | (refine ord_skip rfl ?_ ?_; rfl; simp only [List.getElem_toArray, List.getElem_cons_zero, List.getElem_cons_succ, Act.put, List.setIfInBounds_toArray, List.set_cons_zero, List.set_cons_succ])
        | (refine ord_take (v := ?_) rfl ?_ (fun W hW => ?_) ?_; rotate_left; rfl; (obtain ⟨k0, k1, k2, k3, k4, k5, k6, k7, k8, k9⟩ := hW; go_simp; (first | done | with_reducible rfl)); simp only [List.getElem_toArray, List.getElem_cons_zero, List.getElem_cons_succ, Act.put, List.setIfInBounds_toArray, List.set_cons_zero, List.set_cons_succ]))
      refine ord_nil ?_
      have HB5 := Lib.hid (HB4.out.trans (hBc.mono HB4.out.size))
      clear hBc
      go_wp2_with fail
      refine (awake_c _).mono ?_
      rintro e wz ⟨rfl, hbz⟩
      go_wp2_with fail
      go_ret
      exact ⟨rfl, HB5.out.trans (hbz.mono HB5.out.size)⟩
end Go.Proofs.Ytgglfngkomgadaa
