/- Walks of the laws: RiverSmallest. -/
import Derived.Test.YtgglfngkomgadaaL0
import Derived.Test.YtgglfngkomgadaaM6
namespace Go.Proofs.Ytgglfngkomgadaa
open Go.RowKit Go.Shelf
set_option linter.unusedVariables false
set_option linter.unusedSimpArgs false
set_option maxRecDepth 100000

theorem box_blk {W : World} {q : Nat} {r : Riv} {A : RA} (h : W.heap[q]? = some (.cells #[.int .i64 r.last, .slice A.sa r.salt.length A.sc, .slice A.ma r.mud.length A.mc, .int .i64 r.sweet, .int .i64 r.clear, .int .i64 r.size, .int .i64 r.start, .int .i64 r.draw, .slice A.ua r.use.length A.uc, .slice A.ga r.gauges.length A.gc] 26 (0, 0))) : BoxR q r A W :=
  ⟨by rw [cell_blk h]; rfl, by rw [cell_blk h]; rfl, by rw [cell_blk h]; rfl, by rw [cell_blk h]; rfl, by rw [cell_blk h]; rfl, by rw [cell_blk h]; rfl, by rw [cell_blk h]; rfl, by rw [cell_blk h]; rfl, by rw [cell_blk h]; rfl, by rw [cell_blk h]; rfl⟩
theorem heap_other {W : World} {p : Addr} {v : Value} {b : Nat} {o : Obj} (h : W.heap[b]? = some o) (hn : b ≠ p.block) : (W.setCell p v).heap[b]? = some o := (Below.heap_setCell _ _ _ _ hn).trans h

set_option maxHeartbeats 12000000 in
theorem law13_c (r : Riv) (A : RA) (w : World) (hr : Rd w r A) :
    Calls Try.prog 13 #[rivV r A] w (RetB true w) := by
  have HB := Lib.hid (al_b w (rO26 r A))
  have HX := Lib.hid (box_new w r A)
  have HR := Lib.hid hr
  clear hr
  cases hrd : (thinB r && decide (r.faultI = 0))
  · have HRD := Lib.hid hrd
    clear hrd
    go_enter Try.func13, Try.ntmps13
    go_wp2_with fail
    obtain ⟨wq, hwq⟩ : ∃ wq, w.alloc (rO26 r A) = wq := ⟨_, rfl⟩
    rw [hwq] at HB HX ⊢
    clear hwq
    replace HR := Lib.hid (HR.out.below HB.out)
    with_reducible refine (ready_c r A _ HR.out).mono ?_
    rintro e w3 ⟨rfl, hb⟩
    replace HB := Lib.hid (HB.out.trans (hb.mono HB.out.size))
    replace HX := Lib.hid (HX.out.below hb)
    replace HR := Lib.hid (HR.out.below hb)
    clear hb
    rw [HRD.out]
    obtain ⟨k0, k1, k2, k3, k4, k5, k6, k7, k8, k9⟩ := HX.out
    go_wp2_with fail
    clear k0 k1 k2 k3 k4 k5 k6 k7 k8 k9
    with_reducible refine (awake_c _).mono ?_
    rintro e wz ⟨rfl, hbz⟩
    go_wp2_with fail
    go_ret
    exact ⟨rfl, HB.out.trans (hbz.mono HB.out.size)⟩
  · have HRD := Lib.hid hrd
    have hrd2 := Bool.and_eq_true_iff.1 hrd
    have HL := Lib.hid (thin_lens hrd2.1)
    have HZ := Lib.hid (of_decide_eq_true hrd2.2)
    have HOK := Lib.hid (ok_of_fault HZ.out).1
    clear hrd hrd2
    rcases small_facts HZ.out with ⟨e, ya, he, hne, hfe⟩ | ⟨s, y, Y, hne, hs1, hs2, hf1, hf2, hY⟩
    · have HNE := Lib.hid hne
      have HF1 := Lib.hid hfe
      clear hne hfe
      rcases he with rfl | rfl
      · go_enter Try.func13, Try.ntmps13
        go_wp2_with fail
        obtain ⟨wq, hwq⟩ : ∃ wq, w.alloc (rO26 r A) = wq := ⟨_, rfl⟩
        rw [hwq] at HB HX ⊢
        clear hwq
        replace HR := Lib.hid (HR.out.below HB.out)
        with_reducible refine (ready_c r A _ HR.out).mono ?_
        rintro e w3 ⟨rfl, hb⟩
        replace HB := Lib.hid (HB.out.trans (hb.mono HB.out.size))
        replace HX := Lib.hid (HX.out.below hb)
        replace HR := Lib.hid (HR.out.below hb)
        clear hb
        rw [HRD.out]
        obtain ⟨k0, k1, k2, k3, k4, k5, k6, k7, k8, k9⟩ := HX.out
        go_wp2_with fail
        clear k0 k1 k2 k3 k4 k5 k6 k7 k8 k9
        with_reducible refine (River_c r A _ HR.out HL.out.1 HL.out.2.1 HL.out.2.2.1 HL.out.2.2.2).mono ?_
        rintro e w4 ⟨A1, rfl, hr1, -, hb⟩
        replace HB := Lib.hid (HB.out.trans (hb.mono HB.out.size))
        replace HX := Lib.hid (HX.out.below hb)
        replace HR := Lib.hid (HR.out.below hb)
        clear hb
        have HR1 := Lib.hid hr1
        clear hr1
        obtain ⟨k0, k1, k2, k3, k4, k5, k6, k7, k8, k9⟩ := HX.out
        go_wp2_with fail
        clear k0 k1 k2 k3 k4 k5 k6 k7 k8 k9
        with_reducible refine (Need_c r A1 _ HR1.out HL.out.1 HL.out.2.1 HL.out.2.2.1 HL.out.2.2.2).mono ?_
        rintro e w5 ⟨rfl, hb⟩
        replace HB := Lib.hid (HB.out.trans (hb.mono HB.out.size))
        replace HX := Lib.hid (HX.out.below hb)
        replace HR := Lib.hid (HR.out.below hb)
        replace HR1 := Lib.hid (HR1.out.below hb)
        clear hb
        rw [HNE.out]
        obtain ⟨k0, k1, k2, k3, k4, k5, k6, k7, k8, k9⟩ := HX.out
        go_wp2_with fail
        clear k0 k1 k2 k3 k4 k5 k6 k7 k8 k9
        with_reducible refine (River_c r A _ HR.out HL.out.1 HL.out.2.1 HL.out.2.2.1 HL.out.2.2.2).mono ?_
        rintro e w6 ⟨A2, rfl, hr1, -, hb⟩
        replace HB := Lib.hid (HB.out.trans (hb.mono HB.out.size))
        replace HX := Lib.hid (HX.out.below hb)
        replace HR := Lib.hid (HR.out.below hb)
        replace HR1 := Lib.hid (HR1.out.below hb)
        clear hb
        have HR2 := Lib.hid hr1
        clear hr1
        obtain ⟨k0, k1, k2, k3, k4, k5, k6, k7, k8, k9⟩ := HX.out
        go_wp2_with fail
        clear k0 k1 k2 k3 k4 k5 k6 k7 k8 k9
        with_reducible refine (Fewest_c r A2 _ HR2.out HL.out.1 HL.out.2.1 HL.out.2.2.1 HL.out.2.2.2).mono ?_
        rintro e w7 ⟨sb, cb, rfl, hsl, hb⟩
        replace HB := Lib.hid (HB.out.trans (hb.mono HB.out.size))
        replace HX := Lib.hid (HX.out.below hb)
        replace HR := Lib.hid (HR.out.below hb)
        replace HR1 := Lib.hid (HR1.out.below hb)
        replace HR2 := Lib.hid (HR2.out.below hb)
        clear hb
        rw [HF1.out]
        clear hsl
        obtain ⟨k0, k1, k2, k3, k4, k5, k6, k7, k8, k9⟩ := HX.out
        go_wp2_with fail
        clear k0 k1 k2 k3 k4 k5 k6 k7 k8 k9
        with_reducible refine (awake_c _).mono ?_
        rintro e wz ⟨rfl, hbz⟩
        go_wp2_with fail
        go_ret
        exact ⟨rfl, HB.out.trans (hbz.mono HB.out.size)⟩
      · go_enter Try.func13, Try.ntmps13
        go_wp2_with fail
        obtain ⟨wq, hwq⟩ : ∃ wq, w.alloc (rO26 r A) = wq := ⟨_, rfl⟩
        rw [hwq] at HB HX ⊢
        clear hwq
        replace HR := Lib.hid (HR.out.below HB.out)
        with_reducible refine (ready_c r A _ HR.out).mono ?_
        rintro e w3 ⟨rfl, hb⟩
        replace HB := Lib.hid (HB.out.trans (hb.mono HB.out.size))
        replace HX := Lib.hid (HX.out.below hb)
        replace HR := Lib.hid (HR.out.below hb)
        clear hb
        rw [HRD.out]
        obtain ⟨k0, k1, k2, k3, k4, k5, k6, k7, k8, k9⟩ := HX.out
        go_wp2_with fail
        clear k0 k1 k2 k3 k4 k5 k6 k7 k8 k9
        with_reducible refine (River_c r A _ HR.out HL.out.1 HL.out.2.1 HL.out.2.2.1 HL.out.2.2.2).mono ?_
        rintro e w4 ⟨A1, rfl, hr1, -, hb⟩
        replace HB := Lib.hid (HB.out.trans (hb.mono HB.out.size))
        replace HX := Lib.hid (HX.out.below hb)
        replace HR := Lib.hid (HR.out.below hb)
        clear hb
        have HR1 := Lib.hid hr1
        clear hr1
        obtain ⟨k0, k1, k2, k3, k4, k5, k6, k7, k8, k9⟩ := HX.out
        go_wp2_with fail
        clear k0 k1 k2 k3 k4 k5 k6 k7 k8 k9
        with_reducible refine (Need_c r A1 _ HR1.out HL.out.1 HL.out.2.1 HL.out.2.2.1 HL.out.2.2.2).mono ?_
        rintro e w5 ⟨rfl, hb⟩
        replace HB := Lib.hid (HB.out.trans (hb.mono HB.out.size))
        replace HX := Lib.hid (HX.out.below hb)
        replace HR := Lib.hid (HR.out.below hb)
        replace HR1 := Lib.hid (HR1.out.below hb)
        clear hb
        rw [HNE.out]
        obtain ⟨k0, k1, k2, k3, k4, k5, k6, k7, k8, k9⟩ := HX.out
        go_wp2_with fail
        clear k0 k1 k2 k3 k4 k5 k6 k7 k8 k9
        with_reducible refine (River_c r A _ HR.out HL.out.1 HL.out.2.1 HL.out.2.2.1 HL.out.2.2.2).mono ?_
        rintro e w6 ⟨A2, rfl, hr1, -, hb⟩
        replace HB := Lib.hid (HB.out.trans (hb.mono HB.out.size))
        replace HX := Lib.hid (HX.out.below hb)
        replace HR := Lib.hid (HR.out.below hb)
        replace HR1 := Lib.hid (HR1.out.below hb)
        clear hb
        have HR2 := Lib.hid hr1
        clear hr1
        obtain ⟨k0, k1, k2, k3, k4, k5, k6, k7, k8, k9⟩ := HX.out
        go_wp2_with fail
        clear k0 k1 k2 k3 k4 k5 k6 k7 k8 k9
        with_reducible refine (Fewest_c r A2 _ HR2.out HL.out.1 HL.out.2.1 HL.out.2.2.1 HL.out.2.2.2).mono ?_
        rintro e w7 ⟨sb, cb, rfl, hsl, hb⟩
        replace HB := Lib.hid (HB.out.trans (hb.mono HB.out.size))
        replace HX := Lib.hid (HX.out.below hb)
        replace HR := Lib.hid (HR.out.below hb)
        replace HR1 := Lib.hid (HR1.out.below hb)
        replace HR2 := Lib.hid (HR2.out.below hb)
        clear hb
        rw [HF1.out]
        clear hsl
        obtain ⟨k0, k1, k2, k3, k4, k5, k6, k7, k8, k9⟩ := HX.out
        go_wp2_with fail
        clear k0 k1 k2 k3 k4 k5 k6 k7 k8 k9
        with_reducible refine (awake_c _).mono ?_
        rintro e wz ⟨rfl, hbz⟩
        go_wp2_with fail
        go_ret
        exact ⟨rfl, HB.out.trans (hbz.mono HB.out.size)⟩
    · have HNE := Lib.hid hne
      have HF1 := Lib.hid hf1
      have HR0 := Lib.hid (show Rd w r A from HR.out)
      have HIN := Lib.hid (show inB (s : Int) r.start 99 = true from by simp only [inB, decide_eq_true_eq]; omega)
      have hs0 : 0 ≤ r.start := HOK.out.st.1
      clear hne hf1
      by_cases hss : (s : Int) = r.start
      · have HF2 := Lib.hid hf2
        have HSS := Lib.hid (show ((s : Int) == r.start) = true from by simpa using hss)
        clear hf2 hss hY
        go_enter Try.func13, Try.ntmps13
        go_wp2_with fail
        obtain ⟨wq, hwq⟩ : ∃ wq, w.alloc (rO26 r A) = wq := ⟨_, rfl⟩
        rw [hwq] at HB HX ⊢
        clear hwq
        replace HR := Lib.hid (HR.out.below HB.out)
        with_reducible refine (ready_c r A _ HR.out).mono ?_
        rintro e w3 ⟨rfl, hb⟩
        replace HB := Lib.hid (HB.out.trans (hb.mono HB.out.size))
        replace HX := Lib.hid (HX.out.below hb)
        replace HR := Lib.hid (HR.out.below hb)
        clear hb
        rw [HRD.out]
        obtain ⟨k0, k1, k2, k3, k4, k5, k6, k7, k8, k9⟩ := HX.out
        go_wp2_with fail
        clear k0 k1 k2 k3 k4 k5 k6 k7 k8 k9
        with_reducible refine (River_c r A _ HR.out HL.out.1 HL.out.2.1 HL.out.2.2.1 HL.out.2.2.2).mono ?_
        rintro e w4 ⟨A1, rfl, hr1, -, hb⟩
        replace HB := Lib.hid (HB.out.trans (hb.mono HB.out.size))
        replace HX := Lib.hid (HX.out.below hb)
        replace HR := Lib.hid (HR.out.below hb)
        clear hb
        have HR1 := Lib.hid hr1
        clear hr1
        obtain ⟨k0, k1, k2, k3, k4, k5, k6, k7, k8, k9⟩ := HX.out
        go_wp2_with fail
        clear k0 k1 k2 k3 k4 k5 k6 k7 k8 k9
        with_reducible refine (Need_c r A1 _ HR1.out HL.out.1 HL.out.2.1 HL.out.2.2.1 HL.out.2.2.2).mono ?_
        rintro e w5 ⟨rfl, hb⟩
        replace HB := Lib.hid (HB.out.trans (hb.mono HB.out.size))
        replace HX := Lib.hid (HX.out.below hb)
        replace HR := Lib.hid (HR.out.below hb)
        replace HR1 := Lib.hid (HR1.out.below hb)
        clear hb
        rw [HNE.out]
        obtain ⟨k0, k1, k2, k3, k4, k5, k6, k7, k8, k9⟩ := HX.out
        go_wp2_with fail
        clear k0 k1 k2 k3 k4 k5 k6 k7 k8 k9
        (with_reducible refine (In_c _ _ _ _).mono ?_)
        rintro e wi ⟨rfl, rfl⟩
        rw [HIN.out]
        obtain ⟨k0, k1, k2, k3, k4, k5, k6, k7, k8, k9⟩ := HX.out
        go_upto_region 9 with fail
        clear k0 k1 k2 k3 k4 k5 k6 k7 k8 k9
        go_cut [7, 8] (fun pa pb wc => ∃ bx bq, pa = .pointer (some ⟨bx, 0, none⟩) ∧ pb = .pointer (some ⟨bq, 0, none⟩) ∧ wc.heap[bx]? = some (.cells #[.int .i64 r.last, .slice A.sa r.salt.length A.sc, .slice A.ma r.mud.length A.mc, .int .i64 r.sweet, .int .i64 r.clear, .int .i64 r.size, .int .i64 r.start, .int .i64 r.draw, .slice A.ua r.use.length A.uc, .slice A.ga r.gauges.length A.gc] 26 (0, 0)) ∧ wc.heap[bq]? = some (.cells #[.int .i64 r.last, .slice A.sa r.salt.length A.sc, .slice A.ma r.mud.length A.mc, .int .i64 r.sweet, .int .i64 r.clear, .int .i64 r.size, .int .i64 r.start, .int .i64 r.draw, .slice A.ua r.use.length A.uc, .slice A.ga r.gauges.length A.gc] 26 (0, 0)) ∧ Below w5.heap.size w5 wc ∧ w5.heap.size ≤ bx ∧ w5.heap.size ≤ bq ∧ bx ≠ bq)
        case first =>
          refine region_o (S := BoxR w.heap.size r A) (.take 0 (.take 1 (.two 2 3 (.one 3 (.one 4 (.one 5 .nil))) (.one 2 (.one 4 (.one 5 .nil)))))) (by kernel_rfl) (by kernel_rfl) (fun _ _ d _ _ h => by cases d <;> exact h) (HX.out.below (Below.refl _ _).drew) ?_
          intro W0 hW0 hS0
          have hBW : Below w5.heap.size w5 W0 := by subst hW0; exact (Below.refl _ _).drew
          clear hW0
          repeat (first
            | (refine ord_skip rfl ?_ ?_; rfl; simp only [List.getElem_toArray, List.getElem_cons_zero, List.getElem_cons_succ, Act.put, List.setIfInBounds_toArray, List.set_cons_zero, List.set_cons_succ])
            | (refine ord_take (v := ?_) rfl ?_ (fun W hW => ?_) ?_; rotate_left; rfl; (obtain ⟨k0, k1, k2, k3, k4, k5, k6, k7, k8, k9⟩ := hW; go_simp; (first | done | with_reducible rfl)); simp only [List.getElem_toArray, List.getElem_cons_zero, List.getElem_cons_succ, Act.put, List.setIfInBounds_toArray, List.set_cons_zero, List.set_cons_succ]))
          refine ord_two ?_ ?_
          · skip
            refine ord_op rfl ?_ (fun K hK => ?_)
            rfl
            go_simp
            obtain ⟨bx, hbx⟩ : ∃ n, n = (W0).heap.size := ⟨_, rfl⟩
            obtain ⟨W1, hW1⟩ : ∃ Q, Q = (W0).alloc (.cells #[.int .i64 0, .slice none 0 0, .slice none 0 0, .int .i64 0, .int .i64 0, .int .i64 0, .int .i64 0, .int .i64 0, .slice none 0 0, .slice none 0 0] 26) := ⟨_, rfl⟩
            have hbb1 : Below (W0).heap.size (W0) W1 := by rw [hW1]; exact (Below.refl _ _).alloc (Nat.le_refl _) _
            have hxA : W1.heap[bx]? = some (.cells #[.int .i64 0, .slice none 0 0, .slice none 0 0, .int .i64 0, .int .i64 0, .int .i64 0, .int .i64 0, .int .i64 0, .slice none 0 0, .slice none 0 0] 26 (0, 0)) := by rw [hW1, hbx]; exact heap_alloc_new _ _
            have hzx : w5.heap.size ≤ bx := by rw [hbx]; exact hBW.size
            try (have hne : bq ≠ bx := by have := (Array.getElem?_eq_some_iff.1 hqA).1; omega)
            try (replace hqA := (hbb1.block _ (Array.getElem?_eq_some_iff.1 hqA).1).trans hqA)
            replace hBW := hBW.trans (hbb1.mono hBW.size)
            have hS1 := BoxR.below hS0 hbb1
            rw [← hW1, ← hbx]
            clear hW1 hbx hbb1
            refine hK _ _ hS1 ?_
            clear hK K
            try simp only [List.getElem_toArray, List.getElem_cons_zero, List.getElem_cons_succ, Act.put, List.setIfInBounds_toArray, List.set_cons_zero, List.set_cons_succ]
            refine ord_op rfl ?_ (fun K hK => ?_)
            rfl
            go_simp
            obtain ⟨bq, hbq⟩ : ∃ n, n = (W1).heap.size := ⟨_, rfl⟩
            obtain ⟨W2, hW2⟩ : ∃ Q, Q = (W1).alloc (.cells #[.int .i64 0, .slice none 0 0, .slice none 0 0, .int .i64 0, .int .i64 0, .int .i64 0, .int .i64 0, .int .i64 0, .slice none 0 0, .slice none 0 0] 26) := ⟨_, rfl⟩
            have hbb2 : Below (W1).heap.size (W1) W2 := by rw [hW2]; exact (Below.refl _ _).alloc (Nat.le_refl _) _
            have hqA : W2.heap[bq]? = some (.cells #[.int .i64 0, .slice none 0 0, .slice none 0 0, .int .i64 0, .int .i64 0, .int .i64 0, .int .i64 0, .int .i64 0, .slice none 0 0, .slice none 0 0] 26 (0, 0)) := by rw [hW2, hbq]; exact heap_alloc_new _ _
            have hzq : w5.heap.size ≤ bq := by rw [hbq]; exact hBW.size
            try (have hne : bx ≠ bq := by have := (Array.getElem?_eq_some_iff.1 hxA).1; omega)
            try (replace hxA := (hbb2.block _ (Array.getElem?_eq_some_iff.1 hxA).1).trans hxA)
            replace hBW := hBW.trans (hbb2.mono hBW.size)
            have hS2 := BoxR.below hS1 hbb2
            rw [← hW2, ← hbq]
            clear hW2 hbq hbb2
            refine hK _ _ hS2 ?_
            clear hK K
            try simp only [List.getElem_toArray, List.getElem_cons_zero, List.getElem_cons_succ, Act.put, List.setIfInBounds_toArray, List.set_cons_zero, List.set_cons_succ]
            refine ord_op rfl ?_ (fun K hK => ?_)
            rfl
            skip
            have g0 := cell_blk (k := 0) hxA
            have g1 := cell_blk (k := 1) hxA
            have g2 := cell_blk (k := 2) hxA
            have g3 := cell_blk (k := 3) hxA
            have g4 := cell_blk (k := 4) hxA
            have g5 := cell_blk (k := 5) hxA
            have g6 := cell_blk (k := 6) hxA
            have g7 := cell_blk (k := 7) hxA
            have g8 := cell_blk (k := 8) hxA
            have g9 := cell_blk (k := 9) hxA
            have gf := fun j => frozen_blk (k := j) hxA
            go_simp
            have hst := store10 hxA (.int .i64 r.last) (.slice A.sa r.salt.length A.sc) (.slice A.ma r.mud.length A.mc) (.int .i64 r.sweet) (.int .i64 r.clear) (.int .i64 r.size) (.int .i64 r.start) (.int .i64 r.draw) (.slice A.ua r.use.length A.uc) (.slice A.ga r.gauges.length A.gc)
            obtain ⟨W3, hW3⟩ : ∃ Q, Q = ((((((((((W2).setCell ⟨bx, 0, none⟩ (.int .i64 r.last)).setCell ⟨bx, 1, none⟩ (.slice A.sa r.salt.length A.sc)).setCell ⟨bx, 2, none⟩ (.slice A.ma r.mud.length A.mc)).setCell ⟨bx, 3, none⟩ (.int .i64 r.sweet)).setCell ⟨bx, 4, none⟩ (.int .i64 r.clear)).setCell ⟨bx, 5, none⟩ (.int .i64 r.size)).setCell ⟨bx, 6, none⟩ (.int .i64 r.start)).setCell ⟨bx, 7, none⟩ (.int .i64 r.draw)).setCell ⟨bx, 8, none⟩ (.slice A.ua r.use.length A.uc)).setCell ⟨bx, 9, none⟩ (.slice A.ga r.gauges.length A.gc) := ⟨_, rfl⟩
            rw [← hW3] at hst ⊢
            obtain ⟨hxB, hwr3⟩ := hst
            try (replace hqA := hwr3.blk (k := bq) (fun e => by have : bq = bx := e; omega) hqA)
            try (replace hqB := hwr3.blk (k := bq) (fun e => by have : bq = bx := e; omega) hqB)
            replace hBW : Below w5.heap.size w5 W3 := hBW.trans (hwr3.below hBW.size (fun q e => by have : q = bx := e; omega))
            have hS3 := HX.out.below hBW
            clear hW3 g0 g1 g2 g3 g4 g5 g6 g7 g8 g9 gf hwr3 hxA
            refine hK _ _ hS3 ?_
            clear hK K
            try simp only [List.getElem_toArray, List.getElem_cons_zero, List.getElem_cons_succ, Act.put, List.setIfInBounds_toArray, List.set_cons_zero, List.set_cons_succ]
            refine ord_op rfl ?_ (fun K hK => ?_)
            rfl
            skip
            have g0 := cell_blk (k := 0) hqA
            have g1 := cell_blk (k := 1) hqA
            have g2 := cell_blk (k := 2) hqA
            have g3 := cell_blk (k := 3) hqA
            have g4 := cell_blk (k := 4) hqA
            have g5 := cell_blk (k := 5) hqA
            have g6 := cell_blk (k := 6) hqA
            have g7 := cell_blk (k := 7) hqA
            have g8 := cell_blk (k := 8) hqA
            have g9 := cell_blk (k := 9) hqA
            have gf := fun j => frozen_blk (k := j) hqA
            go_simp
            have hst := store10 hqA (.int .i64 r.last) (.slice A.sa r.salt.length A.sc) (.slice A.ma r.mud.length A.mc) (.int .i64 r.sweet) (.int .i64 r.clear) (.int .i64 r.size) (.int .i64 r.start) (.int .i64 r.draw) (.slice A.ua r.use.length A.uc) (.slice A.ga r.gauges.length A.gc)
            obtain ⟨W4, hW4⟩ : ∃ Q, Q = ((((((((((W3).setCell ⟨bq, 0, none⟩ (.int .i64 r.last)).setCell ⟨bq, 1, none⟩ (.slice A.sa r.salt.length A.sc)).setCell ⟨bq, 2, none⟩ (.slice A.ma r.mud.length A.mc)).setCell ⟨bq, 3, none⟩ (.int .i64 r.sweet)).setCell ⟨bq, 4, none⟩ (.int .i64 r.clear)).setCell ⟨bq, 5, none⟩ (.int .i64 r.size)).setCell ⟨bq, 6, none⟩ (.int .i64 r.start)).setCell ⟨bq, 7, none⟩ (.int .i64 r.draw)).setCell ⟨bq, 8, none⟩ (.slice A.ua r.use.length A.uc)).setCell ⟨bq, 9, none⟩ (.slice A.ga r.gauges.length A.gc) := ⟨_, rfl⟩
            rw [← hW4] at hst ⊢
            obtain ⟨hqB, hwr4⟩ := hst
            try (replace hxA := hwr4.blk (k := bx) (fun e => by have : bx = bq := e; omega) hxA)
            try (replace hxB := hwr4.blk (k := bx) (fun e => by have : bx = bq := e; omega) hxB)
            replace hBW : Below w5.heap.size w5 W4 := hBW.trans (hwr4.below hBW.size (fun q e => by have : q = bq := e; omega))
            have hS4 := HX.out.below hBW
            clear hW4 g0 g1 g2 g3 g4 g5 g6 g7 g8 g9 gf hwr4 hqA
            refine hK _ _ hS4 ?_
            clear hK K
            try simp only [List.getElem_toArray, List.getElem_cons_zero, List.getElem_cons_succ, Act.put, List.setIfInBounds_toArray, List.set_cons_zero, List.set_cons_succ]
            refine ord_nil ?_
            go_wp2_with fail
            go_meet
            case rel => exact ⟨bx, bq, rfl, rfl, hxB, hqB, hBW, hzx, hzq, by omega⟩
          · skip
            refine ord_op rfl ?_ (fun K hK => ?_)
            rfl
            go_simp
            obtain ⟨bq, hbq⟩ : ∃ n, n = (W0).heap.size := ⟨_, rfl⟩
            obtain ⟨W5, hW5⟩ : ∃ Q, Q = (W0).alloc (.cells #[.int .i64 0, .slice none 0 0, .slice none 0 0, .int .i64 0, .int .i64 0, .int .i64 0, .int .i64 0, .int .i64 0, .slice none 0 0, .slice none 0 0] 26) := ⟨_, rfl⟩
            have hbb5 : Below (W0).heap.size (W0) W5 := by rw [hW5]; exact (Below.refl _ _).alloc (Nat.le_refl _) _
            have hqA : W5.heap[bq]? = some (.cells #[.int .i64 0, .slice none 0 0, .slice none 0 0, .int .i64 0, .int .i64 0, .int .i64 0, .int .i64 0, .int .i64 0, .slice none 0 0, .slice none 0 0] 26 (0, 0)) := by rw [hW5, hbq]; exact heap_alloc_new _ _
            have hzq : w5.heap.size ≤ bq := by rw [hbq]; exact hBW.size
            try (have hne : bx ≠ bq := by have := (Array.getElem?_eq_some_iff.1 hxA).1; omega)
            try (replace hxA := (hbb5.block _ (Array.getElem?_eq_some_iff.1 hxA).1).trans hxA)
            replace hBW := hBW.trans (hbb5.mono hBW.size)
            have hS5 := BoxR.below hS0 hbb5
            rw [← hW5, ← hbq]
            clear hW5 hbq hbb5
            refine hK _ _ hS5 ?_
            clear hK K
            try simp only [List.getElem_toArray, List.getElem_cons_zero, List.getElem_cons_succ, Act.put, List.setIfInBounds_toArray, List.set_cons_zero, List.set_cons_succ]
            refine ord_op rfl ?_ (fun K hK => ?_)
            rfl
            go_simp
            obtain ⟨bx, hbx⟩ : ∃ n, n = (W5).heap.size := ⟨_, rfl⟩
            obtain ⟨W6, hW6⟩ : ∃ Q, Q = (W5).alloc (.cells #[.int .i64 0, .slice none 0 0, .slice none 0 0, .int .i64 0, .int .i64 0, .int .i64 0, .int .i64 0, .int .i64 0, .slice none 0 0, .slice none 0 0] 26) := ⟨_, rfl⟩
            have hbb6 : Below (W5).heap.size (W5) W6 := by rw [hW6]; exact (Below.refl _ _).alloc (Nat.le_refl _) _
            have hxA : W6.heap[bx]? = some (.cells #[.int .i64 0, .slice none 0 0, .slice none 0 0, .int .i64 0, .int .i64 0, .int .i64 0, .int .i64 0, .int .i64 0, .slice none 0 0, .slice none 0 0] 26 (0, 0)) := by rw [hW6, hbx]; exact heap_alloc_new _ _
            have hzx : w5.heap.size ≤ bx := by rw [hbx]; exact hBW.size
            try (have hne : bq ≠ bx := by have := (Array.getElem?_eq_some_iff.1 hqA).1; omega)
            try (replace hqA := (hbb6.block _ (Array.getElem?_eq_some_iff.1 hqA).1).trans hqA)
            replace hBW := hBW.trans (hbb6.mono hBW.size)
            have hS6 := BoxR.below hS5 hbb6
            rw [← hW6, ← hbx]
            clear hW6 hbx hbb6
            refine hK _ _ hS6 ?_
            clear hK K
            try simp only [List.getElem_toArray, List.getElem_cons_zero, List.getElem_cons_succ, Act.put, List.setIfInBounds_toArray, List.set_cons_zero, List.set_cons_succ]
            refine ord_op rfl ?_ (fun K hK => ?_)
            rfl
            skip
            have g0 := cell_blk (k := 0) hxA
            have g1 := cell_blk (k := 1) hxA
            have g2 := cell_blk (k := 2) hxA
            have g3 := cell_blk (k := 3) hxA
            have g4 := cell_blk (k := 4) hxA
            have g5 := cell_blk (k := 5) hxA
            have g6 := cell_blk (k := 6) hxA
            have g7 := cell_blk (k := 7) hxA
            have g8 := cell_blk (k := 8) hxA
            have g9 := cell_blk (k := 9) hxA
            have gf := fun j => frozen_blk (k := j) hxA
            go_simp
            have hst := store10 hxA (.int .i64 r.last) (.slice A.sa r.salt.length A.sc) (.slice A.ma r.mud.length A.mc) (.int .i64 r.sweet) (.int .i64 r.clear) (.int .i64 r.size) (.int .i64 r.start) (.int .i64 r.draw) (.slice A.ua r.use.length A.uc) (.slice A.ga r.gauges.length A.gc)
            obtain ⟨W7, hW7⟩ : ∃ Q, Q = ((((((((((W6).setCell ⟨bx, 0, none⟩ (.int .i64 r.last)).setCell ⟨bx, 1, none⟩ (.slice A.sa r.salt.length A.sc)).setCell ⟨bx, 2, none⟩ (.slice A.ma r.mud.length A.mc)).setCell ⟨bx, 3, none⟩ (.int .i64 r.sweet)).setCell ⟨bx, 4, none⟩ (.int .i64 r.clear)).setCell ⟨bx, 5, none⟩ (.int .i64 r.size)).setCell ⟨bx, 6, none⟩ (.int .i64 r.start)).setCell ⟨bx, 7, none⟩ (.int .i64 r.draw)).setCell ⟨bx, 8, none⟩ (.slice A.ua r.use.length A.uc)).setCell ⟨bx, 9, none⟩ (.slice A.ga r.gauges.length A.gc) := ⟨_, rfl⟩
            rw [← hW7] at hst ⊢
            obtain ⟨hxB, hwr7⟩ := hst
            try (replace hqA := hwr7.blk (k := bq) (fun e => by have : bq = bx := e; omega) hqA)
            try (replace hqB := hwr7.blk (k := bq) (fun e => by have : bq = bx := e; omega) hqB)
            replace hBW : Below w5.heap.size w5 W7 := hBW.trans (hwr7.below hBW.size (fun q e => by have : q = bx := e; omega))
            have hS7 := HX.out.below hBW
            clear hW7 g0 g1 g2 g3 g4 g5 g6 g7 g8 g9 gf hwr7 hxA
            refine hK _ _ hS7 ?_
            clear hK K
            try simp only [List.getElem_toArray, List.getElem_cons_zero, List.getElem_cons_succ, Act.put, List.setIfInBounds_toArray, List.set_cons_zero, List.set_cons_succ]
            refine ord_op rfl ?_ (fun K hK => ?_)
            rfl
            skip
            have g0 := cell_blk (k := 0) hqA
            have g1 := cell_blk (k := 1) hqA
            have g2 := cell_blk (k := 2) hqA
            have g3 := cell_blk (k := 3) hqA
            have g4 := cell_blk (k := 4) hqA
            have g5 := cell_blk (k := 5) hqA
            have g6 := cell_blk (k := 6) hqA
            have g7 := cell_blk (k := 7) hqA
            have g8 := cell_blk (k := 8) hqA
            have g9 := cell_blk (k := 9) hqA
            have gf := fun j => frozen_blk (k := j) hqA
            go_simp
            have hst := store10 hqA (.int .i64 r.last) (.slice A.sa r.salt.length A.sc) (.slice A.ma r.mud.length A.mc) (.int .i64 r.sweet) (.int .i64 r.clear) (.int .i64 r.size) (.int .i64 r.start) (.int .i64 r.draw) (.slice A.ua r.use.length A.uc) (.slice A.ga r.gauges.length A.gc)
            obtain ⟨W8, hW8⟩ : ∃ Q, Q = ((((((((((W7).setCell ⟨bq, 0, none⟩ (.int .i64 r.last)).setCell ⟨bq, 1, none⟩ (.slice A.sa r.salt.length A.sc)).setCell ⟨bq, 2, none⟩ (.slice A.ma r.mud.length A.mc)).setCell ⟨bq, 3, none⟩ (.int .i64 r.sweet)).setCell ⟨bq, 4, none⟩ (.int .i64 r.clear)).setCell ⟨bq, 5, none⟩ (.int .i64 r.size)).setCell ⟨bq, 6, none⟩ (.int .i64 r.start)).setCell ⟨bq, 7, none⟩ (.int .i64 r.draw)).setCell ⟨bq, 8, none⟩ (.slice A.ua r.use.length A.uc)).setCell ⟨bq, 9, none⟩ (.slice A.ga r.gauges.length A.gc) := ⟨_, rfl⟩
            rw [← hW8] at hst ⊢
            obtain ⟨hqB, hwr8⟩ := hst
            try (replace hxA := hwr8.blk (k := bx) (fun e => by have : bx = bq := e; omega) hxA)
            try (replace hxB := hwr8.blk (k := bx) (fun e => by have : bx = bq := e; omega) hxB)
            replace hBW : Below w5.heap.size w5 W8 := hBW.trans (hwr8.below hBW.size (fun q e => by have : q = bq := e; omega))
            have hS8 := HX.out.below hBW
            clear hW8 g0 g1 g2 g3 g4 g5 g6 g7 g8 g9 gf hwr8 hqA
            refine hK _ _ hS8 ?_
            clear hK K
            try simp only [List.getElem_toArray, List.getElem_cons_zero, List.getElem_cons_succ, Act.put, List.setIfInBounds_toArray, List.set_cons_zero, List.set_cons_succ]
            refine ord_nil ?_
            go_wp2_with fail
            go_meet
            case rel => exact ⟨bx, bq, rfl, rfl, hxB, hqB, hBW, hzx, hzq, by omega⟩
        case rest =>
          obtain ⟨bx, bq, rfl, rfl, hxB, hqB, hb, hzx, hzq, hne⟩ := hcut
          have hqz := HB.out.size
          have hlq : w.heap.size < w5.heap.size := cell_lt HX.out.k0
          replace HB := Lib.hid (HB.out.trans (hb.mono HB.out.size))
          replace HX := Lib.hid (HX.out.below hb)
          replace HR := Lib.hid (HR.out.below hb)
          replace HR1 := Lib.hid (HR1.out.below hb)
          have cx := cell_blk (k := 5) hxB
          have cq := cell_blk (k := 5) hqB
          have fx := fun j => frozen_blk (k := j) hxB
          have fq := fun j => frozen_blk (k := j) hqB
          have hne2 : bq ≠ bx := fun e => hne e.symm
          obtain ⟨wd, hwd⟩ : ∃ Q, Q = (wc.setCell ⟨bx, 5, none⟩ (.int .i64 s)).setCell ⟨bq, 5, none⟩ (.int .i64 ((s : Int) - 1)) := ⟨_, rfl⟩
          have hx1 := heap_set hxB (k := 5) (.int .i64 (s : Int))
          have hx2 : wd.heap[bx]? = some (.cells #[.int .i64 r.last, .slice A.sa r.salt.length A.sc, .slice A.ma r.mud.length A.mc, .int .i64 r.sweet, .int .i64 r.clear, .int .i64 (s : Int), .int .i64 r.start, .int .i64 r.draw, .slice A.ua r.use.length A.uc, .slice A.ga r.gauges.length A.gc] 26 (0, 0)) := by rw [hwd]; exact heap_other hx1 hne
          have hq1 : wd.heap[bq]? = some (.cells #[.int .i64 r.last, .slice A.sa r.salt.length A.sc, .slice A.ma r.mud.length A.mc, .int .i64 r.sweet, .int .i64 r.clear, .int .i64 ((s : Int) - 1), .int .i64 r.start, .int .i64 r.draw, .slice A.ua r.use.length A.uc, .slice A.ga r.gauges.length A.gc] 26 (0, 0)) := by rw [hwd]; exact heap_set (heap_other hqB hne2) (k := 5) _
          have hwr1 : Wr (fun k => k = bx ∨ k = bq) wc wd := by rw [hwd]; exact (Wr.setCell _ _ ⟨bx, 5, none⟩ _ (.inl rfl)).trans (Wr.setCell _ _ ⟨bq, 5, none⟩ _ (.inr rfl))
          have HWD := Lib.hid hwd
          have HBX := Lib.hid (show BoxR bx { r with size := (s : Int) } A wd from box_blk (r := { r with size := (s : Int) }) hx2)
          have HBQ := Lib.hid (show BoxR bq { r with size := (s : Int) - 1 } A wd from box_blk (r := { r with size := (s : Int) - 1 }) hq1)
          have HWR := Lib.hid hwr1
          have hsub : IntKind.i64.wrap ((s : Int) - 1) = (s : Int) - 1 := IntWalk.i64_in _ (by omega)
          clear hwd hx1 hx2 hq1 hwr1 hxB hqB
          go_upto_region 11 with fail
          rw [← HWD.out]
          clear cx cq fx fq hsub
          replace HB := Lib.hid (HB.out.trans (HWR.out.below HB.out.size (fun k e => by rcases e with e | e <;> omega)))
          replace HX := Lib.hid (HX.out.wr HWR.out (by rintro (e | e) <;> omega))
          replace HR := Lib.hid (HR0.out.below HB.out)
          have HRX := Lib.hid (show Rd wd { r with size := (s : Int) } A from ⟨HR.out.s, HR.out.m, HR.out.u, HR.out.g⟩)
          have HRQ := Lib.hid (show Rd wd { r with size := (s : Int) - 1 } A from ⟨HR.out.s, HR.out.m, HR.out.u, HR.out.g⟩)
          clear hb hqz
          obtain ⟨k0, k1, k2, k3, k4, k5, k6, k7, k8, k9⟩ := HX.out
          obtain ⟨j0, j1, j2, j3, j4, j5, j6, j7, j8, j9⟩ := HBX.out
          obtain ⟨i0, i1, i2, i3, i4, i5, i6, i7, i8, i9⟩ := HBQ.out
          go_wp2_with fail
          clear k0 k1 k2 k3 k4 k5 k6 k7 k8 k9 j0 j1 j2 j3 j4 j5 j6 j7 j8 j9 i0 i1 i2 i3 i4 i5 i6 i7 i8 i9
          with_reducible refine (River_c { r with size := (s : Int) } A _ HRX.out HL.out.1 HL.out.2.1 HL.out.2.2.1 HL.out.2.2.2).mono ?_
          rintro e w6 ⟨A2, rfl, hr1, -, hb⟩
          replace HB := Lib.hid (HB.out.trans (hb.mono HB.out.size))
          replace HX := Lib.hid (HX.out.below hb)
          replace HR := Lib.hid (HR.out.below hb)
          replace HBX := Lib.hid (HBX.out.below hb)
          replace HBQ := Lib.hid (HBQ.out.below hb)
          replace HRX := Lib.hid (HRX.out.below hb)
          replace HRQ := Lib.hid (HRQ.out.below hb)
          clear hb
          have HR2 := Lib.hid hr1
          clear hr1
          obtain ⟨k0, k1, k2, k3, k4, k5, k6, k7, k8, k9⟩ := HX.out
          obtain ⟨j0, j1, j2, j3, j4, j5, j6, j7, j8, j9⟩ := HBX.out
          obtain ⟨i0, i1, i2, i3, i4, i5, i6, i7, i8, i9⟩ := HBQ.out
          go_wp2_with fail
          clear k0 k1 k2 k3 k4 k5 k6 k7 k8 k9 j0 j1 j2 j3 j4 j5 j6 j7 j8 j9 i0 i1 i2 i3 i4 i5 i6 i7 i8 i9
          with_reducible refine (Fewest_c { r with size := (s : Int) } A2 _ HR2.out HL.out.1 HL.out.2.1 HL.out.2.2.1 HL.out.2.2.2).mono ?_
          rintro e w7 ⟨sb, cb, rfl, hsl, hb⟩
          replace HB := Lib.hid (HB.out.trans (hb.mono HB.out.size))
          replace HX := Lib.hid (HX.out.below hb)
          replace HR := Lib.hid (HR.out.below hb)
          replace HBX := Lib.hid (HBX.out.below hb)
          replace HBQ := Lib.hid (HBQ.out.below hb)
          replace HRX := Lib.hid (HRX.out.below hb)
          replace HRQ := Lib.hid (HRQ.out.below hb)
          replace HR2 := Lib.hid (HR2.out.below hb)
          clear hb
          rw [HF1.out]
          clear hsl
          obtain ⟨k0, k1, k2, k3, k4, k5, k6, k7, k8, k9⟩ := HX.out
          obtain ⟨j0, j1, j2, j3, j4, j5, j6, j7, j8, j9⟩ := HBX.out
          obtain ⟨i0, i1, i2, i3, i4, i5, i6, i7, i8, i9⟩ := HBQ.out
          go_wp2_with fail
          clear k0 k1 k2 k3 k4 k5 k6 k7 k8 k9 j0 j1 j2 j3 j4 j5 j6 j7 j8 j9 i0 i1 i2 i3 i4 i5 i6 i7 i8 i9
          with_reducible refine (River_c { r with size := (s : Int) - 1 } A _ HRQ.out HL.out.1 HL.out.2.1 HL.out.2.2.1 HL.out.2.2.2).mono ?_
          rintro e w8 ⟨A3, rfl, hr1, -, hb⟩
          replace HB := Lib.hid (HB.out.trans (hb.mono HB.out.size))
          replace HX := Lib.hid (HX.out.below hb)
          replace HR := Lib.hid (HR.out.below hb)
          replace HBX := Lib.hid (HBX.out.below hb)
          replace HBQ := Lib.hid (HBQ.out.below hb)
          replace HRX := Lib.hid (HRX.out.below hb)
          replace HRQ := Lib.hid (HRQ.out.below hb)
          replace HR2 := Lib.hid (HR2.out.below hb)
          clear hb
          have HR3 := Lib.hid hr1
          clear hr1
          obtain ⟨k0, k1, k2, k3, k4, k5, k6, k7, k8, k9⟩ := HX.out
          obtain ⟨j0, j1, j2, j3, j4, j5, j6, j7, j8, j9⟩ := HBX.out
          obtain ⟨i0, i1, i2, i3, i4, i5, i6, i7, i8, i9⟩ := HBQ.out
          go_wp2_with fail
          clear k0 k1 k2 k3 k4 k5 k6 k7 k8 k9 j0 j1 j2 j3 j4 j5 j6 j7 j8 j9 i0 i1 i2 i3 i4 i5 i6 i7 i8 i9
          with_reducible refine (Fewest_c { r with size := (s : Int) - 1 } A3 _ HR3.out HL.out.1 HL.out.2.1 HL.out.2.2.1 HL.out.2.2.2).mono ?_
          rintro e w9 ⟨sd, cd, rfl, hsl, hb⟩
          replace HB := Lib.hid (HB.out.trans (hb.mono HB.out.size))
          replace HX := Lib.hid (HX.out.below hb)
          replace HR := Lib.hid (HR.out.below hb)
          replace HBX := Lib.hid (HBX.out.below hb)
          replace HBQ := Lib.hid (HBQ.out.below hb)
          replace HRX := Lib.hid (HRX.out.below hb)
          replace HRQ := Lib.hid (HRQ.out.below hb)
          replace HR2 := Lib.hid (HR2.out.below hb)
          replace HR3 := Lib.hid (HR3.out.below hb)
          clear hb
          rw [HF2.out]
          clear hsl
          have hss := HSS.out
          obtain ⟨k0, k1, k2, k3, k4, k5, k6, k7, k8, k9⟩ := HX.out
          obtain ⟨j0, j1, j2, j3, j4, j5, j6, j7, j8, j9⟩ := HBX.out
          obtain ⟨i0, i1, i2, i3, i4, i5, i6, i7, i8, i9⟩ := HBQ.out
          go_wp2_with fail
          clear k0 k1 k2 k3 k4 k5 k6 k7 k8 k9 j0 j1 j2 j3 j4 j5 j6 j7 j8 j9 i0 i1 i2 i3 i4 i5 i6 i7 i8 i9
          with_reducible refine (awake_c _).mono ?_
          rintro e wz ⟨rfl, hbz⟩
          go_wp2_with fail
          go_ret
          exact ⟨rfl, HB.out.trans (hbz.mono HB.out.size)⟩
      · have HF2 := Lib.hid (hf2.trans (hY hss))
        have HSS := Lib.hid (show ((s : Int) == r.start) = false from by rw [beq_eq_false_iff_ne]; exact hss)
        clear hf2 hss hY
        go_enter Try.func13, Try.ntmps13
        go_wp2_with fail
        obtain ⟨wq, hwq⟩ : ∃ wq, w.alloc (rO26 r A) = wq := ⟨_, rfl⟩
        rw [hwq] at HB HX ⊢
        clear hwq
        replace HR := Lib.hid (HR.out.below HB.out)
        with_reducible refine (ready_c r A _ HR.out).mono ?_
        rintro e w3 ⟨rfl, hb⟩
        replace HB := Lib.hid (HB.out.trans (hb.mono HB.out.size))
        replace HX := Lib.hid (HX.out.below hb)
        replace HR := Lib.hid (HR.out.below hb)
        clear hb
        rw [HRD.out]
        obtain ⟨k0, k1, k2, k3, k4, k5, k6, k7, k8, k9⟩ := HX.out
        go_wp2_with fail
        clear k0 k1 k2 k3 k4 k5 k6 k7 k8 k9
        with_reducible refine (River_c r A _ HR.out HL.out.1 HL.out.2.1 HL.out.2.2.1 HL.out.2.2.2).mono ?_
        rintro e w4 ⟨A1, rfl, hr1, -, hb⟩
        replace HB := Lib.hid (HB.out.trans (hb.mono HB.out.size))
        replace HX := Lib.hid (HX.out.below hb)
        replace HR := Lib.hid (HR.out.below hb)
        clear hb
        have HR1 := Lib.hid hr1
        clear hr1
        obtain ⟨k0, k1, k2, k3, k4, k5, k6, k7, k8, k9⟩ := HX.out
        go_wp2_with fail
        clear k0 k1 k2 k3 k4 k5 k6 k7 k8 k9
        with_reducible refine (Need_c r A1 _ HR1.out HL.out.1 HL.out.2.1 HL.out.2.2.1 HL.out.2.2.2).mono ?_
        rintro e w5 ⟨rfl, hb⟩
        replace HB := Lib.hid (HB.out.trans (hb.mono HB.out.size))
        replace HX := Lib.hid (HX.out.below hb)
        replace HR := Lib.hid (HR.out.below hb)
        replace HR1 := Lib.hid (HR1.out.below hb)
        clear hb
        rw [HNE.out]
        obtain ⟨k0, k1, k2, k3, k4, k5, k6, k7, k8, k9⟩ := HX.out
        go_wp2_with fail
        clear k0 k1 k2 k3 k4 k5 k6 k7 k8 k9
        (with_reducible refine (In_c _ _ _ _).mono ?_)
        rintro e wi ⟨rfl, rfl⟩
        rw [HIN.out]
        obtain ⟨k0, k1, k2, k3, k4, k5, k6, k7, k8, k9⟩ := HX.out
        go_upto_region 9 with fail
        clear k0 k1 k2 k3 k4 k5 k6 k7 k8 k9
        go_cut [7, 8] (fun pa pb wc => ∃ bx bq, pa = .pointer (some ⟨bx, 0, none⟩) ∧ pb = .pointer (some ⟨bq, 0, none⟩) ∧ wc.heap[bx]? = some (.cells #[.int .i64 r.last, .slice A.sa r.salt.length A.sc, .slice A.ma r.mud.length A.mc, .int .i64 r.sweet, .int .i64 r.clear, .int .i64 r.size, .int .i64 r.start, .int .i64 r.draw, .slice A.ua r.use.length A.uc, .slice A.ga r.gauges.length A.gc] 26 (0, 0)) ∧ wc.heap[bq]? = some (.cells #[.int .i64 r.last, .slice A.sa r.salt.length A.sc, .slice A.ma r.mud.length A.mc, .int .i64 r.sweet, .int .i64 r.clear, .int .i64 r.size, .int .i64 r.start, .int .i64 r.draw, .slice A.ua r.use.length A.uc, .slice A.ga r.gauges.length A.gc] 26 (0, 0)) ∧ Below w5.heap.size w5 wc ∧ w5.heap.size ≤ bx ∧ w5.heap.size ≤ bq ∧ bx ≠ bq)
        case first =>
          refine region_o (S := BoxR w.heap.size r A) (.take 0 (.take 1 (.two 2 3 (.one 3 (.one 4 (.one 5 .nil))) (.one 2 (.one 4 (.one 5 .nil)))))) (by kernel_rfl) (by kernel_rfl) (fun _ _ d _ _ h => by cases d <;> exact h) (HX.out.below (Below.refl _ _).drew) ?_
          intro W0 hW0 hS0
          have hBW : Below w5.heap.size w5 W0 := by subst hW0; exact (Below.refl _ _).drew
          clear hW0
          repeat (first
            | (refine ord_skip rfl ?_ ?_; rfl; simp only [List.getElem_toArray, List.getElem_cons_zero, List.getElem_cons_succ, Act.put, List.setIfInBounds_toArray, List.set_cons_zero, List.set_cons_succ])
            | (refine ord_take (v := ?_) rfl ?_ (fun W hW => ?_) ?_; rotate_left; rfl; (obtain ⟨k0, k1, k2, k3, k4, k5, k6, k7, k8, k9⟩ := hW; go_simp; (first | done | with_reducible rfl)); simp only [List.getElem_toArray, List.getElem_cons_zero, List.getElem_cons_succ, Act.put, List.setIfInBounds_toArray, List.set_cons_zero, List.set_cons_succ]))
          refine ord_two ?_ ?_
          · skip
            refine ord_op rfl ?_ (fun K hK => ?_)
            rfl
            go_simp
            obtain ⟨bx, hbx⟩ : ∃ n, n = (W0).heap.size := ⟨_, rfl⟩
            obtain ⟨W1, hW1⟩ : ∃ Q, Q = (W0).alloc (.cells #[.int .i64 0, .slice none 0 0, .slice none 0 0, .int .i64 0, .int .i64 0, .int .i64 0, .int .i64 0, .int .i64 0, .slice none 0 0, .slice none 0 0] 26) := ⟨_, rfl⟩
            have hbb1 : Below (W0).heap.size (W0) W1 := by rw [hW1]; exact (Below.refl _ _).alloc (Nat.le_refl _) _
            have hxA : W1.heap[bx]? = some (.cells #[.int .i64 0, .slice none 0 0, .slice none 0 0, .int .i64 0, .int .i64 0, .int .i64 0, .int .i64 0, .int .i64 0, .slice none 0 0, .slice none 0 0] 26 (0, 0)) := by rw [hW1, hbx]; exact heap_alloc_new _ _
            have hzx : w5.heap.size ≤ bx := by rw [hbx]; exact hBW.size
            try (have hne : bq ≠ bx := by have := (Array.getElem?_eq_some_iff.1 hqA).1; omega)
            try (replace hqA := (hbb1.block _ (Array.getElem?_eq_some_iff.1 hqA).1).trans hqA)
            replace hBW := hBW.trans (hbb1.mono hBW.size)
            have hS1 := BoxR.below hS0 hbb1
            rw [← hW1, ← hbx]
            clear hW1 hbx hbb1
            refine hK _ _ hS1 ?_
            clear hK K
            try simp only [List.getElem_toArray, List.getElem_cons_zero, List.getElem_cons_succ, Act.put, List.setIfInBounds_toArray, List.set_cons_zero, List.set_cons_succ]
            refine ord_op rfl ?_ (fun K hK => ?_)
            rfl
            go_simp
            obtain ⟨bq, hbq⟩ : ∃ n, n = (W1).heap.size := ⟨_, rfl⟩
            obtain ⟨W2, hW2⟩ : ∃ Q, Q = (W1).alloc (.cells #[.int .i64 0, .slice none 0 0, .slice none 0 0, .int .i64 0, .int .i64 0, .int .i64 0, .int .i64 0, .int .i64 0, .slice none 0 0, .slice none 0 0] 26) := ⟨_, rfl⟩
            have hbb2 : Below (W1).heap.size (W1) W2 := by rw [hW2]; exact (Below.refl _ _).alloc (Nat.le_refl _) _
            have hqA : W2.heap[bq]? = some (.cells #[.int .i64 0, .slice none 0 0, .slice none 0 0, .int .i64 0, .int .i64 0, .int .i64 0, .int .i64 0, .int .i64 0, .slice none 0 0, .slice none 0 0] 26 (0, 0)) := by rw [hW2, hbq]; exact heap_alloc_new _ _
            have hzq : w5.heap.size ≤ bq := by rw [hbq]; exact hBW.size
            try (have hne : bx ≠ bq := by have := (Array.getElem?_eq_some_iff.1 hxA).1; omega)
            try (replace hxA := (hbb2.block _ (Array.getElem?_eq_some_iff.1 hxA).1).trans hxA)
            replace hBW := hBW.trans (hbb2.mono hBW.size)
            have hS2 := BoxR.below hS1 hbb2
            rw [← hW2, ← hbq]
            clear hW2 hbq hbb2
            refine hK _ _ hS2 ?_
            clear hK K
            try simp only [List.getElem_toArray, List.getElem_cons_zero, List.getElem_cons_succ, Act.put, List.setIfInBounds_toArray, List.set_cons_zero, List.set_cons_succ]
            refine ord_op rfl ?_ (fun K hK => ?_)
            rfl
            skip
            have g0 := cell_blk (k := 0) hxA
            have g1 := cell_blk (k := 1) hxA
            have g2 := cell_blk (k := 2) hxA
            have g3 := cell_blk (k := 3) hxA
            have g4 := cell_blk (k := 4) hxA
            have g5 := cell_blk (k := 5) hxA
            have g6 := cell_blk (k := 6) hxA
            have g7 := cell_blk (k := 7) hxA
            have g8 := cell_blk (k := 8) hxA
            have g9 := cell_blk (k := 9) hxA
            have gf := fun j => frozen_blk (k := j) hxA
            go_simp
            have hst := store10 hxA (.int .i64 r.last) (.slice A.sa r.salt.length A.sc) (.slice A.ma r.mud.length A.mc) (.int .i64 r.sweet) (.int .i64 r.clear) (.int .i64 r.size) (.int .i64 r.start) (.int .i64 r.draw) (.slice A.ua r.use.length A.uc) (.slice A.ga r.gauges.length A.gc)
            obtain ⟨W3, hW3⟩ : ∃ Q, Q = ((((((((((W2).setCell ⟨bx, 0, none⟩ (.int .i64 r.last)).setCell ⟨bx, 1, none⟩ (.slice A.sa r.salt.length A.sc)).setCell ⟨bx, 2, none⟩ (.slice A.ma r.mud.length A.mc)).setCell ⟨bx, 3, none⟩ (.int .i64 r.sweet)).setCell ⟨bx, 4, none⟩ (.int .i64 r.clear)).setCell ⟨bx, 5, none⟩ (.int .i64 r.size)).setCell ⟨bx, 6, none⟩ (.int .i64 r.start)).setCell ⟨bx, 7, none⟩ (.int .i64 r.draw)).setCell ⟨bx, 8, none⟩ (.slice A.ua r.use.length A.uc)).setCell ⟨bx, 9, none⟩ (.slice A.ga r.gauges.length A.gc) := ⟨_, rfl⟩
            rw [← hW3] at hst ⊢
            obtain ⟨hxB, hwr3⟩ := hst
            try (replace hqA := hwr3.blk (k := bq) (fun e => by have : bq = bx := e; omega) hqA)
            try (replace hqB := hwr3.blk (k := bq) (fun e => by have : bq = bx := e; omega) hqB)
            replace hBW : Below w5.heap.size w5 W3 := hBW.trans (hwr3.below hBW.size (fun q e => by have : q = bx := e; omega))
            have hS3 := HX.out.below hBW
            clear hW3 g0 g1 g2 g3 g4 g5 g6 g7 g8 g9 gf hwr3 hxA
            refine hK _ _ hS3 ?_
            clear hK K
            try simp only [List.getElem_toArray, List.getElem_cons_zero, List.getElem_cons_succ, Act.put, List.setIfInBounds_toArray, List.set_cons_zero, List.set_cons_succ]
            refine ord_op rfl ?_ (fun K hK => ?_)
            rfl
            skip
            have g0 := cell_blk (k := 0) hqA
            have g1 := cell_blk (k := 1) hqA
            have g2 := cell_blk (k := 2) hqA
            have g3 := cell_blk (k := 3) hqA
            have g4 := cell_blk (k := 4) hqA
            have g5 := cell_blk (k := 5) hqA
            have g6 := cell_blk (k := 6) hqA
            have g7 := cell_blk (k := 7) hqA
            have g8 := cell_blk (k := 8) hqA
            have g9 := cell_blk (k := 9) hqA
            have gf := fun j => frozen_blk (k := j) hqA
            go_simp
            have hst := store10 hqA (.int .i64 r.last) (.slice A.sa r.salt.length A.sc) (.slice A.ma r.mud.length A.mc) (.int .i64 r.sweet) (.int .i64 r.clear) (.int .i64 r.size) (.int .i64 r.start) (.int .i64 r.draw) (.slice A.ua r.use.length A.uc) (.slice A.ga r.gauges.length A.gc)
            obtain ⟨W4, hW4⟩ : ∃ Q, Q = ((((((((((W3).setCell ⟨bq, 0, none⟩ (.int .i64 r.last)).setCell ⟨bq, 1, none⟩ (.slice A.sa r.salt.length A.sc)).setCell ⟨bq, 2, none⟩ (.slice A.ma r.mud.length A.mc)).setCell ⟨bq, 3, none⟩ (.int .i64 r.sweet)).setCell ⟨bq, 4, none⟩ (.int .i64 r.clear)).setCell ⟨bq, 5, none⟩ (.int .i64 r.size)).setCell ⟨bq, 6, none⟩ (.int .i64 r.start)).setCell ⟨bq, 7, none⟩ (.int .i64 r.draw)).setCell ⟨bq, 8, none⟩ (.slice A.ua r.use.length A.uc)).setCell ⟨bq, 9, none⟩ (.slice A.ga r.gauges.length A.gc) := ⟨_, rfl⟩
            rw [← hW4] at hst ⊢
            obtain ⟨hqB, hwr4⟩ := hst
            try (replace hxA := hwr4.blk (k := bx) (fun e => by have : bx = bq := e; omega) hxA)
            try (replace hxB := hwr4.blk (k := bx) (fun e => by have : bx = bq := e; omega) hxB)
            replace hBW : Below w5.heap.size w5 W4 := hBW.trans (hwr4.below hBW.size (fun q e => by have : q = bq := e; omega))
            have hS4 := HX.out.below hBW
            clear hW4 g0 g1 g2 g3 g4 g5 g6 g7 g8 g9 gf hwr4 hqA
            refine hK _ _ hS4 ?_
            clear hK K
            try simp only [List.getElem_toArray, List.getElem_cons_zero, List.getElem_cons_succ, Act.put, List.setIfInBounds_toArray, List.set_cons_zero, List.set_cons_succ]
            refine ord_nil ?_
            go_wp2_with fail
            go_meet
            case rel => exact ⟨bx, bq, rfl, rfl, hxB, hqB, hBW, hzx, hzq, by omega⟩
          · skip
            refine ord_op rfl ?_ (fun K hK => ?_)
            rfl
            go_simp
            obtain ⟨bq, hbq⟩ : ∃ n, n = (W0).heap.size := ⟨_, rfl⟩
            obtain ⟨W5, hW5⟩ : ∃ Q, Q = (W0).alloc (.cells #[.int .i64 0, .slice none 0 0, .slice none 0 0, .int .i64 0, .int .i64 0, .int .i64 0, .int .i64 0, .int .i64 0, .slice none 0 0, .slice none 0 0] 26) := ⟨_, rfl⟩
            have hbb5 : Below (W0).heap.size (W0) W5 := by rw [hW5]; exact (Below.refl _ _).alloc (Nat.le_refl _) _
            have hqA : W5.heap[bq]? = some (.cells #[.int .i64 0, .slice none 0 0, .slice none 0 0, .int .i64 0, .int .i64 0, .int .i64 0, .int .i64 0, .int .i64 0, .slice none 0 0, .slice none 0 0] 26 (0, 0)) := by rw [hW5, hbq]; exact heap_alloc_new _ _
            have hzq : w5.heap.size ≤ bq := by rw [hbq]; exact hBW.size
            try (have hne : bx ≠ bq := by have := (Array.getElem?_eq_some_iff.1 hxA).1; omega)
            try (replace hxA := (hbb5.block _ (Array.getElem?_eq_some_iff.1 hxA).1).trans hxA)
            replace hBW := hBW.trans (hbb5.mono hBW.size)
            have hS5 := BoxR.below hS0 hbb5
            rw [← hW5, ← hbq]
            clear hW5 hbq hbb5
            refine hK _ _ hS5 ?_
            clear hK K
            try simp only [List.getElem_toArray, List.getElem_cons_zero, List.getElem_cons_succ, Act.put, List.setIfInBounds_toArray, List.set_cons_zero, List.set_cons_succ]
            refine ord_op rfl ?_ (fun K hK => ?_)
            rfl
            go_simp
            obtain ⟨bx, hbx⟩ : ∃ n, n = (W5).heap.size := ⟨_, rfl⟩
            obtain ⟨W6, hW6⟩ : ∃ Q, Q = (W5).alloc (.cells #[.int .i64 0, .slice none 0 0, .slice none 0 0, .int .i64 0, .int .i64 0, .int .i64 0, .int .i64 0, .int .i64 0, .slice none 0 0, .slice none 0 0] 26) := ⟨_, rfl⟩
            have hbb6 : Below (W5).heap.size (W5) W6 := by rw [hW6]; exact (Below.refl _ _).alloc (Nat.le_refl _) _
            have hxA : W6.heap[bx]? = some (.cells #[.int .i64 0, .slice none 0 0, .slice none 0 0, .int .i64 0, .int .i64 0, .int .i64 0, .int .i64 0, .int .i64 0, .slice none 0 0, .slice none 0 0] 26 (0, 0)) := by rw [hW6, hbx]; exact heap_alloc_new _ _
            have hzx : w5.heap.size ≤ bx := by rw [hbx]; exact hBW.size
            try (have hne : bq ≠ bx := by have := (Array.getElem?_eq_some_iff.1 hqA).1; omega)
            try (replace hqA := (hbb6.block _ (Array.getElem?_eq_some_iff.1 hqA).1).trans hqA)
            replace hBW := hBW.trans (hbb6.mono hBW.size)
            have hS6 := BoxR.below hS5 hbb6
            rw [← hW6, ← hbx]
            clear hW6 hbx hbb6
            refine hK _ _ hS6 ?_
            clear hK K
            try simp only [List.getElem_toArray, List.getElem_cons_zero, List.getElem_cons_succ, Act.put, List.setIfInBounds_toArray, List.set_cons_zero, List.set_cons_succ]
            refine ord_op rfl ?_ (fun K hK => ?_)
            rfl
            skip
            have g0 := cell_blk (k := 0) hxA
            have g1 := cell_blk (k := 1) hxA
            have g2 := cell_blk (k := 2) hxA
            have g3 := cell_blk (k := 3) hxA
            have g4 := cell_blk (k := 4) hxA
            have g5 := cell_blk (k := 5) hxA
            have g6 := cell_blk (k := 6) hxA
            have g7 := cell_blk (k := 7) hxA
            have g8 := cell_blk (k := 8) hxA
            have g9 := cell_blk (k := 9) hxA
            have gf := fun j => frozen_blk (k := j) hxA
            go_simp
            have hst := store10 hxA (.int .i64 r.last) (.slice A.sa r.salt.length A.sc) (.slice A.ma r.mud.length A.mc) (.int .i64 r.sweet) (.int .i64 r.clear) (.int .i64 r.size) (.int .i64 r.start) (.int .i64 r.draw) (.slice A.ua r.use.length A.uc) (.slice A.ga r.gauges.length A.gc)
            obtain ⟨W7, hW7⟩ : ∃ Q, Q = ((((((((((W6).setCell ⟨bx, 0, none⟩ (.int .i64 r.last)).setCell ⟨bx, 1, none⟩ (.slice A.sa r.salt.length A.sc)).setCell ⟨bx, 2, none⟩ (.slice A.ma r.mud.length A.mc)).setCell ⟨bx, 3, none⟩ (.int .i64 r.sweet)).setCell ⟨bx, 4, none⟩ (.int .i64 r.clear)).setCell ⟨bx, 5, none⟩ (.int .i64 r.size)).setCell ⟨bx, 6, none⟩ (.int .i64 r.start)).setCell ⟨bx, 7, none⟩ (.int .i64 r.draw)).setCell ⟨bx, 8, none⟩ (.slice A.ua r.use.length A.uc)).setCell ⟨bx, 9, none⟩ (.slice A.ga r.gauges.length A.gc) := ⟨_, rfl⟩
            rw [← hW7] at hst ⊢
            obtain ⟨hxB, hwr7⟩ := hst
            try (replace hqA := hwr7.blk (k := bq) (fun e => by have : bq = bx := e; omega) hqA)
            try (replace hqB := hwr7.blk (k := bq) (fun e => by have : bq = bx := e; omega) hqB)
            replace hBW : Below w5.heap.size w5 W7 := hBW.trans (hwr7.below hBW.size (fun q e => by have : q = bx := e; omega))
            have hS7 := HX.out.below hBW
            clear hW7 g0 g1 g2 g3 g4 g5 g6 g7 g8 g9 gf hwr7 hxA
            refine hK _ _ hS7 ?_
            clear hK K
            try simp only [List.getElem_toArray, List.getElem_cons_zero, List.getElem_cons_succ, Act.put, List.setIfInBounds_toArray, List.set_cons_zero, List.set_cons_succ]
            refine ord_op rfl ?_ (fun K hK => ?_)
            rfl
            skip
            have g0 := cell_blk (k := 0) hqA
            have g1 := cell_blk (k := 1) hqA
            have g2 := cell_blk (k := 2) hqA
            have g3 := cell_blk (k := 3) hqA
            have g4 := cell_blk (k := 4) hqA
            have g5 := cell_blk (k := 5) hqA
            have g6 := cell_blk (k := 6) hqA
            have g7 := cell_blk (k := 7) hqA
            have g8 := cell_blk (k := 8) hqA
            have g9 := cell_blk (k := 9) hqA
            have gf := fun j => frozen_blk (k := j) hqA
            go_simp
            have hst := store10 hqA (.int .i64 r.last) (.slice A.sa r.salt.length A.sc) (.slice A.ma r.mud.length A.mc) (.int .i64 r.sweet) (.int .i64 r.clear) (.int .i64 r.size) (.int .i64 r.start) (.int .i64 r.draw) (.slice A.ua r.use.length A.uc) (.slice A.ga r.gauges.length A.gc)
            obtain ⟨W8, hW8⟩ : ∃ Q, Q = ((((((((((W7).setCell ⟨bq, 0, none⟩ (.int .i64 r.last)).setCell ⟨bq, 1, none⟩ (.slice A.sa r.salt.length A.sc)).setCell ⟨bq, 2, none⟩ (.slice A.ma r.mud.length A.mc)).setCell ⟨bq, 3, none⟩ (.int .i64 r.sweet)).setCell ⟨bq, 4, none⟩ (.int .i64 r.clear)).setCell ⟨bq, 5, none⟩ (.int .i64 r.size)).setCell ⟨bq, 6, none⟩ (.int .i64 r.start)).setCell ⟨bq, 7, none⟩ (.int .i64 r.draw)).setCell ⟨bq, 8, none⟩ (.slice A.ua r.use.length A.uc)).setCell ⟨bq, 9, none⟩ (.slice A.ga r.gauges.length A.gc) := ⟨_, rfl⟩
            rw [← hW8] at hst ⊢
            obtain ⟨hqB, hwr8⟩ := hst
            try (replace hxA := hwr8.blk (k := bx) (fun e => by have : bx = bq := e; omega) hxA)
            try (replace hxB := hwr8.blk (k := bx) (fun e => by have : bx = bq := e; omega) hxB)
            replace hBW : Below w5.heap.size w5 W8 := hBW.trans (hwr8.below hBW.size (fun q e => by have : q = bq := e; omega))
            have hS8 := HX.out.below hBW
            clear hW8 g0 g1 g2 g3 g4 g5 g6 g7 g8 g9 gf hwr8 hqA
            refine hK _ _ hS8 ?_
            clear hK K
            try simp only [List.getElem_toArray, List.getElem_cons_zero, List.getElem_cons_succ, Act.put, List.setIfInBounds_toArray, List.set_cons_zero, List.set_cons_succ]
            refine ord_nil ?_
            go_wp2_with fail
            go_meet
            case rel => exact ⟨bx, bq, rfl, rfl, hxB, hqB, hBW, hzx, hzq, by omega⟩
        case rest =>
          obtain ⟨bx, bq, rfl, rfl, hxB, hqB, hb, hzx, hzq, hne⟩ := hcut
          have hqz := HB.out.size
          have hlq : w.heap.size < w5.heap.size := cell_lt HX.out.k0
          replace HB := Lib.hid (HB.out.trans (hb.mono HB.out.size))
          replace HX := Lib.hid (HX.out.below hb)
          replace HR := Lib.hid (HR.out.below hb)
          replace HR1 := Lib.hid (HR1.out.below hb)
          have cx := cell_blk (k := 5) hxB
          have cq := cell_blk (k := 5) hqB
          have fx := fun j => frozen_blk (k := j) hxB
          have fq := fun j => frozen_blk (k := j) hqB
          have hne2 : bq ≠ bx := fun e => hne e.symm
          obtain ⟨wd, hwd⟩ : ∃ Q, Q = (wc.setCell ⟨bx, 5, none⟩ (.int .i64 s)).setCell ⟨bq, 5, none⟩ (.int .i64 ((s : Int) - 1)) := ⟨_, rfl⟩
          have hx1 := heap_set hxB (k := 5) (.int .i64 (s : Int))
          have hx2 : wd.heap[bx]? = some (.cells #[.int .i64 r.last, .slice A.sa r.salt.length A.sc, .slice A.ma r.mud.length A.mc, .int .i64 r.sweet, .int .i64 r.clear, .int .i64 (s : Int), .int .i64 r.start, .int .i64 r.draw, .slice A.ua r.use.length A.uc, .slice A.ga r.gauges.length A.gc] 26 (0, 0)) := by rw [hwd]; exact heap_other hx1 hne
          have hq1 : wd.heap[bq]? = some (.cells #[.int .i64 r.last, .slice A.sa r.salt.length A.sc, .slice A.ma r.mud.length A.mc, .int .i64 r.sweet, .int .i64 r.clear, .int .i64 ((s : Int) - 1), .int .i64 r.start, .int .i64 r.draw, .slice A.ua r.use.length A.uc, .slice A.ga r.gauges.length A.gc] 26 (0, 0)) := by rw [hwd]; exact heap_set (heap_other hqB hne2) (k := 5) _
          have hwr1 : Wr (fun k => k = bx ∨ k = bq) wc wd := by rw [hwd]; exact (Wr.setCell _ _ ⟨bx, 5, none⟩ _ (.inl rfl)).trans (Wr.setCell _ _ ⟨bq, 5, none⟩ _ (.inr rfl))
          have HWD := Lib.hid hwd
          have HBX := Lib.hid (show BoxR bx { r with size := (s : Int) } A wd from box_blk (r := { r with size := (s : Int) }) hx2)
          have HBQ := Lib.hid (show BoxR bq { r with size := (s : Int) - 1 } A wd from box_blk (r := { r with size := (s : Int) - 1 }) hq1)
          have HWR := Lib.hid hwr1
          have hsub : IntKind.i64.wrap ((s : Int) - 1) = (s : Int) - 1 := IntWalk.i64_in _ (by omega)
          clear hwd hx1 hx2 hq1 hwr1 hxB hqB
          go_upto_region 11 with fail
          rw [← HWD.out]
          clear cx cq fx fq hsub
          replace HB := Lib.hid (HB.out.trans (HWR.out.below HB.out.size (fun k e => by rcases e with e | e <;> omega)))
          replace HX := Lib.hid (HX.out.wr HWR.out (by rintro (e | e) <;> omega))
          replace HR := Lib.hid (HR0.out.below HB.out)
          have HRX := Lib.hid (show Rd wd { r with size := (s : Int) } A from ⟨HR.out.s, HR.out.m, HR.out.u, HR.out.g⟩)
          have HRQ := Lib.hid (show Rd wd { r with size := (s : Int) - 1 } A from ⟨HR.out.s, HR.out.m, HR.out.u, HR.out.g⟩)
          clear hb hqz
          obtain ⟨k0, k1, k2, k3, k4, k5, k6, k7, k8, k9⟩ := HX.out
          obtain ⟨j0, j1, j2, j3, j4, j5, j6, j7, j8, j9⟩ := HBX.out
          obtain ⟨i0, i1, i2, i3, i4, i5, i6, i7, i8, i9⟩ := HBQ.out
          go_wp2_with fail
          clear k0 k1 k2 k3 k4 k5 k6 k7 k8 k9 j0 j1 j2 j3 j4 j5 j6 j7 j8 j9 i0 i1 i2 i3 i4 i5 i6 i7 i8 i9
          with_reducible refine (River_c { r with size := (s : Int) } A _ HRX.out HL.out.1 HL.out.2.1 HL.out.2.2.1 HL.out.2.2.2).mono ?_
          rintro e w6 ⟨A2, rfl, hr1, -, hb⟩
          replace HB := Lib.hid (HB.out.trans (hb.mono HB.out.size))
          replace HX := Lib.hid (HX.out.below hb)
          replace HR := Lib.hid (HR.out.below hb)
          replace HBX := Lib.hid (HBX.out.below hb)
          replace HBQ := Lib.hid (HBQ.out.below hb)
          replace HRX := Lib.hid (HRX.out.below hb)
          replace HRQ := Lib.hid (HRQ.out.below hb)
          clear hb
          have HR2 := Lib.hid hr1
          clear hr1
          obtain ⟨k0, k1, k2, k3, k4, k5, k6, k7, k8, k9⟩ := HX.out
          obtain ⟨j0, j1, j2, j3, j4, j5, j6, j7, j8, j9⟩ := HBX.out
          obtain ⟨i0, i1, i2, i3, i4, i5, i6, i7, i8, i9⟩ := HBQ.out
          go_wp2_with fail
          clear k0 k1 k2 k3 k4 k5 k6 k7 k8 k9 j0 j1 j2 j3 j4 j5 j6 j7 j8 j9 i0 i1 i2 i3 i4 i5 i6 i7 i8 i9
          with_reducible refine (Fewest_c { r with size := (s : Int) } A2 _ HR2.out HL.out.1 HL.out.2.1 HL.out.2.2.1 HL.out.2.2.2).mono ?_
          rintro e w7 ⟨sb, cb, rfl, hsl, hb⟩
          replace HB := Lib.hid (HB.out.trans (hb.mono HB.out.size))
          replace HX := Lib.hid (HX.out.below hb)
          replace HR := Lib.hid (HR.out.below hb)
          replace HBX := Lib.hid (HBX.out.below hb)
          replace HBQ := Lib.hid (HBQ.out.below hb)
          replace HRX := Lib.hid (HRX.out.below hb)
          replace HRQ := Lib.hid (HRQ.out.below hb)
          replace HR2 := Lib.hid (HR2.out.below hb)
          clear hb
          rw [HF1.out]
          clear hsl
          obtain ⟨k0, k1, k2, k3, k4, k5, k6, k7, k8, k9⟩ := HX.out
          obtain ⟨j0, j1, j2, j3, j4, j5, j6, j7, j8, j9⟩ := HBX.out
          obtain ⟨i0, i1, i2, i3, i4, i5, i6, i7, i8, i9⟩ := HBQ.out
          go_wp2_with fail
          clear k0 k1 k2 k3 k4 k5 k6 k7 k8 k9 j0 j1 j2 j3 j4 j5 j6 j7 j8 j9 i0 i1 i2 i3 i4 i5 i6 i7 i8 i9
          with_reducible refine (River_c { r with size := (s : Int) - 1 } A _ HRQ.out HL.out.1 HL.out.2.1 HL.out.2.2.1 HL.out.2.2.2).mono ?_
          rintro e w8 ⟨A3, rfl, hr1, -, hb⟩
          replace HB := Lib.hid (HB.out.trans (hb.mono HB.out.size))
          replace HX := Lib.hid (HX.out.below hb)
          replace HR := Lib.hid (HR.out.below hb)
          replace HBX := Lib.hid (HBX.out.below hb)
          replace HBQ := Lib.hid (HBQ.out.below hb)
          replace HRX := Lib.hid (HRX.out.below hb)
          replace HRQ := Lib.hid (HRQ.out.below hb)
          replace HR2 := Lib.hid (HR2.out.below hb)
          clear hb
          have HR3 := Lib.hid hr1
          clear hr1
          obtain ⟨k0, k1, k2, k3, k4, k5, k6, k7, k8, k9⟩ := HX.out
          obtain ⟨j0, j1, j2, j3, j4, j5, j6, j7, j8, j9⟩ := HBX.out
          obtain ⟨i0, i1, i2, i3, i4, i5, i6, i7, i8, i9⟩ := HBQ.out
          go_wp2_with fail
          clear k0 k1 k2 k3 k4 k5 k6 k7 k8 k9 j0 j1 j2 j3 j4 j5 j6 j7 j8 j9 i0 i1 i2 i3 i4 i5 i6 i7 i8 i9
          with_reducible refine (Fewest_c { r with size := (s : Int) - 1 } A3 _ HR3.out HL.out.1 HL.out.2.1 HL.out.2.2.1 HL.out.2.2.2).mono ?_
          rintro e w9 ⟨sd, cd, rfl, hsl, hb⟩
          replace HB := Lib.hid (HB.out.trans (hb.mono HB.out.size))
          replace HX := Lib.hid (HX.out.below hb)
          replace HR := Lib.hid (HR.out.below hb)
          replace HBX := Lib.hid (HBX.out.below hb)
          replace HBQ := Lib.hid (HBQ.out.below hb)
          replace HRX := Lib.hid (HRX.out.below hb)
          replace HRQ := Lib.hid (HRQ.out.below hb)
          replace HR2 := Lib.hid (HR2.out.below hb)
          replace HR3 := Lib.hid (HR3.out.below hb)
          clear hb
          rw [HF2.out]
          clear hsl
          have hss := HSS.out
          obtain ⟨k0, k1, k2, k3, k4, k5, k6, k7, k8, k9⟩ := HX.out
          obtain ⟨j0, j1, j2, j3, j4, j5, j6, j7, j8, j9⟩ := HBX.out
          obtain ⟨i0, i1, i2, i3, i4, i5, i6, i7, i8, i9⟩ := HBQ.out
          go_wp2_with fail
          clear k0 k1 k2 k3 k4 k5 k6 k7 k8 k9 j0 j1 j2 j3 j4 j5 j6 j7 j8 j9 i0 i1 i2 i3 i4 i5 i6 i7 i8 i9
          with_reducible refine (awake_c _).mono ?_
          rintro e wz ⟨rfl, hbz⟩
          go_wp2_with fail
          go_ret
          exact ⟨rfl, HB.out.trans (hbz.mono HB.out.size)⟩
end Go.Proofs.Ytgglfngkomgadaa
