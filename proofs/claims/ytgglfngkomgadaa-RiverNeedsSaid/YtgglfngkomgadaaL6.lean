/- Walks of the laws: RiverNeeds. -/
import Derived.Test.YtgglfngkomgadaaL0
namespace Go.Proofs.Ytgglfngkomgadaa
open Go.RowKit Go.Shelf
set_option linter.unusedVariables false
set_option linter.unusedSimpArgs false
set_option maxRecDepth 100000

theorem lens_small {r : Riv} (ok : Ok r) : ∃ L : Nat, r.last = L ∧ L ≤ 5 := ⟨r.last.toNat, by have := ok.l0; omega, by have := ok.l5; omega⟩
def needO (r : Riv) (m : Nat) : Option Nat := (List.range' r.start.toNat (100 - r.start.toNat)).find? fun (s : Nat) => decide (r.last < lacksR r (truthsR r) (bitsL m) s (-1))
theorem need_ans2 {r : Riv} (h : r.faultI = 0) (ha : askR r true = 0) {L : Nat} (hL : r.last = L) : needA r = needR (needO r (2 * 2 ^ L - 1)) := by
  rw [need_ans h ha, hL, Int.toNat_natCast, Nat.pow_succ, Nat.mul_comm]
  unfold needO
  rw [hL]
theorem needO_some {r : Riv} (ok : Ok r) {m s : Nat} (h : needO r m = some s) : r.start ≤ s ∧ s ≤ 99 ∧ r.last < lacksR r (truthsR r) (bitsL m) s (-1) ∧ ∀ k : Nat, r.start ≤ k → k < s → lacksR r (truthsR r) (bitsL m) k (-1) ≤ r.last := by
  have := ok.st
  have := ok.sz
  unfold needO at h
  rw [List.find?_range'_eq_some] at h
  obtain ⟨h1, h2, h3⟩ := h
  rw [List.mem_range'_1] at h2
  refine ⟨by omega, by omega, by simpa using h1, fun k hk hks => ?_⟩
  have := h3 k (by omega) hks
  simpa using this
theorem needO_none {r : Riv} (ok : Ok r) {m : Nat} (h : needO r m = none) : ∀ k : Nat, r.start ≤ k → k ≤ 99 → lacksR r (truthsR r) (bitsL m) k (-1) ≤ r.last := by
  have := ok.st
  have := ok.sz
  intro k h1 h2
  unfold needO at h
  rw [List.find?_eq_none] at h
  have := h k (by rw [List.mem_range'_1]; omega)
  simpa using this

set_option maxHeartbeats 4000000 in
theorem law6_c (r : Riv) (A : RA) (w : World) (hr : Rd w r A) :
    Calls Try.prog 6 #[rivV r A] w (RetB true w) := by
  have HB := Lib.hid (al_b w (rO26 r A))
  have HX := Lib.hid (box_new w r A)
  have HR := Lib.hid hr
  clear hr
  cases hth : thinB r
  · have HT := Lib.hid hth
    clear hth
    go_enter Try.func6, Try.ntmps6
    go_wp2_with fail
    obtain ⟨wq, hwq⟩ : ∃ wq, w.alloc (rO26 r A) = wq := ⟨_, rfl⟩
    rw [hwq] at HB HX ⊢
    clear hwq
    replace HR := Lib.hid (HR.out.below HB.out)
    with_reducible refine (thin_c r A _).mono ?_
    rintro e w3 ⟨rfl, hb⟩
    replace HB := Lib.hid (HB.out.trans (hb.mono HB.out.size))
    replace HX := Lib.hid (HX.out.below hb)
    replace HR := Lib.hid (HR.out.below hb)
    clear hb
    rw [HT.out]
    obtain ⟨k0, k1, k2, k3, k4, k5, k6, k7, k8, k9⟩ := HX.out
    go_wp2_with fail
    clear k0 k1 k2 k3 k4 k5 k6 k7 k8 k9
    with_reducible refine (awake_c _).mono ?_
    rintro e wz ⟨rfl, hbz⟩
    go_wp2_with fail
    go_ret
    exact ⟨rfl, HB.out.trans (hbz.mono HB.out.size)⟩
  · have HT := Lib.hid hth
    have HL := Lib.hid (thin_lens hth)
    obtain ⟨N, hN⟩ : ∃ N, N = askR r true := ⟨_, rfl⟩
    have HN := Lib.hid hN
    clear hth
    by_cases hn : N = 0
    · have HA := Lib.hid (show askR r true = 0 from by rw [← hN, hn])
      have HOK := Lib.hid (ask_in HA.out).2
      have HF := Lib.hid (asked_fits HA.out)
      obtain ⟨L, hL, hL5⟩ := lens_small HOK.out
      have HLL := Lib.hid hL
      have HL5 := Lib.hid hL5
      obtain ⟨K0, hK0⟩ : ∃ K0 : Nat, r.start = K0 := ⟨r.start.toNat, by have := HOK.out.st; omega⟩
      have HK0 := Lib.hid hK0
      have hna := need_ans2 (askOk HA.out).1 HA.out hL
      have hsh := shl2m L hL5
      obtain ⟨M, hM⟩ : ∃ M, 2 * 2 ^ L - 1 = M := ⟨_, rfl⟩
      rw [hM] at hna hsh
      have HSH := Lib.hid hsh.1
      have HM6 := Lib.hid hsh.2
      clear hn hN hL hL5 hM hK0 hsh
      cases hO : needO r M with
      | none =>
        have HNE := Lib.hid (show needA r = (0, 10) from by rw [hna, hO]; rfl)
        have HQ := Lib.hid (needO_none HOK.out hO)
        clear hna hO
        go_enter Try.func6, Try.ntmps6
        go_wp2_with fail
        obtain ⟨wq, hwq⟩ : ∃ wq, w.alloc (rO26 r A) = wq := ⟨_, rfl⟩
        rw [hwq] at HB HX ⊢
        clear hwq
        replace HR := Lib.hid (HR.out.below HB.out)
        with_reducible refine (thin_c r A _).mono ?_
        rintro e w3 ⟨rfl, hb⟩
        replace HB := Lib.hid (HB.out.trans (hb.mono HB.out.size))
        replace HX := Lib.hid (HX.out.below hb)
        replace HR := Lib.hid (HR.out.below hb)
        clear hb
        rw [HT.out]
        obtain ⟨k0, k1, k2, k3, k4, k5, k6, k7, k8, k9⟩ := HX.out
        go_wp2_with fail
        clear k0 k1 k2 k3 k4 k5 k6 k7 k8 k9
        with_reducible refine (River_c r A _ HR.out HL.out.1 HL.out.2.1 HL.out.2.2.1 HL.out.2.2.2).mono ?_
        rintro e w4 ⟨A1, rfl, hr1, -, hb⟩
        replace HB := Lib.hid (HB.out.trans (hb.mono HB.out.size))
        replace HX := Lib.hid (HX.out.below hb)
        replace HR := Lib.hid (HR.out.below hb)
        clear hb
        have HR1 := Lib.hid hr1
        clear hr1
        obtain ⟨k0, k1, k2, k3, k4, k5, k6, k7, k8, k9⟩ := HX.out
        go_wp2_with fail
        clear k0 k1 k2 k3 k4 k5 k6 k7 k8 k9
        with_reducible refine (Need_c r A1 _ HR1.out HL.out.1 HL.out.2.1 HL.out.2.2.1 HL.out.2.2.2).mono ?_
        rintro e w5 ⟨rfl, hb⟩
        replace HB := Lib.hid (HB.out.trans (hb.mono HB.out.size))
        replace HX := Lib.hid (HX.out.below hb)
        replace HR := Lib.hid (HR.out.below hb)
        replace HR1 := Lib.hid (HR1.out.below hb)
        clear hb
        rw [HNE.out]
        obtain ⟨k0, k1, k2, k3, k4, k5, k6, k7, k8, k9⟩ := HX.out
        go_wp2_with fail
        clear k0 k1 k2 k3 k4 k5 k6 k7 k8 k9
        with_reducible refine (asked_ok_c r A _ _ HR.out HL.out HA.out).mono ?_
        rintro e w6 ⟨la, lc, rfl, htl, hb⟩
        replace HB := Lib.hid (HB.out.trans (hb.mono HB.out.size))
        replace HX := Lib.hid (HX.out.below hb)
        replace HR := Lib.hid (HR.out.below hb)
        replace HR1 := Lib.hid (HR1.out.below hb)
        clear hb
        have HTL := Lib.hid htl
        clear htl
        have hL := HLL.out
        have hL5 := HL5.out
        obtain ⟨k0, k1, k2, k3, k4, k5, k6, k7, k8, k9⟩ := HX.out
        go_wp2_with fail
        clear k0 k1 k2 k3 k4 k5 k6 k7 k8 k9
        rw [HSH.out]
        clear hL
        with_reducible refine (Bits_c M _ HM6.out).mono ?_
        rintro e w7 ⟨va, rfl, hown, hb⟩
        replace HB := Lib.hid (HB.out.trans (hb.mono HB.out.size))
        replace HX := Lib.hid (HX.out.below hb)
        replace HR := Lib.hid (HR.out.below hb)
        replace HR1 := Lib.hid (HR1.out.below hb)
        replace HTL := Lib.hid (HTL.out.below hb)
        clear hb
        obtain ⟨aa, ac, rfl, -, hsa⟩ := own_Sl hown
        clear hown
        have HSA := Lib.hid hsa
        clear hsa
        obtain ⟨k0, k1, k2, k3, k4, k5, k6, k7, k8, k9⟩ := HX.out
        go_wp2_with fail
        clear k0 k1 k2 k3 k4 k5 k6 k7 k8 k9
        go_loopw [8] (fun i wr => ∃ k : Nat, K0 ≤ k ∧ k ≤ 100 ∧ i = .int .i64 k ∧ Below w7.heap.size w7 wr) (fun i _ => 100 - (intOf i).toNat)
        case atStart => exact ⟨K0, Nat.le_refl _, by have h2 := HK0.out; have h3 := HOK.out.st; have h4 := HOK.out.sz; omega, by rw [HK0.out], Below.refl _ _⟩
        case round =>
          obtain ⟨k, hk0, hk, rfl, hB⟩ := hrel
          replace HB := Lib.hid (HB.out.trans (hB.mono HB.out.size))
          replace HX := Lib.hid (HX.out.below hB)
          replace HR := Lib.hid (HR.out.below hB)
          replace HR1 := Lib.hid (HR1.out.below hB)
          replace HTL := Lib.hid (HTL.out.below hB)
          replace HSA := Lib.hid (HSA.out.below hB)
          have HC := Lib.hid hB
          clear hB
          have hk9 : k ≤ 100 := by first | exact hk | (have := HQ.out.2.1; omega)
          by_cases hks : k < 100
          · have HQK := Lib.hid (HQ.out k (by have := HK0.out; omega) (by omega))
            have hk99 : k ≤ 99 := by omega
            obtain ⟨k0, k1, k2, k3, k4, k5, k6, k7, k8, k9⟩ := HX.out
            go_wp2_with fail
            clear k0 k1 k2 k3 k4 k5 k6 k7 k8 k9
            refine region_o (S := BoxR w.heap.size r A) (.take 0 (.take 1 (.take 2 (.take 3 (.take 5 (.take 6 (.one 4 (.take 7 .nil)))))))) (by kernel_rfl) (by kernel_rfl) (fun _ _ d _ _ h => by cases d <;> exact h) (HX.out.below (Below.refl _ _).drew) ?_
            intro W0 hW0 hS0
            have hBW : Below wr.heap.size wr W0 := by subst hW0; exact (Below.refl _ _).drew
            clear hW0
            repeat (first
              | (refine ord_skip rfl ?_ ?_; rfl; simp only [List.getElem_toArray, List.getElem_cons_zero, List.getElem_cons_succ, Act.put, List.setIfInBounds_toArray, List.set_cons_zero, List.set_cons_succ])
              | (refine ord_take (v := ?_) rfl ?_ (fun W hW => ?_) ?_; rotate_left; rfl; (obtain ⟨k0, k1, k2, k3, k4, k5, k6, k7, k8, k9⟩ := hW; go_simp; (first | done | with_reducible rfl)); simp only [List.getElem_toArray, List.getElem_cons_zero, List.getElem_cons_succ, Act.put, List.setIfInBounds_toArray, List.set_cons_zero, List.set_cons_succ]))
            (refine ord_op rfl ?_ (fun K hK => ?_); rfl; go_simp; (with_reducible refine (Lacks_c r A la (truthsR r) lc aa (bitsL M) ac k (-1) HOK.out (by omega) (by omega) (by have := bitsL_len M; omega) HF.out.1 HF.out.2.1 _ (HR.out.below hBW) (HTL.out.below hBW) (HSA.out.below hBW)).mono ?_); rintro e W1 ⟨rfl, hb⟩; have hS1 := BoxR.below hS0 hb; replace hBW := hBW.trans (hb.mono hBW.size); obtain ⟨Z, hZ⟩ : ∃ Z, Z = lacksR r (truthsR r) (bitsL M) k (-1) := ⟨_, rfl⟩; have hz : Z ≤ r.last := (by rw [hZ]; exact HQK.out); rw [← hZ]; clear hZ; clear hb; refine hK _ _ hS1 ?_; clear hK K; try simp only [List.getElem_toArray, List.getElem_cons_zero, List.getElem_cons_succ, Act.put, List.setIfInBounds_toArray, List.set_cons_zero, List.set_cons_succ])
            repeat (first
              | (refine ord_skip rfl ?_ ?_; rfl; simp only [List.getElem_toArray, List.getElem_cons_zero, List.getElem_cons_succ, Act.put, List.setIfInBounds_toArray, List.set_cons_zero, List.set_cons_succ])
              | (refine ord_take (v := ?_) rfl ?_ (fun W hW => ?_) ?_; rotate_left; rfl; (obtain ⟨k0, k1, k2, k3, k4, k5, k6, k7, k8, k9⟩ := hW; go_simp; (first | done | with_reducible rfl)); simp only [List.getElem_toArray, List.getElem_cons_zero, List.getElem_cons_succ, Act.put, List.setIfInBounds_toArray, List.set_cons_zero, List.set_cons_succ]))
            refine ord_nil ?_
            replace HB := Lib.hid (HB.out.trans (hBW.mono HB.out.size))
            replace HC := Lib.hid (HC.out.trans (hBW.mono HC.out.size))
            replace HX := Lib.hid (HX.out.below hBW)
            replace HR := Lib.hid (HR.out.below hBW)
            replace HR1 := Lib.hid (HR1.out.below hBW)
            replace HTL := Lib.hid (HTL.out.below hBW)
            replace HSA := Lib.hid (HSA.out.below hBW)
            clear hBW
            obtain ⟨k0, k1, k2, k3, k4, k5, k6, k7, k8, k9⟩ := HX.out
            try have hz2 : ¬ r.last < Z := by omega
            go_wp2_with fail
            clear k0 k1 k2 k3 k4 k5 k6 k7 k8 k9
            go_roundw
            case rel => exact ⟨k + 1, by omega, by omega, by go_num, HC.out⟩
            case measure => simp [intOf]; omega
          · obtain rfl : k = 100 := by omega
            obtain ⟨k0, k1, k2, k3, k4, k5, k6, k7, k8, k9⟩ := HX.out
            go_wp2_with fail
            clear k0 k1 k2 k3 k4 k5 k6 k7 k8 k9
            with_reducible refine (awake_c _).mono ?_
            rintro e wz ⟨rfl, hbz⟩
            go_wp2_with fail
            go_ret
            exact ⟨rfl, HB.out.trans (hbz.mono HB.out.size)⟩
      | some s =>
        have HNE := Lib.hid (show needA r = ((s : Int), 0) from by rw [hna, hO]; rfl)
        have HQ := Lib.hid (needO_some HOK.out hO)
        clear hna hO
        go_enter Try.func6, Try.ntmps6
        go_wp2_with fail
        obtain ⟨wq, hwq⟩ : ∃ wq, w.alloc (rO26 r A) = wq := ⟨_, rfl⟩
        rw [hwq] at HB HX ⊢
        clear hwq
        replace HR := Lib.hid (HR.out.below HB.out)
        with_reducible refine (thin_c r A _).mono ?_
        rintro e w3 ⟨rfl, hb⟩
        replace HB := Lib.hid (HB.out.trans (hb.mono HB.out.size))
        replace HX := Lib.hid (HX.out.below hb)
        replace HR := Lib.hid (HR.out.below hb)
        clear hb
        rw [HT.out]
        obtain ⟨k0, k1, k2, k3, k4, k5, k6, k7, k8, k9⟩ := HX.out
        go_wp2_with fail
        clear k0 k1 k2 k3 k4 k5 k6 k7 k8 k9
        with_reducible refine (River_c r A _ HR.out HL.out.1 HL.out.2.1 HL.out.2.2.1 HL.out.2.2.2).mono ?_
        rintro e w4 ⟨A1, rfl, hr1, -, hb⟩
        replace HB := Lib.hid (HB.out.trans (hb.mono HB.out.size))
        replace HX := Lib.hid (HX.out.below hb)
        replace HR := Lib.hid (HR.out.below hb)
        clear hb
        have HR1 := Lib.hid hr1
        clear hr1
        obtain ⟨k0, k1, k2, k3, k4, k5, k6, k7, k8, k9⟩ := HX.out
        go_wp2_with fail
        clear k0 k1 k2 k3 k4 k5 k6 k7 k8 k9
        with_reducible refine (Need_c r A1 _ HR1.out HL.out.1 HL.out.2.1 HL.out.2.2.1 HL.out.2.2.2).mono ?_
        rintro e w5 ⟨rfl, hb⟩
        replace HB := Lib.hid (HB.out.trans (hb.mono HB.out.size))
        replace HX := Lib.hid (HX.out.below hb)
        replace HR := Lib.hid (HR.out.below hb)
        replace HR1 := Lib.hid (HR1.out.below hb)
        clear hb
        rw [HNE.out]
        obtain ⟨k0, k1, k2, k3, k4, k5, k6, k7, k8, k9⟩ := HX.out
        go_wp2_with fail
        clear k0 k1 k2 k3 k4 k5 k6 k7 k8 k9
        with_reducible refine (asked_ok_c r A _ _ HR.out HL.out HA.out).mono ?_
        rintro e w6 ⟨la, lc, rfl, htl, hb⟩
        replace HB := Lib.hid (HB.out.trans (hb.mono HB.out.size))
        replace HX := Lib.hid (HX.out.below hb)
        replace HR := Lib.hid (HR.out.below hb)
        replace HR1 := Lib.hid (HR1.out.below hb)
        clear hb
        have HTL := Lib.hid htl
        clear htl
        have hL := HLL.out
        have hL5 := HL5.out
        obtain ⟨k0, k1, k2, k3, k4, k5, k6, k7, k8, k9⟩ := HX.out
        go_wp2_with fail
        clear k0 k1 k2 k3 k4 k5 k6 k7 k8 k9
        rw [HSH.out]
        clear hL
        with_reducible refine (Bits_c M _ HM6.out).mono ?_
        rintro e w7 ⟨va, rfl, hown, hb⟩
        replace HB := Lib.hid (HB.out.trans (hb.mono HB.out.size))
        replace HX := Lib.hid (HX.out.below hb)
        replace HR := Lib.hid (HR.out.below hb)
        replace HR1 := Lib.hid (HR1.out.below hb)
        replace HTL := Lib.hid (HTL.out.below hb)
        clear hb
        obtain ⟨aa, ac, rfl, -, hsa⟩ := own_Sl hown
        clear hown
        have HSA := Lib.hid hsa
        clear hsa
        obtain ⟨k0, k1, k2, k3, k4, k5, k6, k7, k8, k9⟩ := HX.out
        go_wp2_with fail
        clear k0 k1 k2 k3 k4 k5 k6 k7 k8 k9
        go_loopw [8] (fun i wr => ∃ k : Nat, K0 ≤ k ∧ k ≤ s ∧ i = .int .i64 k ∧ Below w7.heap.size w7 wr) (fun i _ => 100 - (intOf i).toNat)
        case atStart => exact ⟨K0, Nat.le_refl _, by have h1 := HQ.out.1; have h2 := HK0.out; have h3 := HOK.out.st; have h4 := HOK.out.sz; omega, by rw [HK0.out], Below.refl _ _⟩
        case round =>
          obtain ⟨k, hk0, hk, rfl, hB⟩ := hrel
          replace HB := Lib.hid (HB.out.trans (hB.mono HB.out.size))
          replace HX := Lib.hid (HX.out.below hB)
          replace HR := Lib.hid (HR.out.below hB)
          replace HR1 := Lib.hid (HR1.out.below hB)
          replace HTL := Lib.hid (HTL.out.below hB)
          replace HSA := Lib.hid (HSA.out.below hB)
          have HC := Lib.hid hB
          clear hB
          have hk9 : k ≤ 100 := by first | exact hk | (have := HQ.out.2.1; omega)
          by_cases hks : k < s
          · have HQK := Lib.hid (HQ.out.2.2.2 k (by have := HK0.out; omega) hks)
            have hk99 : k < 99 := by have := HQ.out.2.1; omega
            obtain ⟨k0, k1, k2, k3, k4, k5, k6, k7, k8, k9⟩ := HX.out
            go_wp2_with fail
            clear k0 k1 k2 k3 k4 k5 k6 k7 k8 k9
            refine region_o (S := BoxR w.heap.size r A) (.take 0 (.take 1 (.take 2 (.take 3 (.take 5 (.take 6 (.one 4 (.take 7 .nil)))))))) (by kernel_rfl) (by kernel_rfl) (fun _ _ d _ _ h => by cases d <;> exact h) (HX.out.below (Below.refl _ _).drew) ?_
            intro W0 hW0 hS0
            have hBW : Below wr.heap.size wr W0 := by subst hW0; exact (Below.refl _ _).drew
            clear hW0
            repeat (first
              | (refine ord_skip rfl ?_ ?_; rfl; simp only [List.getElem_toArray, List.getElem_cons_zero, List.getElem_cons_succ, Act.put, List.setIfInBounds_toArray, List.set_cons_zero, List.set_cons_succ])
              | (refine ord_take (v := ?_) rfl ?_ (fun W hW => ?_) ?_; rotate_left; rfl; (obtain ⟨k0, k1, k2, k3, k4, k5, k6, k7, k8, k9⟩ := hW; go_simp; (first | done | with_reducible rfl)); simp only [List.getElem_toArray, List.getElem_cons_zero, List.getElem_cons_succ, Act.put, List.setIfInBounds_toArray, List.set_cons_zero, List.set_cons_succ]))
            (refine ord_op rfl ?_ (fun K hK => ?_); rfl; go_simp; (with_reducible refine (Lacks_c r A la (truthsR r) lc aa (bitsL M) ac k (-1) HOK.out (by omega) (by omega) (by have := bitsL_len M; omega) HF.out.1 HF.out.2.1 _ (HR.out.below hBW) (HTL.out.below hBW) (HSA.out.below hBW)).mono ?_); rintro e W1 ⟨rfl, hb⟩; have hS1 := BoxR.below hS0 hb; replace hBW := hBW.trans (hb.mono hBW.size); obtain ⟨Z, hZ⟩ : ∃ Z, Z = lacksR r (truthsR r) (bitsL M) k (-1) := ⟨_, rfl⟩; have hz : Z ≤ r.last := (by rw [hZ]; exact HQK.out); rw [← hZ]; clear hZ; clear hb; refine hK _ _ hS1 ?_; clear hK K; try simp only [List.getElem_toArray, List.getElem_cons_zero, List.getElem_cons_succ, Act.put, List.setIfInBounds_toArray, List.set_cons_zero, List.set_cons_succ])
            repeat (first
              | (refine ord_skip rfl ?_ ?_; rfl; simp only [List.getElem_toArray, List.getElem_cons_zero, List.getElem_cons_succ, Act.put, List.setIfInBounds_toArray, List.set_cons_zero, List.set_cons_succ])
              | (refine ord_take (v := ?_) rfl ?_ (fun W hW => ?_) ?_; rotate_left; rfl; (obtain ⟨k0, k1, k2, k3, k4, k5, k6, k7, k8, k9⟩ := hW; go_simp; (first | done | with_reducible rfl)); simp only [List.getElem_toArray, List.getElem_cons_zero, List.getElem_cons_succ, Act.put, List.setIfInBounds_toArray, List.set_cons_zero, List.set_cons_succ]))
            refine ord_nil ?_
            replace HB := Lib.hid (HB.out.trans (hBW.mono HB.out.size))
            replace HC := Lib.hid (HC.out.trans (hBW.mono HC.out.size))
            replace HX := Lib.hid (HX.out.below hBW)
            replace HR := Lib.hid (HR.out.below hBW)
            replace HR1 := Lib.hid (HR1.out.below hBW)
            replace HTL := Lib.hid (HTL.out.below hBW)
            replace HSA := Lib.hid (HSA.out.below hBW)
            clear hBW
            obtain ⟨k0, k1, k2, k3, k4, k5, k6, k7, k8, k9⟩ := HX.out
            try have hz2 : ¬ r.last < Z := by omega
            go_wp2_with fail
            clear k0 k1 k2 k3 k4 k5 k6 k7 k8 k9
            go_roundw
            case rel => exact ⟨k + 1, by omega, by omega, by go_num, HC.out⟩
            case measure => simp [intOf]; omega
          · obtain rfl : k = s := by omega
            have HQK := Lib.hid HQ.out.2.2.1
            have hk99 : k ≤ 99 := HQ.out.2.1
            obtain ⟨k0, k1, k2, k3, k4, k5, k6, k7, k8, k9⟩ := HX.out
            go_wp2_with fail
            clear k0 k1 k2 k3 k4 k5 k6 k7 k8 k9
            refine region_o (S := BoxR w.heap.size r A) (.take 0 (.take 1 (.take 2 (.take 3 (.take 5 (.take 6 (.one 4 (.take 7 .nil)))))))) (by kernel_rfl) (by kernel_rfl) (fun _ _ d _ _ h => by cases d <;> exact h) (HX.out.below (Below.refl _ _).drew) ?_
            intro W0 hW0 hS0
            have hBW : Below wr.heap.size wr W0 := by subst hW0; exact (Below.refl _ _).drew
            clear hW0
            repeat (first
              | (refine ord_skip rfl ?_ ?_; rfl; simp only [List.getElem_toArray, List.getElem_cons_zero, List.getElem_cons_succ, Act.put, List.setIfInBounds_toArray, List.set_cons_zero, List.set_cons_succ])
              | (refine ord_take (v := ?_) rfl ?_ (fun W hW => ?_) ?_; rotate_left; rfl; (obtain ⟨k0, k1, k2, k3, k4, k5, k6, k7, k8, k9⟩ := hW; go_simp; (first | done | with_reducible rfl)); simp only [List.getElem_toArray, List.getElem_cons_zero, List.getElem_cons_succ, Act.put, List.setIfInBounds_toArray, List.set_cons_zero, List.set_cons_succ]))
            (refine ord_op rfl ?_ (fun K hK => ?_); rfl; go_simp; (with_reducible refine (Lacks_c r A la (truthsR r) lc aa (bitsL M) ac k (-1) HOK.out (by omega) (by omega) (by have := bitsL_len M; omega) HF.out.1 HF.out.2.1 _ (HR.out.below hBW) (HTL.out.below hBW) (HSA.out.below hBW)).mono ?_); rintro e W1 ⟨rfl, hb⟩; have hS1 := BoxR.below hS0 hb; replace hBW := hBW.trans (hb.mono hBW.size); obtain ⟨Z, hZ⟩ : ∃ Z, Z = lacksR r (truthsR r) (bitsL M) k (-1) := ⟨_, rfl⟩; have hz : r.last < Z := (by rw [hZ]; exact HQK.out); rw [← hZ]; clear hZ; clear hb; refine hK _ _ hS1 ?_; clear hK K; try simp only [List.getElem_toArray, List.getElem_cons_zero, List.getElem_cons_succ, Act.put, List.setIfInBounds_toArray, List.set_cons_zero, List.set_cons_succ])
            repeat (first
              | (refine ord_skip rfl ?_ ?_; rfl; simp only [List.getElem_toArray, List.getElem_cons_zero, List.getElem_cons_succ, Act.put, List.setIfInBounds_toArray, List.set_cons_zero, List.set_cons_succ])
              | (refine ord_take (v := ?_) rfl ?_ (fun W hW => ?_) ?_; rotate_left; rfl; (obtain ⟨k0, k1, k2, k3, k4, k5, k6, k7, k8, k9⟩ := hW; go_simp; (first | done | with_reducible rfl)); simp only [List.getElem_toArray, List.getElem_cons_zero, List.getElem_cons_succ, Act.put, List.setIfInBounds_toArray, List.set_cons_zero, List.set_cons_succ]))
            refine ord_nil ?_
            replace HB := Lib.hid (HB.out.trans (hBW.mono HB.out.size))
            replace HC := Lib.hid (HC.out.trans (hBW.mono HC.out.size))
            replace HX := Lib.hid (HX.out.below hBW)
            replace HR := Lib.hid (HR.out.below hBW)
            replace HR1 := Lib.hid (HR1.out.below hBW)
            replace HTL := Lib.hid (HTL.out.below hBW)
            replace HSA := Lib.hid (HSA.out.below hBW)
            clear hBW
            obtain ⟨k0, k1, k2, k3, k4, k5, k6, k7, k8, k9⟩ := HX.out
            go_wp2_with fail
            clear k0 k1 k2 k3 k4 k5 k6 k7 k8 k9
            with_reducible refine (awake_c _).mono ?_
            rintro e wz ⟨rfl, hbz⟩
            go_wp2_with fail
            go_ret
            exact ⟨rfl, HB.out.trans (hbz.mono HB.out.size)⟩
    · have hN1 : (N == 0) = false := by simpa using hn
      have HN1 := Lib.hid hn
      have HNE := Lib.hid (show needA r = (0, N) from by unfold needA; rw [ask_eq, ← hN, if_neg hn])
      clear hN hn
      go_enter Try.func6, Try.ntmps6
      go_wp2_with fail
      obtain ⟨wq, hwq⟩ : ∃ wq, w.alloc (rO26 r A) = wq := ⟨_, rfl⟩
      rw [hwq] at HB HX ⊢
      clear hwq
      replace HR := Lib.hid (HR.out.below HB.out)
      with_reducible refine (thin_c r A _).mono ?_
      rintro e w3 ⟨rfl, hb⟩
      replace HB := Lib.hid (HB.out.trans (hb.mono HB.out.size))
      replace HX := Lib.hid (HX.out.below hb)
      replace HR := Lib.hid (HR.out.below hb)
      clear hb
      rw [HT.out]
      obtain ⟨k0, k1, k2, k3, k4, k5, k6, k7, k8, k9⟩ := HX.out
      go_wp2_with fail
      clear k0 k1 k2 k3 k4 k5 k6 k7 k8 k9
      with_reducible refine (River_c r A _ HR.out HL.out.1 HL.out.2.1 HL.out.2.2.1 HL.out.2.2.2).mono ?_
      rintro e w4 ⟨A1, rfl, hr1, -, hb⟩
      replace HB := Lib.hid (HB.out.trans (hb.mono HB.out.size))
      replace HX := Lib.hid (HX.out.below hb)
      replace HR := Lib.hid (HR.out.below hb)
      clear hb
      have HR1 := Lib.hid hr1
      clear hr1
      obtain ⟨k0, k1, k2, k3, k4, k5, k6, k7, k8, k9⟩ := HX.out
      go_wp2_with fail
      clear k0 k1 k2 k3 k4 k5 k6 k7 k8 k9
      with_reducible refine (Need_c r A1 _ HR1.out HL.out.1 HL.out.2.1 HL.out.2.2.1 HL.out.2.2.2).mono ?_
      rintro e w5 ⟨rfl, hb⟩
      replace HB := Lib.hid (HB.out.trans (hb.mono HB.out.size))
      replace HX := Lib.hid (HX.out.below hb)
      replace HR := Lib.hid (HR.out.below hb)
      replace HR1 := Lib.hid (HR1.out.below hb)
      clear hb
      rw [HNE.out]
      obtain ⟨k0, k1, k2, k3, k4, k5, k6, k7, k8, k9⟩ := HX.out
      go_wp2_with fail
      clear k0 k1 k2 k3 k4 k5 k6 k7 k8 k9
      with_reducible refine (asked_no_c r A _ _ HR.out HL.out N HN.out HN1.out).mono ?_
      rintro e w6 ⟨la, lc, rfl, hb⟩
      replace HB := Lib.hid (HB.out.trans (hb.mono HB.out.size))
      replace HX := Lib.hid (HX.out.below hb)
      replace HR := Lib.hid (HR.out.below hb)
      replace HR1 := Lib.hid (HR1.out.below hb)
      clear hb
      obtain ⟨k0, k1, k2, k3, k4, k5, k6, k7, k8, k9⟩ := HX.out
      go_wp2_with fail
      clear k0 k1 k2 k3 k4 k5 k6 k7 k8 k9
      with_reducible refine (awake_c _).mono ?_
      rintro e wz ⟨rfl, hbz⟩
      go_wp2_with fail
      go_ret
      exact ⟨rfl, HB.out.trans (hbz.mono HB.out.size)⟩
end Go.Proofs.Ytgglfngkomgadaa
