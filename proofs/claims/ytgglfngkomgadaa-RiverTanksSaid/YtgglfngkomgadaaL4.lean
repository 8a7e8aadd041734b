/- Walks of the laws: RiverTanks. -/
import Derived.Test.YtgglfngkomgadaaL0
namespace Go.Proofs.Ytgglfngkomgadaa
open Go.RowKit Go.Shelf
set_option linter.unusedVariables false
set_option linter.unusedSimpArgs false
set_option maxRecDepth 100000

set_option maxHeartbeats 4000000 in
theorem law4_c (r : Riv) (A : RA) (ax : Option Addr) (xs : List Int) (cx : Nat) (w : World) (hr : Rd w r A) (hs : Sl w ax (ints xs)) (hxl : xs.length ≤ maxLen) :
    Calls Try.prog 4 #[rivV r A, .slice ax xs.length cx] w (RetB true w) := by
  have HB := Lib.hid (al_b w (rO26 r A))
  have HX := Lib.hid (box_new w r A)
  have HR := Lib.hid hr
  clear hr
  have HS := Lib.hid hs
  clear hs hxl
  cases hth : thinB r
  · have HT := Lib.hid hth
    clear hth
    go_enter Try.func4, Try.ntmps4
    go_wp2_with fail
    obtain ⟨wq, hwq⟩ : ∃ wq, w.alloc (rO26 r A) = wq := ⟨_, rfl⟩
    rw [hwq] at HB HX ⊢
    clear hwq
    replace HR := Lib.hid (HR.out.below HB.out)
    replace HS := Lib.hid (HS.out.below HB.out)
    with_reducible refine (thin_c r A _).mono ?_
    rintro e w3 ⟨rfl, hb⟩
    replace HB := Lib.hid (HB.out.trans (hb.mono HB.out.size))
    replace HX := Lib.hid (HX.out.below hb)
    replace HR := Lib.hid (HR.out.below hb)
    replace HS := Lib.hid (HS.out.below hb)
    clear hb
    rw [HT.out]
    obtain ⟨k0, k1, k2, k3, k4, k5, k6, k7, k8, k9⟩ := HX.out
    go_wp2_with fail
    clear k0 k1 k2 k3 k4 k5 k6 k7 k8 k9
    with_reducible refine (awake_c _).mono ?_
    rintro e wz ⟨rfl, hbz⟩
    go_wp2_with fail
    go_ret
    exact ⟨rfl, HB.out.trans (hbz.mono HB.out.size)⟩
  · have HT := Lib.hid hth
    have HL := Lib.hid (thin_lens hth)
    clear hth
    by_cases hx : xs.length ≤ 30
    · have HXX := Lib.hid (show ¬ (30 : Int) < xs.length from by omega)
      have HXL := Lib.hid hx
      clear hx
      obtain ⟨F, hF⟩ : ∃ F, r.faultI = F := ⟨_, rfl⟩
      have HFF := Lib.hid hF
      by_cases hf : F = 0
      · subst hf
        have HOK := Lib.hid (ok_of_fault hF).1
        clear hF
        obtain ⟨N, hN⟩ : ∃ N, N = askR r (isPlanB r.last xs) := ⟨_, rfl⟩
        have HN := Lib.hid hN
        by_cases hn : N = 0
        · have HA := Lib.hid (show askR r (isPlanB r.last xs) = 0 from by rw [← hN, hn])
          have HF := Lib.hid (asked_fits HA.out)
          clear hn hN
          go_enter Try.func4, Try.ntmps4
          go_wp2_with fail
          obtain ⟨wq, hwq⟩ : ∃ wq, w.alloc (rO26 r A) = wq := ⟨_, rfl⟩
          rw [hwq] at HB HX ⊢
          clear hwq
          replace HR := Lib.hid (HR.out.below HB.out)
          replace HS := Lib.hid (HS.out.below HB.out)
          with_reducible refine (thin_c r A _).mono ?_
          rintro e w3 ⟨rfl, hb⟩
          replace HB := Lib.hid (HB.out.trans (hb.mono HB.out.size))
          replace HX := Lib.hid (HX.out.below hb)
          replace HR := Lib.hid (HR.out.below hb)
          replace HS := Lib.hid (HS.out.below hb)
          clear hb
          rw [HT.out]
          obtain ⟨k0, k1, k2, k3, k4, k5, k6, k7, k8, k9⟩ := HX.out
          have hxx := HXX.out
          go_wp2_with fail
          clear k0 k1 k2 k3 k4 k5 k6 k7 k8 k9
          with_reducible refine (River_c r A _ HR.out HL.out.1 HL.out.2.1 HL.out.2.2.1 HL.out.2.2.2).mono ?_
          rintro e w4 ⟨A1, rfl, hr1, -, hb⟩
          replace HB := Lib.hid (HB.out.trans (hb.mono HB.out.size))
          replace HX := Lib.hid (HX.out.below hb)
          replace HR := Lib.hid (HR.out.below hb)
          replace HS := Lib.hid (HS.out.below hb)
          clear hb
          have HR1 := Lib.hid hr1
          clear hr1
          obtain ⟨k0, k1, k2, k3, k4, k5, k6, k7, k8, k9⟩ := HX.out
          go_wp2_with fail
          clear k0 k1 k2 k3 k4 k5 k6 k7 k8 k9
          with_reducible refine (list_c ax xs cx _ HS.out (by have := HXL.out; omega)).mono ?_
          rintro e w5 ⟨v, rfl, hown, hb⟩
          replace HB := Lib.hid (HB.out.trans (hb.mono HB.out.size))
          replace HX := Lib.hid (HX.out.below hb)
          replace HR := Lib.hid (HR.out.below hb)
          replace HS := Lib.hid (HS.out.below hb)
          replace HR1 := Lib.hid (HR1.out.below hb)
          clear hb
          obtain ⟨s1, cs1, rfl, -, hs2⟩ := own_Sl hown
          clear hown
          have HS1 := Lib.hid hs2
          clear hs2
          obtain ⟨k0, k1, k2, k3, k4, k5, k6, k7, k8, k9⟩ := HX.out
          go_wp2_with fail
          clear k0 k1 k2 k3 k4 k5 k6 k7 k8 k9
          with_reducible refine (Tank_ok_c r A1 s1 xs cs1 _ HR1.out HL.out HS1.out (by have := HXL.out; omega) HA.out).mono ?_
          rintro e w6 ⟨ra, rc, rfl, hra, hb⟩
          replace HB := Lib.hid (HB.out.trans (hb.mono HB.out.size))
          replace HX := Lib.hid (HX.out.below hb)
          replace HR := Lib.hid (HR.out.below hb)
          replace HS := Lib.hid (HS.out.below hb)
          replace HR1 := Lib.hid (HR1.out.below hb)
          replace HS1 := Lib.hid (HS1.out.below hb)
          clear hb
          have HRA := Lib.hid hra
          clear hra
          obtain ⟨k0, k1, k2, k3, k4, k5, k6, k7, k8, k9⟩ := HX.out
          go_wp2_with fail
          clear k0 k1 k2 k3 k4 k5 k6 k7 k8 k9
          refine region_o (S := BoxR w.heap.size r A) (.take 0 (.take 1 (.one 2 (.take 3 (.take 4 (.take 5 (.take 6 (.one 7 (.take 8 (.one 9 (.take 10 (.take 11 (.take 12 (.take 13 (.take 14 .nil))))))))))))))) (by kernel_rfl) (by kernel_rfl) (fun _ _ d _ _ h => by cases d <;> exact h) (HX.out.below (Below.refl _ _).drew) ?_
          intro W0 hW0 hS0
          have hBW : Below w6.heap.size w6 W0 := by subst hW0; exact (Below.refl _ _).drew
          clear hW0
          repeat (first
            | (refine ord_skip rfl ?_ ?_; rfl; simp only [List.getElem_toArray, List.getElem_cons_zero, List.getElem_cons_succ, Act.put, List.setIfInBounds_toArray, List.set_cons_zero, List.set_cons_succ])
            | (refine ord_take (v := ?_) rfl ?_ (fun W hW => ?_) ?_; rotate_left; rfl; (obtain ⟨k0, k1, k2, k3, k4, k5, k6, k7, k8, k9⟩ := hW; go_simp; (first | done | with_reducible rfl)); simp only [List.getElem_toArray, List.getElem_cons_zero, List.getElem_cons_succ, Act.put, List.setIfInBounds_toArray, List.set_cons_zero, List.set_cons_succ]))
          (refine ord_op rfl ?_ (fun K hK => ?_); rfl; go_simp; (with_reducible refine (fault_c r A _ (HR.out.below hBW) HL.out.1 HL.out.2.1 HL.out.2.2.1 HL.out.2.2.2).mono ?_); rintro e W1 ⟨rfl, hb⟩; have hS1 := BoxR.below hS0 hb; replace hBW := hBW.trans (hb.mono hBW.size); rw [HFF.out]; clear hb; refine hK _ _ hS1 ?_; clear hK K; try simp only [List.getElem_toArray, List.getElem_cons_zero, List.getElem_cons_succ, Act.put, List.setIfInBounds_toArray, List.set_cons_zero, List.set_cons_succ])
          repeat (first
            | (refine ord_skip rfl ?_ ?_; rfl; simp only [List.getElem_toArray, List.getElem_cons_zero, List.getElem_cons_succ, Act.put, List.setIfInBounds_toArray, List.set_cons_zero, List.set_cons_succ])
            | (refine ord_take (v := ?_) rfl ?_ (fun W hW => ?_) ?_; rotate_left; rfl; (obtain ⟨k0, k1, k2, k3, k4, k5, k6, k7, k8, k9⟩ := hW; go_simp; (first | done | with_reducible rfl)); simp only [List.getElem_toArray, List.getElem_cons_zero, List.getElem_cons_succ, Act.put, List.setIfInBounds_toArray, List.set_cons_zero, List.set_cons_succ]))
          first
            | (refine ord_pass rfl ?_ hS1 ?_; rfl; simp only [List.getElem_toArray, List.getElem_cons_zero, List.getElem_cons_succ, Act.put, List.setIfInBounds_toArray, List.set_cons_zero, List.set_cons_succ]; have W2 := W1; have hS2 := hS1)
            | (refine ord_op rfl ?_ (fun K hK => ?_); rfl; go_simp; (with_reducible refine (IsPlan_c r A ax xs cx _ (HS.out.below hBW) (by have := HXL.out; omega) HOK.out.l0 HOK.out.l5).mono ?_); rintro e W2 ⟨rfl, hb⟩; have hS2 := BoxR.below hS1 hb; replace hBW := hBW.trans (hb.mono hBW.size); clear hb; refine hK _ _ hS2 ?_; clear hK K; try simp only [List.getElem_toArray, List.getElem_cons_zero, List.getElem_cons_succ, Act.put, List.setIfInBounds_toArray, List.set_cons_zero, List.set_cons_succ])
          repeat (first
            | (refine ord_skip rfl ?_ ?_; rfl; simp only [List.getElem_toArray, List.getElem_cons_zero, List.getElem_cons_succ, Act.put, List.setIfInBounds_toArray, List.set_cons_zero, List.set_cons_succ])
            | (refine ord_take (v := ?_) rfl ?_ (fun W hW => ?_) ?_; rotate_left; rfl; (obtain ⟨k0, k1, k2, k3, k4, k5, k6, k7, k8, k9⟩ := hW; go_simp; (first | done | with_reducible rfl)); simp only [List.getElem_toArray, List.getElem_cons_zero, List.getElem_cons_succ, Act.put, List.setIfInBounds_toArray, List.set_cons_zero, List.set_cons_succ]))
          (refine ord_op rfl ?_ (fun K hK => ?_); rfl; go_simp; (with_reducible refine (asked_ok_c r A _ _ (HR.out.below hBW) HL.out HA.out).mono ?_); rintro e W3 ⟨la, lc, rfl, htl, hb⟩; have hS3 := BoxR.below hS2 hb; replace hBW := hBW.trans (hb.mono hBW.size); have HTL := Lib.hid htl; clear htl; clear hb; refine hK _ _ hS3 ?_; clear hK K; try simp only [List.getElem_toArray, List.getElem_cons_zero, List.getElem_cons_succ, Act.put, List.setIfInBounds_toArray, List.set_cons_zero, List.set_cons_succ])
          repeat (first
            | (refine ord_skip rfl ?_ ?_; rfl; simp only [List.getElem_toArray, List.getElem_cons_zero, List.getElem_cons_succ, Act.put, List.setIfInBounds_toArray, List.set_cons_zero, List.set_cons_succ])
            | (refine ord_take (v := ?_) rfl ?_ (fun W hW => ?_) ?_; rotate_left; rfl; (obtain ⟨k0, k1, k2, k3, k4, k5, k6, k7, k8, k9⟩ := hW; go_simp; (first | done | with_reducible rfl)); simp only [List.getElem_toArray, List.getElem_cons_zero, List.getElem_cons_succ, Act.put, List.setIfInBounds_toArray, List.set_cons_zero, List.set_cons_succ]))
          refine ord_nil ?_
          replace HB := Lib.hid (HB.out.trans (hBW.mono HB.out.size))
          replace HX := Lib.hid (HX.out.below hBW)
          replace HR := Lib.hid (HR.out.below hBW)
          replace HS := Lib.hid (HS.out.below hBW)
          replace HR1 := Lib.hid (HR1.out.below hBW)
          replace HS1 := Lib.hid (HS1.out.below hBW)
          replace HRA := Lib.hid (HRA.out.below hBW)
          clear hBW
          have hl5 := HOK.out.l5
          have hl0 := HOK.out.l0
          have hnu := HOK.out.nu
          obtain ⟨k0, k1, k2, k3, k4, k5, k6, k7, k8, k9⟩ := HX.out
          go_wp2_with fail
          clear k0 k1 k2 k3 k4 k5 k6 k7 k8 k9
          clear hnu
          go_loopw [9] (fun i wr => ∃ k : Nat, (k : Int) ≤ r.last + 1 ∧ i = .int .i64 k ∧ Below W3.heap.size W3 wr) (fun i _ => 100 - (intOf i).toNat)
          case atStart => exact ⟨0, by omega, rfl, Below.refl _ _⟩
          case round =>
            obtain ⟨k, hk, rfl, hB⟩ := hrel
            replace HB := Lib.hid (HB.out.trans (hB.mono HB.out.size))
            replace HX := Lib.hid (HX.out.below hB)
            replace HR := Lib.hid (HR.out.below hB)
            replace HS := Lib.hid (HS.out.below hB)
            replace HR1 := Lib.hid (HR1.out.below hB)
            replace HS1 := Lib.hid (HS1.out.below hB)
            replace HRA := Lib.hid (HRA.out.below hB)
            replace HTL := Lib.hid (HTL.out.below hB)
            have HC := Lib.hid hB
            clear hB
            by_cases hlt : (k : Int) ≤ r.last
            · have hku : k < r.use.length := by have := HOK.out.nu; omega
              obtain ⟨T, hT⟩ : ∃ T, T = tankRf r (truthsR r) xs k := ⟨_, rfl⟩
              have hta := tank_at (askOk HA.out).1 xs k hlt
              rw [← hT] at hta
              obtain ⟨b, o, rfl, d1, d2⟩ := HRA.out.rg_at hta
              have HTT := Lib.hid hT
              have HSS := Lib.hid (show RgS w.heap.size b (o + k * 2) r A T.lo T.hi wr from ⟨HX.out, d1, d2⟩)
              clear hT hta d1 d2
              obtain ⟨k0, k1, k2, k3, k4, k5, k6, k7, k8, k9⟩ := HX.out
              go_wp2_with fail
              clear k0 k1 k2 k3 k4 k5 k6 k7 k8 k9
              refine region_o (S := RgS w.heap.size b (o + k * 2) r A T.lo T.hi) (.take 0 (.take 1 (.take 2 (.take 3 (.take 4 (.take 5 (.take 6 (.take 7 (.one 8 (.one 9 (.take 10 .nil))))))))))) (by kernel_rfl) (by kernel_rfl) (fun _ _ d _ _ h => by cases d <;> exact h) (HSS.out.below (Below.refl _ _).drew) ?_
              intro W0 hW0 hS0
              have hBW : Below wr.heap.size wr W0 := by subst hW0; exact (Below.refl _ _).drew
              clear hW0
              repeat (first
                | (refine ord_skip rfl ?_ ?_; rfl; simp only [List.getElem_toArray, List.getElem_cons_zero, List.getElem_cons_succ, Act.put, List.setIfInBounds_toArray, List.set_cons_zero, List.set_cons_succ])
                | (refine ord_take (v := ?_) rfl ?_ (fun W hW => ?_) ?_; rotate_left; rfl; (obtain ⟨⟨k0, k1, k2, k3, k4, k5, k6, k7, k8, k9⟩, d1, d2⟩ := hW; go_simp; (first | done | with_reducible rfl)); simp only [List.getElem_toArray, List.getElem_cons_zero, List.getElem_cons_succ, Act.put, List.setIfInBounds_toArray, List.set_cons_zero, List.set_cons_succ]))
              (refine ord_op rfl ?_ (fun K hK => ?_); rfl; go_simp; (with_reducible refine (TankR_c r A la (truthsR r) lc ax xs cx k hlt HOK.out (by have := HXL.out; omega) HF.out.1 HF.out.2.1 HF.out.2.2 _ (HR.out.below hBW) (HTL.out.below hBW) (HS.out.below hBW)).mono ?_); rintro e W1 ⟨rfl, hb⟩; have hS1 := RgS.below hS0 hb; replace hBW := hBW.trans (hb.mono hBW.size); rw [← HTT.out]; clear hb; refine hK _ _ hS1 ?_; clear hK K; try simp only [List.getElem_toArray, List.getElem_cons_zero, List.getElem_cons_succ, Act.put, List.setIfInBounds_toArray, List.set_cons_zero, List.set_cons_succ])
              (refine ord_op rfl ?_ (fun K hK => ?_); rfl; go_simp; (with_reducible refine (to_c T _).mono ?_); rintro e W2 ⟨rfl, hb⟩; have hS2 := RgS.below hS1 hb; replace hBW := hBW.trans (hb.mono hBW.size); clear hb; refine hK _ _ hS2 ?_; clear hK K; try simp only [List.getElem_toArray, List.getElem_cons_zero, List.getElem_cons_succ, Act.put, List.setIfInBounds_toArray, List.set_cons_zero, List.set_cons_succ])
              repeat (first
                | (refine ord_skip rfl ?_ ?_; rfl; simp only [List.getElem_toArray, List.getElem_cons_zero, List.getElem_cons_succ, Act.put, List.setIfInBounds_toArray, List.set_cons_zero, List.set_cons_succ])
                | (refine ord_take (v := ?_) rfl ?_ (fun W hW => ?_) ?_; rotate_left; rfl; (obtain ⟨⟨k0, k1, k2, k3, k4, k5, k6, k7, k8, k9⟩, d1, d2⟩ := hW; go_simp; (first | done | with_reducible rfl)); simp only [List.getElem_toArray, List.getElem_cons_zero, List.getElem_cons_succ, Act.put, List.setIfInBounds_toArray, List.set_cons_zero, List.set_cons_succ]))
              refine ord_nil ?_
              replace HB := Lib.hid (HB.out.trans (hBW.mono HB.out.size))
              replace HC := Lib.hid (HC.out.trans (hBW.mono HC.out.size))
              replace HX := Lib.hid (HX.out.below hBW)
              replace HR := Lib.hid (HR.out.below hBW)
              replace HS := Lib.hid (HS.out.below hBW)
              replace HR1 := Lib.hid (HR1.out.below hBW)
              replace HS1 := Lib.hid (HS1.out.below hBW)
              replace HRA := Lib.hid (HRA.out.below hBW)
              replace HTL := Lib.hid (HTL.out.below hBW)
              clear hBW
              obtain ⟨k0, k1, k2, k3, k4, k5, k6, k7, k8, k9⟩ := HX.out
              go_wp2_with fail
              clear k0 k1 k2 k3 k4 k5 k6 k7 k8 k9
              go_roundw
              case rel => exact ⟨k + 1, by omega, by go_num, HC.out⟩
              case measure => simp [intOf]; omega
            · obtain ⟨k0, k1, k2, k3, k4, k5, k6, k7, k8, k9⟩ := HX.out
              go_wp2_with fail
              clear k0 k1 k2 k3 k4 k5 k6 k7 k8 k9
              with_reducible refine (awake_c _).mono ?_
              rintro e wz ⟨rfl, hbz⟩
              go_wp2_with fail
              go_ret
              exact ⟨rfl, HB.out.trans (hbz.mono HB.out.size)⟩
        · have hN1 : (N == 0) = false := by simpa using hn
          have HN1 := Lib.hid hn
          clear hn hN
          go_enter Try.func4, Try.ntmps4
          go_wp2_with fail
          obtain ⟨wq, hwq⟩ : ∃ wq, w.alloc (rO26 r A) = wq := ⟨_, rfl⟩
          rw [hwq] at HB HX ⊢
          clear hwq
          replace HR := Lib.hid (HR.out.below HB.out)
          replace HS := Lib.hid (HS.out.below HB.out)
          with_reducible refine (thin_c r A _).mono ?_
          rintro e w3 ⟨rfl, hb⟩
          replace HB := Lib.hid (HB.out.trans (hb.mono HB.out.size))
          replace HX := Lib.hid (HX.out.below hb)
          replace HR := Lib.hid (HR.out.below hb)
          replace HS := Lib.hid (HS.out.below hb)
          clear hb
          rw [HT.out]
          obtain ⟨k0, k1, k2, k3, k4, k5, k6, k7, k8, k9⟩ := HX.out
          have hxx := HXX.out
          go_wp2_with fail
          clear k0 k1 k2 k3 k4 k5 k6 k7 k8 k9
          with_reducible refine (River_c r A _ HR.out HL.out.1 HL.out.2.1 HL.out.2.2.1 HL.out.2.2.2).mono ?_
          rintro e w4 ⟨A1, rfl, hr1, -, hb⟩
          replace HB := Lib.hid (HB.out.trans (hb.mono HB.out.size))
          replace HX := Lib.hid (HX.out.below hb)
          replace HR := Lib.hid (HR.out.below hb)
          replace HS := Lib.hid (HS.out.below hb)
          clear hb
          have HR1 := Lib.hid hr1
          clear hr1
          obtain ⟨k0, k1, k2, k3, k4, k5, k6, k7, k8, k9⟩ := HX.out
          go_wp2_with fail
          clear k0 k1 k2 k3 k4 k5 k6 k7 k8 k9
          with_reducible refine (list_c ax xs cx _ HS.out (by have := HXL.out; omega)).mono ?_
          rintro e w5 ⟨v, rfl, hown, hb⟩
          replace HB := Lib.hid (HB.out.trans (hb.mono HB.out.size))
          replace HX := Lib.hid (HX.out.below hb)
          replace HR := Lib.hid (HR.out.below hb)
          replace HS := Lib.hid (HS.out.below hb)
          replace HR1 := Lib.hid (HR1.out.below hb)
          clear hb
          obtain ⟨s1, cs1, rfl, -, hs2⟩ := own_Sl hown
          clear hown
          have HS1 := Lib.hid hs2
          clear hs2
          obtain ⟨k0, k1, k2, k3, k4, k5, k6, k7, k8, k9⟩ := HX.out
          go_wp2_with fail
          clear k0 k1 k2 k3 k4 k5 k6 k7 k8 k9
          with_reducible refine (Tank_no_c r A1 s1 xs cs1 _ HR1.out HL.out HS1.out (by have := HXL.out; omega) N HN.out HN1.out).mono ?_
          rintro e w6 ⟨rfl, hb⟩
          replace HB := Lib.hid (HB.out.trans (hb.mono HB.out.size))
          replace HX := Lib.hid (HX.out.below hb)
          replace HR := Lib.hid (HR.out.below hb)
          replace HS := Lib.hid (HS.out.below hb)
          replace HR1 := Lib.hid (HR1.out.below hb)
          replace HS1 := Lib.hid (HS1.out.below hb)
          clear hb
          obtain ⟨k0, k1, k2, k3, k4, k5, k6, k7, k8, k9⟩ := HX.out
          go_wp2_with fail
          clear k0 k1 k2 k3 k4 k5 k6 k7 k8 k9
          refine region_o (S := BoxR w.heap.size r A) (.take 0 (.take 1 (.one 2 (.take 3 (.take 4 (.take 5 (.take 6 (.one 7 (.take 8 (.one 9 (.take 10 (.take 11 (.take 12 (.take 13 (.take 14 .nil))))))))))))))) (by kernel_rfl) (by kernel_rfl) (fun _ _ d _ _ h => by cases d <;> exact h) (HX.out.below (Below.refl _ _).drew) ?_
          intro W0 hW0 hS0
          have hBW : Below w6.heap.size w6 W0 := by subst hW0; exact (Below.refl _ _).drew
          clear hW0
          repeat (first
            | (refine ord_skip rfl ?_ ?_; rfl; simp only [List.getElem_toArray, List.getElem_cons_zero, List.getElem_cons_succ, Act.put, List.setIfInBounds_toArray, List.set_cons_zero, List.set_cons_succ])
            | (refine ord_take (v := ?_) rfl ?_ (fun W hW => ?_) ?_; rotate_left; rfl; (obtain ⟨k0, k1, k2, k3, k4, k5, k6, k7, k8, k9⟩ := hW; go_simp; (first | done | with_reducible rfl)); simp only [List.getElem_toArray, List.getElem_cons_zero, List.getElem_cons_succ, Act.put, List.setIfInBounds_toArray, List.set_cons_zero, List.set_cons_succ]))
          (refine ord_op rfl ?_ (fun K hK => ?_); rfl; go_simp; (with_reducible refine (fault_c r A _ (HR.out.below hBW) HL.out.1 HL.out.2.1 HL.out.2.2.1 HL.out.2.2.2).mono ?_); rintro e W1 ⟨rfl, hb⟩; have hS1 := BoxR.below hS0 hb; replace hBW := hBW.trans (hb.mono hBW.size); rw [HFF.out]; clear hb; refine hK _ _ hS1 ?_; clear hK K; try simp only [List.getElem_toArray, List.getElem_cons_zero, List.getElem_cons_succ, Act.put, List.setIfInBounds_toArray, List.set_cons_zero, List.set_cons_succ])
          repeat (first
            | (refine ord_skip rfl ?_ ?_; rfl; simp only [List.getElem_toArray, List.getElem_cons_zero, List.getElem_cons_succ, Act.put, List.setIfInBounds_toArray, List.set_cons_zero, List.set_cons_succ])
            | (refine ord_take (v := ?_) rfl ?_ (fun W hW => ?_) ?_; rotate_left; rfl; (obtain ⟨k0, k1, k2, k3, k4, k5, k6, k7, k8, k9⟩ := hW; go_simp; (first | done | with_reducible rfl)); simp only [List.getElem_toArray, List.getElem_cons_zero, List.getElem_cons_succ, Act.put, List.setIfInBounds_toArray, List.set_cons_zero, List.set_cons_succ]))
          first
            | (refine ord_pass rfl ?_ hS1 ?_; rfl; simp only [List.getElem_toArray, List.getElem_cons_zero, List.getElem_cons_succ, Act.put, List.setIfInBounds_toArray, List.set_cons_zero, List.set_cons_succ]; have W2 := W1; have hS2 := hS1)
            | (refine ord_op rfl ?_ (fun K hK => ?_); rfl; go_simp; (with_reducible refine (IsPlan_c r A ax xs cx _ (HS.out.below hBW) (by have := HXL.out; omega) HOK.out.l0 HOK.out.l5).mono ?_); rintro e W2 ⟨rfl, hb⟩; have hS2 := BoxR.below hS1 hb; replace hBW := hBW.trans (hb.mono hBW.size); clear hb; refine hK _ _ hS2 ?_; clear hK K; try simp only [List.getElem_toArray, List.getElem_cons_zero, List.getElem_cons_succ, Act.put, List.setIfInBounds_toArray, List.set_cons_zero, List.set_cons_succ])
          repeat (first
            | (refine ord_skip rfl ?_ ?_; rfl; simp only [List.getElem_toArray, List.getElem_cons_zero, List.getElem_cons_succ, Act.put, List.setIfInBounds_toArray, List.set_cons_zero, List.set_cons_succ])
            | (refine ord_take (v := ?_) rfl ?_ (fun W hW => ?_) ?_; rotate_left; rfl; (obtain ⟨k0, k1, k2, k3, k4, k5, k6, k7, k8, k9⟩ := hW; go_simp; (first | done | with_reducible rfl)); simp only [List.getElem_toArray, List.getElem_cons_zero, List.getElem_cons_succ, Act.put, List.setIfInBounds_toArray, List.set_cons_zero, List.set_cons_succ]))
          (refine ord_op rfl ?_ (fun K hK => ?_); rfl; go_simp; (with_reducible refine (asked_no_c r A _ _ (HR.out.below hBW) HL.out N HN.out HN1.out).mono ?_); rintro e W3 ⟨la, lc, rfl, hb⟩; have hS3 := BoxR.below hS2 hb; replace hBW := hBW.trans (hb.mono hBW.size); clear hb; refine hK _ _ hS3 ?_; clear hK K; try simp only [List.getElem_toArray, List.getElem_cons_zero, List.getElem_cons_succ, Act.put, List.setIfInBounds_toArray, List.set_cons_zero, List.set_cons_succ])
          repeat (first
            | (refine ord_skip rfl ?_ ?_; rfl; simp only [List.getElem_toArray, List.getElem_cons_zero, List.getElem_cons_succ, Act.put, List.setIfInBounds_toArray, List.set_cons_zero, List.set_cons_succ])
            | (refine ord_take (v := ?_) rfl ?_ (fun W hW => ?_) ?_; rotate_left; rfl; (obtain ⟨k0, k1, k2, k3, k4, k5, k6, k7, k8, k9⟩ := hW; go_simp; (first | done | with_reducible rfl)); simp only [List.getElem_toArray, List.getElem_cons_zero, List.getElem_cons_succ, Act.put, List.setIfInBounds_toArray, List.set_cons_zero, List.set_cons_succ]))
          refine ord_nil ?_
          replace HB := Lib.hid (HB.out.trans (hBW.mono HB.out.size))
          replace HX := Lib.hid (HX.out.below hBW)
          replace HR := Lib.hid (HR.out.below hBW)
          replace HS := Lib.hid (HS.out.below hBW)
          replace HR1 := Lib.hid (HR1.out.below hBW)
          replace HS1 := Lib.hid (HS1.out.below hBW)
          clear hBW
          obtain ⟨k0, k1, k2, k3, k4, k5, k6, k7, k8, k9⟩ := HX.out
          go_wp2_with fail
          clear k0 k1 k2 k3 k4 k5 k6 k7 k8 k9
          with_reducible refine (awake_c _).mono ?_
          rintro e wz ⟨rfl, hbz⟩
          go_wp2_with fail
          go_ret
          exact ⟨rfl, HB.out.trans (hbz.mono HB.out.size)⟩
      · have hN1 : (F == 0) = false := by simpa using hf
        obtain ⟨N, hN⟩ : ∃ N, N = F := ⟨_, rfl⟩
        subst hN
        have HN := Lib.hid (ask_F hF hf (isPlanB r.last xs)).symm
        have HN2 := Lib.hid (ask_F hF hf false).symm
        have HN1 := Lib.hid hf
        clear hF hf
        go_enter Try.func4, Try.ntmps4
        go_wp2_with fail
        obtain ⟨wq, hwq⟩ : ∃ wq, w.alloc (rO26 r A) = wq := ⟨_, rfl⟩
        rw [hwq] at HB HX ⊢
        clear hwq
        replace HR := Lib.hid (HR.out.below HB.out)
        replace HS := Lib.hid (HS.out.below HB.out)
        with_reducible refine (thin_c r A _).mono ?_
        rintro e w3 ⟨rfl, hb⟩
        replace HB := Lib.hid (HB.out.trans (hb.mono HB.out.size))
        replace HX := Lib.hid (HX.out.below hb)
        replace HR := Lib.hid (HR.out.below hb)
        replace HS := Lib.hid (HS.out.below hb)
        clear hb
        rw [HT.out]
        obtain ⟨k0, k1, k2, k3, k4, k5, k6, k7, k8, k9⟩ := HX.out
        have hxx := HXX.out
        go_wp2_with fail
        clear k0 k1 k2 k3 k4 k5 k6 k7 k8 k9
        with_reducible refine (River_c r A _ HR.out HL.out.1 HL.out.2.1 HL.out.2.2.1 HL.out.2.2.2).mono ?_
        rintro e w4 ⟨A1, rfl, hr1, -, hb⟩
        replace HB := Lib.hid (HB.out.trans (hb.mono HB.out.size))
        replace HX := Lib.hid (HX.out.below hb)
        replace HR := Lib.hid (HR.out.below hb)
        replace HS := Lib.hid (HS.out.below hb)
        clear hb
        have HR1 := Lib.hid hr1
        clear hr1
        obtain ⟨k0, k1, k2, k3, k4, k5, k6, k7, k8, k9⟩ := HX.out
        go_wp2_with fail
        clear k0 k1 k2 k3 k4 k5 k6 k7 k8 k9
        with_reducible refine (list_c ax xs cx _ HS.out (by have := HXL.out; omega)).mono ?_
        rintro e w5 ⟨v, rfl, hown, hb⟩
        replace HB := Lib.hid (HB.out.trans (hb.mono HB.out.size))
        replace HX := Lib.hid (HX.out.below hb)
        replace HR := Lib.hid (HR.out.below hb)
        replace HS := Lib.hid (HS.out.below hb)
        replace HR1 := Lib.hid (HR1.out.below hb)
        clear hb
        obtain ⟨s1, cs1, rfl, -, hs2⟩ := own_Sl hown
        clear hown
        have HS1 := Lib.hid hs2
        clear hs2
        obtain ⟨k0, k1, k2, k3, k4, k5, k6, k7, k8, k9⟩ := HX.out
        go_wp2_with fail
        clear k0 k1 k2 k3 k4 k5 k6 k7 k8 k9
        with_reducible refine (Tank_no_c r A1 s1 xs cs1 _ HR1.out HL.out HS1.out (by have := HXL.out; omega) N HN.out HN1.out).mono ?_
        rintro e w6 ⟨rfl, hb⟩
        replace HB := Lib.hid (HB.out.trans (hb.mono HB.out.size))
        replace HX := Lib.hid (HX.out.below hb)
        replace HR := Lib.hid (HR.out.below hb)
        replace HS := Lib.hid (HS.out.below hb)
        replace HR1 := Lib.hid (HR1.out.below hb)
        replace HS1 := Lib.hid (HS1.out.below hb)
        clear hb
        obtain ⟨k0, k1, k2, k3, k4, k5, k6, k7, k8, k9⟩ := HX.out
        go_wp2_with fail
        clear k0 k1 k2 k3 k4 k5 k6 k7 k8 k9
        refine region_o (S := BoxR w.heap.size r A) (.take 0 (.take 1 (.one 2 (.take 3 (.take 4 (.take 5 (.take 6 (.one 7 (.take 8 (.one 9 (.take 10 (.take 11 (.take 12 (.take 13 (.take 14 .nil))))))))))))))) (by kernel_rfl) (by kernel_rfl) (fun _ _ d _ _ h => by cases d <;> exact h) (HX.out.below (Below.refl _ _).drew) ?_
        intro W0 hW0 hS0
        have hBW : Below w6.heap.size w6 W0 := by subst hW0; exact (Below.refl _ _).drew
        clear hW0
        repeat (first
          | (refine ord_skip rfl ?_ ?_; rfl; simp only [List.getElem_toArray, List.getElem_cons_zero, List.getElem_cons_succ, Act.put, List.setIfInBounds_toArray, List.set_cons_zero, List.set_cons_succ])
          | (refine ord_take (v := ?_) rfl ?_ (fun W hW => ?_) ?_; rotate_left; rfl; (obtain ⟨k0, k1, k2, k3, k4, k5, k6, k7, k8, k9⟩ := hW; go_simp; (first | done | with_reducible rfl)); simp only [List.getElem_toArray, List.getElem_cons_zero, List.getElem_cons_succ, Act.put, List.setIfInBounds_toArray, List.set_cons_zero, List.set_cons_succ]))
        (refine ord_op rfl ?_ (fun K hK => ?_); rfl; go_simp; (with_reducible refine (fault_c r A _ (HR.out.below hBW) HL.out.1 HL.out.2.1 HL.out.2.2.1 HL.out.2.2.2).mono ?_); rintro e W1 ⟨rfl, hb⟩; have hS1 := BoxR.below hS0 hb; replace hBW := hBW.trans (hb.mono hBW.size); rw [HFF.out]; clear hb; refine hK _ _ hS1 ?_; clear hK K; try simp only [List.getElem_toArray, List.getElem_cons_zero, List.getElem_cons_succ, Act.put, List.setIfInBounds_toArray, List.set_cons_zero, List.set_cons_succ])
        repeat (first
          | (refine ord_skip rfl ?_ ?_; rfl; simp only [List.getElem_toArray, List.getElem_cons_zero, List.getElem_cons_succ, Act.put, List.setIfInBounds_toArray, List.set_cons_zero, List.set_cons_succ])
          | (refine ord_take (v := ?_) rfl ?_ (fun W hW => ?_) ?_; rotate_left; rfl; (obtain ⟨k0, k1, k2, k3, k4, k5, k6, k7, k8, k9⟩ := hW; go_simp; (first | done | with_reducible rfl)); simp only [List.getElem_toArray, List.getElem_cons_zero, List.getElem_cons_succ, Act.put, List.setIfInBounds_toArray, List.set_cons_zero, List.set_cons_succ]))
        first
          | (refine ord_pass rfl ?_ hS1 ?_; rfl; simp only [List.getElem_toArray, List.getElem_cons_zero, List.getElem_cons_succ, Act.put, List.setIfInBounds_toArray, List.set_cons_zero, List.set_cons_succ]; have W2 := W1; have hS2 := hS1)
          | (refine ord_op rfl ?_ (fun K hK => ?_); rfl; go_simp; fail; clear hK K; try simp only [List.getElem_toArray, List.getElem_cons_zero, List.getElem_cons_succ, Act.put, List.setIfInBounds_toArray, List.set_cons_zero, List.set_cons_succ])
        repeat (first
          | (refine ord_skip rfl ?_ ?_; rfl; simp only [List.getElem_toArray, List.getElem_cons_zero, List.getElem_cons_succ, Act.put, List.setIfInBounds_toArray, List.set_cons_zero, List.set_cons_succ])
          | (refine ord_take (v := ?_) rfl ?_ (fun W hW => ?_) ?_; rotate_left; rfl; (obtain ⟨k0, k1, k2, k3, k4, k5, k6, k7, k8, k9⟩ := hW; go_simp; (first | done | with_reducible rfl)); simp only [List.getElem_toArray, List.getElem_cons_zero, List.getElem_cons_succ, Act.put, List.setIfInBounds_toArray, List.set_cons_zero, List.set_cons_succ]))
        (refine ord_op rfl ?_ (fun K hK => ?_); rfl; go_simp; (with_reducible refine (asked_no_c r A false _ (HR.out.below hBW) HL.out N (HN2.out) HN1.out).mono ?_); rintro e W3 ⟨la, lc, rfl, hb⟩; have hS3 := BoxR.below hS2 hb; replace hBW := hBW.trans (hb.mono hBW.size); clear hb; refine hK _ _ hS3 ?_; clear hK K; try simp only [List.getElem_toArray, List.getElem_cons_zero, List.getElem_cons_succ, Act.put, List.setIfInBounds_toArray, List.set_cons_zero, List.set_cons_succ])
        repeat (first
          | (refine ord_skip rfl ?_ ?_; rfl; simp only [List.getElem_toArray, List.getElem_cons_zero, List.getElem_cons_succ, Act.put, List.setIfInBounds_toArray, List.set_cons_zero, List.set_cons_succ])
          | (refine ord_take (v := ?_) rfl ?_ (fun W hW => ?_) ?_; rotate_left; rfl; (obtain ⟨k0, k1, k2, k3, k4, k5, k6, k7, k8, k9⟩ := hW; go_simp; (first | done | with_reducible rfl)); simp only [List.getElem_toArray, List.getElem_cons_zero, List.getElem_cons_succ, Act.put, List.setIfInBounds_toArray, List.set_cons_zero, List.set_cons_succ]))
        refine ord_nil ?_
        replace HB := Lib.hid (HB.out.trans (hBW.mono HB.out.size))
        replace HX := Lib.hid (HX.out.below hBW)
        replace HR := Lib.hid (HR.out.below hBW)
        replace HS := Lib.hid (HS.out.below hBW)
        replace HR1 := Lib.hid (HR1.out.below hBW)
        replace HS1 := Lib.hid (HS1.out.below hBW)
        clear hBW
        obtain ⟨k0, k1, k2, k3, k4, k5, k6, k7, k8, k9⟩ := HX.out
        go_wp2_with fail
        clear k0 k1 k2 k3 k4 k5 k6 k7 k8 k9
        with_reducible refine (awake_c _).mono ?_
        rintro e wz ⟨rfl, hbz⟩
        go_wp2_with fail
        go_ret
        exact ⟨rfl, HB.out.trans (hbz.mono HB.out.size)⟩
    · have HXX := Lib.hid (show (30 : Int) < xs.length from by omega)
      clear hx
      go_enter Try.func4, Try.ntmps4
      go_wp2_with fail
      obtain ⟨wq, hwq⟩ : ∃ wq, w.alloc (rO26 r A) = wq := ⟨_, rfl⟩
      rw [hwq] at HB HX ⊢
      clear hwq
      replace HR := Lib.hid (HR.out.below HB.out)
      replace HS := Lib.hid (HS.out.below HB.out)
      with_reducible refine (thin_c r A _).mono ?_
      rintro e w3 ⟨rfl, hb⟩
      replace HB := Lib.hid (HB.out.trans (hb.mono HB.out.size))
      replace HX := Lib.hid (HX.out.below hb)
      replace HR := Lib.hid (HR.out.below hb)
      replace HS := Lib.hid (HS.out.below hb)
      clear hb
      rw [HT.out]
      obtain ⟨k0, k1, k2, k3, k4, k5, k6, k7, k8, k9⟩ := HX.out
      have hxx := HXX.out
      go_wp2_with fail
      clear k0 k1 k2 k3 k4 k5 k6 k7 k8 k9
      with_reducible refine (awake_c _).mono ?_
      rintro e wz ⟨rfl, hbz⟩
      go_wp2_with fail
      go_ret
      exact ⟨rfl, HB.out.trans (hbz.mono HB.out.size)⟩
end Go.Proofs.Ytgglfngkomgadaa
