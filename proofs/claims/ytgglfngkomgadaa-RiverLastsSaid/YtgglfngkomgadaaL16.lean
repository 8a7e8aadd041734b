/- Walks of the laws: RiverLasts. -/
import Derived.Test.YtgglfngkomgadaaL0
namespace Go.Proofs.Ytgglfngkomgadaa
open Go.RowKit Go.Shelf
set_option linter.unusedVariables false
set_option linter.unusedSimpArgs false
set_option maxRecDepth 100000

theorem lasts_err {r : Riv} {xs : List Int} (ha : askR r (isPlanB r.last xs) ≠ 0) : lastsA r xs = (0, askR r (isPlanB r.last xs)) := by
  unfold lastsA; rw [ask_eq, if_neg ha]
theorem lasts_ans {r : Riv} {xs : List Int} (ha : askR r (isPlanB r.last xs) = 0) : lastsA r xs = (lastsRf r (truthsR r) xs, 0) := by
  have h := (askOk ha).1
  unfold lastsA
  rw [ask_eq, if_pos ha, lasts_eq h (plan_pos (askOk ha).2.1 (ok_of_fault h).1.l5)]
theorem lasts_one {r : Riv} {xs : List Int} (h : r.faultI = 0) : lastsRf r (truthsR r) xs = 1 ↔ r.last < lacksR r (truthsR r) xs r.size (-1) := by
  unfold lastsRf lacksR cntP
  rw [vI_one, filter_len_eq, foldMin_le]
  simp only [decide_eq_true_eq]
  exact ⟨fun a => ⟨by omega, a⟩, fun a => a.2⟩
theorem prove_err {r : Riv} {xs : List Int} {N many : Int} (h : dryA r xs = (0, N)) (hN : N ≠ 7) : proveP r xs many = false := by
  unfold proveP; rw [h]; simp [hN]
theorem askR_7 (r : Riv) (fine : Bool) : askR r fine ≠ 7 := by
  unfold askR
  split
  · exact fault_ne7 r
  · split
    · decide
    · split <;> decide

set_option maxHeartbeats 8000000 in
theorem law16_c (r : Riv) (A : RA) (ax : Option Addr) (xs : List Int) (cx : Nat) (many : Int) (w : World) (hr : Rd w r A) (hs : Sl w ax (ints xs)) (hxl : xs.length ≤ maxLen) :
    Calls Try.prog 16 #[rivV r A, .slice ax xs.length cx, .int .i64 many] w (RetB true w) := by
  have HB := Lib.hid (al_b w (rO26 r A))
  have HX := Lib.hid (box_new w r A)
  have HR := Lib.hid hr
  clear hr
  have HS := Lib.hid hs
  clear hs hxl
  cases hth : thinB r
  · have HT := Lib.hid hth
    clear hth
    go_enter Try.func16, Try.ntmps16
    go_wp2_with fail
    obtain ⟨wq, hwq⟩ : ∃ wq, w.alloc (rO26 r A) = wq := ⟨_, rfl⟩
    rw [hwq] at HB HX ⊢
    clear hwq
    replace HR := Lib.hid (HR.out.below HB.out)
    replace HS := Lib.hid (HS.out.below HB.out)
    with_reducible refine (thin_c r A _).mono ?_
    rintro e w3 ⟨rfl, hb⟩
    replace HB := Lib.hid (HB.out.trans (hb.mono HB.out.size))
    replace HX := Lib.hid (HX.out.below hb)
    replace HR := Lib.hid (HR.out.below hb)
    replace HS := Lib.hid (HS.out.below hb)
    clear hb
    rw [HT.out]
    obtain ⟨k0, k1, k2, k3, k4, k5, k6, k7, k8, k9⟩ := HX.out
    go_wp2_with fail
    clear k0 k1 k2 k3 k4 k5 k6 k7 k8 k9
    with_reducible refine (awake_c _).mono ?_
    rintro e wz ⟨rfl, hbz⟩
    go_wp2_with fail
    go_ret
    exact ⟨rfl, HB.out.trans (hbz.mono HB.out.size)⟩
  · have HT := Lib.hid hth
    have HL := Lib.hid (thin_lens hth)
    clear hth
    by_cases hx : xs.length ≤ 30
    · have HXX := Lib.hid (show ¬ (30 : Int) < xs.length from by omega)
      have HXL := Lib.hid hx
      clear hx
      obtain ⟨F, hF⟩ : ∃ F, r.faultI = F := ⟨_, rfl⟩
      have HFF := Lib.hid hF
      by_cases hf : F = 0
      · subst hf
        have HOK := Lib.hid (ok_of_fault hF).1
        clear hF
        obtain ⟨N, hN⟩ : ∃ N, N = askR r (isPlanB r.last xs) := ⟨_, rfl⟩
        have HN := Lib.hid hN
        by_cases hn : N = 0
        · have ha : askR r (isPlanB r.last xs) = 0 := by rw [← hN, hn]
          have HA := Lib.hid ha
          have HF := Lib.hid (asked_fits HA.out)
          have hla := lasts_ans ha
          have hdr := dry_ok ha
          have hone := lasts_one (xs := xs) (askOk ha).1
          obtain ⟨Z, hZ⟩ : ∃ Z, lacksR r (truthsR r) xs r.size (-1) = Z := ⟨_, rfl⟩
          obtain ⟨V, hV⟩ : ∃ V, lastsRf r (truthsR r) xs = V := ⟨_, rfl⟩
          have HZ := Lib.hid hZ
          rw [hZ] at hone hdr
          rw [hV] at hone hla
          clear hn hN ha hZ
          by_cases hz : r.last < Z
          · rw [if_pos hz] at hdr
            have hv1 : V = 1 := hone.2 hz
            subst hv1
            have HLS := Lib.hid hV
            have HLA := Lib.hid hla
            have HDR := Lib.hid hdr
            have HZ2 := Lib.hid (show ¬ Z ≤ r.last from by omega)
            have hpr : proveP r xs many = decide ((xs.length : Int) ≤ many) := by unfold proveP; rw [hdr]; simp
            clear hV hla hdr hone hz
            by_cases hm : (xs.length : Int) ≤ many
            · have HPR := Lib.hid (show proveP r xs many = true from by rw [hpr]; simpa using hm)
              have HM := Lib.hid hm
              clear hpr hm
              go_enter Try.func16, Try.ntmps16
              go_wp2_with fail
              obtain ⟨wq, hwq⟩ : ∃ wq, w.alloc (rO26 r A) = wq := ⟨_, rfl⟩
              rw [hwq] at HB HX ⊢
              clear hwq
              replace HR := Lib.hid (HR.out.below HB.out)
              replace HS := Lib.hid (HS.out.below HB.out)
              with_reducible refine (thin_c r A _).mono ?_
              rintro e w3 ⟨rfl, hb⟩
              replace HB := Lib.hid (HB.out.trans (hb.mono HB.out.size))
              replace HX := Lib.hid (HX.out.below hb)
              replace HR := Lib.hid (HR.out.below hb)
              replace HS := Lib.hid (HS.out.below hb)
              clear hb
              rw [HT.out]
              obtain ⟨k0, k1, k2, k3, k4, k5, k6, k7, k8, k9⟩ := HX.out
              have hxx := HXX.out
              go_wp2_with fail
              clear k0 k1 k2 k3 k4 k5 k6 k7 k8 k9
              with_reducible refine (River_c r A _ HR.out HL.out.1 HL.out.2.1 HL.out.2.2.1 HL.out.2.2.2).mono ?_
              rintro e w4 ⟨A1, rfl, hr1, -, hb⟩
              replace HB := Lib.hid (HB.out.trans (hb.mono HB.out.size))
              replace HX := Lib.hid (HX.out.below hb)
              replace HR := Lib.hid (HR.out.below hb)
              replace HS := Lib.hid (HS.out.below hb)
              clear hb
              have HR1 := Lib.hid hr1
              clear hr1
              obtain ⟨k0, k1, k2, k3, k4, k5, k6, k7, k8, k9⟩ := HX.out
              go_wp2_with fail
              clear k0 k1 k2 k3 k4 k5 k6 k7 k8 k9
              with_reducible refine (list_c ax xs cx _ HS.out (by have := HXL.out; omega)).mono ?_
              rintro e w5 ⟨v, rfl, hown, hb⟩
              replace HB := Lib.hid (HB.out.trans (hb.mono HB.out.size))
              replace HX := Lib.hid (HX.out.below hb)
              replace HR := Lib.hid (HR.out.below hb)
              replace HS := Lib.hid (HS.out.below hb)
              replace HR1 := Lib.hid (HR1.out.below hb)
              clear hb
              obtain ⟨s1, cs1, rfl, -, hs2⟩ := own_Sl hown
              clear hown
              have HS1 := Lib.hid hs2
              clear hs2
              obtain ⟨k0, k1, k2, k3, k4, k5, k6, k7, k8, k9⟩ := HX.out
              go_wp2_with fail
              clear k0 k1 k2 k3 k4 k5 k6 k7 k8 k9
              with_reducible refine (Lasts_c r A1 s1 xs cs1 _ HR1.out HL.out.1 HL.out.2.1 HL.out.2.2.1 HL.out.2.2.2 HS1.out (by have := HXL.out; omega)).mono ?_
              rintro e w6 ⟨rfl, hb⟩
              replace HB := Lib.hid (HB.out.trans (hb.mono HB.out.size))
              replace HX := Lib.hid (HX.out.below hb)
              replace HR := Lib.hid (HR.out.below hb)
              replace HS := Lib.hid (HS.out.below hb)
              replace HR1 := Lib.hid (HR1.out.below hb)
              replace HS1 := Lib.hid (HS1.out.below hb)
              clear hb
              rw [HLA.out]
              obtain ⟨k0, k1, k2, k3, k4, k5, k6, k7, k8, k9⟩ := HX.out
              go_wp2_with fail
              clear k0 k1 k2 k3 k4 k5 k6 k7 k8 k9
              with_reducible refine (River_c r A _ HR.out HL.out.1 HL.out.2.1 HL.out.2.2.1 HL.out.2.2.2).mono ?_
              rintro e w7 ⟨A2, rfl, hr1, -, hb⟩
              replace HB := Lib.hid (HB.out.trans (hb.mono HB.out.size))
              replace HX := Lib.hid (HX.out.below hb)
              replace HR := Lib.hid (HR.out.below hb)
              replace HS := Lib.hid (HS.out.below hb)
              replace HR1 := Lib.hid (HR1.out.below hb)
              replace HS1 := Lib.hid (HS1.out.below hb)
              clear hb
              have HR2 := Lib.hid hr1
              clear hr1
              obtain ⟨k0, k1, k2, k3, k4, k5, k6, k7, k8, k9⟩ := HX.out
              go_wp2_with fail
              clear k0 k1 k2 k3 k4 k5 k6 k7 k8 k9
              with_reducible refine (list_c ax xs cx _ HS.out (by have := HXL.out; omega)).mono ?_
              rintro e w8 ⟨v, rfl, hown, hb⟩
              replace HB := Lib.hid (HB.out.trans (hb.mono HB.out.size))
              replace HX := Lib.hid (HX.out.below hb)
              replace HR := Lib.hid (HR.out.below hb)
              replace HS := Lib.hid (HS.out.below hb)
              replace HR1 := Lib.hid (HR1.out.below hb)
              replace HS1 := Lib.hid (HS1.out.below hb)
              replace HR2 := Lib.hid (HR2.out.below hb)
              clear hb
              obtain ⟨s2, cs2, rfl, -, hs2⟩ := own_Sl hown
              clear hown
              have HS2 := Lib.hid hs2
              clear hs2
              obtain ⟨k0, k1, k2, k3, k4, k5, k6, k7, k8, k9⟩ := HX.out
              go_wp2_with fail
              clear k0 k1 k2 k3 k4 k5 k6 k7 k8 k9
              with_reducible refine (Dry_c r A2 s2 xs cs2 _ HR2.out HL.out.1 HL.out.2.1 HL.out.2.2.1 HL.out.2.2.2 HS2.out (by have := HXL.out; omega)).mono ?_
              rintro e w9 ⟨rfl, hb⟩
              replace HB := Lib.hid (HB.out.trans (hb.mono HB.out.size))
              replace HX := Lib.hid (HX.out.below hb)
              replace HR := Lib.hid (HR.out.below hb)
              replace HS := Lib.hid (HS.out.below hb)
              replace HR1 := Lib.hid (HR1.out.below hb)
              replace HS1 := Lib.hid (HS1.out.below hb)
              replace HR2 := Lib.hid (HR2.out.below hb)
              replace HS2 := Lib.hid (HS2.out.below hb)
              clear hb
              rw [HDR.out]
              obtain ⟨k0, k1, k2, k3, k4, k5, k6, k7, k8, k9⟩ := HX.out
              go_wp2_with fail
              clear k0 k1 k2 k3 k4 k5 k6 k7 k8 k9
              with_reducible refine (River_c r A _ HR.out HL.out.1 HL.out.2.1 HL.out.2.2.1 HL.out.2.2.2).mono ?_
              rintro e w10 ⟨A3, rfl, hr1, -, hb⟩
              replace HB := Lib.hid (HB.out.trans (hb.mono HB.out.size))
              replace HX := Lib.hid (HX.out.below hb)
              replace HR := Lib.hid (HR.out.below hb)
              replace HS := Lib.hid (HS.out.below hb)
              replace HR1 := Lib.hid (HR1.out.below hb)
              replace HS1 := Lib.hid (HS1.out.below hb)
              replace HR2 := Lib.hid (HR2.out.below hb)
              replace HS2 := Lib.hid (HS2.out.below hb)
              clear hb
              have HR3 := Lib.hid hr1
              clear hr1
              obtain ⟨k0, k1, k2, k3, k4, k5, k6, k7, k8, k9⟩ := HX.out
              go_wp2_with fail
              clear k0 k1 k2 k3 k4 k5 k6 k7 k8 k9
              with_reducible refine (list_c ax xs cx _ HS.out (by have := HXL.out; omega)).mono ?_
              rintro e w11 ⟨v, rfl, hown, hb⟩
              replace HB := Lib.hid (HB.out.trans (hb.mono HB.out.size))
              replace HX := Lib.hid (HX.out.below hb)
              replace HR := Lib.hid (HR.out.below hb)
              replace HS := Lib.hid (HS.out.below hb)
              replace HR1 := Lib.hid (HR1.out.below hb)
              replace HS1 := Lib.hid (HS1.out.below hb)
              replace HR2 := Lib.hid (HR2.out.below hb)
              replace HS2 := Lib.hid (HS2.out.below hb)
              replace HR3 := Lib.hid (HR3.out.below hb)
              clear hb
              obtain ⟨s3, cs3, rfl, -, hs2⟩ := own_Sl hown
              clear hown
              have HS3 := Lib.hid hs2
              clear hs2
              obtain ⟨k0, k1, k2, k3, k4, k5, k6, k7, k8, k9⟩ := HX.out
              go_wp2_with fail
              clear k0 k1 k2 k3 k4 k5 k6 k7 k8 k9
              with_reducible refine (ProvePlan_c r A3 s3 xs cs3 many _ HR3.out HL.out.1 HL.out.2.1 HL.out.2.2.1 HL.out.2.2.2 HS3.out (by have := HXL.out; omega)).mono ?_
              rintro e w12 ⟨rfl, hb⟩
              replace HB := Lib.hid (HB.out.trans (hb.mono HB.out.size))
              replace HX := Lib.hid (HX.out.below hb)
              replace HR := Lib.hid (HR.out.below hb)
              replace HS := Lib.hid (HS.out.below hb)
              replace HR1 := Lib.hid (HR1.out.below hb)
              replace HS1 := Lib.hid (HS1.out.below hb)
              replace HR2 := Lib.hid (HR2.out.below hb)
              replace HS2 := Lib.hid (HS2.out.below hb)
              replace HR3 := Lib.hid (HR3.out.below hb)
              replace HS3 := Lib.hid (HS3.out.below hb)
              clear hb
              rw [HPR.out]
              obtain ⟨k0, k1, k2, k3, k4, k5, k6, k7, k8, k9⟩ := HX.out
              go_wp2_with fail
              clear k0 k1 k2 k3 k4 k5 k6 k7 k8 k9
              refine region_o (S := BoxR w.heap.size r A) (.take 0 (.take 1 (.one 2 (.take 3 (.take 4 (.take 5 (.take 6 (.one 7 (.take 8 (.one 9 (.take 10 (.take 11 (.take 12 (.take 13 (.take 14 .nil))))))))))))))) (by kernel_rfl) (by kernel_rfl) (fun _ _ d _ _ h => by cases d <;> exact h) (HX.out.below (Below.refl _ _).drew) ?_
              intro W0 hW0 hS0
              have hBW : Below w12.heap.size w12 W0 := by subst hW0; exact (Below.refl _ _).drew
              clear hW0
              repeat (first
                | (refine ord_skip rfl ?_ ?_; rfl; simp only [List.getElem_toArray, List.getElem_cons_zero, List.getElem_cons_succ, Act.put, List.setIfInBounds_toArray, List.set_cons_zero, List.set_cons_succ])
                | (refine ord_take (v := ?_) rfl ?_ (fun W hW => ?_) ?_; rotate_left; rfl; (obtain ⟨k0, k1, k2, k3, k4, k5, k6, k7, k8, k9⟩ := hW; go_simp; (first | done | with_reducible rfl)); simp only [List.getElem_toArray, List.getElem_cons_zero, List.getElem_cons_succ, Act.put, List.setIfInBounds_toArray, List.set_cons_zero, List.set_cons_succ]))
              (refine ord_op rfl ?_ (fun K hK => ?_); rfl; go_simp; (with_reducible refine (fault_c r A _ (HR.out.below hBW) HL.out.1 HL.out.2.1 HL.out.2.2.1 HL.out.2.2.2).mono ?_); rintro e W1 ⟨rfl, hb⟩; have hS1 := BoxR.below hS0 hb; replace hBW := hBW.trans (hb.mono hBW.size); rw [HFF.out]; clear hb; refine hK _ _ hS1 ?_; clear hK K; try simp only [List.getElem_toArray, List.getElem_cons_zero, List.getElem_cons_succ, Act.put, List.setIfInBounds_toArray, List.set_cons_zero, List.set_cons_succ])
              repeat (first
                | (refine ord_skip rfl ?_ ?_; rfl; simp only [List.getElem_toArray, List.getElem_cons_zero, List.getElem_cons_succ, Act.put, List.setIfInBounds_toArray, List.set_cons_zero, List.set_cons_succ])
                | (refine ord_take (v := ?_) rfl ?_ (fun W hW => ?_) ?_; rotate_left; rfl; (obtain ⟨k0, k1, k2, k3, k4, k5, k6, k7, k8, k9⟩ := hW; go_simp; (first | done | with_reducible rfl)); simp only [List.getElem_toArray, List.getElem_cons_zero, List.getElem_cons_succ, Act.put, List.setIfInBounds_toArray, List.set_cons_zero, List.set_cons_succ]))
              first
                | (refine ord_pass rfl ?_ hS1 ?_; rfl; simp only [List.getElem_toArray, List.getElem_cons_zero, List.getElem_cons_succ, Act.put, List.setIfInBounds_toArray, List.set_cons_zero, List.set_cons_succ]; have W2 := W1; have hS2 := hS1)
                | (refine ord_op rfl ?_ (fun K hK => ?_); rfl; go_simp; (with_reducible refine (IsPlan_c r A ax xs cx _ (HS.out.below hBW) (by have := HXL.out; omega) HOK.out.l0 HOK.out.l5).mono ?_); rintro e W2 ⟨rfl, hb⟩; have hS2 := BoxR.below hS1 hb; replace hBW := hBW.trans (hb.mono hBW.size); clear hb; refine hK _ _ hS2 ?_; clear hK K; try simp only [List.getElem_toArray, List.getElem_cons_zero, List.getElem_cons_succ, Act.put, List.setIfInBounds_toArray, List.set_cons_zero, List.set_cons_succ])
              repeat (first
                | (refine ord_skip rfl ?_ ?_; rfl; simp only [List.getElem_toArray, List.getElem_cons_zero, List.getElem_cons_succ, Act.put, List.setIfInBounds_toArray, List.set_cons_zero, List.set_cons_succ])
                | (refine ord_take (v := ?_) rfl ?_ (fun W hW => ?_) ?_; rotate_left; rfl; (obtain ⟨k0, k1, k2, k3, k4, k5, k6, k7, k8, k9⟩ := hW; go_simp; (first | done | with_reducible rfl)); simp only [List.getElem_toArray, List.getElem_cons_zero, List.getElem_cons_succ, Act.put, List.setIfInBounds_toArray, List.set_cons_zero, List.set_cons_succ]))
              (refine ord_op rfl ?_ (fun K hK => ?_); rfl; go_simp; (with_reducible refine (asked_ok_c r A _ _ (HR.out.below hBW) HL.out HA.out).mono ?_); rintro e W3 ⟨la, lc, rfl, htl, hb⟩; have hS3 := BoxR.below hS2 hb; replace hBW := hBW.trans (hb.mono hBW.size); have HTL := Lib.hid htl; clear htl; clear hb; refine hK _ _ hS3 ?_; clear hK K; try simp only [List.getElem_toArray, List.getElem_cons_zero, List.getElem_cons_succ, Act.put, List.setIfInBounds_toArray, List.set_cons_zero, List.set_cons_succ])
              repeat (first
                | (refine ord_skip rfl ?_ ?_; rfl; simp only [List.getElem_toArray, List.getElem_cons_zero, List.getElem_cons_succ, Act.put, List.setIfInBounds_toArray, List.set_cons_zero, List.set_cons_succ])
                | (refine ord_take (v := ?_) rfl ?_ (fun W hW => ?_) ?_; rotate_left; rfl; (obtain ⟨k0, k1, k2, k3, k4, k5, k6, k7, k8, k9⟩ := hW; go_simp; (first | done | with_reducible rfl)); simp only [List.getElem_toArray, List.getElem_cons_zero, List.getElem_cons_succ, Act.put, List.setIfInBounds_toArray, List.set_cons_zero, List.set_cons_succ]))
              refine ord_nil ?_
              replace HB := Lib.hid (HB.out.trans (hBW.mono HB.out.size))
              replace HX := Lib.hid (HX.out.below hBW)
              replace HR := Lib.hid (HR.out.below hBW)
              replace HS := Lib.hid (HS.out.below hBW)
              replace HR1 := Lib.hid (HR1.out.below hBW)
              replace HS1 := Lib.hid (HS1.out.below hBW)
              replace HR2 := Lib.hid (HR2.out.below hBW)
              replace HS2 := Lib.hid (HS2.out.below hBW)
              replace HR3 := Lib.hid (HR3.out.below hBW)
              replace HS3 := Lib.hid (HS3.out.below hBW)
              clear hBW
              obtain ⟨k0, k1, k2, k3, k4, k5, k6, k7, k8, k9⟩ := HX.out
              go_wp2_with fail
              clear k0 k1 k2 k3 k4 k5 k6 k7 k8 k9
              with_reducible refine (LastsR_c r A la (truthsR r) lc ax xs cx (by have := HXL.out; omega) HOK.out HF.out.1 HF.out.2.1 _ HR.out HTL.out HS.out).mono ?_
              rintro e w13 ⟨rfl, hb⟩
              replace HB := Lib.hid (HB.out.trans (hb.mono HB.out.size))
              replace HX := Lib.hid (HX.out.below hb)
              replace HR := Lib.hid (HR.out.below hb)
              replace HS := Lib.hid (HS.out.below hb)
              replace HR1 := Lib.hid (HR1.out.below hb)
              replace HS1 := Lib.hid (HS1.out.below hb)
              replace HR2 := Lib.hid (HR2.out.below hb)
              replace HS2 := Lib.hid (HS2.out.below hb)
              replace HR3 := Lib.hid (HR3.out.below hb)
              replace HS3 := Lib.hid (HS3.out.below hb)
              replace HTL := Lib.hid (HTL.out.below hb)
              clear hb
              rw [HLS.out]
              obtain ⟨k0, k1, k2, k3, k4, k5, k6, k7, k8, k9⟩ := HX.out
              have hm := HM.out
              go_wp2_with fail
              clear k0 k1 k2 k3 k4 k5 k6 k7 k8 k9
              with_reducible refine (Lacks_c r A la (truthsR r) lc ax xs cx r.size (-1) HOK.out HOK.out.sz.1 HOK.out.sz.2 (by have := HXL.out; omega) HF.out.1 HF.out.2.1 _ HR.out HTL.out HS.out).mono ?_
              rintro e w14 ⟨rfl, hb⟩
              replace HB := Lib.hid (HB.out.trans (hb.mono HB.out.size))
              replace HX := Lib.hid (HX.out.below hb)
              replace HR := Lib.hid (HR.out.below hb)
              replace HS := Lib.hid (HS.out.below hb)
              replace HR1 := Lib.hid (HR1.out.below hb)
              replace HS1 := Lib.hid (HS1.out.below hb)
              replace HR2 := Lib.hid (HR2.out.below hb)
              replace HS2 := Lib.hid (HS2.out.below hb)
              replace HR3 := Lib.hid (HR3.out.below hb)
              replace HS3 := Lib.hid (HS3.out.below hb)
              replace HTL := Lib.hid (HTL.out.below hb)
              clear hb
              rw [HZ.out]
              obtain ⟨k0, k1, k2, k3, k4, k5, k6, k7, k8, k9⟩ := HX.out
              have hz := HZ2.out
              go_wp2_with fail
              clear k0 k1 k2 k3 k4 k5 k6 k7 k8 k9
              with_reducible refine (awake_c _).mono ?_
              rintro e wz ⟨rfl, hbz⟩
              go_wp2_with fail
              go_ret
              exact ⟨rfl, HB.out.trans (hbz.mono HB.out.size)⟩
            · have HPR := Lib.hid (show proveP r xs many = false from by rw [hpr]; simpa using hm)
              have HM := Lib.hid hm
              clear hpr hm
              go_enter Try.func16, Try.ntmps16
              go_wp2_with fail
              obtain ⟨wq, hwq⟩ : ∃ wq, w.alloc (rO26 r A) = wq := ⟨_, rfl⟩
              rw [hwq] at HB HX ⊢
              clear hwq
              replace HR := Lib.hid (HR.out.below HB.out)
              replace HS := Lib.hid (HS.out.below HB.out)
              with_reducible refine (thin_c r A _).mono ?_
              rintro e w3 ⟨rfl, hb⟩
              replace HB := Lib.hid (HB.out.trans (hb.mono HB.out.size))
              replace HX := Lib.hid (HX.out.below hb)
              replace HR := Lib.hid (HR.out.below hb)
              replace HS := Lib.hid (HS.out.below hb)
              clear hb
              rw [HT.out]
              obtain ⟨k0, k1, k2, k3, k4, k5, k6, k7, k8, k9⟩ := HX.out
              have hxx := HXX.out
              go_wp2_with fail
              clear k0 k1 k2 k3 k4 k5 k6 k7 k8 k9
              with_reducible refine (River_c r A _ HR.out HL.out.1 HL.out.2.1 HL.out.2.2.1 HL.out.2.2.2).mono ?_
              rintro e w4 ⟨A1, rfl, hr1, -, hb⟩
              replace HB := Lib.hid (HB.out.trans (hb.mono HB.out.size))
              replace HX := Lib.hid (HX.out.below hb)
              replace HR := Lib.hid (HR.out.below hb)
              replace HS := Lib.hid (HS.out.below hb)
              clear hb
              have HR1 := Lib.hid hr1
              clear hr1
              obtain ⟨k0, k1, k2, k3, k4, k5, k6, k7, k8, k9⟩ := HX.out
              go_wp2_with fail
              clear k0 k1 k2 k3 k4 k5 k6 k7 k8 k9
              with_reducible refine (list_c ax xs cx _ HS.out (by have := HXL.out; omega)).mono ?_
              rintro e w5 ⟨v, rfl, hown, hb⟩
              replace HB := Lib.hid (HB.out.trans (hb.mono HB.out.size))
              replace HX := Lib.hid (HX.out.below hb)
              replace HR := Lib.hid (HR.out.below hb)
              replace HS := Lib.hid (HS.out.below hb)
              replace HR1 := Lib.hid (HR1.out.below hb)
              clear hb
              obtain ⟨s1, cs1, rfl, -, hs2⟩ := own_Sl hown
              clear hown
              have HS1 := Lib.hid hs2
              clear hs2
              obtain ⟨k0, k1, k2, k3, k4, k5, k6, k7, k8, k9⟩ := HX.out
              go_wp2_with fail
              clear k0 k1 k2 k3 k4 k5 k6 k7 k8 k9
              with_reducible refine (Lasts_c r A1 s1 xs cs1 _ HR1.out HL.out.1 HL.out.2.1 HL.out.2.2.1 HL.out.2.2.2 HS1.out (by have := HXL.out; omega)).mono ?_
              rintro e w6 ⟨rfl, hb⟩
              replace HB := Lib.hid (HB.out.trans (hb.mono HB.out.size))
              replace HX := Lib.hid (HX.out.below hb)
              replace HR := Lib.hid (HR.out.below hb)
              replace HS := Lib.hid (HS.out.below hb)
              replace HR1 := Lib.hid (HR1.out.below hb)
              replace HS1 := Lib.hid (HS1.out.below hb)
              clear hb
              rw [HLA.out]
              obtain ⟨k0, k1, k2, k3, k4, k5, k6, k7, k8, k9⟩ := HX.out
              go_wp2_with fail
              clear k0 k1 k2 k3 k4 k5 k6 k7 k8 k9
              with_reducible refine (River_c r A _ HR.out HL.out.1 HL.out.2.1 HL.out.2.2.1 HL.out.2.2.2).mono ?_
              rintro e w7 ⟨A2, rfl, hr1, -, hb⟩
              replace HB := Lib.hid (HB.out.trans (hb.mono HB.out.size))
              replace HX := Lib.hid (HX.out.below hb)
              replace HR := Lib.hid (HR.out.below hb)
              replace HS := Lib.hid (HS.out.below hb)
              replace HR1 := Lib.hid (HR1.out.below hb)
              replace HS1 := Lib.hid (HS1.out.below hb)
              clear hb
              have HR2 := Lib.hid hr1
              clear hr1
              obtain ⟨k0, k1, k2, k3, k4, k5, k6, k7, k8, k9⟩ := HX.out
              go_wp2_with fail
              clear k0 k1 k2 k3 k4 k5 k6 k7 k8 k9
              with_reducible refine (list_c ax xs cx _ HS.out (by have := HXL.out; omega)).mono ?_
              rintro e w8 ⟨v, rfl, hown, hb⟩
              replace HB := Lib.hid (HB.out.trans (hb.mono HB.out.size))
              replace HX := Lib.hid (HX.out.below hb)
              replace HR := Lib.hid (HR.out.below hb)
              replace HS := Lib.hid (HS.out.below hb)
              replace HR1 := Lib.hid (HR1.out.below hb)
              replace HS1 := Lib.hid (HS1.out.below hb)
              replace HR2 := Lib.hid (HR2.out.below hb)
              clear hb
              obtain ⟨s2, cs2, rfl, -, hs2⟩ := own_Sl hown
              clear hown
              have HS2 := Lib.hid hs2
              clear hs2
              obtain ⟨k0, k1, k2, k3, k4, k5, k6, k7, k8, k9⟩ := HX.out
              go_wp2_with fail
              clear k0 k1 k2 k3 k4 k5 k6 k7 k8 k9
              with_reducible refine (Dry_c r A2 s2 xs cs2 _ HR2.out HL.out.1 HL.out.2.1 HL.out.2.2.1 HL.out.2.2.2 HS2.out (by have := HXL.out; omega)).mono ?_
              rintro e w9 ⟨rfl, hb⟩
              replace HB := Lib.hid (HB.out.trans (hb.mono HB.out.size))
              replace HX := Lib.hid (HX.out.below hb)
              replace HR := Lib.hid (HR.out.below hb)
              replace HS := Lib.hid (HS.out.below hb)
              replace HR1 := Lib.hid (HR1.out.below hb)
              replace HS1 := Lib.hid (HS1.out.below hb)
              replace HR2 := Lib.hid (HR2.out.below hb)
              replace HS2 := Lib.hid (HS2.out.below hb)
              clear hb
              rw [HDR.out]
              obtain ⟨k0, k1, k2, k3, k4, k5, k6, k7, k8, k9⟩ := HX.out
              go_wp2_with fail
              clear k0 k1 k2 k3 k4 k5 k6 k7 k8 k9
              with_reducible refine (River_c r A _ HR.out HL.out.1 HL.out.2.1 HL.out.2.2.1 HL.out.2.2.2).mono ?_
              rintro e w10 ⟨A3, rfl, hr1, -, hb⟩
              replace HB := Lib.hid (HB.out.trans (hb.mono HB.out.size))
              replace HX := Lib.hid (HX.out.below hb)
              replace HR := Lib.hid (HR.out.below hb)
              replace HS := Lib.hid (HS.out.below hb)
              replace HR1 := Lib.hid (HR1.out.below hb)
              replace HS1 := Lib.hid (HS1.out.below hb)
              replace HR2 := Lib.hid (HR2.out.below hb)
              replace HS2 := Lib.hid (HS2.out.below hb)
              clear hb
              have HR3 := Lib.hid hr1
              clear hr1
              obtain ⟨k0, k1, k2, k3, k4, k5, k6, k7, k8, k9⟩ := HX.out
              go_wp2_with fail
              clear k0 k1 k2 k3 k4 k5 k6 k7 k8 k9
              with_reducible refine (list_c ax xs cx _ HS.out (by have := HXL.out; omega)).mono ?_
              rintro e w11 ⟨v, rfl, hown, hb⟩
              replace HB := Lib.hid (HB.out.trans (hb.mono HB.out.size))
              replace HX := Lib.hid (HX.out.below hb)
              replace HR := Lib.hid (HR.out.below hb)
              replace HS := Lib.hid (HS.out.below hb)
              replace HR1 := Lib.hid (HR1.out.below hb)
              replace HS1 := Lib.hid (HS1.out.below hb)
              replace HR2 := Lib.hid (HR2.out.below hb)
              replace HS2 := Lib.hid (HS2.out.below hb)
              replace HR3 := Lib.hid (HR3.out.below hb)
              clear hb
              obtain ⟨s3, cs3, rfl, -, hs2⟩ := own_Sl hown
              clear hown
              have HS3 := Lib.hid hs2
              clear hs2
              obtain ⟨k0, k1, k2, k3, k4, k5, k6, k7, k8, k9⟩ := HX.out
              go_wp2_with fail
              clear k0 k1 k2 k3 k4 k5 k6 k7 k8 k9
              with_reducible refine (ProvePlan_c r A3 s3 xs cs3 many _ HR3.out HL.out.1 HL.out.2.1 HL.out.2.2.1 HL.out.2.2.2 HS3.out (by have := HXL.out; omega)).mono ?_
              rintro e w12 ⟨rfl, hb⟩
              replace HB := Lib.hid (HB.out.trans (hb.mono HB.out.size))
              replace HX := Lib.hid (HX.out.below hb)
              replace HR := Lib.hid (HR.out.below hb)
              replace HS := Lib.hid (HS.out.below hb)
              replace HR1 := Lib.hid (HR1.out.below hb)
              replace HS1 := Lib.hid (HS1.out.below hb)
              replace HR2 := Lib.hid (HR2.out.below hb)
              replace HS2 := Lib.hid (HS2.out.below hb)
              replace HR3 := Lib.hid (HR3.out.below hb)
              replace HS3 := Lib.hid (HS3.out.below hb)
              clear hb
              rw [HPR.out]
              obtain ⟨k0, k1, k2, k3, k4, k5, k6, k7, k8, k9⟩ := HX.out
              go_wp2_with fail
              clear k0 k1 k2 k3 k4 k5 k6 k7 k8 k9
              refine region_o (S := BoxR w.heap.size r A) (.take 0 (.take 1 (.one 2 (.take 3 (.take 4 (.take 5 (.take 6 (.one 7 (.take 8 (.one 9 (.take 10 (.take 11 (.take 12 (.take 13 (.take 14 .nil))))))))))))))) (by kernel_rfl) (by kernel_rfl) (fun _ _ d _ _ h => by cases d <;> exact h) (HX.out.below (Below.refl _ _).drew) ?_
              intro W0 hW0 hS0
              have hBW : Below w12.heap.size w12 W0 := by subst hW0; exact (Below.refl _ _).drew
              clear hW0
              repeat (first
                | (refine ord_skip rfl ?_ ?_; rfl; simp only [List.getElem_toArray, List.getElem_cons_zero, List.getElem_cons_succ, Act.put, List.setIfInBounds_toArray, List.set_cons_zero, List.set_cons_succ])
                | (refine ord_take (v := ?_) rfl ?_ (fun W hW => ?_) ?_; rotate_left; rfl; (obtain ⟨k0, k1, k2, k3, k4, k5, k6, k7, k8, k9⟩ := hW; go_simp; (first | done | with_reducible rfl)); simp only [List.getElem_toArray, List.getElem_cons_zero, List.getElem_cons_succ, Act.put, List.setIfInBounds_toArray, List.set_cons_zero, List.set_cons_succ]))
              (refine ord_op rfl ?_ (fun K hK => ?_); rfl; go_simp; (with_reducible refine (fault_c r A _ (HR.out.below hBW) HL.out.1 HL.out.2.1 HL.out.2.2.1 HL.out.2.2.2).mono ?_); rintro e W1 ⟨rfl, hb⟩; have hS1 := BoxR.below hS0 hb; replace hBW := hBW.trans (hb.mono hBW.size); rw [HFF.out]; clear hb; refine hK _ _ hS1 ?_; clear hK K; try simp only [List.getElem_toArray, List.getElem_cons_zero, List.getElem_cons_succ, Act.put, List.setIfInBounds_toArray, List.set_cons_zero, List.set_cons_succ])
              repeat (first
                | (refine ord_skip rfl ?_ ?_; rfl; simp only [List.getElem_toArray, List.getElem_cons_zero, List.getElem_cons_succ, Act.put, List.setIfInBounds_toArray, List.set_cons_zero, List.set_cons_succ])
                | (refine ord_take (v := ?_) rfl ?_ (fun W hW => ?_) ?_; rotate_left; rfl; (obtain ⟨k0, k1, k2, k3, k4, k5, k6, k7, k8, k9⟩ := hW; go_simp; (first | done | with_reducible rfl)); simp only [List.getElem_toArray, List.getElem_cons_zero, List.getElem_cons_succ, Act.put, List.setIfInBounds_toArray, List.set_cons_zero, List.set_cons_succ]))
              first
                | (refine ord_pass rfl ?_ hS1 ?_; rfl; simp only [List.getElem_toArray, List.getElem_cons_zero, List.getElem_cons_succ, Act.put, List.setIfInBounds_toArray, List.set_cons_zero, List.set_cons_succ]; have W2 := W1; have hS2 := hS1)
                | (refine ord_op rfl ?_ (fun K hK => ?_); rfl; go_simp; (with_reducible refine (IsPlan_c r A ax xs cx _ (HS.out.below hBW) (by have := HXL.out; omega) HOK.out.l0 HOK.out.l5).mono ?_); rintro e W2 ⟨rfl, hb⟩; have hS2 := BoxR.below hS1 hb; replace hBW := hBW.trans (hb.mono hBW.size); clear hb; refine hK _ _ hS2 ?_; clear hK K; try simp only [List.getElem_toArray, List.getElem_cons_zero, List.getElem_cons_succ, Act.put, List.setIfInBounds_toArray, List.set_cons_zero, List.set_cons_succ])
              repeat (first
                | (refine ord_skip rfl ?_ ?_; rfl; simp only [List.getElem_toArray, List.getElem_cons_zero, List.getElem_cons_succ, Act.put, List.setIfInBounds_toArray, List.set_cons_zero, List.set_cons_succ])
                | (refine ord_take (v := ?_) rfl ?_ (fun W hW => ?_) ?_; rotate_left; rfl; (obtain ⟨k0, k1, k2, k3, k4, k5, k6, k7, k8, k9⟩ := hW; go_simp; (first | done | with_reducible rfl)); simp only [List.getElem_toArray, List.getElem_cons_zero, List.getElem_cons_succ, Act.put, List.setIfInBounds_toArray, List.set_cons_zero, List.set_cons_succ]))
              (refine ord_op rfl ?_ (fun K hK => ?_); rfl; go_simp; (with_reducible refine (asked_ok_c r A _ _ (HR.out.below hBW) HL.out HA.out).mono ?_); rintro e W3 ⟨la, lc, rfl, htl, hb⟩; have hS3 := BoxR.below hS2 hb; replace hBW := hBW.trans (hb.mono hBW.size); have HTL := Lib.hid htl; clear htl; clear hb; refine hK _ _ hS3 ?_; clear hK K; try simp only [List.getElem_toArray, List.getElem_cons_zero, List.getElem_cons_succ, Act.put, List.setIfInBounds_toArray, List.set_cons_zero, List.set_cons_succ])
              repeat (first
                | (refine ord_skip rfl ?_ ?_; rfl; simp only [List.getElem_toArray, List.getElem_cons_zero, List.getElem_cons_succ, Act.put, List.setIfInBounds_toArray, List.set_cons_zero, List.set_cons_succ])
                | (refine ord_take (v := ?_) rfl ?_ (fun W hW => ?_) ?_; rotate_left; rfl; (obtain ⟨k0, k1, k2, k3, k4, k5, k6, k7, k8, k9⟩ := hW; go_simp; (first | done | with_reducible rfl)); simp only [List.getElem_toArray, List.getElem_cons_zero, List.getElem_cons_succ, Act.put, List.setIfInBounds_toArray, List.set_cons_zero, List.set_cons_succ]))
              refine ord_nil ?_
              replace HB := Lib.hid (HB.out.trans (hBW.mono HB.out.size))
              replace HX := Lib.hid (HX.out.below hBW)
              replace HR := Lib.hid (HR.out.below hBW)
              replace HS := Lib.hid (HS.out.below hBW)
              replace HR1 := Lib.hid (HR1.out.below hBW)
              replace HS1 := Lib.hid (HS1.out.below hBW)
              replace HR2 := Lib.hid (HR2.out.below hBW)
              replace HS2 := Lib.hid (HS2.out.below hBW)
              replace HR3 := Lib.hid (HR3.out.below hBW)
              replace HS3 := Lib.hid (HS3.out.below hBW)
              clear hBW
              obtain ⟨k0, k1, k2, k3, k4, k5, k6, k7, k8, k9⟩ := HX.out
              go_wp2_with fail
              clear k0 k1 k2 k3 k4 k5 k6 k7 k8 k9
              with_reducible refine (LastsR_c r A la (truthsR r) lc ax xs cx (by have := HXL.out; omega) HOK.out HF.out.1 HF.out.2.1 _ HR.out HTL.out HS.out).mono ?_
              rintro e w13 ⟨rfl, hb⟩
              replace HB := Lib.hid (HB.out.trans (hb.mono HB.out.size))
              replace HX := Lib.hid (HX.out.below hb)
              replace HR := Lib.hid (HR.out.below hb)
              replace HS := Lib.hid (HS.out.below hb)
              replace HR1 := Lib.hid (HR1.out.below hb)
              replace HS1 := Lib.hid (HS1.out.below hb)
              replace HR2 := Lib.hid (HR2.out.below hb)
              replace HS2 := Lib.hid (HS2.out.below hb)
              replace HR3 := Lib.hid (HR3.out.below hb)
              replace HS3 := Lib.hid (HS3.out.below hb)
              replace HTL := Lib.hid (HTL.out.below hb)
              clear hb
              rw [HLS.out]
              obtain ⟨k0, k1, k2, k3, k4, k5, k6, k7, k8, k9⟩ := HX.out
              have hm := HM.out
              go_wp2_with fail
              clear k0 k1 k2 k3 k4 k5 k6 k7 k8 k9
              with_reducible refine (Lacks_c r A la (truthsR r) lc ax xs cx r.size (-1) HOK.out HOK.out.sz.1 HOK.out.sz.2 (by have := HXL.out; omega) HF.out.1 HF.out.2.1 _ HR.out HTL.out HS.out).mono ?_
              rintro e w14 ⟨rfl, hb⟩
              replace HB := Lib.hid (HB.out.trans (hb.mono HB.out.size))
              replace HX := Lib.hid (HX.out.below hb)
              replace HR := Lib.hid (HR.out.below hb)
              replace HS := Lib.hid (HS.out.below hb)
              replace HR1 := Lib.hid (HR1.out.below hb)
              replace HS1 := Lib.hid (HS1.out.below hb)
              replace HR2 := Lib.hid (HR2.out.below hb)
              replace HS2 := Lib.hid (HS2.out.below hb)
              replace HR3 := Lib.hid (HR3.out.below hb)
              replace HS3 := Lib.hid (HS3.out.below hb)
              replace HTL := Lib.hid (HTL.out.below hb)
              clear hb
              rw [HZ.out]
              obtain ⟨k0, k1, k2, k3, k4, k5, k6, k7, k8, k9⟩ := HX.out
              have hz := HZ2.out
              go_wp2_with fail
              clear k0 k1 k2 k3 k4 k5 k6 k7 k8 k9
              with_reducible refine (awake_c _).mono ?_
              rintro e wz ⟨rfl, hbz⟩
              go_wp2_with fail
              go_ret
              exact ⟨rfl, HB.out.trans (hbz.mono HB.out.size)⟩
          · rw [if_neg hz] at hdr
            have HLS := Lib.hid hV
            have HLA := Lib.hid hla
            have HDR := Lib.hid hdr
            have HZ2 := Lib.hid (show Z ≤ r.last from by omega)
            have HV := Lib.hid (show (V == 1) = false from by rw [beq_eq_false_iff_ne]; exact fun h => hz (hone.1 h))
            have HPR := Lib.hid (show proveP r xs many = false from by unfold proveP; rw [hdr]; simp)
            clear hV hla hdr hone hz
            go_enter Try.func16, Try.ntmps16
            go_wp2_with fail
            obtain ⟨wq, hwq⟩ : ∃ wq, w.alloc (rO26 r A) = wq := ⟨_, rfl⟩
            rw [hwq] at HB HX ⊢
            clear hwq
            replace HR := Lib.hid (HR.out.below HB.out)
            replace HS := Lib.hid (HS.out.below HB.out)
            with_reducible refine (thin_c r A _).mono ?_
            rintro e w3 ⟨rfl, hb⟩
            replace HB := Lib.hid (HB.out.trans (hb.mono HB.out.size))
            replace HX := Lib.hid (HX.out.below hb)
            replace HR := Lib.hid (HR.out.below hb)
            replace HS := Lib.hid (HS.out.below hb)
            clear hb
            rw [HT.out]
            obtain ⟨k0, k1, k2, k3, k4, k5, k6, k7, k8, k9⟩ := HX.out
            have hxx := HXX.out
            go_wp2_with fail
            clear k0 k1 k2 k3 k4 k5 k6 k7 k8 k9
            with_reducible refine (River_c r A _ HR.out HL.out.1 HL.out.2.1 HL.out.2.2.1 HL.out.2.2.2).mono ?_
            rintro e w4 ⟨A1, rfl, hr1, -, hb⟩
            replace HB := Lib.hid (HB.out.trans (hb.mono HB.out.size))
            replace HX := Lib.hid (HX.out.below hb)
            replace HR := Lib.hid (HR.out.below hb)
            replace HS := Lib.hid (HS.out.below hb)
            clear hb
            have HR1 := Lib.hid hr1
            clear hr1
            obtain ⟨k0, k1, k2, k3, k4, k5, k6, k7, k8, k9⟩ := HX.out
            go_wp2_with fail
            clear k0 k1 k2 k3 k4 k5 k6 k7 k8 k9
            with_reducible refine (list_c ax xs cx _ HS.out (by have := HXL.out; omega)).mono ?_
            rintro e w5 ⟨v, rfl, hown, hb⟩
            replace HB := Lib.hid (HB.out.trans (hb.mono HB.out.size))
            replace HX := Lib.hid (HX.out.below hb)
            replace HR := Lib.hid (HR.out.below hb)
            replace HS := Lib.hid (HS.out.below hb)
            replace HR1 := Lib.hid (HR1.out.below hb)
            clear hb
            obtain ⟨s1, cs1, rfl, -, hs2⟩ := own_Sl hown
            clear hown
            have HS1 := Lib.hid hs2
            clear hs2
            obtain ⟨k0, k1, k2, k3, k4, k5, k6, k7, k8, k9⟩ := HX.out
            go_wp2_with fail
            clear k0 k1 k2 k3 k4 k5 k6 k7 k8 k9
            with_reducible refine (Lasts_c r A1 s1 xs cs1 _ HR1.out HL.out.1 HL.out.2.1 HL.out.2.2.1 HL.out.2.2.2 HS1.out (by have := HXL.out; omega)).mono ?_
            rintro e w6 ⟨rfl, hb⟩
            replace HB := Lib.hid (HB.out.trans (hb.mono HB.out.size))
            replace HX := Lib.hid (HX.out.below hb)
            replace HR := Lib.hid (HR.out.below hb)
            replace HS := Lib.hid (HS.out.below hb)
            replace HR1 := Lib.hid (HR1.out.below hb)
            replace HS1 := Lib.hid (HS1.out.below hb)
            clear hb
            rw [HLA.out]
            obtain ⟨k0, k1, k2, k3, k4, k5, k6, k7, k8, k9⟩ := HX.out
            go_wp2_with fail
            clear k0 k1 k2 k3 k4 k5 k6 k7 k8 k9
            with_reducible refine (River_c r A _ HR.out HL.out.1 HL.out.2.1 HL.out.2.2.1 HL.out.2.2.2).mono ?_
            rintro e w7 ⟨A2, rfl, hr1, -, hb⟩
            replace HB := Lib.hid (HB.out.trans (hb.mono HB.out.size))
            replace HX := Lib.hid (HX.out.below hb)
            replace HR := Lib.hid (HR.out.below hb)
            replace HS := Lib.hid (HS.out.below hb)
            replace HR1 := Lib.hid (HR1.out.below hb)
            replace HS1 := Lib.hid (HS1.out.below hb)
            clear hb
            have HR2 := Lib.hid hr1
            clear hr1
            obtain ⟨k0, k1, k2, k3, k4, k5, k6, k7, k8, k9⟩ := HX.out
            go_wp2_with fail
            clear k0 k1 k2 k3 k4 k5 k6 k7 k8 k9
            with_reducible refine (list_c ax xs cx _ HS.out (by have := HXL.out; omega)).mono ?_
            rintro e w8 ⟨v, rfl, hown, hb⟩
            replace HB := Lib.hid (HB.out.trans (hb.mono HB.out.size))
            replace HX := Lib.hid (HX.out.below hb)
            replace HR := Lib.hid (HR.out.below hb)
            replace HS := Lib.hid (HS.out.below hb)
            replace HR1 := Lib.hid (HR1.out.below hb)
            replace HS1 := Lib.hid (HS1.out.below hb)
            replace HR2 := Lib.hid (HR2.out.below hb)
            clear hb
            obtain ⟨s2, cs2, rfl, -, hs2⟩ := own_Sl hown
            clear hown
            have HS2 := Lib.hid hs2
            clear hs2
            obtain ⟨k0, k1, k2, k3, k4, k5, k6, k7, k8, k9⟩ := HX.out
            go_wp2_with fail
            clear k0 k1 k2 k3 k4 k5 k6 k7 k8 k9
            with_reducible refine (Dry_c r A2 s2 xs cs2 _ HR2.out HL.out.1 HL.out.2.1 HL.out.2.2.1 HL.out.2.2.2 HS2.out (by have := HXL.out; omega)).mono ?_
            rintro e w9 ⟨rfl, hb⟩
            replace HB := Lib.hid (HB.out.trans (hb.mono HB.out.size))
            replace HX := Lib.hid (HX.out.below hb)
            replace HR := Lib.hid (HR.out.below hb)
            replace HS := Lib.hid (HS.out.below hb)
            replace HR1 := Lib.hid (HR1.out.below hb)
            replace HS1 := Lib.hid (HS1.out.below hb)
            replace HR2 := Lib.hid (HR2.out.below hb)
            replace HS2 := Lib.hid (HS2.out.below hb)
            clear hb
            rw [HDR.out]
            obtain ⟨k0, k1, k2, k3, k4, k5, k6, k7, k8, k9⟩ := HX.out
            go_wp2_with fail
            clear k0 k1 k2 k3 k4 k5 k6 k7 k8 k9
            with_reducible refine (River_c r A _ HR.out HL.out.1 HL.out.2.1 HL.out.2.2.1 HL.out.2.2.2).mono ?_
            rintro e w10 ⟨A3, rfl, hr1, -, hb⟩
            replace HB := Lib.hid (HB.out.trans (hb.mono HB.out.size))
            replace HX := Lib.hid (HX.out.below hb)
            replace HR := Lib.hid (HR.out.below hb)
            replace HS := Lib.hid (HS.out.below hb)
            replace HR1 := Lib.hid (HR1.out.below hb)
            replace HS1 := Lib.hid (HS1.out.below hb)
            replace HR2 := Lib.hid (HR2.out.below hb)
            replace HS2 := Lib.hid (HS2.out.below hb)
            clear hb
            have HR3 := Lib.hid hr1
            clear hr1
            obtain ⟨k0, k1, k2, k3, k4, k5, k6, k7, k8, k9⟩ := HX.out
            go_wp2_with fail
            clear k0 k1 k2 k3 k4 k5 k6 k7 k8 k9
            with_reducible refine (list_c ax xs cx _ HS.out (by have := HXL.out; omega)).mono ?_
            rintro e w11 ⟨v, rfl, hown, hb⟩
            replace HB := Lib.hid (HB.out.trans (hb.mono HB.out.size))
            replace HX := Lib.hid (HX.out.below hb)
            replace HR := Lib.hid (HR.out.below hb)
            replace HS := Lib.hid (HS.out.below hb)
            replace HR1 := Lib.hid (HR1.out.below hb)
            replace HS1 := Lib.hid (HS1.out.below hb)
            replace HR2 := Lib.hid (HR2.out.below hb)
            replace HS2 := Lib.hid (HS2.out.below hb)
            replace HR3 := Lib.hid (HR3.out.below hb)
            clear hb
            obtain ⟨s3, cs3, rfl, -, hs2⟩ := own_Sl hown
            clear hown
            have HS3 := Lib.hid hs2
            clear hs2
            obtain ⟨k0, k1, k2, k3, k4, k5, k6, k7, k8, k9⟩ := HX.out
            go_wp2_with fail
            clear k0 k1 k2 k3 k4 k5 k6 k7 k8 k9
            with_reducible refine (ProvePlan_c r A3 s3 xs cs3 many _ HR3.out HL.out.1 HL.out.2.1 HL.out.2.2.1 HL.out.2.2.2 HS3.out (by have := HXL.out; omega)).mono ?_
            rintro e w12 ⟨rfl, hb⟩
            replace HB := Lib.hid (HB.out.trans (hb.mono HB.out.size))
            replace HX := Lib.hid (HX.out.below hb)
            replace HR := Lib.hid (HR.out.below hb)
            replace HS := Lib.hid (HS.out.below hb)
            replace HR1 := Lib.hid (HR1.out.below hb)
            replace HS1 := Lib.hid (HS1.out.below hb)
            replace HR2 := Lib.hid (HR2.out.below hb)
            replace HS2 := Lib.hid (HS2.out.below hb)
            replace HR3 := Lib.hid (HR3.out.below hb)
            replace HS3 := Lib.hid (HS3.out.below hb)
            clear hb
            rw [HPR.out]
            obtain ⟨k0, k1, k2, k3, k4, k5, k6, k7, k8, k9⟩ := HX.out
            go_wp2_with fail
            clear k0 k1 k2 k3 k4 k5 k6 k7 k8 k9
            refine region_o (S := BoxR w.heap.size r A) (.take 0 (.take 1 (.one 2 (.take 3 (.take 4 (.take 5 (.take 6 (.one 7 (.take 8 (.one 9 (.take 10 (.take 11 (.take 12 (.take 13 (.take 14 .nil))))))))))))))) (by kernel_rfl) (by kernel_rfl) (fun _ _ d _ _ h => by cases d <;> exact h) (HX.out.below (Below.refl _ _).drew) ?_
            intro W0 hW0 hS0
            have hBW : Below w12.heap.size w12 W0 := by subst hW0; exact (Below.refl _ _).drew
            clear hW0
            repeat (first
              | (refine ord_skip rfl ?_ ?_; rfl; simp only [List.getElem_toArray, List.getElem_cons_zero, List.getElem_cons_succ, Act.put, List.setIfInBounds_toArray, List.set_cons_zero, List.set_cons_succ])
              | (refine ord_take (v := ?_) rfl ?_ (fun W hW => ?_) ?_; rotate_left; rfl; (obtain ⟨k0, k1, k2, k3, k4, k5, k6, k7, k8, k9⟩ := hW; go_simp; (first | done | with_reducible rfl)); simp only [List.getElem_toArray, List.getElem_cons_zero, List.getElem_cons_succ, Act.put, List.setIfInBounds_toArray, List.set_cons_zero, List.set_cons_succ]))
            (refine ord_op rfl ?_ (fun K hK => ?_); rfl; go_simp; (with_reducible refine (fault_c r A _ (HR.out.below hBW) HL.out.1 HL.out.2.1 HL.out.2.2.1 HL.out.2.2.2).mono ?_); rintro e W1 ⟨rfl, hb⟩; have hS1 := BoxR.below hS0 hb; replace hBW := hBW.trans (hb.mono hBW.size); rw [HFF.out]; clear hb; refine hK _ _ hS1 ?_; clear hK K; try simp only [List.getElem_toArray, List.getElem_cons_zero, List.getElem_cons_succ, Act.put, List.setIfInBounds_toArray, List.set_cons_zero, List.set_cons_succ])
            repeat (first
              | (refine ord_skip rfl ?_ ?_; rfl; simp only [List.getElem_toArray, List.getElem_cons_zero, List.getElem_cons_succ, Act.put, List.setIfInBounds_toArray, List.set_cons_zero, List.set_cons_succ])
              | (refine ord_take (v := ?_) rfl ?_ (fun W hW => ?_) ?_; rotate_left; rfl; (obtain ⟨k0, k1, k2, k3, k4, k5, k6, k7, k8, k9⟩ := hW; go_simp; (first | done | with_reducible rfl)); simp only [List.getElem_toArray, List.getElem_cons_zero, List.getElem_cons_succ, Act.put, List.setIfInBounds_toArray, List.set_cons_zero, List.set_cons_succ]))
            first
              | (refine ord_pass rfl ?_ hS1 ?_; rfl; simp only [List.getElem_toArray, List.getElem_cons_zero, List.getElem_cons_succ, Act.put, List.setIfInBounds_toArray, List.set_cons_zero, List.set_cons_succ]; have W2 := W1; have hS2 := hS1)
              | (refine ord_op rfl ?_ (fun K hK => ?_); rfl; go_simp; (with_reducible refine (IsPlan_c r A ax xs cx _ (HS.out.below hBW) (by have := HXL.out; omega) HOK.out.l0 HOK.out.l5).mono ?_); rintro e W2 ⟨rfl, hb⟩; have hS2 := BoxR.below hS1 hb; replace hBW := hBW.trans (hb.mono hBW.size); clear hb; refine hK _ _ hS2 ?_; clear hK K; try simp only [List.getElem_toArray, List.getElem_cons_zero, List.getElem_cons_succ, Act.put, List.setIfInBounds_toArray, List.set_cons_zero, List.set_cons_succ])
            repeat (first
              | (refine ord_skip rfl ?_ ?_; rfl; simp only [List.getElem_toArray, List.getElem_cons_zero, List.getElem_cons_succ, Act.put, List.setIfInBounds_toArray, List.set_cons_zero, List.set_cons_succ])
              | (refine ord_take (v := ?_) rfl ?_ (fun W hW => ?_) ?_; rotate_left; rfl; (obtain ⟨k0, k1, k2, k3, k4, k5, k6, k7, k8, k9⟩ := hW; go_simp; (first | done | with_reducible rfl)); simp only [List.getElem_toArray, List.getElem_cons_zero, List.getElem_cons_succ, Act.put, List.setIfInBounds_toArray, List.set_cons_zero, List.set_cons_succ]))
            (refine ord_op rfl ?_ (fun K hK => ?_); rfl; go_simp; (with_reducible refine (asked_ok_c r A _ _ (HR.out.below hBW) HL.out HA.out).mono ?_); rintro e W3 ⟨la, lc, rfl, htl, hb⟩; have hS3 := BoxR.below hS2 hb; replace hBW := hBW.trans (hb.mono hBW.size); have HTL := Lib.hid htl; clear htl; clear hb; refine hK _ _ hS3 ?_; clear hK K; try simp only [List.getElem_toArray, List.getElem_cons_zero, List.getElem_cons_succ, Act.put, List.setIfInBounds_toArray, List.set_cons_zero, List.set_cons_succ])
            repeat (first
              | (refine ord_skip rfl ?_ ?_; rfl; simp only [List.getElem_toArray, List.getElem_cons_zero, List.getElem_cons_succ, Act.put, List.setIfInBounds_toArray, List.set_cons_zero, List.set_cons_succ])
              | (refine ord_take (v := ?_) rfl ?_ (fun W hW => ?_) ?_; rotate_left; rfl; (obtain ⟨k0, k1, k2, k3, k4, k5, k6, k7, k8, k9⟩ := hW; go_simp; (first | done | with_reducible rfl)); simp only [List.getElem_toArray, List.getElem_cons_zero, List.getElem_cons_succ, Act.put, List.setIfInBounds_toArray, List.set_cons_zero, List.set_cons_succ]))
            refine ord_nil ?_
            replace HB := Lib.hid (HB.out.trans (hBW.mono HB.out.size))
            replace HX := Lib.hid (HX.out.below hBW)
            replace HR := Lib.hid (HR.out.below hBW)
            replace HS := Lib.hid (HS.out.below hBW)
            replace HR1 := Lib.hid (HR1.out.below hBW)
            replace HS1 := Lib.hid (HS1.out.below hBW)
            replace HR2 := Lib.hid (HR2.out.below hBW)
            replace HS2 := Lib.hid (HS2.out.below hBW)
            replace HR3 := Lib.hid (HR3.out.below hBW)
            replace HS3 := Lib.hid (HS3.out.below hBW)
            clear hBW
            obtain ⟨k0, k1, k2, k3, k4, k5, k6, k7, k8, k9⟩ := HX.out
            go_wp2_with fail
            clear k0 k1 k2 k3 k4 k5 k6 k7 k8 k9
            with_reducible refine (LastsR_c r A la (truthsR r) lc ax xs cx (by have := HXL.out; omega) HOK.out HF.out.1 HF.out.2.1 _ HR.out HTL.out HS.out).mono ?_
            rintro e w13 ⟨rfl, hb⟩
            replace HB := Lib.hid (HB.out.trans (hb.mono HB.out.size))
            replace HX := Lib.hid (HX.out.below hb)
            replace HR := Lib.hid (HR.out.below hb)
            replace HS := Lib.hid (HS.out.below hb)
            replace HR1 := Lib.hid (HR1.out.below hb)
            replace HS1 := Lib.hid (HS1.out.below hb)
            replace HR2 := Lib.hid (HR2.out.below hb)
            replace HS2 := Lib.hid (HS2.out.below hb)
            replace HR3 := Lib.hid (HR3.out.below hb)
            replace HS3 := Lib.hid (HS3.out.below hb)
            replace HTL := Lib.hid (HTL.out.below hb)
            clear hb
            rw [HLS.out]
            obtain ⟨k0, k1, k2, k3, k4, k5, k6, k7, k8, k9⟩ := HX.out
            have hv := HV.out
            go_wp2_with fail
            clear k0 k1 k2 k3 k4 k5 k6 k7 k8 k9
            with_reducible refine (Lacks_c r A la (truthsR r) lc ax xs cx r.size (-1) HOK.out HOK.out.sz.1 HOK.out.sz.2 (by have := HXL.out; omega) HF.out.1 HF.out.2.1 _ HR.out HTL.out HS.out).mono ?_
            rintro e w14 ⟨rfl, hb⟩
            replace HB := Lib.hid (HB.out.trans (hb.mono HB.out.size))
            replace HX := Lib.hid (HX.out.below hb)
            replace HR := Lib.hid (HR.out.below hb)
            replace HS := Lib.hid (HS.out.below hb)
            replace HR1 := Lib.hid (HR1.out.below hb)
            replace HS1 := Lib.hid (HS1.out.below hb)
            replace HR2 := Lib.hid (HR2.out.below hb)
            replace HS2 := Lib.hid (HS2.out.below hb)
            replace HR3 := Lib.hid (HR3.out.below hb)
            replace HS3 := Lib.hid (HS3.out.below hb)
            replace HTL := Lib.hid (HTL.out.below hb)
            clear hb
            rw [HZ.out]
            obtain ⟨k0, k1, k2, k3, k4, k5, k6, k7, k8, k9⟩ := HX.out
            have hz := HZ2.out
            go_wp2_with fail
            clear k0 k1 k2 k3 k4 k5 k6 k7 k8 k9
            with_reducible refine (awake_c _).mono ?_
            rintro e wz ⟨rfl, hbz⟩
            go_wp2_with fail
            go_ret
            exact ⟨rfl, HB.out.trans (hbz.mono HB.out.size)⟩
        · have hN1 : (N == 0) = false := by simpa using hn
          have HN1 := Lib.hid hn
          have HLA := Lib.hid (show lastsA r xs = (0, N) from by rw [lasts_err (by rw [← hN]; exact hn), ← hN])
          have hdr : dryA r xs = (0, N) := by rw [dry_err (by rw [← hN]; exact hn), ← hN]
          have HDR := Lib.hid hdr
          have HPR := Lib.hid (prove_err (many := many) hdr (by rw [hN]; exact askR_7 _ _))
          clear hn hN hdr
          go_enter Try.func16, Try.ntmps16
          go_wp2_with fail
          obtain ⟨wq, hwq⟩ : ∃ wq, w.alloc (rO26 r A) = wq := ⟨_, rfl⟩
          rw [hwq] at HB HX ⊢
          clear hwq
          replace HR := Lib.hid (HR.out.below HB.out)
          replace HS := Lib.hid (HS.out.below HB.out)
          with_reducible refine (thin_c r A _).mono ?_
          rintro e w3 ⟨rfl, hb⟩
          replace HB := Lib.hid (HB.out.trans (hb.mono HB.out.size))
          replace HX := Lib.hid (HX.out.below hb)
          replace HR := Lib.hid (HR.out.below hb)
          replace HS := Lib.hid (HS.out.below hb)
          clear hb
          rw [HT.out]
          obtain ⟨k0, k1, k2, k3, k4, k5, k6, k7, k8, k9⟩ := HX.out
          have hxx := HXX.out
          go_wp2_with fail
          clear k0 k1 k2 k3 k4 k5 k6 k7 k8 k9
          with_reducible refine (River_c r A _ HR.out HL.out.1 HL.out.2.1 HL.out.2.2.1 HL.out.2.2.2).mono ?_
          rintro e w4 ⟨A1, rfl, hr1, -, hb⟩
          replace HB := Lib.hid (HB.out.trans (hb.mono HB.out.size))
          replace HX := Lib.hid (HX.out.below hb)
          replace HR := Lib.hid (HR.out.below hb)
          replace HS := Lib.hid (HS.out.below hb)
          clear hb
          have HR1 := Lib.hid hr1
          clear hr1
          obtain ⟨k0, k1, k2, k3, k4, k5, k6, k7, k8, k9⟩ := HX.out
          go_wp2_with fail
          clear k0 k1 k2 k3 k4 k5 k6 k7 k8 k9
          with_reducible refine (list_c ax xs cx _ HS.out (by have := HXL.out; omega)).mono ?_
          rintro e w5 ⟨v, rfl, hown, hb⟩
          replace HB := Lib.hid (HB.out.trans (hb.mono HB.out.size))
          replace HX := Lib.hid (HX.out.below hb)
          replace HR := Lib.hid (HR.out.below hb)
          replace HS := Lib.hid (HS.out.below hb)
          replace HR1 := Lib.hid (HR1.out.below hb)
          clear hb
          obtain ⟨s1, cs1, rfl, -, hs2⟩ := own_Sl hown
          clear hown
          have HS1 := Lib.hid hs2
          clear hs2
          obtain ⟨k0, k1, k2, k3, k4, k5, k6, k7, k8, k9⟩ := HX.out
          go_wp2_with fail
          clear k0 k1 k2 k3 k4 k5 k6 k7 k8 k9
          with_reducible refine (Lasts_c r A1 s1 xs cs1 _ HR1.out HL.out.1 HL.out.2.1 HL.out.2.2.1 HL.out.2.2.2 HS1.out (by have := HXL.out; omega)).mono ?_
          rintro e w6 ⟨rfl, hb⟩
          replace HB := Lib.hid (HB.out.trans (hb.mono HB.out.size))
          replace HX := Lib.hid (HX.out.below hb)
          replace HR := Lib.hid (HR.out.below hb)
          replace HS := Lib.hid (HS.out.below hb)
          replace HR1 := Lib.hid (HR1.out.below hb)
          replace HS1 := Lib.hid (HS1.out.below hb)
          clear hb
          rw [HLA.out]
          obtain ⟨k0, k1, k2, k3, k4, k5, k6, k7, k8, k9⟩ := HX.out
          go_wp2_with fail
          clear k0 k1 k2 k3 k4 k5 k6 k7 k8 k9
          with_reducible refine (River_c r A _ HR.out HL.out.1 HL.out.2.1 HL.out.2.2.1 HL.out.2.2.2).mono ?_
          rintro e w7 ⟨A2, rfl, hr1, -, hb⟩
          replace HB := Lib.hid (HB.out.trans (hb.mono HB.out.size))
          replace HX := Lib.hid (HX.out.below hb)
          replace HR := Lib.hid (HR.out.below hb)
          replace HS := Lib.hid (HS.out.below hb)
          replace HR1 := Lib.hid (HR1.out.below hb)
          replace HS1 := Lib.hid (HS1.out.below hb)
          clear hb
          have HR2 := Lib.hid hr1
          clear hr1
          obtain ⟨k0, k1, k2, k3, k4, k5, k6, k7, k8, k9⟩ := HX.out
          go_wp2_with fail
          clear k0 k1 k2 k3 k4 k5 k6 k7 k8 k9
          with_reducible refine (list_c ax xs cx _ HS.out (by have := HXL.out; omega)).mono ?_
          rintro e w8 ⟨v, rfl, hown, hb⟩
          replace HB := Lib.hid (HB.out.trans (hb.mono HB.out.size))
          replace HX := Lib.hid (HX.out.below hb)
          replace HR := Lib.hid (HR.out.below hb)
          replace HS := Lib.hid (HS.out.below hb)
          replace HR1 := Lib.hid (HR1.out.below hb)
          replace HS1 := Lib.hid (HS1.out.below hb)
          replace HR2 := Lib.hid (HR2.out.below hb)
          clear hb
          obtain ⟨s2, cs2, rfl, -, hs2⟩ := own_Sl hown
          clear hown
          have HS2 := Lib.hid hs2
          clear hs2
          obtain ⟨k0, k1, k2, k3, k4, k5, k6, k7, k8, k9⟩ := HX.out
          go_wp2_with fail
          clear k0 k1 k2 k3 k4 k5 k6 k7 k8 k9
          with_reducible refine (Dry_c r A2 s2 xs cs2 _ HR2.out HL.out.1 HL.out.2.1 HL.out.2.2.1 HL.out.2.2.2 HS2.out (by have := HXL.out; omega)).mono ?_
          rintro e w9 ⟨rfl, hb⟩
          replace HB := Lib.hid (HB.out.trans (hb.mono HB.out.size))
          replace HX := Lib.hid (HX.out.below hb)
          replace HR := Lib.hid (HR.out.below hb)
          replace HS := Lib.hid (HS.out.below hb)
          replace HR1 := Lib.hid (HR1.out.below hb)
          replace HS1 := Lib.hid (HS1.out.below hb)
          replace HR2 := Lib.hid (HR2.out.below hb)
          replace HS2 := Lib.hid (HS2.out.below hb)
          clear hb
          rw [HDR.out]
          obtain ⟨k0, k1, k2, k3, k4, k5, k6, k7, k8, k9⟩ := HX.out
          go_wp2_with fail
          clear k0 k1 k2 k3 k4 k5 k6 k7 k8 k9
          with_reducible refine (River_c r A _ HR.out HL.out.1 HL.out.2.1 HL.out.2.2.1 HL.out.2.2.2).mono ?_
          rintro e w10 ⟨A3, rfl, hr1, -, hb⟩
          replace HB := Lib.hid (HB.out.trans (hb.mono HB.out.size))
          replace HX := Lib.hid (HX.out.below hb)
          replace HR := Lib.hid (HR.out.below hb)
          replace HS := Lib.hid (HS.out.below hb)
          replace HR1 := Lib.hid (HR1.out.below hb)
          replace HS1 := Lib.hid (HS1.out.below hb)
          replace HR2 := Lib.hid (HR2.out.below hb)
          replace HS2 := Lib.hid (HS2.out.below hb)
          clear hb
          have HR3 := Lib.hid hr1
          clear hr1
          obtain ⟨k0, k1, k2, k3, k4, k5, k6, k7, k8, k9⟩ := HX.out
          go_wp2_with fail
          clear k0 k1 k2 k3 k4 k5 k6 k7 k8 k9
          with_reducible refine (list_c ax xs cx _ HS.out (by have := HXL.out; omega)).mono ?_
          rintro e w11 ⟨v, rfl, hown, hb⟩
          replace HB := Lib.hid (HB.out.trans (hb.mono HB.out.size))
          replace HX := Lib.hid (HX.out.below hb)
          replace HR := Lib.hid (HR.out.below hb)
          replace HS := Lib.hid (HS.out.below hb)
          replace HR1 := Lib.hid (HR1.out.below hb)
          replace HS1 := Lib.hid (HS1.out.below hb)
          replace HR2 := Lib.hid (HR2.out.below hb)
          replace HS2 := Lib.hid (HS2.out.below hb)
          replace HR3 := Lib.hid (HR3.out.below hb)
          clear hb
          obtain ⟨s3, cs3, rfl, -, hs2⟩ := own_Sl hown
          clear hown
          have HS3 := Lib.hid hs2
          clear hs2
          obtain ⟨k0, k1, k2, k3, k4, k5, k6, k7, k8, k9⟩ := HX.out
          go_wp2_with fail
          clear k0 k1 k2 k3 k4 k5 k6 k7 k8 k9
          with_reducible refine (ProvePlan_c r A3 s3 xs cs3 many _ HR3.out HL.out.1 HL.out.2.1 HL.out.2.2.1 HL.out.2.2.2 HS3.out (by have := HXL.out; omega)).mono ?_
          rintro e w12 ⟨rfl, hb⟩
          replace HB := Lib.hid (HB.out.trans (hb.mono HB.out.size))
          replace HX := Lib.hid (HX.out.below hb)
          replace HR := Lib.hid (HR.out.below hb)
          replace HS := Lib.hid (HS.out.below hb)
          replace HR1 := Lib.hid (HR1.out.below hb)
          replace HS1 := Lib.hid (HS1.out.below hb)
          replace HR2 := Lib.hid (HR2.out.below hb)
          replace HS2 := Lib.hid (HS2.out.below hb)
          replace HR3 := Lib.hid (HR3.out.below hb)
          replace HS3 := Lib.hid (HS3.out.below hb)
          clear hb
          rw [HPR.out]
          obtain ⟨k0, k1, k2, k3, k4, k5, k6, k7, k8, k9⟩ := HX.out
          go_wp2_with fail
          clear k0 k1 k2 k3 k4 k5 k6 k7 k8 k9
          refine region_o (S := BoxR w.heap.size r A) (.take 0 (.take 1 (.one 2 (.take 3 (.take 4 (.take 5 (.take 6 (.one 7 (.take 8 (.one 9 (.take 10 (.take 11 (.take 12 (.take 13 (.take 14 .nil))))))))))))))) (by kernel_rfl) (by kernel_rfl) (fun _ _ d _ _ h => by cases d <;> exact h) (HX.out.below (Below.refl _ _).drew) ?_
          intro W0 hW0 hS0
          have hBW : Below w12.heap.size w12 W0 := by subst hW0; exact (Below.refl _ _).drew
          clear hW0
          repeat (first
            | (refine ord_skip rfl ?_ ?_; rfl; simp only [List.getElem_toArray, List.getElem_cons_zero, List.getElem_cons_succ, Act.put, List.setIfInBounds_toArray, List.set_cons_zero, List.set_cons_succ])
            | (refine ord_take (v := ?_) rfl ?_ (fun W hW => ?_) ?_; rotate_left; rfl; (obtain ⟨k0, k1, k2, k3, k4, k5, k6, k7, k8, k9⟩ := hW; go_simp; (first | done | with_reducible rfl)); simp only [List.getElem_toArray, List.getElem_cons_zero, List.getElem_cons_succ, Act.put, List.setIfInBounds_toArray, List.set_cons_zero, List.set_cons_succ]))
          (refine ord_op rfl ?_ (fun K hK => ?_); rfl; go_simp; (with_reducible refine (fault_c r A _ (HR.out.below hBW) HL.out.1 HL.out.2.1 HL.out.2.2.1 HL.out.2.2.2).mono ?_); rintro e W1 ⟨rfl, hb⟩; have hS1 := BoxR.below hS0 hb; replace hBW := hBW.trans (hb.mono hBW.size); rw [HFF.out]; clear hb; refine hK _ _ hS1 ?_; clear hK K; try simp only [List.getElem_toArray, List.getElem_cons_zero, List.getElem_cons_succ, Act.put, List.setIfInBounds_toArray, List.set_cons_zero, List.set_cons_succ])
          repeat (first
            | (refine ord_skip rfl ?_ ?_; rfl; simp only [List.getElem_toArray, List.getElem_cons_zero, List.getElem_cons_succ, Act.put, List.setIfInBounds_toArray, List.set_cons_zero, List.set_cons_succ])
            | (refine ord_take (v := ?_) rfl ?_ (fun W hW => ?_) ?_; rotate_left; rfl; (obtain ⟨k0, k1, k2, k3, k4, k5, k6, k7, k8, k9⟩ := hW; go_simp; (first | done | with_reducible rfl)); simp only [List.getElem_toArray, List.getElem_cons_zero, List.getElem_cons_succ, Act.put, List.setIfInBounds_toArray, List.set_cons_zero, List.set_cons_succ]))
          first
            | (refine ord_pass rfl ?_ hS1 ?_; rfl; simp only [List.getElem_toArray, List.getElem_cons_zero, List.getElem_cons_succ, Act.put, List.setIfInBounds_toArray, List.set_cons_zero, List.set_cons_succ]; have W2 := W1; have hS2 := hS1)
            | (refine ord_op rfl ?_ (fun K hK => ?_); rfl; go_simp; (with_reducible refine (IsPlan_c r A ax xs cx _ (HS.out.below hBW) (by have := HXL.out; omega) HOK.out.l0 HOK.out.l5).mono ?_); rintro e W2 ⟨rfl, hb⟩; have hS2 := BoxR.below hS1 hb; replace hBW := hBW.trans (hb.mono hBW.size); clear hb; refine hK _ _ hS2 ?_; clear hK K; try simp only [List.getElem_toArray, List.getElem_cons_zero, List.getElem_cons_succ, Act.put, List.setIfInBounds_toArray, List.set_cons_zero, List.set_cons_succ])
          repeat (first
            | (refine ord_skip rfl ?_ ?_; rfl; simp only [List.getElem_toArray, List.getElem_cons_zero, List.getElem_cons_succ, Act.put, List.setIfInBounds_toArray, List.set_cons_zero, List.set_cons_succ])
            | (refine ord_take (v := ?_) rfl ?_ (fun W hW => ?_) ?_; rotate_left; rfl; (obtain ⟨k0, k1, k2, k3, k4, k5, k6, k7, k8, k9⟩ := hW; go_simp; (first | done | with_reducible rfl)); simp only [List.getElem_toArray, List.getElem_cons_zero, List.getElem_cons_succ, Act.put, List.setIfInBounds_toArray, List.set_cons_zero, List.set_cons_succ]))
          (refine ord_op rfl ?_ (fun K hK => ?_); rfl; go_simp; (with_reducible refine (asked_no_c r A _ _ (HR.out.below hBW) HL.out N HN.out HN1.out).mono ?_); rintro e W3 ⟨la, lc, rfl, hb⟩; have hS3 := BoxR.below hS2 hb; replace hBW := hBW.trans (hb.mono hBW.size); clear hb; refine hK _ _ hS3 ?_; clear hK K; try simp only [List.getElem_toArray, List.getElem_cons_zero, List.getElem_cons_succ, Act.put, List.setIfInBounds_toArray, List.set_cons_zero, List.set_cons_succ])
          repeat (first
            | (refine ord_skip rfl ?_ ?_; rfl; simp only [List.getElem_toArray, List.getElem_cons_zero, List.getElem_cons_succ, Act.put, List.setIfInBounds_toArray, List.set_cons_zero, List.set_cons_succ])
            | (refine ord_take (v := ?_) rfl ?_ (fun W hW => ?_) ?_; rotate_left; rfl; (obtain ⟨k0, k1, k2, k3, k4, k5, k6, k7, k8, k9⟩ := hW; go_simp; (first | done | with_reducible rfl)); simp only [List.getElem_toArray, List.getElem_cons_zero, List.getElem_cons_succ, Act.put, List.setIfInBounds_toArray, List.set_cons_zero, List.set_cons_succ]))
          refine ord_nil ?_
          replace HB := Lib.hid (HB.out.trans (hBW.mono HB.out.size))
          replace HX := Lib.hid (HX.out.below hBW)
          replace HR := Lib.hid (HR.out.below hBW)
          replace HS := Lib.hid (HS.out.below hBW)
          replace HR1 := Lib.hid (HR1.out.below hBW)
          replace HS1 := Lib.hid (HS1.out.below hBW)
          replace HR2 := Lib.hid (HR2.out.below hBW)
          replace HS2 := Lib.hid (HS2.out.below hBW)
          replace HR3 := Lib.hid (HR3.out.below hBW)
          replace HS3 := Lib.hid (HS3.out.below hBW)
          clear hBW
          obtain ⟨k0, k1, k2, k3, k4, k5, k6, k7, k8, k9⟩ := HX.out
          go_wp2_with fail
          clear k0 k1 k2 k3 k4 k5 k6 k7 k8 k9
          with_reducible refine (awake_c _).mono ?_
          rintro e wz ⟨rfl, hbz⟩
          go_wp2_with fail
          go_ret
          exact ⟨rfl, HB.out.trans (hbz.mono HB.out.size)⟩
      · have hN1 : (F == 0) = false := by simpa using hf
        obtain ⟨N, hN⟩ : ∃ N, N = F := ⟨_, rfl⟩
        subst hN
        have haf := ask_F hF hf (isPlanB r.last xs)
        have HN2 := Lib.hid (ask_F hF hf false).symm
        have HN1 := Lib.hid hf
        have HLA := Lib.hid (show lastsA r xs = (0, N) from by rw [lasts_err (by rw [haf]; exact hf), haf])
        have hdr : dryA r xs = (0, N) := by rw [dry_err (by rw [haf]; exact hf), haf]
        have HDR := Lib.hid hdr
        have HPR := Lib.hid (prove_err (many := many) hdr (by rw [← hF]; exact fault_ne7 r))
        clear hF hf haf hdr
        go_enter Try.func16, Try.ntmps16
        go_wp2_with fail
        obtain ⟨wq, hwq⟩ : ∃ wq, w.alloc (rO26 r A) = wq := ⟨_, rfl⟩
        rw [hwq] at HB HX ⊢
        clear hwq
        replace HR := Lib.hid (HR.out.below HB.out)
        replace HS := Lib.hid (HS.out.below HB.out)
        with_reducible refine (thin_c r A _).mono ?_
        rintro e w3 ⟨rfl, hb⟩
        replace HB := Lib.hid (HB.out.trans (hb.mono HB.out.size))
        replace HX := Lib.hid (HX.out.below hb)
        replace HR := Lib.hid (HR.out.below hb)
        replace HS := Lib.hid (HS.out.below hb)
        clear hb
        rw [HT.out]
        obtain ⟨k0, k1, k2, k3, k4, k5, k6, k7, k8, k9⟩ := HX.out
        have hxx := HXX.out
        go_wp2_with fail
        clear k0 k1 k2 k3 k4 k5 k6 k7 k8 k9
        with_reducible refine (River_c r A _ HR.out HL.out.1 HL.out.2.1 HL.out.2.2.1 HL.out.2.2.2).mono ?_
        rintro e w4 ⟨A1, rfl, hr1, -, hb⟩
        replace HB := Lib.hid (HB.out.trans (hb.mono HB.out.size))
        replace HX := Lib.hid (HX.out.below hb)
        replace HR := Lib.hid (HR.out.below hb)
        replace HS := Lib.hid (HS.out.below hb)
        clear hb
        have HR1 := Lib.hid hr1
        clear hr1
        obtain ⟨k0, k1, k2, k3, k4, k5, k6, k7, k8, k9⟩ := HX.out
        go_wp2_with fail
        clear k0 k1 k2 k3 k4 k5 k6 k7 k8 k9
        with_reducible refine (list_c ax xs cx _ HS.out (by have := HXL.out; omega)).mono ?_
        rintro e w5 ⟨v, rfl, hown, hb⟩
        replace HB := Lib.hid (HB.out.trans (hb.mono HB.out.size))
        replace HX := Lib.hid (HX.out.below hb)
        replace HR := Lib.hid (HR.out.below hb)
        replace HS := Lib.hid (HS.out.below hb)
        replace HR1 := Lib.hid (HR1.out.below hb)
        clear hb
        obtain ⟨s1, cs1, rfl, -, hs2⟩ := own_Sl hown
        clear hown
        have HS1 := Lib.hid hs2
        clear hs2
        obtain ⟨k0, k1, k2, k3, k4, k5, k6, k7, k8, k9⟩ := HX.out
        go_wp2_with fail
        clear k0 k1 k2 k3 k4 k5 k6 k7 k8 k9
        with_reducible refine (Lasts_c r A1 s1 xs cs1 _ HR1.out HL.out.1 HL.out.2.1 HL.out.2.2.1 HL.out.2.2.2 HS1.out (by have := HXL.out; omega)).mono ?_
        rintro e w6 ⟨rfl, hb⟩
        replace HB := Lib.hid (HB.out.trans (hb.mono HB.out.size))
        replace HX := Lib.hid (HX.out.below hb)
        replace HR := Lib.hid (HR.out.below hb)
        replace HS := Lib.hid (HS.out.below hb)
        replace HR1 := Lib.hid (HR1.out.below hb)
        replace HS1 := Lib.hid (HS1.out.below hb)
        clear hb
        rw [HLA.out]
        obtain ⟨k0, k1, k2, k3, k4, k5, k6, k7, k8, k9⟩ := HX.out
        go_wp2_with fail
        clear k0 k1 k2 k3 k4 k5 k6 k7 k8 k9
        with_reducible refine (River_c r A _ HR.out HL.out.1 HL.out.2.1 HL.out.2.2.1 HL.out.2.2.2).mono ?_
        rintro e w7 ⟨A2, rfl, hr1, -, hb⟩
        replace HB := Lib.hid (HB.out.trans (hb.mono HB.out.size))
        replace HX := Lib.hid (HX.out.below hb)
        replace HR := Lib.hid (HR.out.below hb)
        replace HS := Lib.hid (HS.out.below hb)
        replace HR1 := Lib.hid (HR1.out.below hb)
        replace HS1 := Lib.hid (HS1.out.below hb)
        clear hb
        have HR2 := Lib.hid hr1
        clear hr1
        obtain ⟨k0, k1, k2, k3, k4, k5, k6, k7, k8, k9⟩ := HX.out
        go_wp2_with fail
        clear k0 k1 k2 k3 k4 k5 k6 k7 k8 k9
        with_reducible refine (list_c ax xs cx _ HS.out (by have := HXL.out; omega)).mono ?_
        rintro e w8 ⟨v, rfl, hown, hb⟩
        replace HB := Lib.hid (HB.out.trans (hb.mono HB.out.size))
        replace HX := Lib.hid (HX.out.below hb)
        replace HR := Lib.hid (HR.out.below hb)
        replace HS := Lib.hid (HS.out.below hb)
        replace HR1 := Lib.hid (HR1.out.below hb)
        replace HS1 := Lib.hid (HS1.out.below hb)
        replace HR2 := Lib.hid (HR2.out.below hb)
        clear hb
        obtain ⟨s2, cs2, rfl, -, hs2⟩ := own_Sl hown
        clear hown
        have HS2 := Lib.hid hs2
        clear hs2
        obtain ⟨k0, k1, k2, k3, k4, k5, k6, k7, k8, k9⟩ := HX.out
        go_wp2_with fail
        clear k0 k1 k2 k3 k4 k5 k6 k7 k8 k9
        with_reducible refine (Dry_c r A2 s2 xs cs2 _ HR2.out HL.out.1 HL.out.2.1 HL.out.2.2.1 HL.out.2.2.2 HS2.out (by have := HXL.out; omega)).mono ?_
        rintro e w9 ⟨rfl, hb⟩
        replace HB := Lib.hid (HB.out.trans (hb.mono HB.out.size))
        replace HX := Lib.hid (HX.out.below hb)
        replace HR := Lib.hid (HR.out.below hb)
        replace HS := Lib.hid (HS.out.below hb)
        replace HR1 := Lib.hid (HR1.out.below hb)
        replace HS1 := Lib.hid (HS1.out.below hb)
        replace HR2 := Lib.hid (HR2.out.below hb)
        replace HS2 := Lib.hid (HS2.out.below hb)
        clear hb
        rw [HDR.out]
        obtain ⟨k0, k1, k2, k3, k4, k5, k6, k7, k8, k9⟩ := HX.out
        go_wp2_with fail
        clear k0 k1 k2 k3 k4 k5 k6 k7 k8 k9
        with_reducible refine (River_c r A _ HR.out HL.out.1 HL.out.2.1 HL.out.2.2.1 HL.out.2.2.2).mono ?_
        rintro e w10 ⟨A3, rfl, hr1, -, hb⟩
        replace HB := Lib.hid (HB.out.trans (hb.mono HB.out.size))
        replace HX := Lib.hid (HX.out.below hb)
        replace HR := Lib.hid (HR.out.below hb)
        replace HS := Lib.hid (HS.out.below hb)
        replace HR1 := Lib.hid (HR1.out.below hb)
        replace HS1 := Lib.hid (HS1.out.below hb)
        replace HR2 := Lib.hid (HR2.out.below hb)
        replace HS2 := Lib.hid (HS2.out.below hb)
        clear hb
        have HR3 := Lib.hid hr1
        clear hr1
        obtain ⟨k0, k1, k2, k3, k4, k5, k6, k7, k8, k9⟩ := HX.out
        go_wp2_with fail
        clear k0 k1 k2 k3 k4 k5 k6 k7 k8 k9
        with_reducible refine (list_c ax xs cx _ HS.out (by have := HXL.out; omega)).mono ?_
        rintro e w11 ⟨v, rfl, hown, hb⟩
        replace HB := Lib.hid (HB.out.trans (hb.mono HB.out.size))
        replace HX := Lib.hid (HX.out.below hb)
        replace HR := Lib.hid (HR.out.below hb)
        replace HS := Lib.hid (HS.out.below hb)
        replace HR1 := Lib.hid (HR1.out.below hb)
        replace HS1 := Lib.hid (HS1.out.below hb)
        replace HR2 := Lib.hid (HR2.out.below hb)
        replace HS2 := Lib.hid (HS2.out.below hb)
        replace HR3 := Lib.hid (HR3.out.below hb)
        clear hb
        obtain ⟨s3, cs3, rfl, -, hs2⟩ := own_Sl hown
        clear hown
        have HS3 := Lib.hid hs2
        clear hs2
        obtain ⟨k0, k1, k2, k3, k4, k5, k6, k7, k8, k9⟩ := HX.out
        go_wp2_with fail
        clear k0 k1 k2 k3 k4 k5 k6 k7 k8 k9
        with_reducible refine (ProvePlan_c r A3 s3 xs cs3 many _ HR3.out HL.out.1 HL.out.2.1 HL.out.2.2.1 HL.out.2.2.2 HS3.out (by have := HXL.out; omega)).mono ?_
        rintro e w12 ⟨rfl, hb⟩
        replace HB := Lib.hid (HB.out.trans (hb.mono HB.out.size))
        replace HX := Lib.hid (HX.out.below hb)
        replace HR := Lib.hid (HR.out.below hb)
        replace HS := Lib.hid (HS.out.below hb)
        replace HR1 := Lib.hid (HR1.out.below hb)
        replace HS1 := Lib.hid (HS1.out.below hb)
        replace HR2 := Lib.hid (HR2.out.below hb)
        replace HS2 := Lib.hid (HS2.out.below hb)
        replace HR3 := Lib.hid (HR3.out.below hb)
        replace HS3 := Lib.hid (HS3.out.below hb)
        clear hb
        rw [HPR.out]
        obtain ⟨k0, k1, k2, k3, k4, k5, k6, k7, k8, k9⟩ := HX.out
        go_wp2_with fail
        clear k0 k1 k2 k3 k4 k5 k6 k7 k8 k9
        refine region_o (S := BoxR w.heap.size r A) (.take 0 (.take 1 (.one 2 (.take 3 (.take 4 (.take 5 (.take 6 (.one 7 (.take 8 (.one 9 (.take 10 (.take 11 (.take 12 (.take 13 (.take 14 .nil))))))))))))))) (by kernel_rfl) (by kernel_rfl) (fun _ _ d _ _ h => by cases d <;> exact h) (HX.out.below (Below.refl _ _).drew) ?_
        intro W0 hW0 hS0
        have hBW : Below w12.heap.size w12 W0 := by subst hW0; exact (Below.refl _ _).drew
        clear hW0
        repeat (first
          | (refine ord_skip rfl ?_ ?_; rfl; simp only [List.getElem_toArray, List.getElem_cons_zero, List.getElem_cons_succ, Act.put, List.setIfInBounds_toArray, List.set_cons_zero, List.set_cons_succ])
          | (refine ord_take (v := ?_) rfl ?_ (fun W hW => ?_) ?_; rotate_left; rfl; (obtain ⟨k0, k1, k2, k3, k4, k5, k6, k7, k8, k9⟩ := hW; go_simp; (first | done | with_reducible rfl)); simp only [List.getElem_toArray, List.getElem_cons_zero, List.getElem_cons_succ, Act.put, List.setIfInBounds_toArray, List.set_cons_zero, List.set_cons_succ]))
        (refine ord_op rfl ?_ (fun K hK => ?_); rfl; go_simp; (with_reducible refine (fault_c r A _ (HR.out.below hBW) HL.out.1 HL.out.2.1 HL.out.2.2.1 HL.out.2.2.2).mono ?_); rintro e W1 ⟨rfl, hb⟩; have hS1 := BoxR.below hS0 hb; replace hBW := hBW.trans (hb.mono hBW.size); rw [HFF.out]; clear hb; refine hK _ _ hS1 ?_; clear hK K; try simp only [List.getElem_toArray, List.getElem_cons_zero, List.getElem_cons_succ, Act.put, List.setIfInBounds_toArray, List.set_cons_zero, List.set_cons_succ])
        repeat (first
          | (refine ord_skip rfl ?_ ?_; rfl; simp only [List.getElem_toArray, List.getElem_cons_zero, List.getElem_cons_succ, Act.put, List.setIfInBounds_toArray, List.set_cons_zero, List.set_cons_succ])
          | (refine ord_take (v := ?_) rfl ?_ (fun W hW => ?_) ?_; rotate_left; rfl; (obtain ⟨k0, k1, k2, k3, k4, k5, k6, k7, k8, k9⟩ := hW; go_simp; (first | done | with_reducible rfl)); simp only [List.getElem_toArray, List.getElem_cons_zero, List.getElem_cons_succ, Act.put, List.setIfInBounds_toArray, List.set_cons_zero, List.set_cons_succ]))
        first
          | (refine ord_pass rfl ?_ hS1 ?_; rfl; simp only [List.getElem_toArray, List.getElem_cons_zero, List.getElem_cons_succ, Act.put, List.setIfInBounds_toArray, List.set_cons_zero, List.set_cons_succ]; have W2 := W1; have hS2 := hS1)
          | (refine ord_op rfl ?_ (fun K hK => ?_); rfl; go_simp; fail; clear hK K; try simp only [List.getElem_toArray, List.getElem_cons_zero, List.getElem_cons_succ, Act.put, List.setIfInBounds_toArray, List.set_cons_zero, List.set_cons_succ])
        repeat (first
          | (refine ord_skip rfl ?_ ?_; rfl; simp only [List.getElem_toArray, List.getElem_cons_zero, List.getElem_cons_succ, Act.put, List.setIfInBounds_toArray, List.set_cons_zero, List.set_cons_succ])
          | (refine ord_take (v := ?_) rfl ?_ (fun W hW => ?_) ?_; rotate_left; rfl; (obtain ⟨k0, k1, k2, k3, k4, k5, k6, k7, k8, k9⟩ := hW; go_simp; (first | done | with_reducible rfl)); simp only [List.getElem_toArray, List.getElem_cons_zero, List.getElem_cons_succ, Act.put, List.setIfInBounds_toArray, List.set_cons_zero, List.set_cons_succ]))
        (refine ord_op rfl ?_ (fun K hK => ?_); rfl; go_simp; (with_reducible refine (asked_no_c r A false _ (HR.out.below hBW) HL.out N (HN2.out) HN1.out).mono ?_); rintro e W3 ⟨la, lc, rfl, hb⟩; have hS3 := BoxR.below hS2 hb; replace hBW := hBW.trans (hb.mono hBW.size); clear hb; refine hK _ _ hS3 ?_; clear hK K; try simp only [List.getElem_toArray, List.getElem_cons_zero, List.getElem_cons_succ, Act.put, List.setIfInBounds_toArray, List.set_cons_zero, List.set_cons_succ])
        repeat (first
          | (refine ord_skip rfl ?_ ?_; rfl; simp only [List.getElem_toArray, List.getElem_cons_zero, List.getElem_cons_succ, Act.put, List.setIfInBounds_toArray, List.set_cons_zero, List.set_cons_succ])
          | (refine ord_take (v := ?_) rfl ?_ (fun W hW => ?_) ?_; rotate_left; rfl; (obtain ⟨k0, k1, k2, k3, k4, k5, k6, k7, k8, k9⟩ := hW; go_simp; (first | done | with_reducible rfl)); simp only [List.getElem_toArray, List.getElem_cons_zero, List.getElem_cons_succ, Act.put, List.setIfInBounds_toArray, List.set_cons_zero, List.set_cons_succ]))
        refine ord_nil ?_
        replace HB := Lib.hid (HB.out.trans (hBW.mono HB.out.size))
        replace HX := Lib.hid (HX.out.below hBW)
        replace HR := Lib.hid (HR.out.below hBW)
        replace HS := Lib.hid (HS.out.below hBW)
        replace HR1 := Lib.hid (HR1.out.below hBW)
        replace HS1 := Lib.hid (HS1.out.below hBW)
        replace HR2 := Lib.hid (HR2.out.below hBW)
        replace HS2 := Lib.hid (HS2.out.below hBW)
        replace HR3 := Lib.hid (HR3.out.below hBW)
        replace HS3 := Lib.hid (HS3.out.below hBW)
        clear hBW
        obtain ⟨k0, k1, k2, k3, k4, k5, k6, k7, k8, k9⟩ := HX.out
        go_wp2_with fail
        clear k0 k1 k2 k3 k4 k5 k6 k7 k8 k9
        with_reducible refine (awake_c _).mono ?_
        rintro e wz ⟨rfl, hbz⟩
        go_wp2_with fail
        go_ret
        exact ⟨rfl, HB.out.trans (hbz.mono HB.out.size)⟩
    · have HXX := Lib.hid (show (30 : Int) < xs.length from by omega)
      clear hx
      go_enter Try.func16, Try.ntmps16
      go_wp2_with fail
      obtain ⟨wq, hwq⟩ : ∃ wq, w.alloc (rO26 r A) = wq := ⟨_, rfl⟩
      rw [hwq] at HB HX ⊢
      clear hwq
      replace HR := Lib.hid (HR.out.below HB.out)
      replace HS := Lib.hid (HS.out.below HB.out)
      with_reducible refine (thin_c r A _).mono ?_
      rintro e w3 ⟨rfl, hb⟩
      replace HB := Lib.hid (HB.out.trans (hb.mono HB.out.size))
      replace HX := Lib.hid (HX.out.below hb)
      replace HR := Lib.hid (HR.out.below hb)
      replace HS := Lib.hid (HS.out.below hb)
      clear hb
      rw [HT.out]
      obtain ⟨k0, k1, k2, k3, k4, k5, k6, k7, k8, k9⟩ := HX.out
      have hxx := HXX.out
      go_wp2_with fail
      clear k0 k1 k2 k3 k4 k5 k6 k7 k8 k9
      with_reducible refine (awake_c _).mono ?_
      rintro e wz ⟨rfl, hbz⟩
      go_wp2_with fail
      go_ret
      exact ⟨rfl, HB.out.trans (hbz.mono HB.out.size)⟩
end Go.Proofs.Ytgglfngkomgadaa
