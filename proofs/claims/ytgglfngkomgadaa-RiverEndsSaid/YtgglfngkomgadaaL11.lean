/- Walks of the laws: RiverEnds. -/
import Derived.Test.YtgglfngkomgadaaL0
import Derived.Test.YtgglfngkomgadaaM6
namespace Go.Proofs.Ytgglfngkomgadaa
open Go.RowKit Go.Shelf
set_option linter.unusedVariables false
set_option linter.unusedSimpArgs false
set_option maxRecDepth 100000

theorem day_mod {r : Riv} (ok : Ok r) (d : Nat) : ∃ D : Nat, (D : Int) ≤ r.last ∧ D ≤ 5 ∧ (d : Int) % (r.last + 1) = D ∧ (d : Int).tmod (r.last + 1) = D := by
  have h0 := ok.l0; have h5 := ok.l5
  have h1 := Int.emod_nonneg (d : Int) (show r.last + 1 ≠ 0 by omega)
  have h2 := Int.emod_lt_of_pos (d : Int) (show 0 < r.last + 1 by omega)
  refine ⟨((d : Int) % (r.last + 1)).toNat, by omega, by omega, by omega, ?_⟩
  rw [Int.tmod_eq_emod_of_nonneg (by omega)]
  omega
def atEnd (r : Riv) (xs : List Int) (D : Nat) (e : Int) (t : Tr) : Bool := aftV r t xs r.size (-1) (D + 1) == e
theorem ends_facts {r : Riv} (h : r.faultI = 0) (ha : askR r true = 0) (xs : List Int) (D : Nat) : (truthsR r).any (atEnd r xs D (tankRf r (truthsR r) xs D).lo) = true ∧ (truthsR r).any (atEnd r xs D (tankRf r (truthsR r) xs D).hi) = true := by
  obtain ⟨_, ⟨t1, h1, e1⟩, t2, h2, e2⟩ := tank_spec h ((askR_ok h).1 ha) xs D
  rw [List.any_eq_true, List.any_eq_true]
  exact ⟨⟨t1, (mem_truthsR h).2 h1, by unfold atEnd; rw [e1]; simp⟩, t2, (mem_truthsR h).2 h2, by unfold atEnd; rw [e2]; simp⟩
theorem LtS_box {q b o : Nat} {r : Riv} {A : RA} {t : Tr} {B : TA} {W : World} (h : LtS q b o r A t B W) : BoxR q r A W := h.bx

set_option maxHeartbeats 20000000 in
theorem law11_c (r : Riv) (A : RA) (b d : Nat) (w : World) (hr : Rd w r A) (hbb : b < 256) (hdd : d < 256) :
    Calls Try.prog 11 #[rivV r A, .int .u8 b, .int .u8 d] w (RetB true w) := by
  have HB := Lib.hid (al_b w (rO26 r A))
  have HX := Lib.hid (box_new w r A)
  have HR := Lib.hid hr
  clear hr
  cases hrd : (thinB r && decide (r.faultI = 0))
  · have HRD := Lib.hid hrd
    clear hrd
    go_enter Try.func11, Try.ntmps11
    go_wp2_with fail
    obtain ⟨wq, hwq⟩ : ∃ wq, w.alloc (rO26 r A) = wq := ⟨_, rfl⟩
    rw [hwq] at HB HX ⊢
    clear hwq
    replace HR := Lib.hid (HR.out.below HB.out)
    with_reducible refine (ready_c r A _ HR.out).mono ?_
    rintro e w3 ⟨rfl, hb⟩
    replace HB := Lib.hid (HB.out.trans (hb.mono HB.out.size))
    replace HX := Lib.hid (HX.out.below hb)
    replace HR := Lib.hid (HR.out.below hb)
    clear hb
    rw [HRD.out]
    obtain ⟨k0, k1, k2, k3, k4, k5, k6, k7, k8, k9⟩ := HX.out
    go_wp2_with fail
    clear k0 k1 k2 k3 k4 k5 k6 k7 k8 k9
    with_reducible refine (awake_c _).mono ?_
    rintro e wz ⟨rfl, hbz⟩
    go_wp2_with fail
    go_ret
    exact ⟨rfl, HB.out.trans (hbz.mono HB.out.size)⟩
  · have HRD := Lib.hid hrd
    have hrd2 := Bool.and_eq_true_iff.1 hrd
    have HL := Lib.hid (thin_lens hrd2.1)
    have HZ := Lib.hid (of_decide_eq_true hrd2.2)
    have HOK := Lib.hid (ok_of_fault HZ.out).1
    clear hrd hrd2
    obtain ⟨D, hDl, hD5, he1, he2⟩ := day_mod HOK.out d
    obtain ⟨PL, hPL⟩ : ∃ L, planL r b = L := ⟨_, rfl⟩
    have hpl6 := planL_len r b
    have hpn := plan_bits HOK.out (planM_lt HOK.out b)
    rw [← planL_eq] at hpn
    rw [hPL] at hpl6 hpn
    have HPL := Lib.hid hPL
    have HPN := Lib.hid hpn
    have HE1 := Lib.hid he1
    have HE2 := Lib.hid he2
    have HNU := Lib.hid HOK.out.nu
    clear hPL hpn he1 he2
    by_cases hn : askR r true = 0
    · have HA1 := Lib.hid hn
      have HA := Lib.hid (show askR r (isPlanB r.last PL) = 0 from by rw [HPN.out]; exact hn)
      have HF := Lib.hid (asked_fits hn)
      have HEN := Lib.hid (ends_facts HZ.out hn PL D)
      clear hn
      go_enter Try.func11, Try.ntmps11
      go_wp2_with fail
      obtain ⟨wq, hwq⟩ : ∃ wq, w.alloc (rO26 r A) = wq := ⟨_, rfl⟩
      rw [hwq] at HB HX ⊢
      clear hwq
      replace HR := Lib.hid (HR.out.below HB.out)
      with_reducible refine (ready_c r A _ HR.out).mono ?_
      rintro e w3 ⟨rfl, hb⟩
      replace HB := Lib.hid (HB.out.trans (hb.mono HB.out.size))
      replace HX := Lib.hid (HX.out.below hb)
      replace HR := Lib.hid (HR.out.below hb)
      clear hb
      rw [HRD.out]
      obtain ⟨k0, k1, k2, k3, k4, k5, k6, k7, k8, k9⟩ := HX.out
      go_wp2_with fail
      clear k0 k1 k2 k3 k4 k5 k6 k7 k8 k9
      have hl0 := HOK.out.l0
      have hl5 := HOK.out.l5
      have hlw : IntKind.i64.wrap (r.last + 1) = r.last + 1 := IntWalk.i64_in _ (by omega)
      have hlz : (r.last + 1 == 0) = false := by rw [beq_eq_false_iff_ne]; omega
      have hlz2 : ¬ r.last + 1 = 0 := by omega
      have he1 := HE1.out
      have he2 := HE2.out
      have hdw : IntKind.i64.wrap (d : Int) = (d : Int) := IntWalk.i64_in _ (by omega)
      have hwb : IntKind.i64.wrap (b : Int) = (b : Int) := IntWalk.i64_in _ (by omega)
      refine region_o (S := BoxR w.heap.size r A) (.take 0 (.take 1 (.take 2 (.take 4 (.take 5 (.take 6 (.take 7 (.take 8 (.take 9 (.one 3 (.take 10 (.take 11 .nil)))))))))))) (by kernel_rfl) (by kernel_rfl) (fun _ _ d _ _ h => by cases d <;> exact h) (HX.out.below (Below.refl _ _).drew) ?_
      intro W0 hW0 hS0
      have hBW : Below w3.heap.size w3 W0 := by subst hW0; exact (Below.refl _ _).drew
      clear hW0
      repeat (first
        | (refine ord_skip rfl ?_ ?_; rfl; simp only [List.getElem_toArray, List.getElem_cons_zero, List.getElem_cons_succ, Act.put, List.setIfInBounds_toArray, List.set_cons_zero, List.set_cons_succ])
        | (refine ord_take (v := ?_) rfl ?_ (fun W hW => ?_) ?_; rotate_left; rfl; (obtain ⟨k0, k1, k2, k3, k4, k5, k6, k7, k8, k9⟩ := hW; go_simp; (first | done | with_reducible rfl)); simp only [List.getElem_toArray, List.getElem_cons_zero, List.getElem_cons_succ, Act.put, List.setIfInBounds_toArray, List.set_cons_zero, List.set_cons_succ]))
      (refine ord_op rfl ?_ (fun K hK => ?_); rfl; go_simp; (with_reducible refine (Planned_c r A b _ HOK.out.l0 HOK.out.l5 hbb).mono ?_); rintro e W1 ⟨v, rfl, hown, hb⟩; have hS1 := BoxR.below hS0 hb; replace hBW := hBW.trans (hb.mono hBW.size); rw [HPL.out] at hown; obtain ⟨pa, pc, rfl, -, hs⟩ := own_Sl hown; have HSP := Lib.hid hs; clear hown hs; clear hb; refine hK _ _ hS1 ?_; clear hK K; try simp only [List.getElem_toArray, List.getElem_cons_zero, List.getElem_cons_succ, Act.put, List.setIfInBounds_toArray, List.set_cons_zero, List.set_cons_succ])
      repeat (first
        | (refine ord_skip rfl ?_ ?_; rfl; simp only [List.getElem_toArray, List.getElem_cons_zero, List.getElem_cons_succ, Act.put, List.setIfInBounds_toArray, List.set_cons_zero, List.set_cons_succ])
        | (refine ord_take (v := ?_) rfl ?_ (fun W hW => ?_) ?_; rotate_left; rfl; (obtain ⟨k0, k1, k2, k3, k4, k5, k6, k7, k8, k9⟩ := hW; go_simp; (first | done | with_reducible rfl)); simp only [List.getElem_toArray, List.getElem_cons_zero, List.getElem_cons_succ, Act.put, List.setIfInBounds_toArray, List.set_cons_zero, List.set_cons_succ]))
      refine ord_nil ?_
      replace HB := Lib.hid (HB.out.trans (hBW.mono HB.out.size))
      replace HX := Lib.hid (HX.out.below hBW)
      replace HR := Lib.hid (HR.out.below hBW)
      clear hBW
      clear hlw hlz hlz2 he1 he2 hdw hwb
      obtain ⟨k0, k1, k2, k3, k4, k5, k6, k7, k8, k9⟩ := HX.out
      go_wp2_with fail
      clear k0 k1 k2 k3 k4 k5 k6 k7 k8 k9
      with_reducible refine (River_c r A _ HR.out HL.out.1 HL.out.2.1 HL.out.2.2.1 HL.out.2.2.2).mono ?_
      rintro e w4 ⟨A1, rfl, hr1, -, hb⟩
      replace HB := Lib.hid (HB.out.trans (hb.mono HB.out.size))
      replace HX := Lib.hid (HX.out.below hb)
      replace HR := Lib.hid (HR.out.below hb)
      replace HSP := Lib.hid (HSP.out.below hb)
      clear hb
      have HR1 := Lib.hid hr1
      clear hr1
      obtain ⟨k0, k1, k2, k3, k4, k5, k6, k7, k8, k9⟩ := HX.out
      go_wp2_with fail
      clear k0 k1 k2 k3 k4 k5 k6 k7 k8 k9
      with_reducible refine (list_c pa PL pc _ HSP.out (by omega)).mono ?_
      rintro e w5 ⟨v, rfl, hown, hb⟩
      replace HB := Lib.hid (HB.out.trans (hb.mono HB.out.size))
      replace HX := Lib.hid (HX.out.below hb)
      replace HR := Lib.hid (HR.out.below hb)
      replace HSP := Lib.hid (HSP.out.below hb)
      replace HR1 := Lib.hid (HR1.out.below hb)
      clear hb
      obtain ⟨s1, c1, rfl, -, hs2⟩ := own_Sl hown
      clear hown
      have HS1 := Lib.hid hs2
      clear hs2
      obtain ⟨k0, k1, k2, k3, k4, k5, k6, k7, k8, k9⟩ := HX.out
      go_wp2_with fail
      clear k0 k1 k2 k3 k4 k5 k6 k7 k8 k9
      with_reducible refine (Tank_ok_c r A1 s1 PL c1 _ HR1.out HL.out HS1.out (by omega) HA.out).mono ?_
      rintro e w6 ⟨ra, rc, rfl, hra, hb⟩
      replace HB := Lib.hid (HB.out.trans (hb.mono HB.out.size))
      replace HX := Lib.hid (HX.out.below hb)
      replace HR := Lib.hid (HR.out.below hb)
      replace HSP := Lib.hid (HSP.out.below hb)
      replace HR1 := Lib.hid (HR1.out.below hb)
      replace HS1 := Lib.hid (HS1.out.below hb)
      clear hb
      have HRA := Lib.hid hra
      clear hra
      obtain ⟨k0, k1, k2, k3, k4, k5, k6, k7, k8, k9⟩ := HX.out
      go_wp2_with fail
      clear k0 k1 k2 k3 k4 k5 k6 k7 k8 k9
      with_reducible refine (asked_ok_c r A true _ HR.out HL.out HA1.out).mono ?_
      rintro e w7 ⟨la, lc, rfl, htl, hb⟩
      replace HB := Lib.hid (HB.out.trans (hb.mono HB.out.size))
      replace HX := Lib.hid (HX.out.below hb)
      replace HR := Lib.hid (HR.out.below hb)
      replace HSP := Lib.hid (HSP.out.below hb)
      replace HR1 := Lib.hid (HR1.out.below hb)
      replace HS1 := Lib.hid (HS1.out.below hb)
      replace HRA := Lib.hid (HRA.out.below hb)
      clear hb
      have HTL := Lib.hid htl
      clear htl
      have hnu := HNU.out
      obtain ⟨k0, k1, k2, k3, k4, k5, k6, k7, k8, k9⟩ := HX.out
      go_wp2_with fail
      clear k0 k1 k2 k3 k4 k5 k6 k7 k8 k9
      clear hnu
      obtain ⟨ts, hts⟩ : ∃ l, truthsR r = l := ⟨_, rfl⟩
      rw [hts] at HTL HF HEN ⊢
      have HTS := Lib.hid hts
      clear hts
      obtain ⟨T, hT⟩ : ∃ T, T = tankRf r ts PL D := ⟨_, rfl⟩
      have hta := tank_at HZ.out PL D hDl
      rw [HTS.out] at hta
      rw [← hT] at hta HEN
      obtain ⟨br, orr, rfl, dr1, dr2⟩ := HRA.out.rg_at hta
      have HTA := Lib.hid hta
      have hDu : D < r.use.length := by have := HNU.out; omega
      clear hT hta dr1 dr2
      go_loopw [13, 14, 15] (fun u v i wr => ∃ (k : Nat) (lo hi : Bool), k ≤ ts.length ∧ i = .int .i64 k ∧ u = .bool lo ∧ v = .bool hi ∧ Hid ((ts.take k).any (atEnd r PL D T.lo) = lo) ∧ Hid ((ts.take k).any (atEnd r PL D T.hi) = hi) ∧ Below w7.heap.size w7 wr) (fun _ _ i _ => ts.length - (intOf i).toNat)
      case atStart => exact ⟨0, false, false, Nat.zero_le _, rfl, rfl, rfl, rfl, rfl, Below.refl _ _⟩
      case round =>
        obtain ⟨k, lo, hi, hk, rfl, rfl, rfl, HLO, HHI, hB⟩ := hrel
        replace HB := Lib.hid (HB.out.trans (hB.mono HB.out.size))
        replace HX := Lib.hid (HX.out.below hB)
        replace HR := Lib.hid (HR.out.below hB)
        replace HSP := Lib.hid (HSP.out.below hB)
        replace HR1 := Lib.hid (HR1.out.below hB)
        replace HS1 := Lib.hid (HS1.out.below hB)
        replace HRA := Lib.hid (HRA.out.below hB)
        replace HTL := Lib.hid (HTL.out.below hB)
        have HC := Lib.hid hB
        clear hB
        by_cases hlt : k < ts.length
        · obtain ⟨t, htk⟩ : ∃ t, ts[k]? = some t := ⟨_, List.getElem?_eq_getElem hlt⟩
          have HT2 := Lib.hid htk
          obtain ⟨hf1, hf2⟩ := HF.out.1 t (List.mem_of_getElem? htk)
          obtain ⟨bt, ot, B, rfl, d1, d2, hrt⟩ := HTL.out.at htk
          have HRT := Lib.hid hrt
          have HSS := Lib.hid (show LtS w.heap.size bt (ot + k * 2) r A t B wr from ⟨HX.out, d1, d2⟩)
          have ew : IntKind.i64.wrap ((k : Int) + 1) = (k : Int) + 1 := IntWalk.i64_in _ (by have := HF.out.2.1; omega)
          clear htk d1 d2 hrt
          obtain ⟨k0, k1, k2, k3, k4, k5, k6, k7, k8, k9⟩ := HX.out
          go_wp2_with fail
          clear k0 k1 k2 k3 k4 k5 k6 k7 k8 k9
          refine region_o (S := LtS w.heap.size bt (ot + k * 2) r A t B) (.take 0 (.take 1 (.take 2 (.take 3 (.take 4 (.take 5 (.take 6 (.take 7 (.take 8 (.one 9 (.take 10 .nil))))))))))) (by kernel_rfl) (by kernel_rfl) (fun _ _ d _ _ h => by cases d <;> exact h) (HSS.out.below (Below.refl _ _).drew) ?_
          intro W0 hW0 hS0
          have hBW : Below wr.heap.size wr W0 := by subst hW0; exact (Below.refl _ _).drew
          clear hW0
          repeat (first
            | (refine ord_skip rfl ?_ ?_; rfl; simp only [List.getElem_toArray, List.getElem_cons_zero, List.getElem_cons_succ, Act.put, List.setIfInBounds_toArray, List.set_cons_zero, List.set_cons_succ])
            | (refine ord_take (v := ?_) rfl ?_ (fun W hW => ?_) ?_; rotate_left; rfl; (obtain ⟨⟨k0, k1, k2, k3, k4, k5, k6, k7, k8, k9⟩, t0, t1⟩ := hW; go_simp; (first | done | with_reducible rfl)); simp only [List.getElem_toArray, List.getElem_cons_zero, List.getElem_cons_succ, Act.put, List.setIfInBounds_toArray, List.set_cons_zero, List.set_cons_succ]))
          (refine ord_op rfl ?_ (fun K hK => ?_); rfl; go_simp; (with_reducible refine (After_c r A t B pa PL pc r.size (-1) HOK.out HOK.out.sz.1 HOK.out.sz.2 (by omega) hf1 hf2 D hDl _ (HR.out.below hBW) (HRT.out.below hBW) (HSP.out.below hBW)).mono ?_); rintro e W1 ⟨rfl, hb⟩; have hS1 := LtS.below hS0 hb; replace hBW := hBW.trans (hb.mono hBW.size); obtain ⟨nv, hnv⟩ : ∃ n, aftV r t PL r.size (-1) (D + 1) = n := ⟨_, rfl⟩; have HNV := Lib.hid hnv; rw [hnv]; clear hnv; clear hb; refine hK _ _ hS1 ?_; clear hK K; try simp only [List.getElem_toArray, List.getElem_cons_zero, List.getElem_cons_succ, Act.put, List.setIfInBounds_toArray, List.set_cons_zero, List.set_cons_succ])
          repeat (first
            | (refine ord_skip rfl ?_ ?_; rfl; simp only [List.getElem_toArray, List.getElem_cons_zero, List.getElem_cons_succ, Act.put, List.setIfInBounds_toArray, List.set_cons_zero, List.set_cons_succ])
            | (refine ord_take (v := ?_) rfl ?_ (fun W hW => ?_) ?_; rotate_left; rfl; (obtain ⟨⟨k0, k1, k2, k3, k4, k5, k6, k7, k8, k9⟩, t0, t1⟩ := hW; go_simp; (first | done | with_reducible rfl)); simp only [List.getElem_toArray, List.getElem_cons_zero, List.getElem_cons_succ, Act.put, List.setIfInBounds_toArray, List.set_cons_zero, List.set_cons_succ]))
          refine ord_nil ?_
          replace HB := Lib.hid (HB.out.trans (hBW.mono HB.out.size))
          replace HC := Lib.hid (HC.out.trans (hBW.mono HC.out.size))
          replace HX := Lib.hid (HX.out.below hBW)
          replace HR := Lib.hid (HR.out.below hBW)
          replace HSP := Lib.hid (HSP.out.below hBW)
          replace HR1 := Lib.hid (HR1.out.below hBW)
          replace HS1 := Lib.hid (HS1.out.below hBW)
          replace HRA := Lib.hid (HRA.out.below hBW)
          replace HTL := Lib.hid (HTL.out.below hBW)
          clear hBW
          obtain ⟨w8, hwn_⟩ : ∃ Q, Q = W1 := ⟨_, rfl⟩
          subst hwn_
          obtain ⟨b9, o9, ea9, dr1, dr2⟩ := HRA.out.rg_at HTA.out
          cases ea9
          have HS2 := Lib.hid (show RgS w.heap.size br (orr + D * 2) r A T.lo T.hi w8 from ⟨HX.out, dr1, dr2⟩)
          clear dr1 dr2
          have hlo := HLO.out
          have hhi := HHI.out
          obtain ⟨k0, k1, k2, k3, k4, k5, k6, k7, k8, k9⟩ := HX.out
          go_wp2_with fail
          clear k0 k1 k2 k3 k4 k5 k6 k7 k8 k9
          cases lo <;> cases hi
          · clear hlo hhi
            refine region_o (S := RgS w.heap.size br (orr + D * 2) r A T.lo T.hi) (.take 0 (.take 1 (.take 2 (.take 3 (.take 4 (.take 5 (.take 6 (.take 7 (.take 8 (.take 9 (.take 10 (.take 11 (.take 12 (.take 13 (.take 14 (.take 15 (.take 16 (.take 17 (.take 18 (.take 19 (.take 20 (.take 21 .nil)))))))))))))))))))))) (by kernel_rfl) (by kernel_rfl) (fun _ _ d _ _ h => by cases d <;> exact h) (HS2.out.below (Below.refl _ _).drew) ?_
            intro W0 hW0 hS0
            have hBW : Below w8.heap.size w8 W0 := by subst hW0; exact (Below.refl _ _).drew
            clear hW0
            repeat (first
              | (refine ord_skip rfl ?_ ?_; rfl; simp only [List.getElem_toArray, List.getElem_cons_zero, List.getElem_cons_succ, Act.put, List.setIfInBounds_toArray, List.set_cons_zero, List.set_cons_succ])
              | (refine ord_take (v := ?_) rfl ?_ (fun W hW => ?_) ?_; rotate_left; rfl; (obtain ⟨⟨k0, k1, k2, k3, k4, k5, k6, k7, k8, k9⟩, d1, d2⟩ := hW; go_simp; (first | done | with_reducible rfl)); simp only [List.getElem_toArray, List.getElem_cons_zero, List.getElem_cons_succ, Act.put, List.setIfInBounds_toArray, List.set_cons_zero, List.set_cons_succ]))
            refine ord_nil ?_
            replace HB := Lib.hid (HB.out.trans (hBW.mono HB.out.size))
            replace HC := Lib.hid (HC.out.trans (hBW.mono HC.out.size))
            replace HX := Lib.hid (HX.out.below hBW)
            replace HR := Lib.hid (HR.out.below hBW)
            replace HSP := Lib.hid (HSP.out.below hBW)
            replace HR1 := Lib.hid (HR1.out.below hBW)
            replace HS1 := Lib.hid (HS1.out.below hBW)
            replace HRA := Lib.hid (HRA.out.below hBW)
            replace HTL := Lib.hid (HTL.out.below hBW)
            clear hBW
            obtain ⟨k0, k1, k2, k3, k4, k5, k6, k7, k8, k9⟩ := HX.out
            go_wp2_with fail
            clear k0 k1 k2 k3 k4 k5 k6 k7 k8 k9
            go_roundw
            case rel => exact ⟨k + 1, (nv == T.lo), (nv == T.hi), by omega, by go_num, by first | rfl | simp, by first | rfl | simp, by rw [take_any_succ _ _ _ _ HT2.out, HLO.out]; unfold atEnd; rw [HNV.out]; rfl, by rw [take_any_succ _ _ _ _ HT2.out, HHI.out]; unfold atEnd; rw [HNV.out]; rfl, HC.out⟩
            case measure => simp [intOf]; omega
          · clear hlo hhi
            refine region_o (S := RgS w.heap.size br (orr + D * 2) r A T.lo T.hi) (.take 0 (.take 1 (.take 2 (.take 3 (.take 4 (.take 5 (.take 6 (.take 7 (.take 8 (.take 9 (.take 10 (.take 11 (.take 12 (.take 13 (.take 14 (.take 15 (.take 16 (.take 17 (.take 18 (.take 19 (.take 20 (.take 21 .nil)))))))))))))))))))))) (by kernel_rfl) (by kernel_rfl) (fun _ _ d _ _ h => by cases d <;> exact h) (HS2.out.below (Below.refl _ _).drew) ?_
            intro W0 hW0 hS0
            have hBW : Below w8.heap.size w8 W0 := by subst hW0; exact (Below.refl _ _).drew
            clear hW0
            repeat (first
              | (refine ord_skip rfl ?_ ?_; rfl; simp only [List.getElem_toArray, List.getElem_cons_zero, List.getElem_cons_succ, Act.put, List.setIfInBounds_toArray, List.set_cons_zero, List.set_cons_succ])
              | (refine ord_take (v := ?_) rfl ?_ (fun W hW => ?_) ?_; rotate_left; rfl; (obtain ⟨⟨k0, k1, k2, k3, k4, k5, k6, k7, k8, k9⟩, d1, d2⟩ := hW; go_simp; (first | done | with_reducible rfl)); simp only [List.getElem_toArray, List.getElem_cons_zero, List.getElem_cons_succ, Act.put, List.setIfInBounds_toArray, List.set_cons_zero, List.set_cons_succ]))
            refine ord_nil ?_
            replace HB := Lib.hid (HB.out.trans (hBW.mono HB.out.size))
            replace HC := Lib.hid (HC.out.trans (hBW.mono HC.out.size))
            replace HX := Lib.hid (HX.out.below hBW)
            replace HR := Lib.hid (HR.out.below hBW)
            replace HSP := Lib.hid (HSP.out.below hBW)
            replace HR1 := Lib.hid (HR1.out.below hBW)
            replace HS1 := Lib.hid (HS1.out.below hBW)
            replace HRA := Lib.hid (HRA.out.below hBW)
            replace HTL := Lib.hid (HTL.out.below hBW)
            clear hBW
            obtain ⟨k0, k1, k2, k3, k4, k5, k6, k7, k8, k9⟩ := HX.out
            go_wp2_with fail
            clear k0 k1 k2 k3 k4 k5 k6 k7 k8 k9
            go_roundw
            case rel => exact ⟨k + 1, (nv == T.lo), true, by omega, by go_num, by first | rfl | simp, by first | rfl | simp, by rw [take_any_succ _ _ _ _ HT2.out, HLO.out]; unfold atEnd; rw [HNV.out]; rfl, by rw [take_any_succ _ _ _ _ HT2.out, HHI.out]; unfold atEnd; rw [HNV.out]; rfl, HC.out⟩
            case measure => simp [intOf]; omega
          · clear hlo hhi
            refine region_o (S := RgS w.heap.size br (orr + D * 2) r A T.lo T.hi) (.take 0 (.take 1 (.take 2 (.take 3 (.take 4 (.take 5 (.take 6 (.take 7 (.take 8 (.take 9 (.take 10 (.take 11 (.take 12 (.take 13 (.take 14 (.take 15 (.take 16 (.take 17 (.take 18 (.take 19 (.take 20 (.take 21 .nil)))))))))))))))))))))) (by kernel_rfl) (by kernel_rfl) (fun _ _ d _ _ h => by cases d <;> exact h) (HS2.out.below (Below.refl _ _).drew) ?_
            intro W0 hW0 hS0
            have hBW : Below w8.heap.size w8 W0 := by subst hW0; exact (Below.refl _ _).drew
            clear hW0
            repeat (first
              | (refine ord_skip rfl ?_ ?_; rfl; simp only [List.getElem_toArray, List.getElem_cons_zero, List.getElem_cons_succ, Act.put, List.setIfInBounds_toArray, List.set_cons_zero, List.set_cons_succ])
              | (refine ord_take (v := ?_) rfl ?_ (fun W hW => ?_) ?_; rotate_left; rfl; (obtain ⟨⟨k0, k1, k2, k3, k4, k5, k6, k7, k8, k9⟩, d1, d2⟩ := hW; go_simp; (first | done | with_reducible rfl)); simp only [List.getElem_toArray, List.getElem_cons_zero, List.getElem_cons_succ, Act.put, List.setIfInBounds_toArray, List.set_cons_zero, List.set_cons_succ]))
            refine ord_nil ?_
            replace HB := Lib.hid (HB.out.trans (hBW.mono HB.out.size))
            replace HC := Lib.hid (HC.out.trans (hBW.mono HC.out.size))
            replace HX := Lib.hid (HX.out.below hBW)
            replace HR := Lib.hid (HR.out.below hBW)
            replace HSP := Lib.hid (HSP.out.below hBW)
            replace HR1 := Lib.hid (HR1.out.below hBW)
            replace HS1 := Lib.hid (HS1.out.below hBW)
            replace HRA := Lib.hid (HRA.out.below hBW)
            replace HTL := Lib.hid (HTL.out.below hBW)
            clear hBW
            obtain ⟨k0, k1, k2, k3, k4, k5, k6, k7, k8, k9⟩ := HX.out
            go_wp2_with fail
            clear k0 k1 k2 k3 k4 k5 k6 k7 k8 k9
            go_roundw
            case rel => exact ⟨k + 1, true, (nv == T.hi), by omega, by go_num, by first | rfl | simp, by first | rfl | simp, by rw [take_any_succ _ _ _ _ HT2.out, HLO.out]; unfold atEnd; rw [HNV.out]; rfl, by rw [take_any_succ _ _ _ _ HT2.out, HHI.out]; unfold atEnd; rw [HNV.out]; rfl, HC.out⟩
            case measure => simp [intOf]; omega
          · clear hlo hhi
            refine region_o (S := RgS w.heap.size br (orr + D * 2) r A T.lo T.hi) (.take 0 (.take 1 (.take 2 (.take 3 (.take 4 (.take 5 (.take 6 (.take 7 (.take 8 (.take 9 (.take 10 (.take 11 (.take 12 (.take 13 (.take 14 (.take 15 (.take 16 (.take 17 (.take 18 (.take 19 (.take 20 (.take 21 .nil)))))))))))))))))))))) (by kernel_rfl) (by kernel_rfl) (fun _ _ d _ _ h => by cases d <;> exact h) (HS2.out.below (Below.refl _ _).drew) ?_
            intro W0 hW0 hS0
            have hBW : Below w8.heap.size w8 W0 := by subst hW0; exact (Below.refl _ _).drew
            clear hW0
            repeat (first
              | (refine ord_skip rfl ?_ ?_; rfl; simp only [List.getElem_toArray, List.getElem_cons_zero, List.getElem_cons_succ, Act.put, List.setIfInBounds_toArray, List.set_cons_zero, List.set_cons_succ])
              | (refine ord_take (v := ?_) rfl ?_ (fun W hW => ?_) ?_; rotate_left; rfl; (obtain ⟨⟨k0, k1, k2, k3, k4, k5, k6, k7, k8, k9⟩, d1, d2⟩ := hW; go_simp; (first | done | with_reducible rfl)); simp only [List.getElem_toArray, List.getElem_cons_zero, List.getElem_cons_succ, Act.put, List.setIfInBounds_toArray, List.set_cons_zero, List.set_cons_succ]))
            refine ord_nil ?_
            replace HB := Lib.hid (HB.out.trans (hBW.mono HB.out.size))
            replace HC := Lib.hid (HC.out.trans (hBW.mono HC.out.size))
            replace HX := Lib.hid (HX.out.below hBW)
            replace HR := Lib.hid (HR.out.below hBW)
            replace HSP := Lib.hid (HSP.out.below hBW)
            replace HR1 := Lib.hid (HR1.out.below hBW)
            replace HS1 := Lib.hid (HS1.out.below hBW)
            replace HRA := Lib.hid (HRA.out.below hBW)
            replace HTL := Lib.hid (HTL.out.below hBW)
            clear hBW
            obtain ⟨k0, k1, k2, k3, k4, k5, k6, k7, k8, k9⟩ := HX.out
            go_wp2_with fail
            clear k0 k1 k2 k3 k4 k5 k6 k7 k8 k9
            go_roundw
            case rel => exact ⟨k + 1, true, true, by omega, by go_num, by first | rfl | simp, by first | rfl | simp, by rw [take_any_succ _ _ _ _ HT2.out, HLO.out]; unfold atEnd; rw [HNV.out]; rfl, by rw [take_any_succ _ _ _ _ HT2.out, HHI.out]; unfold atEnd; rw [HNV.out]; rfl, HC.out⟩
            case measure => simp [intOf]; omega
        · have hkn : k = ts.length := by omega
          have hlo : lo = true := by rw [← HLO.out, hkn, List.take_length]; exact HEN.out.1
          have hhi : hi = true := by rw [← HHI.out, hkn, List.take_length]; exact HEN.out.2
          subst hlo hhi
          clear hkn
          obtain ⟨k0, k1, k2, k3, k4, k5, k6, k7, k8, k9⟩ := HX.out
          go_wp2_with fail
          clear k0 k1 k2 k3 k4 k5 k6 k7 k8 k9
          with_reducible refine (awake_c _).mono ?_
          rintro e wz ⟨rfl, hbz⟩
          go_wp2_with fail
          go_ret
          exact ⟨rfl, HB.out.trans (hbz.mono HB.out.size)⟩
    · have hn11 := (askR_or HZ.out).resolve_left hn
      have HN2 := Lib.hid (show 11 = askR r true from hn11.symm)
      have HN := Lib.hid (show 11 = askR r (isPlanB r.last PL) from by rw [HPN.out]; exact hn11.symm)
      clear hn hn11
      go_enter Try.func11, Try.ntmps11
      go_wp2_with fail
      obtain ⟨wq, hwq⟩ : ∃ wq, w.alloc (rO26 r A) = wq := ⟨_, rfl⟩
      rw [hwq] at HB HX ⊢
      clear hwq
      replace HR := Lib.hid (HR.out.below HB.out)
      with_reducible refine (ready_c r A _ HR.out).mono ?_
      rintro e w3 ⟨rfl, hb⟩
      replace HB := Lib.hid (HB.out.trans (hb.mono HB.out.size))
      replace HX := Lib.hid (HX.out.below hb)
      replace HR := Lib.hid (HR.out.below hb)
      clear hb
      rw [HRD.out]
      obtain ⟨k0, k1, k2, k3, k4, k5, k6, k7, k8, k9⟩ := HX.out
      go_wp2_with fail
      clear k0 k1 k2 k3 k4 k5 k6 k7 k8 k9
      have hl0 := HOK.out.l0
      have hl5 := HOK.out.l5
      have hlw : IntKind.i64.wrap (r.last + 1) = r.last + 1 := IntWalk.i64_in _ (by omega)
      have hlz : (r.last + 1 == 0) = false := by rw [beq_eq_false_iff_ne]; omega
      have hlz2 : ¬ r.last + 1 = 0 := by omega
      have he1 := HE1.out
      have he2 := HE2.out
      have hdw : IntKind.i64.wrap (d : Int) = (d : Int) := IntWalk.i64_in _ (by omega)
      have hwb : IntKind.i64.wrap (b : Int) = (b : Int) := IntWalk.i64_in _ (by omega)
      refine region_o (S := BoxR w.heap.size r A) (.take 0 (.take 1 (.take 2 (.take 4 (.take 5 (.take 6 (.take 7 (.take 8 (.take 9 (.one 3 (.take 10 (.take 11 .nil)))))))))))) (by kernel_rfl) (by kernel_rfl) (fun _ _ d _ _ h => by cases d <;> exact h) (HX.out.below (Below.refl _ _).drew) ?_
      intro W0 hW0 hS0
      have hBW : Below w3.heap.size w3 W0 := by subst hW0; exact (Below.refl _ _).drew
      clear hW0
      repeat (first
        | (refine ord_skip rfl ?_ ?_; rfl; simp only [List.getElem_toArray, List.getElem_cons_zero, List.getElem_cons_succ, Act.put, List.setIfInBounds_toArray, List.set_cons_zero, List.set_cons_succ])
        | (refine ord_take (v := ?_) rfl ?_ (fun W hW => ?_) ?_; rotate_left; rfl; (obtain ⟨k0, k1, k2, k3, k4, k5, k6, k7, k8, k9⟩ := hW; go_simp; (first | done | with_reducible rfl)); simp only [List.getElem_toArray, List.getElem_cons_zero, List.getElem_cons_succ, Act.put, List.setIfInBounds_toArray, List.set_cons_zero, List.set_cons_succ]))
      (refine ord_op rfl ?_ (fun K hK => ?_); rfl; go_simp; (with_reducible refine (Planned_c r A b _ HOK.out.l0 HOK.out.l5 hbb).mono ?_); rintro e W1 ⟨v, rfl, hown, hb⟩; have hS1 := BoxR.below hS0 hb; replace hBW := hBW.trans (hb.mono hBW.size); rw [HPL.out] at hown; obtain ⟨pa, pc, rfl, -, hs⟩ := own_Sl hown; have HSP := Lib.hid hs; clear hown hs; clear hb; refine hK _ _ hS1 ?_; clear hK K; try simp only [List.getElem_toArray, List.getElem_cons_zero, List.getElem_cons_succ, Act.put, List.setIfInBounds_toArray, List.set_cons_zero, List.set_cons_succ])
      repeat (first
        | (refine ord_skip rfl ?_ ?_; rfl; simp only [List.getElem_toArray, List.getElem_cons_zero, List.getElem_cons_succ, Act.put, List.setIfInBounds_toArray, List.set_cons_zero, List.set_cons_succ])
        | (refine ord_take (v := ?_) rfl ?_ (fun W hW => ?_) ?_; rotate_left; rfl; (obtain ⟨k0, k1, k2, k3, k4, k5, k6, k7, k8, k9⟩ := hW; go_simp; (first | done | with_reducible rfl)); simp only [List.getElem_toArray, List.getElem_cons_zero, List.getElem_cons_succ, Act.put, List.setIfInBounds_toArray, List.set_cons_zero, List.set_cons_succ]))
      refine ord_nil ?_
      replace HB := Lib.hid (HB.out.trans (hBW.mono HB.out.size))
      replace HX := Lib.hid (HX.out.below hBW)
      replace HR := Lib.hid (HR.out.below hBW)
      clear hBW
      clear hlw hlz hlz2 he1 he2 hdw hwb
      obtain ⟨k0, k1, k2, k3, k4, k5, k6, k7, k8, k9⟩ := HX.out
      go_wp2_with fail
      clear k0 k1 k2 k3 k4 k5 k6 k7 k8 k9
      with_reducible refine (River_c r A _ HR.out HL.out.1 HL.out.2.1 HL.out.2.2.1 HL.out.2.2.2).mono ?_
      rintro e w4 ⟨A1, rfl, hr1, -, hb⟩
      replace HB := Lib.hid (HB.out.trans (hb.mono HB.out.size))
      replace HX := Lib.hid (HX.out.below hb)
      replace HR := Lib.hid (HR.out.below hb)
      replace HSP := Lib.hid (HSP.out.below hb)
      clear hb
      have HR1 := Lib.hid hr1
      clear hr1
      obtain ⟨k0, k1, k2, k3, k4, k5, k6, k7, k8, k9⟩ := HX.out
      go_wp2_with fail
      clear k0 k1 k2 k3 k4 k5 k6 k7 k8 k9
      with_reducible refine (list_c pa PL pc _ HSP.out (by omega)).mono ?_
      rintro e w5 ⟨v, rfl, hown, hb⟩
      replace HB := Lib.hid (HB.out.trans (hb.mono HB.out.size))
      replace HX := Lib.hid (HX.out.below hb)
      replace HR := Lib.hid (HR.out.below hb)
      replace HSP := Lib.hid (HSP.out.below hb)
      replace HR1 := Lib.hid (HR1.out.below hb)
      clear hb
      obtain ⟨s1, c1, rfl, -, hs2⟩ := own_Sl hown
      clear hown
      have HS1 := Lib.hid hs2
      clear hs2
      obtain ⟨k0, k1, k2, k3, k4, k5, k6, k7, k8, k9⟩ := HX.out
      go_wp2_with fail
      clear k0 k1 k2 k3 k4 k5 k6 k7 k8 k9
      with_reducible refine (Tank_no_c r A1 s1 PL c1 _ HR1.out HL.out HS1.out (by omega) 11 HN.out (by decide)).mono ?_
      rintro e w6 ⟨rfl, hb⟩
      replace HB := Lib.hid (HB.out.trans (hb.mono HB.out.size))
      replace HX := Lib.hid (HX.out.below hb)
      replace HR := Lib.hid (HR.out.below hb)
      replace HSP := Lib.hid (HSP.out.below hb)
      replace HR1 := Lib.hid (HR1.out.below hb)
      replace HS1 := Lib.hid (HS1.out.below hb)
      clear hb
      obtain ⟨k0, k1, k2, k3, k4, k5, k6, k7, k8, k9⟩ := HX.out
      go_wp2_with fail
      clear k0 k1 k2 k3 k4 k5 k6 k7 k8 k9
      with_reducible refine (asked_no_c r A true _ HR.out HL.out 11 HN2.out (by decide)).mono ?_
      rintro e w7 ⟨la, lc, rfl, hb⟩
      replace HB := Lib.hid (HB.out.trans (hb.mono HB.out.size))
      replace HX := Lib.hid (HX.out.below hb)
      replace HR := Lib.hid (HR.out.below hb)
      replace HSP := Lib.hid (HSP.out.below hb)
      replace HR1 := Lib.hid (HR1.out.below hb)
      replace HS1 := Lib.hid (HS1.out.below hb)
      clear hb
      obtain ⟨k0, k1, k2, k3, k4, k5, k6, k7, k8, k9⟩ := HX.out
      go_wp2_with fail
      clear k0 k1 k2 k3 k4 k5 k6 k7 k8 k9
      with_reducible refine (awake_c _).mono ?_
      rintro e wz ⟨rfl, hbz⟩
      go_wp2_with fail
      go_ret
      exact ⟨rfl, HB.out.trans (hbz.mono HB.out.size)⟩
end Go.Proofs.Ytgglfngkomgadaa
