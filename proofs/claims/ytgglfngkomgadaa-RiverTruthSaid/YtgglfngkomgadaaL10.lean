/- Walks of the laws: RiverTruth. -/
import Derived.Test.YtgglfngkomgadaaL0
import Derived.Test.YtgglfngkomgadaaH11
namespace Go.Proofs.Ytgglfngkomgadaa
open Go.RowKit Go.Shelf
set_option linter.unusedVariables false
set_option linter.unusedSimpArgs false
set_option maxRecDepth 100000

theorem box_T2 {W : World} {q tb : Nat} {r : Riv} {A : RA} {t : Tr} {B : TA} (h : BoxR q r A W) (ht : W.heap[tb]? = some (.cells #[.slice B.sa t.salt.length B.sc, .slice B.ma t.mud.length B.mc] 64 (0, 0))) : BxT q tb r A t B W :=
  ⟨h, by rw [cell_blk ht]; rfl, by rw [cell_blk ht]; rfl⟩
/-- The boxes of both rivers and the truth. -/
structure ThS (p q u : Nat) (r : Riv) (A : RA) (x : Riv) (A' : RA) (t : Tr) (B : TA) (W : World) : Prop where
  bx : BoxR p r A W
  xx : BxT q u x A' t B W
theorem ThS.below {p q u : Nat} {r : Riv} {A : RA} {x : Riv} {A' : RA} {t : Tr} {B : TA} {W W' : World} (h : ThS p q u r A x A' t B W) (hb : Below W.heap.size W W') : ThS p q u r A x A' t B W' := ⟨h.bx.below hb, h.xx.below hb⟩
/-- A number and a range in lists. -/
structure NrS (b o b' o' : Nat) (n lo hi : Int) (W : World) : Prop where
  c0 : W.cell? ⟨b, o, none⟩ = some (.int .i64 n)
  c1 : W.cell? ⟨b', o', none⟩ = some (.int .i64 lo)
  c2 : W.cell? ⟨b', o' + 1, none⟩ = some (.int .i64 hi)
theorem NrS.below {b o b' o' : Nat} {n lo hi : Int} {W W' : World} (h : NrS b o b' o' n lo hi W) (hb : Below W.heap.size W W') : NrS b o b' o' n lo hi W' :=
  have hw : Wr (fun _ => False) W W' := Wr.of_below hb
  ⟨hw.cell (fun e => e) h.c0, hw.cell (fun e => e) h.c1, hw.cell (fun e => e) h.c2⟩
set_option maxHeartbeats 20000000 in
theorem law10_c (r : Riv) (A : RA) (wn : Nat) (aw : Option Addr) (ws : List Nat) (cw : Nat) (b : Nat) (w : World) (hr : Rd w r A) (hww9 : wn < 65536) (hw : Sl w aw (words ws)) (hws : ∀ x ∈ ws, x < 65536) (hwl : ws.length ≤ 9223372036854775807) (hbb : b < 256) :
    Calls Try.prog 10 #[rivV r A, .int .u16 wn, .slice aw ws.length cw, .int .u8 b] w (RetB true w) := by
  have HB := Lib.hid (al_b w (rO26 r A))
  have HX := Lib.hid (box_new w r A)
  have HR := Lib.hid hr
  clear hr
  cases hrd : (thinB r && decide (r.faultI = 0))
  · have HRD := Lib.hid hrd
    clear hrd
    go_enter Try.func10, Try.ntmps10
    go_wp2_with fail
    obtain ⟨wq, hwq⟩ : ∃ wq, w.alloc (rO26 r A) = wq := ⟨_, rfl⟩
    rw [hwq] at HB HX ⊢
    clear hwq
    replace HR := Lib.hid (HR.out.below HB.out)
    with_reducible refine (ready_c r A _ HR.out).mono ?_
    rintro e w3 ⟨rfl, hb⟩
    replace HB := Lib.hid (HB.out.trans (hb.mono HB.out.size))
    replace HX := Lib.hid (HX.out.below hb)
    replace HR := Lib.hid (HR.out.below hb)
    clear hb
    rw [HRD.out]
    obtain ⟨k0, k1, k2, k3, k4, k5, k6, k7, k8, k9⟩ := HX.out
    go_wp2_with fail
    clear k0 k1 k2 k3 k4 k5 k6 k7 k8 k9
    with_reducible refine (awake_c _).mono ?_
    rintro e wz ⟨rfl, hbz⟩
    go_wp2_with fail
    go_ret
    exact ⟨rfl, HB.out.trans (hbz.mono HB.out.size)⟩
  · have HRD := Lib.hid hrd
    have hrd2 := Bool.and_eq_true_iff.1 hrd
    have HL := Lib.hid (thin_lens hrd2.1)
    have HZ := Lib.hid (of_decide_eq_true hrd2.2)
    have HOK := Lib.hid (ok_of_fault HZ.out).1
    clear hrd hrd2
    obtain ⟨PL, hPL⟩ : ∃ L, planL r b = L := ⟨_, rfl⟩
    have hpl6 := planL_len r b
    rw [hPL] at hpl6
    have HPM := Lib.hid (show bitsL (planM r b) = PL from by rw [← planL_eq]; exact hPL)
    have HPM2 := Lib.hid (planM_lt HOK.out b)
    have HPL := Lib.hid hPL
    have HWS := Lib.hid hws
    have HNU := Lib.hid HOK.out.nu
    have HWQ := Lib.hid hw
    clear hPL hw hws
    go_enter Try.func10, Try.ntmps10
    go_wp2_with fail
    obtain ⟨wq, hwq⟩ : ∃ wq, w.alloc (rO26 r A) = wq := ⟨_, rfl⟩
    rw [hwq] at HB HX ⊢
    clear hwq
    replace HR := Lib.hid (HR.out.below HB.out)
    with_reducible refine (ready_c r A _ HR.out).mono ?_
    rintro e w3 ⟨rfl, hb⟩
    replace HB := Lib.hid (HB.out.trans (hb.mono HB.out.size))
    replace HX := Lib.hid (HX.out.below hb)
    replace HR := Lib.hid (HR.out.below hb)
    clear hb
    rw [HRD.out]
    obtain ⟨k0, k1, k2, k3, k4, k5, k6, k7, k8, k9⟩ := HX.out
    go_wp2_with fail
    clear k0 k1 k2 k3 k4 k5 k6 k7 k8 k9
    with_reducible refine (gauged_c r A wn aw ws cw _ HR.out HZ.out HL.out hww9 (HWQ.out.below HB.out) HWS.out hwl).mono ?_
    rintro e w4 ⟨t, AX, BX, hft, rfl, hrx, hrt, hb⟩
    replace HB := Lib.hid (HB.out.trans (hb.mono HB.out.size))
    replace HX := Lib.hid (HX.out.below hb)
    replace HR := Lib.hid (HR.out.below hb)
    clear hb
    have hGF := gd_facts HZ.out hft (fun i => wordN ws (i + 1)) (show wordN ws 0 % 6 ≤ 5 by omega) HPM2.out HPM.out
    have HTL := Lib.hid (fit_lens HOK.out hft)
    generalize gdR r t (fun i => wordN ws (i + 1)) (wordN ws 0 % 6) = x at hrx hGF ⊢
    have HGF := Lib.hid hGF
    have HLX := Lib.hid hGF.lens
    obtain ⟨Q, hq1, hq2, hq3⟩ := hGF.play
    have HQ1 := Lib.hid hq1
    have HQ2 := Lib.hid (show Q.length = r.use.length from hq2)
    have HQ4 := Lib.hid (show (Q.length : Int) = r.last + 1 from by rw [hq2]; exact HNU.out)
    have HQ3 := Lib.hid hq3
    have HUL := Lib.hid hGF.ul
    obtain ⟨su, hsu⟩ : ∃ u, sureP x PL = u := ⟨_, rfl⟩
    have HSU := Lib.hid hsu
    clear hGF hft hq1 hq2 hq3 hsu
    have HRX := Lib.hid hrx
    clear hrx
    have HRT := Lib.hid hrt
    clear hrt
    go_upto_region 4 with fail
    obtain ⟨xq, hxq⟩ : ∃ n, n = w4.heap.size := ⟨_, rfl⟩
    obtain ⟨hbx, htb, hb⟩ := two_boxes w4 x AX t BX
    obtain ⟨wb, hwb⟩ : ∃ Q, Q = (w4.alloc (rO26 x AX)).alloc (tO64 t BX) := ⟨_, rfl⟩
    rw [← hwb] at hbx htb hb ⊢
    rw [← hxq] at hbx htb ⊢
    replace HB := Lib.hid (HB.out.trans (hb.mono HB.out.size))
    replace HX := Lib.hid (HX.out.below hb)
    replace HR := Lib.hid (HR.out.below hb)
    replace HRX := Lib.hid (HRX.out.below hb)
    replace HRT := Lib.hid (HRT.out.below hb)
    clear hb hwb hxq
    have HXX := Lib.hid (box_T2 hbx htb)
    clear hbx htb
    have hwb : IntKind.i64.wrap (b : Int) = (b : Int) := IntWalk.i64_in _ (by omega)
    obtain ⟨k0, k1, k2, k3, k4, k5, k6, k7, k8, k9⟩ := HX.out
    obtain ⟨⟨j0, j1, j2, j3, j4, j5, j6, j7, j8, j9⟩, t0, t1⟩ := HXX.out
    go_wp2_with fail
    clear k0 k1 k2 k3 k4 k5 k6 k7 k8 k9 j0 j1 j2 j3 j4 j5 j6 j7 j8 j9 t0 t1
    clear hwb
    with_reducible refine (Planned_c r A b _ HOK.out.l0 HOK.out.l5 hbb).mono ?_
    rintro e w5 ⟨v, rfl, hown, hb⟩
    replace HB := Lib.hid (HB.out.trans (hb.mono HB.out.size))
    replace HX := Lib.hid (HX.out.below hb)
    replace HR := Lib.hid (HR.out.below hb)
    replace HRX := Lib.hid (HRX.out.below hb)
    replace HRT := Lib.hid (HRT.out.below hb)
    replace HXX := Lib.hid (HXX.out.below hb)
    clear hb
    rw [HPL.out] at hown
    obtain ⟨pa, pc, rfl, -, hs⟩ := own_Sl hown
    clear hown
    have HSP := Lib.hid hs
    clear hs
    obtain ⟨k0, k1, k2, k3, k4, k5, k6, k7, k8, k9⟩ := HX.out
    obtain ⟨⟨j0, j1, j2, j3, j4, j5, j6, j7, j8, j9⟩, t0, t1⟩ := HXX.out
    go_wp2_with fail
    clear k0 k1 k2 k3 k4 k5 k6 k7 k8 k9 j0 j1 j2 j3 j4 j5 j6 j7 j8 j9 t0 t1
    with_reducible refine (River_c x AX _ HRX.out HLX.out.1 HLX.out.2.1 HLX.out.2.2.1 HLX.out.2.2.2).mono ?_
    rintro e w6 ⟨A1, rfl, hr1, -, hb⟩
    replace HB := Lib.hid (HB.out.trans (hb.mono HB.out.size))
    replace HX := Lib.hid (HX.out.below hb)
    replace HR := Lib.hid (HR.out.below hb)
    replace HRX := Lib.hid (HRX.out.below hb)
    replace HRT := Lib.hid (HRT.out.below hb)
    replace HXX := Lib.hid (HXX.out.below hb)
    replace HSP := Lib.hid (HSP.out.below hb)
    clear hb
    have HR1 := Lib.hid hr1
    clear hr1
    obtain ⟨k0, k1, k2, k3, k4, k5, k6, k7, k8, k9⟩ := HX.out
    obtain ⟨⟨j0, j1, j2, j3, j4, j5, j6, j7, j8, j9⟩, t0, t1⟩ := HXX.out
    go_wp2_with fail
    clear k0 k1 k2 k3 k4 k5 k6 k7 k8 k9 j0 j1 j2 j3 j4 j5 j6 j7 j8 j9 t0 t1
    with_reducible refine (Leave_c x A1 _ HR1.out HLX.out.1 HLX.out.2.1 HLX.out.2.2.1 HLX.out.2.2.2).mono ?_
    rintro e w7 ⟨sa, sc, rfl, hsl, hb⟩
    replace HB := Lib.hid (HB.out.trans (hb.mono HB.out.size))
    replace HX := Lib.hid (HX.out.below hb)
    replace HR := Lib.hid (HR.out.below hb)
    replace HRX := Lib.hid (HRX.out.below hb)
    replace HRT := Lib.hid (HRT.out.below hb)
    replace HXX := Lib.hid (HXX.out.below hb)
    replace HSP := Lib.hid (HSP.out.below hb)
    replace HR1 := Lib.hid (HR1.out.below hb)
    clear hb
    rw [HGF.out.leave] at hsl ⊢
    clear hsl
    rw [List.length_nil]
    obtain ⟨k0, k1, k2, k3, k4, k5, k6, k7, k8, k9⟩ := HX.out
    obtain ⟨⟨j0, j1, j2, j3, j4, j5, j6, j7, j8, j9⟩, t0, t1⟩ := HXX.out
    go_wp2_with fail
    clear k0 k1 k2 k3 k4 k5 k6 k7 k8 k9 j0 j1 j2 j3 j4 j5 j6 j7 j8 j9 t0 t1
    with_reducible refine (River_c x AX _ HRX.out HLX.out.1 HLX.out.2.1 HLX.out.2.2.1 HLX.out.2.2.2).mono ?_
    rintro e w8 ⟨A2, rfl, hr1, hg1, hb⟩
    replace HB := Lib.hid (HB.out.trans (hb.mono HB.out.size))
    replace HX := Lib.hid (HX.out.below hb)
    replace HR := Lib.hid (HR.out.below hb)
    replace HRX := Lib.hid (HRX.out.below hb)
    replace HRT := Lib.hid (HRT.out.below hb)
    replace HXX := Lib.hid (HXX.out.below hb)
    replace HSP := Lib.hid (HSP.out.below hb)
    replace HR1 := Lib.hid (HR1.out.below hb)
    clear hb
    have HR2 := Lib.hid hr1
    clear hr1
    have HG2 := Lib.hid hg1
    clear hg1
    obtain ⟨k0, k1, k2, k3, k4, k5, k6, k7, k8, k9⟩ := HX.out
    obtain ⟨⟨j0, j1, j2, j3, j4, j5, j6, j7, j8, j9⟩, t0, t1⟩ := HXX.out
    go_wp2_with fail
    clear k0 k1 k2 k3 k4 k5 k6 k7 k8 k9 j0 j1 j2 j3 j4 j5 j6 j7 j8 j9 t0 t1
    with_reducible refine (First_c x A2 _ HR2.out HLX.out.1 HLX.out.2.1 HLX.out.2.2.1 HLX.out.2.2.2 HG2.out).mono ?_
    rintro e w9 ⟨rfl, hb⟩
    replace HB := Lib.hid (HB.out.trans (hb.mono HB.out.size))
    replace HX := Lib.hid (HX.out.below hb)
    replace HR := Lib.hid (HR.out.below hb)
    replace HRX := Lib.hid (HRX.out.below hb)
    replace HRT := Lib.hid (HRT.out.below hb)
    replace HXX := Lib.hid (HXX.out.below hb)
    replace HSP := Lib.hid (HSP.out.below hb)
    replace HR1 := Lib.hid (HR1.out.below hb)
    replace HR2 := Lib.hid (HR2.out.below hb)
    clear hb
    rw [HGF.out.first]
    obtain ⟨k0, k1, k2, k3, k4, k5, k6, k7, k8, k9⟩ := HX.out
    obtain ⟨⟨j0, j1, j2, j3, j4, j5, j6, j7, j8, j9⟩, t0, t1⟩ := HXX.out
    go_wp2_with fail
    clear k0 k1 k2 k3 k4 k5 k6 k7 k8 k9 j0 j1 j2 j3 j4 j5 j6 j7 j8 j9 t0 t1
    refine region_o (S := BxT xq (xq + 1) x AX t BX) (.take 0 (.take 2 (.take 4 (.one 1 (.one 3 (.one 5 (.one 6 (.take 7 (.take 8 (.take 9 (.take 10 (.take 11 .nil)))))))))))) (by kernel_rfl) (by kernel_rfl) (fun _ _ d _ _ h => by cases d <;> exact h) (HXX.out.below (Below.refl _ _).drew) ?_
    intro W0 hW0 hS0
    have hBW : Below w9.heap.size w9 W0 := by subst hW0; exact (Below.refl _ _).drew
    clear hW0
    repeat (first
      | (refine ord_skip rfl ?_ ?_; rfl; simp only [pz])
      | (refine ord_take (v := ?_) rfl ?_ (fun W hW => ?_) ?_; rotate_left; rfl; (obtain ⟨⟨j0, j1, j2, j3, j4, j5, j6, j7, j8, j9⟩, t0, t1⟩ := hW; go_simp; (first | done | with_reducible rfl)); simp only [pz]))
    (refine ord_op rfl ?_ (fun K hK => ?_); rfl; go_simp; (with_reducible refine (River_c x AX _ (HRX.out.below hBW) HLX.out.1 HLX.out.2.1 HLX.out.2.2.1 HLX.out.2.2.2).mono ?_); rintro e W1 ⟨A3, rfl, hr1, -, hb⟩; have hS1 := BxT.below hS0 hb; replace hBW := hBW.trans (hb.mono hBW.size); have HR3 := Lib.hid hr1; clear hr1; clear hb; refine hK _ _ hS1 ?_; clear hK K; try simp only [pz])
    (refine ord_op rfl ?_ (fun K hK => ?_); rfl; go_simp; (with_reducible refine (list_c pa PL pc _ (HSP.out.below hBW) (by omega)).mono ?_); rintro e W2 ⟨v, rfl, hown, hb⟩; have hS2 := BxT.below hS1 hb; replace hBW := hBW.trans (hb.mono hBW.size); obtain ⟨s3, cs3, rfl, -, hs2⟩ := own_Sl hown; have HS3 := Lib.hid hs2; clear hown hs2; replace HR3 := Lib.hid (HR3.out.below hb); clear hb; refine hK _ _ hS2 ?_; clear hK K; try simp only [pz])
    (refine ord_op rfl ?_ (fun K hK => ?_); rfl; go_simp; (with_reducible refine (Truth_c t BX _ (HRT.out.below hBW) (by have := HTL.out.1; have := HOK.out.l5; omega) (by have := HTL.out.2; have := HOK.out.l5; omega)).mono ?_); rintro e W3 ⟨B2, rfl, ht1, hb⟩; have hS3 := BxT.below hS2 hb; replace hBW := hBW.trans (hb.mono hBW.size); have HT3 := Lib.hid ht1; clear ht1; replace HR3 := Lib.hid (HR3.out.below hb); replace HS3 := Lib.hid (HS3.out.below hb); clear hb; refine hK _ _ hS3 ?_; clear hK K; try simp only [pz])
    (refine ord_op rfl ?_ (fun K hK => ?_); rfl; go_simp; (with_reducible refine (Play_c x A3 s3 PL cs3 t B2 _ HR3.out HT3.out HLX.out.1 HLX.out.2.1 HLX.out.2.2.1 HLX.out.2.2.2 HS3.out (by omega)).mono ?_); rintro e W4 ⟨qa, qc, rfl, hsq, hb⟩; have hS4 := BxT.below hS3 hb; replace hBW := hBW.trans (hb.mono hBW.size); rw [HQ1.out] at hsq ⊢; have HSQ := Lib.hid hsq; clear hsq; clear hb; refine hK _ _ hS4 ?_; clear hK K; try simp only [pz])
    repeat (first
      | (refine ord_skip rfl ?_ ?_; rfl; simp only [pz])
      | (refine ord_take (v := ?_) rfl ?_ (fun W hW => ?_) ?_; rotate_left; rfl; (obtain ⟨⟨j0, j1, j2, j3, j4, j5, j6, j7, j8, j9⟩, t0, t1⟩ := hW; go_simp; (first | done | with_reducible rfl)); simp only [pz]))
    refine ord_nil ?_
    replace HB := Lib.hid (HB.out.trans (hBW.mono HB.out.size))
    replace HX := Lib.hid (HX.out.below hBW)
    replace HR := Lib.hid (HR.out.below hBW)
    replace HRX := Lib.hid (HRX.out.below hBW)
    replace HRT := Lib.hid (HRT.out.below hBW)
    replace HXX := Lib.hid (HXX.out.below hBW)
    replace HSP := Lib.hid (HSP.out.below hBW)
    replace HR1 := Lib.hid (HR1.out.below hBW)
    replace HR2 := Lib.hid (HR2.out.below hBW)
    clear hBW
    obtain ⟨k0, k1, k2, k3, k4, k5, k6, k7, k8, k9⟩ := HX.out
    obtain ⟨⟨j0, j1, j2, j3, j4, j5, j6, j7, j8, j9⟩, t0, t1⟩ := HXX.out
    go_wp2_with fail
    clear k0 k1 k2 k3 k4 k5 k6 k7 k8 k9 j0 j1 j2 j3 j4 j5 j6 j7 j8 j9 t0 t1
    with_reducible refine (River_c x AX _ HRX.out HLX.out.1 HLX.out.2.1 HLX.out.2.2.1 HLX.out.2.2.2).mono ?_
    rintro e w10 ⟨A4, rfl, hr1, -, hb⟩
    replace HB := Lib.hid (HB.out.trans (hb.mono HB.out.size))
    replace HX := Lib.hid (HX.out.below hb)
    replace HR := Lib.hid (HR.out.below hb)
    replace HRX := Lib.hid (HRX.out.below hb)
    replace HRT := Lib.hid (HRT.out.below hb)
    replace HXX := Lib.hid (HXX.out.below hb)
    replace HSP := Lib.hid (HSP.out.below hb)
    replace HR1 := Lib.hid (HR1.out.below hb)
    replace HR2 := Lib.hid (HR2.out.below hb)
    replace HSQ := Lib.hid (HSQ.out.below hb)
    clear hb
    have HR4 := Lib.hid hr1
    clear hr1
    obtain ⟨k0, k1, k2, k3, k4, k5, k6, k7, k8, k9⟩ := HX.out
    obtain ⟨⟨j0, j1, j2, j3, j4, j5, j6, j7, j8, j9⟩, t0, t1⟩ := HXX.out
    go_wp2_with fail
    clear k0 k1 k2 k3 k4 k5 k6 k7 k8 k9 j0 j1 j2 j3 j4 j5 j6 j7 j8 j9 t0 t1
    with_reducible refine (list_c pa PL pc _ HSP.out (by omega)).mono ?_
    rintro e w11 ⟨v, rfl, hown, hb⟩
    replace HB := Lib.hid (HB.out.trans (hb.mono HB.out.size))
    replace HX := Lib.hid (HX.out.below hb)
    replace HR := Lib.hid (HR.out.below hb)
    replace HRX := Lib.hid (HRX.out.below hb)
    replace HRT := Lib.hid (HRT.out.below hb)
    replace HXX := Lib.hid (HXX.out.below hb)
    replace HSP := Lib.hid (HSP.out.below hb)
    replace HR1 := Lib.hid (HR1.out.below hb)
    replace HR2 := Lib.hid (HR2.out.below hb)
    replace HSQ := Lib.hid (HSQ.out.below hb)
    replace HR4 := Lib.hid (HR4.out.below hb)
    clear hb
    obtain ⟨s4, cs4, rfl, -, hs2⟩ := own_Sl hown
    clear hown
    have HS4 := Lib.hid hs2
    clear hs2
    obtain ⟨k0, k1, k2, k3, k4, k5, k6, k7, k8, k9⟩ := HX.out
    obtain ⟨⟨j0, j1, j2, j3, j4, j5, j6, j7, j8, j9⟩, t0, t1⟩ := HXX.out
    go_wp2_with fail
    clear k0 k1 k2 k3 k4 k5 k6 k7 k8 k9 j0 j1 j2 j3 j4 j5 j6 j7 j8 j9 t0 t1
    with_reducible refine (Tank_ok_c x A4 s4 PL cs4 _ HR4.out HLX.out HS4.out (by omega) HGF.out.ask).mono ?_
    rintro e w12 ⟨ta, tc, rfl, hra, hb⟩
    replace HB := Lib.hid (HB.out.trans (hb.mono HB.out.size))
    replace HX := Lib.hid (HX.out.below hb)
    replace HR := Lib.hid (HR.out.below hb)
    replace HRX := Lib.hid (HRX.out.below hb)
    replace HRT := Lib.hid (HRT.out.below hb)
    replace HXX := Lib.hid (HXX.out.below hb)
    replace HSP := Lib.hid (HSP.out.below hb)
    replace HR1 := Lib.hid (HR1.out.below hb)
    replace HR2 := Lib.hid (HR2.out.below hb)
    replace HSQ := Lib.hid (HSQ.out.below hb)
    replace HR4 := Lib.hid (HR4.out.below hb)
    replace HS4 := Lib.hid (HS4.out.below hb)
    clear hb
    rw [HUL.out, ← HQ2.out]
    have HTA := Lib.hid hra
    clear hra
    obtain ⟨k0, k1, k2, k3, k4, k5, k6, k7, k8, k9⟩ := HX.out
    obtain ⟨⟨j0, j1, j2, j3, j4, j5, j6, j7, j8, j9⟩, t0, t1⟩ := HXX.out
    go_wp2_with fail
    clear k0 k1 k2 k3 k4 k5 k6 k7 k8 k9 j0 j1 j2 j3 j4 j5 j6 j7 j8 j9 t0 t1
    with_reducible refine (sure_c x AX pa PL pc _ HRX.out HLX.out.1 HLX.out.2.1 HLX.out.2.2.1 HLX.out.2.2.2 HSP.out (by omega)).mono ?_
    rintro e w13 ⟨rfl, hb⟩
    replace HB := Lib.hid (HB.out.trans (hb.mono HB.out.size))
    replace HX := Lib.hid (HX.out.below hb)
    replace HR := Lib.hid (HR.out.below hb)
    replace HRX := Lib.hid (HRX.out.below hb)
    replace HRT := Lib.hid (HRT.out.below hb)
    replace HXX := Lib.hid (HXX.out.below hb)
    replace HSP := Lib.hid (HSP.out.below hb)
    replace HR1 := Lib.hid (HR1.out.below hb)
    replace HR2 := Lib.hid (HR2.out.below hb)
    replace HSQ := Lib.hid (HSQ.out.below hb)
    replace HR4 := Lib.hid (HR4.out.below hb)
    replace HS4 := Lib.hid (HS4.out.below hb)
    replace HTA := Lib.hid (HTA.out.below hb)
    clear hb
    rw [HSU.out]
    have hq4 := HQ4.out
    have hl0 := HOK.out.l0
    have hl5 := HOK.out.l5
    have hlw : IntKind.i64.wrap (r.last + 1) = r.last + 1 := IntWalk.i64_in _ (by omega)
    obtain ⟨k0, k1, k2, k3, k4, k5, k6, k7, k8, k9⟩ := HX.out
    obtain ⟨⟨j0, j1, j2, j3, j4, j5, j6, j7, j8, j9⟩, t0, t1⟩ := HXX.out
    go_wp2_with fail
    clear k0 k1 k2 k3 k4 k5 k6 k7 k8 k9 j0 j1 j2 j3 j4 j5 j6 j7 j8 j9 t0 t1
    have HTH := Lib.hid (show ThS w.heap.size xq (xq + 1) r A x AX t BX w13 from ⟨HX.out, HXX.out⟩)
    refine region_o (S := ThS w.heap.size xq (xq + 1) r A x AX t BX) (.take 0 (.take 1 (.take 2 (.take 3 (.take 4 (.take 5 (.take 6 (.take 7 (.take 8 (.take 9 (.take 10 (.take 11 (.take 12 (.take 13 (.take 14 (.take 15 (.take 16 (.take 17 (.take 18 (.take 19 (.take 20 (.take 21 (.take 22 (.take 23 (.take 24 (.take 25 (.take 26 (.take 27 (.take 28 (.take 29 (.take 30 (.take 31 (.take 32 (.take 33 (.take 34 (.take 35 (.take 37 (.one 36 (.one 38 (.one 39 (.take 40 (.take 41 .nil)))))))))))))))))))))))))))))))))))))))))) (by kernel_rfl) (by kernel_rfl) (fun _ _ d _ _ h => by cases d <;> exact h) (HTH.out.below (Below.refl _ _).drew) ?_
    intro W0 hW0 hS0
    have hBW : Below w13.heap.size w13 W0 := by subst hW0; exact (Below.refl _ _).drew
    clear hW0
    repeat (first
      | (refine ord_skip rfl ?_ ?_; rfl; simp only [pz])
      | (refine ord_take (v := ?_) rfl ?_ (fun W hW => ?_) ?_; rotate_left; rfl; (obtain ⟨⟨k0, k1, k2, k3, k4, k5, k6, k7, k8, k9⟩, ⟨⟨j0, j1, j2, j3, j4, j5, j6, j7, j8, j9⟩, t0, t1⟩⟩ := hW; go_simp; (first | done | with_reducible rfl)); simp only [pz]))
    first
      | (refine ord_pass rfl ?_ hS0 ?_; rfl; simp only [pz]; have W1 := W0; have hS1 := hS0)
      | (refine ord_op rfl ?_ (fun K hK => ?_); rfl; go_simp; (with_reducible refine (River_c x AX _ (HRX.out.below hBW) HLX.out.1 HLX.out.2.1 HLX.out.2.2.1 HLX.out.2.2.2).mono ?_); rintro e W1 ⟨A5, rfl, hr1, -, hb⟩; have hS1 := ThS.below hS0 hb; replace hBW := hBW.trans (hb.mono hBW.size); have HR5 := Lib.hid hr1; clear hr1; (try replace HT5 := Lib.hid (HT5.out.below hb)); clear hb; refine hK _ _ hS1 ?_; clear hK K; try simp only [pz])
    first
      | (refine ord_pass rfl ?_ hS1 ?_; rfl; simp only [pz]; have W2 := W1; have hS2 := hS1)
      | (refine ord_op rfl ?_ (fun K hK => ?_); rfl; go_simp; (with_reducible refine (Truth_c t BX _ (HRT.out.below hBW) (by have := HTL.out.1; have := HOK.out.l5; omega) (by have := HTL.out.2; have := HOK.out.l5; omega)).mono ?_); rintro e W2 ⟨B5, rfl, ht1, hb⟩; have hS2 := ThS.below hS1 hb; replace hBW := hBW.trans (hb.mono hBW.size); have HT5 := Lib.hid ht1; clear ht1; (try replace HR5 := Lib.hid (HR5.out.below hb)); clear hb; refine hK _ _ hS2 ?_; clear hK K; try simp only [pz])
    first
      | (refine ord_pass rfl ?_ hS2 ?_; rfl; simp only [pz]; have W3 := W2; have hS3 := hS2)
      | (refine ord_op rfl ?_ (fun K hK => ?_); rfl; go_simp; (with_reducible refine (ProveTruth_c x A5 t B5 _ HR5.out HT5.out HLX.out.1 HLX.out.2.1 HLX.out.2.2.1 HLX.out.2.2.2).mono ?_); rintro e W3 ⟨rfl, hb⟩; have hS3 := ThS.below hS2 hb; replace hBW := hBW.trans (hb.mono hBW.size); rw [HGF.out.prove]; clear hb; refine hK _ _ hS3 ?_; clear hK K; try simp only [pz])
    repeat (first
      | (refine ord_skip rfl ?_ ?_; rfl; simp only [pz])
      | (refine ord_take (v := ?_) rfl ?_ (fun W hW => ?_) ?_; rotate_left; rfl; (obtain ⟨⟨k0, k1, k2, k3, k4, k5, k6, k7, k8, k9⟩, ⟨⟨j0, j1, j2, j3, j4, j5, j6, j7, j8, j9⟩, t0, t1⟩⟩ := hW; go_simp; (first | done | with_reducible rfl)); simp only [pz]))
    refine ord_nil ?_
    replace HB := Lib.hid (HB.out.trans (hBW.mono HB.out.size))
    replace HX := Lib.hid (HX.out.below hBW)
    replace HR := Lib.hid (HR.out.below hBW)
    replace HRX := Lib.hid (HRX.out.below hBW)
    replace HRT := Lib.hid (HRT.out.below hBW)
    replace HXX := Lib.hid (HXX.out.below hBW)
    replace HSP := Lib.hid (HSP.out.below hBW)
    replace HR1 := Lib.hid (HR1.out.below hBW)
    replace HR2 := Lib.hid (HR2.out.below hBW)
    replace HSQ := Lib.hid (HSQ.out.below hBW)
    replace HR4 := Lib.hid (HR4.out.below hBW)
    replace HS4 := Lib.hid (HS4.out.below hBW)
    replace HTA := Lib.hid (HTA.out.below hBW)
    replace HTH := Lib.hid (HTH.out.below hBW)
    clear hBW
    clear hq4 hl0 hl5 hlw
    obtain ⟨k0, k1, k2, k3, k4, k5, k6, k7, k8, k9⟩ := HX.out
    obtain ⟨⟨j0, j1, j2, j3, j4, j5, j6, j7, j8, j9⟩, t0, t1⟩ := HXX.out
    go_wp2_with fail
    clear k0 k1 k2 k3 k4 k5 k6 k7 k8 k9 j0 j1 j2 j3 j4 j5 j6 j7 j8 j9 t0 t1
    go_loopw [21, 22] (fun u i wr => ∃ (k : Nat) (n : Int), k ≤ Q.length ∧ i = .int .i64 k ∧ Hid (aftV x t PL r.size (-1) k = n) ∧ u = .int .i64 n ∧ Below W3.heap.size W3 wr) (fun _ i _ => Q.length - (intOf i).toNat)
    case atStart => exact ⟨0, r.start, Nat.zero_le _, rfl, HGF.out.start, rfl, Below.refl _ _⟩
    case round =>
      obtain ⟨k, n, hk, rfl, HN, rfl, hB⟩ := hrel
      replace HB := Lib.hid (HB.out.trans (hB.mono HB.out.size))
      replace HX := Lib.hid (HX.out.below hB)
      replace HR := Lib.hid (HR.out.below hB)
      replace HRX := Lib.hid (HRX.out.below hB)
      replace HRT := Lib.hid (HRT.out.below hB)
      replace HXX := Lib.hid (HXX.out.below hB)
      replace HSP := Lib.hid (HSP.out.below hB)
      replace HR1 := Lib.hid (HR1.out.below hB)
      replace HR2 := Lib.hid (HR2.out.below hB)
      replace HSQ := Lib.hid (HSQ.out.below hB)
      replace HR4 := Lib.hid (HR4.out.below hB)
      replace HS4 := Lib.hid (HS4.out.below hB)
      replace HTA := Lib.hid (HTA.out.below hB)
      replace HTH := Lib.hid (HTH.out.below hB)
      have HC := Lib.hid hB
      clear hB
      obtain ⟨hn0, hn9⟩ : 0 ≤ n ∧ n ≤ 99 := by rw [← HN.out]; exact HGF.out.bd k
      have hq6 : Q.length ≤ 6 := by have := HQ4.out; have := HOK.out.l5; omega
      by_cases hlt : k < Q.length
      · have hkl : (k : Int) ≤ r.last := by have := HQ4.out; omega
        have hkt : k < (tanksL x PL).length := by rw [HGF.out.tlen, ← HQ2.out]; exact hlt
        obtain ⟨xn, hx⟩ : ∃ x, Q[k]? = some x := ⟨_, List.getElem?_eq_getElem hlt⟩
        obtain ⟨y, hy⟩ : ∃ y, (tanksL x PL)[k]? = some y := ⟨_, List.getElem?_eq_getElem hkt⟩
        obtain ⟨u, hu⟩ : ∃ u, r.use[k]? = some u := ⟨_, List.getElem?_eq_getElem (by rw [← HQ2.out]; exact hlt)⟩
        have hgu : r.use.getD k 0 = u := by rw [List.getD_eq_getElem?_getD, hu]; rfl
        have hub := use_bd HOK.out k
        rw [hgu] at hub
        have hxn := HQ3.out k xn hkl hx
        have hty := HGF.out.tank k y hkl hy
        rw [hxn] at hty
        have HXN := Lib.hid hxn
        obtain ⟨gg, hgg⟩ : ∃ g, goodD r t k = g := ⟨_, rfl⟩
        obtain ⟨cc, hcc⟩ : ∃ c, PL.contains (k : Int) = c := ⟨_, rfl⟩
        obtain ⟨v, hv1, hv2, hv3⟩ := HGF.out.good k hkl
        have hs := fun h => HGF.out.sure (HSU.out.trans h) k n hkl HN.out
        rw [hgg] at hv3 hs
        rw [hcc, hgu] at hs
        have HS := Lib.hid (show su = true → u ≤ if cc && gg then min r.size (n + r.draw) else n from hs)
        have HGG := Lib.hid hgg
        have HCC := Lib.hid hcc
        have HV1 := Lib.hid hv1
        have HV2 := Lib.hid hv2
        have HV3 := Lib.hid hv3
        obtain ⟨b0, o0, ea, d0⟩ := HSQ.out.int_at hx
        subst ea
        obtain ⟨b1, o1, ea, d1, d2⟩ := HTA.out.rg_at hy
        subst ea
        have HSS := Lib.hid (show NrS b0 (o0 + k) b1 (o1 + k * 2) xn y.lo y.hi wr from ⟨d0, d1, d2⟩)
        obtain ⟨ub, uo, hua, du⟩ := HR.out.u.int_at hu
        have HUA := Lib.hid hua
        have HUS := Lib.hid (show InS w.heap.size ub (uo + k) r A u wr from ⟨HX.out, du⟩)
        have ew : IntKind.i64.wrap ((k : Int) + 1) = (k : Int) + 1 := IntWalk.i64_in _ (by omega)
        have hts : k < t.salt.length := by have := HTL.out.1; omega
        have htm : k < t.mud.length := by have := HTL.out.2; omega
        obtain ⟨hy1, hy2⟩ := hty
        clear hx hy hu hgu hxn hgg hcc hv1 hv2 hv3 hs d0 d1 d2 hua du hkt
        obtain ⟨k0, k1, k2, k3, k4, k5, k6, k7, k8, k9⟩ := HX.out
        obtain ⟨⟨j0, j1, j2, j3, j4, j5, j6, j7, j8, j9⟩, t0, t1⟩ := HXX.out
        go_wp2_with fail
        clear k0 k1 k2 k3 k4 k5 k6 k7 k8 k9 j0 j1 j2 j3 j4 j5 j6 j7 j8 j9 t0 t1
        with_reducible refine (River_c x AX _ HRX.out HLX.out.1 HLX.out.2.1 HLX.out.2.2.1 HLX.out.2.2.2).mono ?_
        rintro e w14 ⟨A6, rfl, hr1, -, hb⟩
        replace HB := Lib.hid (HB.out.trans (hb.mono HB.out.size))
        replace HC := Lib.hid (HC.out.trans (hb.mono HC.out.size))
        replace HX := Lib.hid (HX.out.below hb)
        replace HR := Lib.hid (HR.out.below hb)
        replace HRX := Lib.hid (HRX.out.below hb)
        replace HRT := Lib.hid (HRT.out.below hb)
        replace HXX := Lib.hid (HXX.out.below hb)
        replace HSP := Lib.hid (HSP.out.below hb)
        replace HR1 := Lib.hid (HR1.out.below hb)
        replace HR2 := Lib.hid (HR2.out.below hb)
        replace HSQ := Lib.hid (HSQ.out.below hb)
        replace HR4 := Lib.hid (HR4.out.below hb)
        replace HS4 := Lib.hid (HS4.out.below hb)
        replace HTA := Lib.hid (HTA.out.below hb)
        replace HTH := Lib.hid (HTH.out.below hb)
        replace HSS := Lib.hid (HSS.out.below hb)
        replace HUS := Lib.hid (HUS.out.below hb)
        clear hb
        have HR6 := Lib.hid hr1
        clear hr1
        obtain ⟨k0, k1, k2, k3, k4, k5, k6, k7, k8, k9⟩ := HX.out
        obtain ⟨⟨j0, j1, j2, j3, j4, j5, j6, j7, j8, j9⟩, t0, t1⟩ := HXX.out
        go_wp2_with fail
        clear k0 k1 k2 k3 k4 k5 k6 k7 k8 k9 j0 j1 j2 j3 j4 j5 j6 j7 j8 j9 t0 t1
        with_reducible refine (Good_c x A6 (k : Int) _ HR6.out HLX.out.1 HLX.out.2.1 HLX.out.2.2.1 HLX.out.2.2.2).mono ?_
        rintro e w15 ⟨rfl, hb⟩
        replace HB := Lib.hid (HB.out.trans (hb.mono HB.out.size))
        replace HC := Lib.hid (HC.out.trans (hb.mono HC.out.size))
        replace HX := Lib.hid (HX.out.below hb)
        replace HR := Lib.hid (HR.out.below hb)
        replace HRX := Lib.hid (HRX.out.below hb)
        replace HRT := Lib.hid (HRT.out.below hb)
        replace HXX := Lib.hid (HXX.out.below hb)
        replace HSP := Lib.hid (HSP.out.below hb)
        replace HR1 := Lib.hid (HR1.out.below hb)
        replace HR2 := Lib.hid (HR2.out.below hb)
        replace HSQ := Lib.hid (HSQ.out.below hb)
        replace HR4 := Lib.hid (HR4.out.below hb)
        replace HS4 := Lib.hid (HS4.out.below hb)
        replace HTA := Lib.hid (HTA.out.below hb)
        replace HTH := Lib.hid (HTH.out.below hb)
        replace HSS := Lib.hid (HSS.out.below hb)
        replace HUS := Lib.hid (HUS.out.below hb)
        replace HR6 := Lib.hid (HR6.out.below hb)
        clear hb
        rw [HV1.out]
        obtain ⟨k0, k1, k2, k3, k4, k5, k6, k7, k8, k9⟩ := HX.out
        obtain ⟨⟨j0, j1, j2, j3, j4, j5, j6, j7, j8, j9⟩, t0, t1⟩ := HXX.out
        go_wp2_with fail
        clear k0 k1 k2 k3 k4 k5 k6 k7 k8 k9 j0 j1 j2 j3 j4 j5 j6 j7 j8 j9 t0 t1
        with_reducible refine (IsGood_c r A t BX k _ HRT.out hts htm).mono ?_
        rintro e w16 ⟨rfl, hb⟩
        replace HB := Lib.hid (HB.out.trans (hb.mono HB.out.size))
        replace HC := Lib.hid (HC.out.trans (hb.mono HC.out.size))
        replace HX := Lib.hid (HX.out.below hb)
        replace HR := Lib.hid (HR.out.below hb)
        replace HRX := Lib.hid (HRX.out.below hb)
        replace HRT := Lib.hid (HRT.out.below hb)
        replace HXX := Lib.hid (HXX.out.below hb)
        replace HSP := Lib.hid (HSP.out.below hb)
        replace HR1 := Lib.hid (HR1.out.below hb)
        replace HR2 := Lib.hid (HR2.out.below hb)
        replace HSQ := Lib.hid (HSQ.out.below hb)
        replace HR4 := Lib.hid (HR4.out.below hb)
        replace HS4 := Lib.hid (HS4.out.below hb)
        replace HTA := Lib.hid (HTA.out.below hb)
        replace HTH := Lib.hid (HTH.out.below hb)
        replace HSS := Lib.hid (HSS.out.below hb)
        replace HUS := Lib.hid (HUS.out.below hb)
        replace HR6 := Lib.hid (HR6.out.below hb)
        clear hb
        rw [HGG.out]
        obtain ⟨k0, k1, k2, k3, k4, k5, k6, k7, k8, k9⟩ := HX.out
        obtain ⟨⟨j0, j1, j2, j3, j4, j5, j6, j7, j8, j9⟩, t0, t1⟩ := HXX.out
        go_upto_region 18 with fail
        clear k0 k1 k2 k3 k4 k5 k6 k7 k8 k9 j0 j1 j2 j3 j4 j5 j6 j7 j8 j9 t0 t1
        go_cut [180] (fun v wc => v = .bool false ∧ Below w16.heap.size w16 wc)
        case first =>
          as_aux_lemma =>
            have hnlo : ¬ xn < y.lo := by omega
            have hnhi : ¬ xn > y.hi := by omega
            have hnhi2 : ¬ y.hi < xn := by omega
            rcases HV3.out with ⟨rfl, rfl⟩ | ⟨rfl, rfl⟩ | rfl
            · refine region_o (S := NrS b0 (o0 + k) b1 (o1 + k * 2) xn y.lo y.hi) (.take 0 (.take 1 (.take 2 (.take 3 (.one 4 (.take 5 (.take 6 (.take 7 (.take 8 (.take 9 (.take 10 (.take 11 (.take 12 (.take 13 (.take 14 (.take 15 (.take 16 (.take 17 (.take 18 (.take 19 (.take 20 (.take 21 (.take 22 (.take 23 (.take 24 (.take 25 (.take 26 (.take 27 (.take 28 (.take 29 (.take 30 (.take 31 (.take 32 (.take 33 (.take 34 (.take 35 (.take 36 (.take 37 (.take 38 (.take 39 (.take 40 (.take 41 (.take 42 (.take 43 (.take 44 (.take 45 .nil)))))))))))))))))))))))))))))))))))))))))))))) (by kernel_rfl) (by kernel_rfl) (fun _ _ d _ _ h => by cases d <;> exact h) (HSS.out.below (Below.refl _ _).drew) ?_
              intro W0 hW0 hS0
              have hBW : Below w16.heap.size w16 W0 := by subst hW0; exact (Below.refl _ _).drew
              clear hW0
              repeat (first
                | (refine ord_skip rfl ?_ ?_; rfl; simp only [pz])
                | (refine ord_take (v := ?_) rfl ?_ (fun W hW => ?_) ?_; rotate_left; rfl; (obtain ⟨c0, c1, c2⟩ := hW; go_simp; (first | done | with_reducible rfl)); simp only [pz]))
              first
                | (refine ord_pass rfl ?_ hS0 ?_; rfl; simp only [pz]; have W1 := W0; have hS1 := hS0)
                | (refine ord_op rfl ?_ (fun K hK => ?_); rfl; go_simp; (with_reducible refine (In_c _ _ _ _).mono ?_); rintro e w1 ⟨rfl, rfl⟩; rw [HV2.out]; obtain ⟨W1, hWj⟩ : ∃ Q, Q = W0 := ⟨_, rfl⟩; subst hWj; have hS1 := hS0; refine hK _ _ hS1 ?_; clear hK K; try simp only [pz])
              repeat (first
                | (refine ord_skip rfl ?_ ?_; rfl; simp only [pz])
                | (refine ord_take (v := ?_) rfl ?_ (fun W hW => ?_) ?_; rotate_left; rfl; (obtain ⟨c0, c1, c2⟩ := hW; go_simp; (first | done | with_reducible rfl)); simp only [pz]))
              refine ord_nil ?_
              go_wp2_with fail
              go_meet
              case rel => exact ⟨rfl, hBW⟩
            · refine region_o (S := NrS b0 (o0 + k) b1 (o1 + k * 2) xn y.lo y.hi) (.take 0 (.take 1 (.take 2 (.take 3 (.one 4 (.take 5 (.take 6 (.take 7 (.take 8 (.take 9 (.take 10 (.take 11 (.take 12 (.take 13 (.take 14 (.take 15 (.take 16 (.take 17 (.take 18 (.take 19 (.take 20 (.take 21 (.take 22 (.take 23 (.take 24 (.take 25 (.take 26 (.take 27 (.take 28 (.take 29 (.take 30 (.take 31 (.take 32 (.take 33 (.take 34 (.take 35 (.take 36 (.take 37 (.take 38 (.take 39 (.take 40 (.take 41 (.take 42 (.take 43 (.take 44 (.take 45 .nil)))))))))))))))))))))))))))))))))))))))))))))) (by kernel_rfl) (by kernel_rfl) (fun _ _ d _ _ h => by cases d <;> exact h) (HSS.out.below (Below.refl _ _).drew) ?_
              intro W0 hW0 hS0
              have hBW : Below w16.heap.size w16 W0 := by subst hW0; exact (Below.refl _ _).drew
              clear hW0
              repeat (first
                | (refine ord_skip rfl ?_ ?_; rfl; simp only [pz])
                | (refine ord_take (v := ?_) rfl ?_ (fun W hW => ?_) ?_; rotate_left; rfl; (obtain ⟨c0, c1, c2⟩ := hW; go_simp; (first | done | with_reducible rfl)); simp only [pz]))
              first
                | (refine ord_pass rfl ?_ hS0 ?_; rfl; simp only [pz]; have W1 := W0; have hS1 := hS0)
                | (refine ord_op rfl ?_ (fun K hK => ?_); rfl; go_simp; (with_reducible refine (In_c _ _ _ _).mono ?_); rintro e w1 ⟨rfl, rfl⟩; rw [HV2.out]; obtain ⟨W1, hWj⟩ : ∃ Q, Q = W0 := ⟨_, rfl⟩; subst hWj; have hS1 := hS0; refine hK _ _ hS1 ?_; clear hK K; try simp only [pz])
              repeat (first
                | (refine ord_skip rfl ?_ ?_; rfl; simp only [pz])
                | (refine ord_take (v := ?_) rfl ?_ (fun W hW => ?_) ?_; rotate_left; rfl; (obtain ⟨c0, c1, c2⟩ := hW; go_simp; (first | done | with_reducible rfl)); simp only [pz]))
              refine ord_nil ?_
              go_wp2_with fail
              go_meet
              case rel => exact ⟨rfl, hBW⟩
            · refine region_o (S := NrS b0 (o0 + k) b1 (o1 + k * 2) xn y.lo y.hi) (.take 0 (.take 1 (.take 2 (.take 3 (.one 4 (.take 5 (.take 6 (.take 7 (.take 8 (.take 9 (.take 10 (.take 11 (.take 12 (.take 13 (.take 14 (.take 15 (.take 16 (.take 17 (.take 18 (.take 19 (.take 20 (.take 21 (.take 22 (.take 23 (.take 24 (.take 25 (.take 26 (.take 27 (.take 28 (.take 29 (.take 30 (.take 31 (.take 32 (.take 33 (.take 34 (.take 35 (.take 36 (.take 37 (.take 38 (.take 39 (.take 40 (.take 41 (.take 42 (.take 43 (.take 44 (.take 45 .nil)))))))))))))))))))))))))))))))))))))))))))))) (by kernel_rfl) (by kernel_rfl) (fun _ _ d _ _ h => by cases d <;> exact h) (HSS.out.below (Below.refl _ _).drew) ?_
              intro W0 hW0 hS0
              have hBW : Below w16.heap.size w16 W0 := by subst hW0; exact (Below.refl _ _).drew
              clear hW0
              repeat (first
                | (refine ord_skip rfl ?_ ?_; rfl; simp only [pz])
                | (refine ord_take (v := ?_) rfl ?_ (fun W hW => ?_) ?_; rotate_left; rfl; (obtain ⟨c0, c1, c2⟩ := hW; go_simp; (first | done | with_reducible rfl)); simp only [pz]))
              first
                | (refine ord_pass rfl ?_ hS0 ?_; rfl; simp only [pz]; have W1 := W0; have hS1 := hS0)
                | (refine ord_op rfl ?_ (fun K hK => ?_); rfl; go_simp; (with_reducible refine (In_c _ _ _ _).mono ?_); rintro e w1 ⟨rfl, rfl⟩; rw [HV2.out]; obtain ⟨W1, hWj⟩ : ∃ Q, Q = W0 := ⟨_, rfl⟩; subst hWj; have hS1 := hS0; refine hK _ _ hS1 ?_; clear hK K; try simp only [pz])
              repeat (first
                | (refine ord_skip rfl ?_ ?_; rfl; simp only [pz])
                | (refine ord_take (v := ?_) rfl ?_ (fun W hW => ?_) ?_; rotate_left; rfl; (obtain ⟨c0, c1, c2⟩ := hW; go_simp; (first | done | with_reducible rfl)); simp only [pz]))
              refine ord_nil ?_
              go_wp2_with fail
              go_meet
              case rel => exact ⟨rfl, hBW⟩
        case rest =>
          obtain ⟨rfl, hb⟩ := hcut
          replace HB := Lib.hid (HB.out.trans (hb.mono HB.out.size))
          replace HC := Lib.hid (HC.out.trans (hb.mono HC.out.size))
          replace HX := Lib.hid (HX.out.below hb)
          replace HR := Lib.hid (HR.out.below hb)
          replace HRX := Lib.hid (HRX.out.below hb)
          replace HRT := Lib.hid (HRT.out.below hb)
          replace HXX := Lib.hid (HXX.out.below hb)
          replace HSP := Lib.hid (HSP.out.below hb)
          replace HR1 := Lib.hid (HR1.out.below hb)
          replace HR2 := Lib.hid (HR2.out.below hb)
          replace HSQ := Lib.hid (HSQ.out.below hb)
          replace HR4 := Lib.hid (HR4.out.below hb)
          replace HS4 := Lib.hid (HS4.out.below hb)
          replace HTA := Lib.hid (HTA.out.below hb)
          replace HTH := Lib.hid (HTH.out.below hb)
          replace HSS := Lib.hid (HSS.out.below hb)
          replace HUS := Lib.hid (HUS.out.below hb)
          replace HR6 := Lib.hid (HR6.out.below hb)
          clear hb
          have hz1 := HOK.out.sz
          have hd1 := HOK.out.dr
          have hnd : IntKind.i64.wrap (n + r.draw) = n + r.draw := IntWalk.i64_in _ (by omega)
          have hkQ : k < Q.length := hlt
          have hkU : k < r.use.length := by rw [← HQ2.out]; exact hlt
          cases gg
          · cases su
            · obtain ⟨⟨k0, k1, k2, k3, k4, k5, k6, k7, k8, k9⟩, du⟩ := HUS.out
              obtain ⟨c0, c1, c2⟩ := HSS.out
              rw [HUA.out] at k8

              go_wp2_with fail
              go_roundw
              case rel => exact ⟨k + 1, xn, by omega, by go_num, HXN, rfl, HC.out⟩
              case measure => simp [intOf]; omega
            · obtain ⟨⟨k0, k1, k2, k3, k4, k5, k6, k7, k8, k9⟩, du⟩ := HUS.out
              obtain ⟨c0, c1, c2⟩ := HSS.out
              rw [HUA.out] at k8
              have hs := HS.out rfl
              try simp only [Bool.and_self, Bool.and_false, Bool.false_and, Bool.true_and, Bool.and_true, if_true, if_false, Bool.false_eq_true] at hs
              have hnu : ¬ (n < u) := by omega
              go_wp2_with fail
              go_roundw
              case rel => exact ⟨k + 1, xn, by omega, by go_num, HXN, rfl, HC.out⟩
              case measure => simp [intOf]; omega
          · obtain ⟨k0, k1, k2, k3, k4, k5, k6, k7, k8, k9⟩ := HX.out
            obtain ⟨⟨j0, j1, j2, j3, j4, j5, j6, j7, j8, j9⟩, t0, t1⟩ := HXX.out
            go_wp2_with fail
            clear k0 k1 k2 k3 k4 k5 k6 k7 k8 k9 j0 j1 j2 j3 j4 j5 j6 j7 j8 j9 t0 t1
            (with_reducible refine (Has_c pa PL pc (k : Int) _ HSP.out (by omega)).mono ?_)
            rintro e wi ⟨rfl, rfl⟩
            rw [HCC.out]
            cases cc
            · cases su
              · obtain ⟨⟨k0, k1, k2, k3, k4, k5, k6, k7, k8, k9⟩, du⟩ := HUS.out
                obtain ⟨c0, c1, c2⟩ := HSS.out
                rw [HUA.out] at k8

                go_wp2_with fail
                go_roundw
                case rel => exact ⟨k + 1, xn, by omega, by go_num, HXN, rfl, HC.out⟩
                case measure => simp [intOf]; omega
              · obtain ⟨⟨k0, k1, k2, k3, k4, k5, k6, k7, k8, k9⟩, du⟩ := HUS.out
                obtain ⟨c0, c1, c2⟩ := HSS.out
                rw [HUA.out] at k8
                have hs := HS.out rfl
                try simp only [Bool.and_self, Bool.and_false, Bool.false_and, Bool.true_and, Bool.and_true, if_true, if_false, Bool.false_eq_true] at hs
                have hnu : ¬ (n < u) := by omega
                go_wp2_with fail
                go_roundw
                case rel => exact ⟨k + 1, xn, by omega, by go_num, HXN, rfl, HC.out⟩
                case measure => simp [intOf]; omega
            · cases su
              · obtain ⟨⟨k0, k1, k2, k3, k4, k5, k6, k7, k8, k9⟩, du⟩ := HUS.out
                obtain ⟨c0, c1, c2⟩ := HSS.out
                rw [HUA.out] at k8

                go_wp2_with fail
                go_roundw
                case rel => exact ⟨k + 1, xn, by omega, by go_num, HXN, rfl, HC.out⟩
                case measure => simp [intOf]; omega
              · obtain ⟨⟨k0, k1, k2, k3, k4, k5, k6, k7, k8, k9⟩, du⟩ := HUS.out
                obtain ⟨c0, c1, c2⟩ := HSS.out
                rw [HUA.out] at k8
                have hs := HS.out rfl
                try simp only [Bool.and_self, Bool.and_false, Bool.false_and, Bool.true_and, Bool.and_true, if_true, if_false, Bool.false_eq_true] at hs
                have hnu : ¬ (min r.size (n + r.draw) < u) := by omega
                go_wp2_with fail
                go_roundw
                case rel => exact ⟨k + 1, xn, by omega, by go_num, HXN, rfl, HC.out⟩
                case measure => simp [intOf]; omega
      · obtain ⟨k0, k1, k2, k3, k4, k5, k6, k7, k8, k9⟩ := HX.out
        obtain ⟨⟨j0, j1, j2, j3, j4, j5, j6, j7, j8, j9⟩, t0, t1⟩ := HXX.out
        go_wp2_with fail
        clear k0 k1 k2 k3 k4 k5 k6 k7 k8 k9 j0 j1 j2 j3 j4 j5 j6 j7 j8 j9 t0 t1
        with_reducible refine (awake_c _).mono ?_
        rintro e wz ⟨rfl, hbz⟩
        go_wp2_with fail
        go_ret
        exact ⟨rfl, HB.out.trans (hbz.mono HB.out.size)⟩
end Go.Proofs.Ytgglfngkomgadaa
