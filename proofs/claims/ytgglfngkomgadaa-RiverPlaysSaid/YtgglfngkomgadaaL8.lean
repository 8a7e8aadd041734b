/- Walks of the laws: RiverPlays. -/
import Derived.Test.YtgglfngkomgadaaL0
namespace Go.Proofs.Ytgglfngkomgadaa
open Go.RowKit Go.Shelf
set_option linter.unusedVariables false
set_option linter.unusedSimpArgs false
set_option maxRecDepth 100000

theorem play_err {r : Riv} {xs : List Int} {t : Tr} {F : Int} (h : r.faultI = F) (hF : F ≠ 0) : playA r xs t = ([], F) ∧ proveT r t = false := by
  unfold playA proveT
  rw [h, if_pos hF]
  exact ⟨rfl, by simp [hF]⟩
theorem play_no {r : Riv} {xs : List Int} {t : Tr} (h : r.faultI = 0) (hn : (fitT r t && isPlanB r.last xs) = false) : playA r xs t = ([], 2) := by
  unfold playA
  rw [if_neg (by simp [h]), listedB_fit, hn]
  rfl
theorem play_ok {r : Riv} {xs : List Int} {t : Tr} (h : r.faultI = 0) (ht : fitT r t = true) (hp : isPlanB r.last xs = true) : playA r xs t = (playL r (gOf r t) xs, 0) := by
  unfold playA
  rw [if_neg (by simp [h]), listedB_fit, ht, hp]
  rfl
theorem proveT_eq {r : Riv} (h : r.faultI = 0) (t : Tr) : proveT r t = isTruthR r t := by
  have ok := (ok_of_fault h).1
  unfold proveT
  rw [h, listedB_fit, Bool.eq_iff_iff, isTruthR_iff ok]
  simp only [decide_true, Bool.true_and, Bool.and_eq_true, isT]
  constructor
  · rintro ⟨h1, h2⟩
    exact ⟨h1, fun i hi => (rightB_iff ok h1 []).1 h2 i hi (by simp)⟩
  · rintro ⟨h1, h2⟩
    exact ⟨h1, (rightB_iff ok h1 []).2 fun i hi _ => h2 i hi⟩
/-- A river and a truth in their boxes, and a number in a list. -/
structure PtS (q u b o : Nat) (r : Riv) (A : RA) (t : Tr) (B : TA) (x : Int) (W : World) : Prop where
  bx : BxT q u r A t B W
  c0 : W.cell? ⟨b, o, none⟩ = some (.int .i64 x)
theorem PtS.below {q u b o : Nat} {r : Riv} {A : RA} {t : Tr} {B : TA} {x : Int} {W W' : World} (h : PtS q u b o r A t B x W) (hb : Below W.heap.size W W') : PtS q u b o r A t B x W' :=
  have hw : Wr (fun _ => False) W W' := Wr.of_below hb
  ⟨h.bx.below hb, hw.cell (fun e => e) h.c0⟩
theorem bxT_new (w : World) (r : Riv) (A : RA) (t : Tr) (B : TA) : BxT w.heap.size (w.heap.size + 1) r A t B ((w.alloc (rO26 r A)).alloc (tO64 t B)) := by
  have h := two_boxes w r A t B
  exact ⟨h.1, by rw [cell_blk h.2.1]; rfl, by rw [cell_blk h.2.1]; rfl⟩

set_option maxHeartbeats 8000000 in
theorem law8_c (r : Riv) (A : RA) (ax : Option Addr) (xs : List Int) (cx : Nat) (t : Tr) (B : TA) (w : World) (hr : Rd w r A) (hs : Sl w ax (ints xs)) (hxl : xs.length ≤ maxLen) (ht : RdT w t B) :
    Calls Try.prog 8 #[rivV r A, .slice ax xs.length cx, trV t B] w (RetB true w) := by
  have HB := Lib.hid (two_boxes w r A t B).2.2
  have HX := Lib.hid (bxT_new w r A t B)
  have HR := Lib.hid hr
  have HS := Lib.hid hs
  have HTR := Lib.hid ht
  clear hr hs ht hxl
  cases hth : thinB r
  · have HT := Lib.hid hth
    clear hth
    go_enter Try.func8, Try.ntmps8
    go_wp2_with fail
    obtain ⟨wq, hwq⟩ : ∃ wq, (w.alloc (rO26 r A)).alloc (tO64 t B) = wq := ⟨_, rfl⟩
    rw [hwq] at HB HX ⊢
    clear hwq
    replace HR := Lib.hid (HR.out.below HB.out)
    replace HS := Lib.hid (HS.out.below HB.out)
    replace HTR := Lib.hid (HTR.out.below HB.out)
    obtain ⟨⟨k0, k1, k2, k3, k4, k5, k6, k7, k8, k9⟩, t0, t1⟩ := HX.out
    with_reducible refine (thin_c r A _).mono ?_
    rintro e w3 ⟨rfl, hb⟩
    replace HB := Lib.hid (HB.out.trans (hb.mono HB.out.size))
    replace HX := Lib.hid (HX.out.below hb)
    replace HR := Lib.hid (HR.out.below hb)
    replace HS := Lib.hid (HS.out.below hb)
    replace HTR := Lib.hid (HTR.out.below hb)
    clear hb
    rw [HT.out]
    clear k0 k1 k2 k3 k4 k5 k6 k7 k8 k9 t0 t1
    obtain ⟨⟨k0, k1, k2, k3, k4, k5, k6, k7, k8, k9⟩, t0, t1⟩ := HX.out
    go_wp2_with fail
    clear k0 k1 k2 k3 k4 k5 k6 k7 k8 k9 t0 t1
    with_reducible refine (awake_c _).mono ?_
    rintro e wz ⟨rfl, hbz⟩
    go_wp2_with fail
    go_ret
    exact ⟨rfl, HB.out.trans (hbz.mono HB.out.size)⟩
  · have HT := Lib.hid hth
    have HL := Lib.hid (thin_lens hth)
    clear hth
    by_cases hx : xs.length ≤ 30
    rotate_left
    · have HX1 := Lib.hid (show (30 : Int) < xs.length from by omega)
      clear hx
      go_enter Try.func8, Try.ntmps8
      go_wp2_with fail
      obtain ⟨wq, hwq⟩ : ∃ wq, (w.alloc (rO26 r A)).alloc (tO64 t B) = wq := ⟨_, rfl⟩
      rw [hwq] at HB HX ⊢
      clear hwq
      replace HR := Lib.hid (HR.out.below HB.out)
      replace HS := Lib.hid (HS.out.below HB.out)
      replace HTR := Lib.hid (HTR.out.below HB.out)
      obtain ⟨⟨k0, k1, k2, k3, k4, k5, k6, k7, k8, k9⟩, t0, t1⟩ := HX.out
      with_reducible refine (thin_c r A _).mono ?_
      rintro e w3 ⟨rfl, hb⟩
      replace HB := Lib.hid (HB.out.trans (hb.mono HB.out.size))
      replace HX := Lib.hid (HX.out.below hb)
      replace HR := Lib.hid (HR.out.below hb)
      replace HS := Lib.hid (HS.out.below hb)
      replace HTR := Lib.hid (HTR.out.below hb)
      clear hb
      rw [HT.out]
      clear k0 k1 k2 k3 k4 k5 k6 k7 k8 k9 t0 t1
      obtain ⟨⟨k0, k1, k2, k3, k4, k5, k6, k7, k8, k9⟩, t0, t1⟩ := HX.out
      have hx1 := HX1.out
      go_wp2_with fail
      clear k0 k1 k2 k3 k4 k5 k6 k7 k8 k9 t0 t1
      with_reducible refine (awake_c _).mono ?_
      rintro e wz ⟨rfl, hbz⟩
      go_wp2_with fail
      go_ret
      exact ⟨rfl, HB.out.trans (hbz.mono HB.out.size)⟩
    · have HX1 := Lib.hid (show ¬ (30 : Int) < xs.length from by omega)
      have HXL := Lib.hid hx
      clear hx
      by_cases hx : t.salt.length ≤ 30
      rotate_left
      · have HX2 := Lib.hid (show (30 : Int) < t.salt.length from by omega)
        clear hx
        go_enter Try.func8, Try.ntmps8
        go_wp2_with fail
        obtain ⟨wq, hwq⟩ : ∃ wq, (w.alloc (rO26 r A)).alloc (tO64 t B) = wq := ⟨_, rfl⟩
        rw [hwq] at HB HX ⊢
        clear hwq
        replace HR := Lib.hid (HR.out.below HB.out)
        replace HS := Lib.hid (HS.out.below HB.out)
        replace HTR := Lib.hid (HTR.out.below HB.out)
        obtain ⟨⟨k0, k1, k2, k3, k4, k5, k6, k7, k8, k9⟩, t0, t1⟩ := HX.out
        with_reducible refine (thin_c r A _).mono ?_
        rintro e w3 ⟨rfl, hb⟩
        replace HB := Lib.hid (HB.out.trans (hb.mono HB.out.size))
        replace HX := Lib.hid (HX.out.below hb)
        replace HR := Lib.hid (HR.out.below hb)
        replace HS := Lib.hid (HS.out.below hb)
        replace HTR := Lib.hid (HTR.out.below hb)
        clear hb
        rw [HT.out]
        clear k0 k1 k2 k3 k4 k5 k6 k7 k8 k9 t0 t1
        obtain ⟨⟨k0, k1, k2, k3, k4, k5, k6, k7, k8, k9⟩, t0, t1⟩ := HX.out
        have hx1 := HX1.out
        have hx2 := HX2.out
        go_wp2_with fail
        clear k0 k1 k2 k3 k4 k5 k6 k7 k8 k9 t0 t1
        with_reducible refine (awake_c _).mono ?_
        rintro e wz ⟨rfl, hbz⟩
        go_wp2_with fail
        go_ret
        exact ⟨rfl, HB.out.trans (hbz.mono HB.out.size)⟩
      · have HX2 := Lib.hid (show ¬ (30 : Int) < t.salt.length from by omega)
        by_cases hy : t.mud.length ≤ 30
        rotate_left
        · have HX3 := Lib.hid (show (30 : Int) < t.mud.length from by omega)
          clear hx hy
          go_enter Try.func8, Try.ntmps8
          go_wp2_with fail
          obtain ⟨wq, hwq⟩ : ∃ wq, (w.alloc (rO26 r A)).alloc (tO64 t B) = wq := ⟨_, rfl⟩
          rw [hwq] at HB HX ⊢
          clear hwq
          replace HR := Lib.hid (HR.out.below HB.out)
          replace HS := Lib.hid (HS.out.below HB.out)
          replace HTR := Lib.hid (HTR.out.below HB.out)
          obtain ⟨⟨k0, k1, k2, k3, k4, k5, k6, k7, k8, k9⟩, t0, t1⟩ := HX.out
          with_reducible refine (thin_c r A _).mono ?_
          rintro e w3 ⟨rfl, hb⟩
          replace HB := Lib.hid (HB.out.trans (hb.mono HB.out.size))
          replace HX := Lib.hid (HX.out.below hb)
          replace HR := Lib.hid (HR.out.below hb)
          replace HS := Lib.hid (HS.out.below hb)
          replace HTR := Lib.hid (HTR.out.below hb)
          clear hb
          rw [HT.out]
          clear k0 k1 k2 k3 k4 k5 k6 k7 k8 k9 t0 t1
          obtain ⟨⟨k0, k1, k2, k3, k4, k5, k6, k7, k8, k9⟩, t0, t1⟩ := HX.out
          have hx1 := HX1.out
          have hx2 := HX2.out
          have hx3 := HX3.out
          go_wp2_with fail
          clear k0 k1 k2 k3 k4 k5 k6 k7 k8 k9 t0 t1
          with_reducible refine (awake_c _).mono ?_
          rintro e wz ⟨rfl, hbz⟩
          go_wp2_with fail
          go_ret
          exact ⟨rfl, HB.out.trans (hbz.mono HB.out.size)⟩
        · have HX3 := Lib.hid (show ¬ (30 : Int) < t.mud.length from by omega)
          have HTL := Lib.hid (show t.salt.length ≤ 30 ∧ t.mud.length ≤ 30 from ⟨hx, hy⟩)
          clear hx hy
          obtain ⟨F, hF⟩ : ∃ F, r.faultI = F := ⟨_, rfl⟩
          have HFF := Lib.hid hF
          by_cases hf : F = 0
          rotate_left
          · have hN1 : (F == 0) = false := by simpa using hf
            have HPL := Lib.hid (play_err (xs := xs) (t := t) hF hf).1
            have HPT := Lib.hid (play_err (xs := xs) (t := t) hF hf).2
            clear hF hf
            go_enter Try.func8, Try.ntmps8
            go_wp2_with fail
            obtain ⟨wq, hwq⟩ : ∃ wq, (w.alloc (rO26 r A)).alloc (tO64 t B) = wq := ⟨_, rfl⟩
            rw [hwq] at HB HX ⊢
            clear hwq
            replace HR := Lib.hid (HR.out.below HB.out)
            replace HS := Lib.hid (HS.out.below HB.out)
            replace HTR := Lib.hid (HTR.out.below HB.out)
            obtain ⟨⟨k0, k1, k2, k3, k4, k5, k6, k7, k8, k9⟩, t0, t1⟩ := HX.out
            with_reducible refine (thin_c r A _).mono ?_
            rintro e w3 ⟨rfl, hb⟩
            replace HB := Lib.hid (HB.out.trans (hb.mono HB.out.size))
            replace HX := Lib.hid (HX.out.below hb)
            replace HR := Lib.hid (HR.out.below hb)
            replace HS := Lib.hid (HS.out.below hb)
            replace HTR := Lib.hid (HTR.out.below hb)
            clear hb
            rw [HT.out]
            clear k0 k1 k2 k3 k4 k5 k6 k7 k8 k9 t0 t1
            obtain ⟨⟨k0, k1, k2, k3, k4, k5, k6, k7, k8, k9⟩, t0, t1⟩ := HX.out
            have hx1 := HX1.out
            have hx2 := HX2.out
            have hx3 := HX3.out
            go_wp2_with fail
            clear k0 k1 k2 k3 k4 k5 k6 k7 k8 k9 t0 t1
            clear hx1 hx2 hx3
            refine region_o (S := BxT w.heap.size (w.heap.size + 1) r A t B) (.take 0 (.take 2 (.take 4 (.one 1 (.one 3 (.one 5 (.one 6 (.take 7 (.take 8 (.take 9 (.take 10 (.take 11 .nil)))))))))))) (by kernel_rfl) (by kernel_rfl) (fun _ _ d _ _ h => by cases d <;> exact h) (HX.out.below (Below.refl _ _).drew) ?_
            intro W0 hW0 hS0
            have hBW : Below w3.heap.size w3 W0 := by subst hW0; exact (Below.refl _ _).drew
            clear hW0
            repeat (first
              | (refine ord_skip rfl ?_ ?_; rfl; simp only [List.getElem_toArray, List.getElem_cons_zero, List.getElem_cons_succ, Act.put, List.setIfInBounds_toArray, List.set_cons_zero, List.set_cons_succ])
              | (refine ord_take (v := ?_) rfl ?_ (fun W hW => ?_) ?_; rotate_left; rfl; (obtain ⟨⟨k0, k1, k2, k3, k4, k5, k6, k7, k8, k9⟩, t0, t1⟩ := hW; go_simp; (first | done | with_reducible rfl)); simp only [List.getElem_toArray, List.getElem_cons_zero, List.getElem_cons_succ, Act.put, List.setIfInBounds_toArray, List.set_cons_zero, List.set_cons_succ]))
            (refine ord_op rfl ?_ (fun K hK => ?_); rfl; go_simp; (with_reducible refine (River_c r A _ (HR.out.below hBW) HL.out.1 HL.out.2.1 HL.out.2.2.1 HL.out.2.2.2).mono ?_); rintro e W1 ⟨A1, rfl, hr1, -, hb⟩; have hS1 := BxT.below hS0 hb; replace hBW := hBW.trans (hb.mono hBW.size); have HR1 := Lib.hid hr1; clear hr1; clear hb; refine hK _ _ hS1 ?_; clear hK K; try simp only [List.getElem_toArray, List.getElem_cons_zero, List.getElem_cons_succ, Act.put, List.setIfInBounds_toArray, List.set_cons_zero, List.set_cons_succ])
            (refine ord_op rfl ?_ (fun K hK => ?_); rfl; go_simp; (with_reducible refine (list_c ax xs cx _ (HS.out.below hBW) (by have := HXL.out; omega)).mono ?_); rintro e W2 ⟨v, rfl, hown, hb⟩; have hS2 := BxT.below hS1 hb; replace hBW := hBW.trans (hb.mono hBW.size); obtain ⟨s1, cs1, rfl, -, hs2⟩ := own_Sl hown; have HS1 := Lib.hid hs2; clear hown hs2; replace HR1 := Lib.hid (HR1.out.below hb); clear hb; refine hK _ _ hS2 ?_; clear hK K; try simp only [List.getElem_toArray, List.getElem_cons_zero, List.getElem_cons_succ, Act.put, List.setIfInBounds_toArray, List.set_cons_zero, List.set_cons_succ])
            (refine ord_op rfl ?_ (fun K hK => ?_); rfl; go_simp; (with_reducible refine (Truth_c t B _ (HTR.out.below hBW) (by have := HTL.out.1; omega) (by have := HTL.out.2; omega)).mono ?_); rintro e W3 ⟨B1, rfl, ht1, hb⟩; have hS3 := BxT.below hS2 hb; replace hBW := hBW.trans (hb.mono hBW.size); have HT1 := Lib.hid ht1; clear ht1; replace HR1 := Lib.hid (HR1.out.below hb); replace HS1 := Lib.hid (HS1.out.below hb); clear hb; refine hK _ _ hS3 ?_; clear hK K; try simp only [List.getElem_toArray, List.getElem_cons_zero, List.getElem_cons_succ, Act.put, List.setIfInBounds_toArray, List.set_cons_zero, List.set_cons_succ])
            (refine ord_op rfl ?_ (fun K hK => ?_); rfl; go_simp; (with_reducible refine (Play_c r A1 s1 xs cs1 t B1 _ HR1.out HT1.out HL.out.1 HL.out.2.1 HL.out.2.2.1 HL.out.2.2.2 HS1.out (by have := HXL.out; omega)).mono ?_); rintro e W4 ⟨pa, pc, rfl, hsp, hb⟩; have hS4 := BxT.below hS3 hb; replace hBW := hBW.trans (hb.mono hBW.size); rw [HPL.out] at hsp ⊢; have HSP := Lib.hid hsp; clear hsp; clear hb; refine hK _ _ hS4 ?_; clear hK K; try simp only [List.getElem_toArray, List.getElem_cons_zero, List.getElem_cons_succ, Act.put, List.setIfInBounds_toArray, List.set_cons_zero, List.set_cons_succ])
            repeat (first
              | (refine ord_skip rfl ?_ ?_; rfl; simp only [List.getElem_toArray, List.getElem_cons_zero, List.getElem_cons_succ, Act.put, List.setIfInBounds_toArray, List.set_cons_zero, List.set_cons_succ])
              | (refine ord_take (v := ?_) rfl ?_ (fun W hW => ?_) ?_; rotate_left; rfl; (obtain ⟨⟨k0, k1, k2, k3, k4, k5, k6, k7, k8, k9⟩, t0, t1⟩ := hW; go_simp; (first | done | with_reducible rfl)); simp only [List.getElem_toArray, List.getElem_cons_zero, List.getElem_cons_succ, Act.put, List.setIfInBounds_toArray, List.set_cons_zero, List.set_cons_succ]))
            refine ord_nil ?_
            replace HB := Lib.hid (HB.out.trans (hBW.mono HB.out.size))
            replace HX := Lib.hid (HX.out.below hBW)
            replace HR := Lib.hid (HR.out.below hBW)
            replace HS := Lib.hid (HS.out.below hBW)
            replace HTR := Lib.hid (HTR.out.below hBW)
            clear hBW
            obtain ⟨⟨k0, k1, k2, k3, k4, k5, k6, k7, k8, k9⟩, t0, t1⟩ := HX.out
            go_wp2_with fail
            clear k0 k1 k2 k3 k4 k5 k6 k7 k8 k9 t0 t1
            refine region_o (S := BxT w.heap.size (w.heap.size + 1) r A t B) (.take 0 (.take 2 (.one 1 (.one 3 (.one 4 (.take 5 .nil)))))) (by kernel_rfl) (by kernel_rfl) (fun _ _ d _ _ h => by cases d <;> exact h) (HX.out.below (Below.refl _ _).drew) ?_
            intro W0 hW0 hS0
            have hBW : Below W4.heap.size W4 W0 := by subst hW0; exact (Below.refl _ _).drew
            clear hW0
            repeat (first
              | (refine ord_skip rfl ?_ ?_; rfl; simp only [List.getElem_toArray, List.getElem_cons_zero, List.getElem_cons_succ, Act.put, List.setIfInBounds_toArray, List.set_cons_zero, List.set_cons_succ])
              | (refine ord_take (v := ?_) rfl ?_ (fun W hW => ?_) ?_; rotate_left; rfl; (obtain ⟨⟨k0, k1, k2, k3, k4, k5, k6, k7, k8, k9⟩, t0, t1⟩ := hW; go_simp; (first | done | with_reducible rfl)); simp only [List.getElem_toArray, List.getElem_cons_zero, List.getElem_cons_succ, Act.put, List.setIfInBounds_toArray, List.set_cons_zero, List.set_cons_succ]))
            (refine ord_op rfl ?_ (fun K hK => ?_); rfl; go_simp; (with_reducible refine (River_c r A _ (HR.out.below hBW) HL.out.1 HL.out.2.1 HL.out.2.2.1 HL.out.2.2.2).mono ?_); rintro e W1 ⟨A2, rfl, hr2, -, hb⟩; have hS1 := BxT.below hS0 hb; replace hBW := hBW.trans (hb.mono hBW.size); have HR2 := Lib.hid hr2; clear hr2; clear hb; refine hK _ _ hS1 ?_; clear hK K; try simp only [List.getElem_toArray, List.getElem_cons_zero, List.getElem_cons_succ, Act.put, List.setIfInBounds_toArray, List.set_cons_zero, List.set_cons_succ])
            (refine ord_op rfl ?_ (fun K hK => ?_); rfl; go_simp; (with_reducible refine (Truth_c t B _ (HTR.out.below hBW) (by have := HTL.out.1; omega) (by have := HTL.out.2; omega)).mono ?_); rintro e W2 ⟨B2, rfl, ht2, hb⟩; have hS2 := BxT.below hS1 hb; replace hBW := hBW.trans (hb.mono hBW.size); have HT2 := Lib.hid ht2; clear ht2; replace HR2 := Lib.hid (HR2.out.below hb); clear hb; refine hK _ _ hS2 ?_; clear hK K; try simp only [List.getElem_toArray, List.getElem_cons_zero, List.getElem_cons_succ, Act.put, List.setIfInBounds_toArray, List.set_cons_zero, List.set_cons_succ])
            (refine ord_op rfl ?_ (fun K hK => ?_); rfl; go_simp; (with_reducible refine (ProveTruth_c r A2 t B2 _ HR2.out HT2.out HL.out.1 HL.out.2.1 HL.out.2.2.1 HL.out.2.2.2).mono ?_); rintro e W3 ⟨rfl, hb⟩; have hS3 := BxT.below hS2 hb; replace hBW := hBW.trans (hb.mono hBW.size); rw [HPT.out]; clear hb; refine hK _ _ hS3 ?_; clear hK K; try simp only [List.getElem_toArray, List.getElem_cons_zero, List.getElem_cons_succ, Act.put, List.setIfInBounds_toArray, List.set_cons_zero, List.set_cons_succ])
            repeat (first
              | (refine ord_skip rfl ?_ ?_; rfl; simp only [List.getElem_toArray, List.getElem_cons_zero, List.getElem_cons_succ, Act.put, List.setIfInBounds_toArray, List.set_cons_zero, List.set_cons_succ])
              | (refine ord_take (v := ?_) rfl ?_ (fun W hW => ?_) ?_; rotate_left; rfl; (obtain ⟨⟨k0, k1, k2, k3, k4, k5, k6, k7, k8, k9⟩, t0, t1⟩ := hW; go_simp; (first | done | with_reducible rfl)); simp only [List.getElem_toArray, List.getElem_cons_zero, List.getElem_cons_succ, Act.put, List.setIfInBounds_toArray, List.set_cons_zero, List.set_cons_succ]))
            refine ord_nil ?_
            replace HB := Lib.hid (HB.out.trans (hBW.mono HB.out.size))
            replace HX := Lib.hid (HX.out.below hBW)
            replace HR := Lib.hid (HR.out.below hBW)
            replace HS := Lib.hid (HS.out.below hBW)
            replace HTR := Lib.hid (HTR.out.below hBW)
            replace HSP := Lib.hid (HSP.out.below hBW)
            clear hBW
            obtain ⟨⟨k0, k1, k2, k3, k4, k5, k6, k7, k8, k9⟩, t0, t1⟩ := HX.out
            go_wp2_with fail
            clear k0 k1 k2 k3 k4 k5 k6 k7 k8 k9 t0 t1
            with_reducible refine (fault_c r A _ HR.out HL.out.1 HL.out.2.1 HL.out.2.2.1 HL.out.2.2.2).mono ?_
            rintro e w4 ⟨rfl, hb⟩
            replace HB := Lib.hid (HB.out.trans (hb.mono HB.out.size))
            replace HX := Lib.hid (HX.out.below hb)
            replace HR := Lib.hid (HR.out.below hb)
            replace HS := Lib.hid (HS.out.below hb)
            replace HTR := Lib.hid (HTR.out.below hb)
            replace HSP := Lib.hid (HSP.out.below hb)
            clear hb
            rw [HFF.out]
            obtain ⟨⟨k0, k1, k2, k3, k4, k5, k6, k7, k8, k9⟩, t0, t1⟩ := HX.out
            go_wp2_with fail
            clear k0 k1 k2 k3 k4 k5 k6 k7 k8 k9 t0 t1
            with_reducible refine (River_c r A _ HR.out HL.out.1 HL.out.2.1 HL.out.2.2.1 HL.out.2.2.2).mono ?_
            rintro e w5 ⟨A3, rfl, hr3, -, hb⟩
            replace HB := Lib.hid (HB.out.trans (hb.mono HB.out.size))
            replace HX := Lib.hid (HX.out.below hb)
            replace HR := Lib.hid (HR.out.below hb)
            replace HS := Lib.hid (HS.out.below hb)
            replace HTR := Lib.hid (HTR.out.below hb)
            replace HSP := Lib.hid (HSP.out.below hb)
            clear hb
            have HR3 := Lib.hid hr3
            clear hr3
            obtain ⟨⟨k0, k1, k2, k3, k4, k5, k6, k7, k8, k9⟩, t0, t1⟩ := HX.out
            go_wp2_with fail
            clear k0 k1 k2 k3 k4 k5 k6 k7 k8 k9 t0 t1
            with_reducible refine (check_c r A3 _ HR3.out HL.out.1 HL.out.2.1 HL.out.2.2.1 HL.out.2.2.2).mono ?_
            rintro e w6 ⟨rfl, hb⟩
            replace HB := Lib.hid (HB.out.trans (hb.mono HB.out.size))
            replace HX := Lib.hid (HX.out.below hb)
            replace HR := Lib.hid (HR.out.below hb)
            replace HS := Lib.hid (HS.out.below hb)
            replace HTR := Lib.hid (HTR.out.below hb)
            replace HSP := Lib.hid (HSP.out.below hb)
            replace HR3 := Lib.hid (HR3.out.below hb)
            clear hb
            rw [HFF.out]
            obtain ⟨⟨k0, k1, k2, k3, k4, k5, k6, k7, k8, k9⟩, t0, t1⟩ := HX.out
            go_wp2_with fail
            clear k0 k1 k2 k3 k4 k5 k6 k7 k8 k9 t0 t1
            with_reducible refine (awake_c _).mono ?_
            rintro e wz ⟨rfl, hbz⟩
            go_wp2_with fail
            go_ret
            exact ⟨rfl, HB.out.trans (hbz.mono HB.out.size)⟩
          · subst hf
            have HOK := Lib.hid (ok_of_fault hF).1
            obtain ⟨I, hI⟩ : ∃ I, isTruthR r t = I := ⟨_, rfl⟩
            have HIT := Lib.hid hI
            have HPT := Lib.hid ((proveT_eq hF t).trans hI)
            clear hI
            cases hp : isPlanB r.last xs
            · have HPN := Lib.hid hp
              have HPL := Lib.hid (play_no (xs := xs) (t := t) hF (by rw [hp, Bool.and_false]))
              clear hp hF
              go_enter Try.func8, Try.ntmps8
              go_wp2_with fail
              obtain ⟨wq, hwq⟩ : ∃ wq, (w.alloc (rO26 r A)).alloc (tO64 t B) = wq := ⟨_, rfl⟩
              rw [hwq] at HB HX ⊢
              clear hwq
              replace HR := Lib.hid (HR.out.below HB.out)
              replace HS := Lib.hid (HS.out.below HB.out)
              replace HTR := Lib.hid (HTR.out.below HB.out)
              obtain ⟨⟨k0, k1, k2, k3, k4, k5, k6, k7, k8, k9⟩, t0, t1⟩ := HX.out
              with_reducible refine (thin_c r A _).mono ?_
              rintro e w3 ⟨rfl, hb⟩
              replace HB := Lib.hid (HB.out.trans (hb.mono HB.out.size))
              replace HX := Lib.hid (HX.out.below hb)
              replace HR := Lib.hid (HR.out.below hb)
              replace HS := Lib.hid (HS.out.below hb)
              replace HTR := Lib.hid (HTR.out.below hb)
              clear hb
              rw [HT.out]
              clear k0 k1 k2 k3 k4 k5 k6 k7 k8 k9 t0 t1
              obtain ⟨⟨k0, k1, k2, k3, k4, k5, k6, k7, k8, k9⟩, t0, t1⟩ := HX.out
              have hx1 := HX1.out
              have hx2 := HX2.out
              have hx3 := HX3.out
              go_wp2_with fail
              clear k0 k1 k2 k3 k4 k5 k6 k7 k8 k9 t0 t1
              clear hx1 hx2 hx3
              refine region_o (S := BxT w.heap.size (w.heap.size + 1) r A t B) (.take 0 (.take 2 (.take 4 (.one 1 (.one 3 (.one 5 (.one 6 (.take 7 (.take 8 (.take 9 (.take 10 (.take 11 .nil)))))))))))) (by kernel_rfl) (by kernel_rfl) (fun _ _ d _ _ h => by cases d <;> exact h) (HX.out.below (Below.refl _ _).drew) ?_
              intro W0 hW0 hS0
              have hBW : Below w3.heap.size w3 W0 := by subst hW0; exact (Below.refl _ _).drew
              clear hW0
              repeat (first
                | (refine ord_skip rfl ?_ ?_; rfl; simp only [List.getElem_toArray, List.getElem_cons_zero, List.getElem_cons_succ, Act.put, List.setIfInBounds_toArray, List.set_cons_zero, List.set_cons_succ])
                | (refine ord_take (v := ?_) rfl ?_ (fun W hW => ?_) ?_; rotate_left; rfl; (obtain ⟨⟨k0, k1, k2, k3, k4, k5, k6, k7, k8, k9⟩, t0, t1⟩ := hW; go_simp; (first | done | with_reducible rfl)); simp only [List.getElem_toArray, List.getElem_cons_zero, List.getElem_cons_succ, Act.put, List.setIfInBounds_toArray, List.set_cons_zero, List.set_cons_succ]))
              (refine ord_op rfl ?_ (fun K hK => ?_); rfl; go_simp; (with_reducible refine (River_c r A _ (HR.out.below hBW) HL.out.1 HL.out.2.1 HL.out.2.2.1 HL.out.2.2.2).mono ?_); rintro e W1 ⟨A1, rfl, hr1, -, hb⟩; have hS1 := BxT.below hS0 hb; replace hBW := hBW.trans (hb.mono hBW.size); have HR1 := Lib.hid hr1; clear hr1; clear hb; refine hK _ _ hS1 ?_; clear hK K; try simp only [List.getElem_toArray, List.getElem_cons_zero, List.getElem_cons_succ, Act.put, List.setIfInBounds_toArray, List.set_cons_zero, List.set_cons_succ])
              (refine ord_op rfl ?_ (fun K hK => ?_); rfl; go_simp; (with_reducible refine (list_c ax xs cx _ (HS.out.below hBW) (by have := HXL.out; omega)).mono ?_); rintro e W2 ⟨v, rfl, hown, hb⟩; have hS2 := BxT.below hS1 hb; replace hBW := hBW.trans (hb.mono hBW.size); obtain ⟨s1, cs1, rfl, -, hs2⟩ := own_Sl hown; have HS1 := Lib.hid hs2; clear hown hs2; replace HR1 := Lib.hid (HR1.out.below hb); clear hb; refine hK _ _ hS2 ?_; clear hK K; try simp only [List.getElem_toArray, List.getElem_cons_zero, List.getElem_cons_succ, Act.put, List.setIfInBounds_toArray, List.set_cons_zero, List.set_cons_succ])
              (refine ord_op rfl ?_ (fun K hK => ?_); rfl; go_simp; (with_reducible refine (Truth_c t B _ (HTR.out.below hBW) (by have := HTL.out.1; omega) (by have := HTL.out.2; omega)).mono ?_); rintro e W3 ⟨B1, rfl, ht1, hb⟩; have hS3 := BxT.below hS2 hb; replace hBW := hBW.trans (hb.mono hBW.size); have HT1 := Lib.hid ht1; clear ht1; replace HR1 := Lib.hid (HR1.out.below hb); replace HS1 := Lib.hid (HS1.out.below hb); clear hb; refine hK _ _ hS3 ?_; clear hK K; try simp only [List.getElem_toArray, List.getElem_cons_zero, List.getElem_cons_succ, Act.put, List.setIfInBounds_toArray, List.set_cons_zero, List.set_cons_succ])
              (refine ord_op rfl ?_ (fun K hK => ?_); rfl; go_simp; (with_reducible refine (Play_c r A1 s1 xs cs1 t B1 _ HR1.out HT1.out HL.out.1 HL.out.2.1 HL.out.2.2.1 HL.out.2.2.2 HS1.out (by have := HXL.out; omega)).mono ?_); rintro e W4 ⟨pa, pc, rfl, hsp, hb⟩; have hS4 := BxT.below hS3 hb; replace hBW := hBW.trans (hb.mono hBW.size); rw [HPL.out] at hsp ⊢; have HSP := Lib.hid hsp; clear hsp; clear hb; refine hK _ _ hS4 ?_; clear hK K; try simp only [List.getElem_toArray, List.getElem_cons_zero, List.getElem_cons_succ, Act.put, List.setIfInBounds_toArray, List.set_cons_zero, List.set_cons_succ])
              repeat (first
                | (refine ord_skip rfl ?_ ?_; rfl; simp only [List.getElem_toArray, List.getElem_cons_zero, List.getElem_cons_succ, Act.put, List.setIfInBounds_toArray, List.set_cons_zero, List.set_cons_succ])
                | (refine ord_take (v := ?_) rfl ?_ (fun W hW => ?_) ?_; rotate_left; rfl; (obtain ⟨⟨k0, k1, k2, k3, k4, k5, k6, k7, k8, k9⟩, t0, t1⟩ := hW; go_simp; (first | done | with_reducible rfl)); simp only [List.getElem_toArray, List.getElem_cons_zero, List.getElem_cons_succ, Act.put, List.setIfInBounds_toArray, List.set_cons_zero, List.set_cons_succ]))
              refine ord_nil ?_
              replace HB := Lib.hid (HB.out.trans (hBW.mono HB.out.size))
              replace HX := Lib.hid (HX.out.below hBW)
              replace HR := Lib.hid (HR.out.below hBW)
              replace HS := Lib.hid (HS.out.below hBW)
              replace HTR := Lib.hid (HTR.out.below hBW)
              clear hBW
              obtain ⟨⟨k0, k1, k2, k3, k4, k5, k6, k7, k8, k9⟩, t0, t1⟩ := HX.out
              go_wp2_with fail
              clear k0 k1 k2 k3 k4 k5 k6 k7 k8 k9 t0 t1
              refine region_o (S := BxT w.heap.size (w.heap.size + 1) r A t B) (.take 0 (.take 2 (.one 1 (.one 3 (.one 4 (.take 5 .nil)))))) (by kernel_rfl) (by kernel_rfl) (fun _ _ d _ _ h => by cases d <;> exact h) (HX.out.below (Below.refl _ _).drew) ?_
              intro W0 hW0 hS0
              have hBW : Below W4.heap.size W4 W0 := by subst hW0; exact (Below.refl _ _).drew
              clear hW0
              repeat (first
                | (refine ord_skip rfl ?_ ?_; rfl; simp only [List.getElem_toArray, List.getElem_cons_zero, List.getElem_cons_succ, Act.put, List.setIfInBounds_toArray, List.set_cons_zero, List.set_cons_succ])
                | (refine ord_take (v := ?_) rfl ?_ (fun W hW => ?_) ?_; rotate_left; rfl; (obtain ⟨⟨k0, k1, k2, k3, k4, k5, k6, k7, k8, k9⟩, t0, t1⟩ := hW; go_simp; (first | done | with_reducible rfl)); simp only [List.getElem_toArray, List.getElem_cons_zero, List.getElem_cons_succ, Act.put, List.setIfInBounds_toArray, List.set_cons_zero, List.set_cons_succ]))
              (refine ord_op rfl ?_ (fun K hK => ?_); rfl; go_simp; (with_reducible refine (River_c r A _ (HR.out.below hBW) HL.out.1 HL.out.2.1 HL.out.2.2.1 HL.out.2.2.2).mono ?_); rintro e W1 ⟨A2, rfl, hr2, -, hb⟩; have hS1 := BxT.below hS0 hb; replace hBW := hBW.trans (hb.mono hBW.size); have HR2 := Lib.hid hr2; clear hr2; clear hb; refine hK _ _ hS1 ?_; clear hK K; try simp only [List.getElem_toArray, List.getElem_cons_zero, List.getElem_cons_succ, Act.put, List.setIfInBounds_toArray, List.set_cons_zero, List.set_cons_succ])
              (refine ord_op rfl ?_ (fun K hK => ?_); rfl; go_simp; (with_reducible refine (Truth_c t B _ (HTR.out.below hBW) (by have := HTL.out.1; omega) (by have := HTL.out.2; omega)).mono ?_); rintro e W2 ⟨B2, rfl, ht2, hb⟩; have hS2 := BxT.below hS1 hb; replace hBW := hBW.trans (hb.mono hBW.size); have HT2 := Lib.hid ht2; clear ht2; replace HR2 := Lib.hid (HR2.out.below hb); clear hb; refine hK _ _ hS2 ?_; clear hK K; try simp only [List.getElem_toArray, List.getElem_cons_zero, List.getElem_cons_succ, Act.put, List.setIfInBounds_toArray, List.set_cons_zero, List.set_cons_succ])
              (refine ord_op rfl ?_ (fun K hK => ?_); rfl; go_simp; (with_reducible refine (ProveTruth_c r A2 t B2 _ HR2.out HT2.out HL.out.1 HL.out.2.1 HL.out.2.2.1 HL.out.2.2.2).mono ?_); rintro e W3 ⟨rfl, hb⟩; have hS3 := BxT.below hS2 hb; replace hBW := hBW.trans (hb.mono hBW.size); rw [HPT.out]; clear hb; refine hK _ _ hS3 ?_; clear hK K; try simp only [List.getElem_toArray, List.getElem_cons_zero, List.getElem_cons_succ, Act.put, List.setIfInBounds_toArray, List.set_cons_zero, List.set_cons_succ])
              repeat (first
                | (refine ord_skip rfl ?_ ?_; rfl; simp only [List.getElem_toArray, List.getElem_cons_zero, List.getElem_cons_succ, Act.put, List.setIfInBounds_toArray, List.set_cons_zero, List.set_cons_succ])
                | (refine ord_take (v := ?_) rfl ?_ (fun W hW => ?_) ?_; rotate_left; rfl; (obtain ⟨⟨k0, k1, k2, k3, k4, k5, k6, k7, k8, k9⟩, t0, t1⟩ := hW; go_simp; (first | done | with_reducible rfl)); simp only [List.getElem_toArray, List.getElem_cons_zero, List.getElem_cons_succ, Act.put, List.setIfInBounds_toArray, List.set_cons_zero, List.set_cons_succ]))
              refine ord_nil ?_
              replace HB := Lib.hid (HB.out.trans (hBW.mono HB.out.size))
              replace HX := Lib.hid (HX.out.below hBW)
              replace HR := Lib.hid (HR.out.below hBW)
              replace HS := Lib.hid (HS.out.below hBW)
              replace HTR := Lib.hid (HTR.out.below hBW)
              replace HSP := Lib.hid (HSP.out.below hBW)
              clear hBW
              obtain ⟨⟨k0, k1, k2, k3, k4, k5, k6, k7, k8, k9⟩, t0, t1⟩ := HX.out
              go_wp2_with fail
              clear k0 k1 k2 k3 k4 k5 k6 k7 k8 k9 t0 t1
              with_reducible refine (fault_c r A _ HR.out HL.out.1 HL.out.2.1 HL.out.2.2.1 HL.out.2.2.2).mono ?_
              rintro e w4 ⟨rfl, hb⟩
              replace HB := Lib.hid (HB.out.trans (hb.mono HB.out.size))
              replace HX := Lib.hid (HX.out.below hb)
              replace HR := Lib.hid (HR.out.below hb)
              replace HS := Lib.hid (HS.out.below hb)
              replace HTR := Lib.hid (HTR.out.below hb)
              replace HSP := Lib.hid (HSP.out.below hb)
              clear hb
              rw [HFF.out]
              obtain ⟨⟨k0, k1, k2, k3, k4, k5, k6, k7, k8, k9⟩, t0, t1⟩ := HX.out
              go_wp2_with fail
              clear k0 k1 k2 k3 k4 k5 k6 k7 k8 k9 t0 t1
              with_reducible refine (River_c r A _ HR.out HL.out.1 HL.out.2.1 HL.out.2.2.1 HL.out.2.2.2).mono ?_
              rintro e w5 ⟨A3, rfl, hr3, -, hb⟩
              replace HB := Lib.hid (HB.out.trans (hb.mono HB.out.size))
              replace HX := Lib.hid (HX.out.below hb)
              replace HR := Lib.hid (HR.out.below hb)
              replace HS := Lib.hid (HS.out.below hb)
              replace HTR := Lib.hid (HTR.out.below hb)
              replace HSP := Lib.hid (HSP.out.below hb)
              clear hb
              have HR3 := Lib.hid hr3
              clear hr3
              obtain ⟨⟨k0, k1, k2, k3, k4, k5, k6, k7, k8, k9⟩, t0, t1⟩ := HX.out
              go_wp2_with fail
              clear k0 k1 k2 k3 k4 k5 k6 k7 k8 k9 t0 t1
              with_reducible refine (check_c r A3 _ HR3.out HL.out.1 HL.out.2.1 HL.out.2.2.1 HL.out.2.2.2).mono ?_
              rintro e w6 ⟨rfl, hb⟩
              replace HB := Lib.hid (HB.out.trans (hb.mono HB.out.size))
              replace HX := Lib.hid (HX.out.below hb)
              replace HR := Lib.hid (HR.out.below hb)
              replace HS := Lib.hid (HS.out.below hb)
              replace HTR := Lib.hid (HTR.out.below hb)
              replace HSP := Lib.hid (HSP.out.below hb)
              replace HR3 := Lib.hid (HR3.out.below hb)
              clear hb
              rw [HFF.out]
              obtain ⟨⟨k0, k1, k2, k3, k4, k5, k6, k7, k8, k9⟩, t0, t1⟩ := HX.out
              go_wp2_with fail
              clear k0 k1 k2 k3 k4 k5 k6 k7 k8 k9 t0 t1
              with_reducible refine (IsTruth_c r A t B _ HOK.out HR.out HTR.out).mono ?_
              rintro e w7 ⟨rfl, hb⟩
              replace HB := Lib.hid (HB.out.trans (hb.mono HB.out.size))
              replace HX := Lib.hid (HX.out.below hb)
              replace HR := Lib.hid (HR.out.below hb)
              replace HS := Lib.hid (HS.out.below hb)
              replace HTR := Lib.hid (HTR.out.below hb)
              replace HSP := Lib.hid (HSP.out.below hb)
              replace HR3 := Lib.hid (HR3.out.below hb)
              clear hb
              rw [HIT.out]
              obtain ⟨⟨k0, k1, k2, k3, k4, k5, k6, k7, k8, k9⟩, t0, t1⟩ := HX.out
              go_wp2_with fail
              clear k0 k1 k2 k3 k4 k5 k6 k7 k8 k9 t0 t1
              with_reducible refine (IsPlan_c r A ax xs cx _ HS.out (by have := HXL.out; omega) HOK.out.l0 HOK.out.l5).mono ?_
              rintro e w8 ⟨rfl, hb⟩
              replace HB := Lib.hid (HB.out.trans (hb.mono HB.out.size))
              replace HX := Lib.hid (HX.out.below hb)
              replace HR := Lib.hid (HR.out.below hb)
              replace HS := Lib.hid (HS.out.below hb)
              replace HTR := Lib.hid (HTR.out.below hb)
              replace HSP := Lib.hid (HSP.out.below hb)
              replace HR3 := Lib.hid (HR3.out.below hb)
              clear hb
              rw [HPN.out]
              obtain ⟨⟨k0, k1, k2, k3, k4, k5, k6, k7, k8, k9⟩, t0, t1⟩ := HX.out
              go_wp2_with fail
              clear k0 k1 k2 k3 k4 k5 k6 k7 k8 k9 t0 t1
              with_reducible refine (awake_c _).mono ?_
              rintro e wz ⟨rfl, hbz⟩
              go_wp2_with fail
              go_ret
              exact ⟨rfl, HB.out.trans (hbz.mono HB.out.size)⟩
            · have HPN := Lib.hid hp
              cases hf : fitT r t
              · have HLI := Lib.hid ((listedR_fit HOK.out t).trans hf)
                have HPL := Lib.hid (play_no (xs := xs) (t := t) hF (by rw [hf, Bool.false_and]))
                clear hp hF hf
                go_enter Try.func8, Try.ntmps8
                go_wp2_with fail
                obtain ⟨wq, hwq⟩ : ∃ wq, (w.alloc (rO26 r A)).alloc (tO64 t B) = wq := ⟨_, rfl⟩
                rw [hwq] at HB HX ⊢
                clear hwq
                replace HR := Lib.hid (HR.out.below HB.out)
                replace HS := Lib.hid (HS.out.below HB.out)
                replace HTR := Lib.hid (HTR.out.below HB.out)
                obtain ⟨⟨k0, k1, k2, k3, k4, k5, k6, k7, k8, k9⟩, t0, t1⟩ := HX.out
                with_reducible refine (thin_c r A _).mono ?_
                rintro e w3 ⟨rfl, hb⟩
                replace HB := Lib.hid (HB.out.trans (hb.mono HB.out.size))
                replace HX := Lib.hid (HX.out.below hb)
                replace HR := Lib.hid (HR.out.below hb)
                replace HS := Lib.hid (HS.out.below hb)
                replace HTR := Lib.hid (HTR.out.below hb)
                clear hb
                rw [HT.out]
                clear k0 k1 k2 k3 k4 k5 k6 k7 k8 k9 t0 t1
                obtain ⟨⟨k0, k1, k2, k3, k4, k5, k6, k7, k8, k9⟩, t0, t1⟩ := HX.out
                have hx1 := HX1.out
                have hx2 := HX2.out
                have hx3 := HX3.out
                go_wp2_with fail
                clear k0 k1 k2 k3 k4 k5 k6 k7 k8 k9 t0 t1
                clear hx1 hx2 hx3
                refine region_o (S := BxT w.heap.size (w.heap.size + 1) r A t B) (.take 0 (.take 2 (.take 4 (.one 1 (.one 3 (.one 5 (.one 6 (.take 7 (.take 8 (.take 9 (.take 10 (.take 11 .nil)))))))))))) (by kernel_rfl) (by kernel_rfl) (fun _ _ d _ _ h => by cases d <;> exact h) (HX.out.below (Below.refl _ _).drew) ?_
                intro W0 hW0 hS0
                have hBW : Below w3.heap.size w3 W0 := by subst hW0; exact (Below.refl _ _).drew
                clear hW0
                repeat (first
                  | (refine ord_skip rfl ?_ ?_; rfl; simp only [List.getElem_toArray, List.getElem_cons_zero, List.getElem_cons_succ, Act.put, List.setIfInBounds_toArray, List.set_cons_zero, List.set_cons_succ])
                  | (refine ord_take (v := ?_) rfl ?_ (fun W hW => ?_) ?_; rotate_left; rfl; (obtain ⟨⟨k0, k1, k2, k3, k4, k5, k6, k7, k8, k9⟩, t0, t1⟩ := hW; go_simp; (first | done | with_reducible rfl)); simp only [List.getElem_toArray, List.getElem_cons_zero, List.getElem_cons_succ, Act.put, List.setIfInBounds_toArray, List.set_cons_zero, List.set_cons_succ]))
                (refine ord_op rfl ?_ (fun K hK => ?_); rfl; go_simp; (with_reducible refine (River_c r A _ (HR.out.below hBW) HL.out.1 HL.out.2.1 HL.out.2.2.1 HL.out.2.2.2).mono ?_); rintro e W1 ⟨A1, rfl, hr1, -, hb⟩; have hS1 := BxT.below hS0 hb; replace hBW := hBW.trans (hb.mono hBW.size); have HR1 := Lib.hid hr1; clear hr1; clear hb; refine hK _ _ hS1 ?_; clear hK K; try simp only [List.getElem_toArray, List.getElem_cons_zero, List.getElem_cons_succ, Act.put, List.setIfInBounds_toArray, List.set_cons_zero, List.set_cons_succ])
                (refine ord_op rfl ?_ (fun K hK => ?_); rfl; go_simp; (with_reducible refine (list_c ax xs cx _ (HS.out.below hBW) (by have := HXL.out; omega)).mono ?_); rintro e W2 ⟨v, rfl, hown, hb⟩; have hS2 := BxT.below hS1 hb; replace hBW := hBW.trans (hb.mono hBW.size); obtain ⟨s1, cs1, rfl, -, hs2⟩ := own_Sl hown; have HS1 := Lib.hid hs2; clear hown hs2; replace HR1 := Lib.hid (HR1.out.below hb); clear hb; refine hK _ _ hS2 ?_; clear hK K; try simp only [List.getElem_toArray, List.getElem_cons_zero, List.getElem_cons_succ, Act.put, List.setIfInBounds_toArray, List.set_cons_zero, List.set_cons_succ])
                (refine ord_op rfl ?_ (fun K hK => ?_); rfl; go_simp; (with_reducible refine (Truth_c t B _ (HTR.out.below hBW) (by have := HTL.out.1; omega) (by have := HTL.out.2; omega)).mono ?_); rintro e W3 ⟨B1, rfl, ht1, hb⟩; have hS3 := BxT.below hS2 hb; replace hBW := hBW.trans (hb.mono hBW.size); have HT1 := Lib.hid ht1; clear ht1; replace HR1 := Lib.hid (HR1.out.below hb); replace HS1 := Lib.hid (HS1.out.below hb); clear hb; refine hK _ _ hS3 ?_; clear hK K; try simp only [List.getElem_toArray, List.getElem_cons_zero, List.getElem_cons_succ, Act.put, List.setIfInBounds_toArray, List.set_cons_zero, List.set_cons_succ])
                (refine ord_op rfl ?_ (fun K hK => ?_); rfl; go_simp; (with_reducible refine (Play_c r A1 s1 xs cs1 t B1 _ HR1.out HT1.out HL.out.1 HL.out.2.1 HL.out.2.2.1 HL.out.2.2.2 HS1.out (by have := HXL.out; omega)).mono ?_); rintro e W4 ⟨pa, pc, rfl, hsp, hb⟩; have hS4 := BxT.below hS3 hb; replace hBW := hBW.trans (hb.mono hBW.size); rw [HPL.out] at hsp ⊢; have HSP := Lib.hid hsp; clear hsp; clear hb; refine hK _ _ hS4 ?_; clear hK K; try simp only [List.getElem_toArray, List.getElem_cons_zero, List.getElem_cons_succ, Act.put, List.setIfInBounds_toArray, List.set_cons_zero, List.set_cons_succ])
                repeat (first
                  | (refine ord_skip rfl ?_ ?_; rfl; simp only [List.getElem_toArray, List.getElem_cons_zero, List.getElem_cons_succ, Act.put, List.setIfInBounds_toArray, List.set_cons_zero, List.set_cons_succ])
                  | (refine ord_take (v := ?_) rfl ?_ (fun W hW => ?_) ?_; rotate_left; rfl; (obtain ⟨⟨k0, k1, k2, k3, k4, k5, k6, k7, k8, k9⟩, t0, t1⟩ := hW; go_simp; (first | done | with_reducible rfl)); simp only [List.getElem_toArray, List.getElem_cons_zero, List.getElem_cons_succ, Act.put, List.setIfInBounds_toArray, List.set_cons_zero, List.set_cons_succ]))
                refine ord_nil ?_
                replace HB := Lib.hid (HB.out.trans (hBW.mono HB.out.size))
                replace HX := Lib.hid (HX.out.below hBW)
                replace HR := Lib.hid (HR.out.below hBW)
                replace HS := Lib.hid (HS.out.below hBW)
                replace HTR := Lib.hid (HTR.out.below hBW)
                clear hBW
                obtain ⟨⟨k0, k1, k2, k3, k4, k5, k6, k7, k8, k9⟩, t0, t1⟩ := HX.out
                go_wp2_with fail
                clear k0 k1 k2 k3 k4 k5 k6 k7 k8 k9 t0 t1
                refine region_o (S := BxT w.heap.size (w.heap.size + 1) r A t B) (.take 0 (.take 2 (.one 1 (.one 3 (.one 4 (.take 5 .nil)))))) (by kernel_rfl) (by kernel_rfl) (fun _ _ d _ _ h => by cases d <;> exact h) (HX.out.below (Below.refl _ _).drew) ?_
                intro W0 hW0 hS0
                have hBW : Below W4.heap.size W4 W0 := by subst hW0; exact (Below.refl _ _).drew
                clear hW0
                repeat (first
                  | (refine ord_skip rfl ?_ ?_; rfl; simp only [List.getElem_toArray, List.getElem_cons_zero, List.getElem_cons_succ, Act.put, List.setIfInBounds_toArray, List.set_cons_zero, List.set_cons_succ])
                  | (refine ord_take (v := ?_) rfl ?_ (fun W hW => ?_) ?_; rotate_left; rfl; (obtain ⟨⟨k0, k1, k2, k3, k4, k5, k6, k7, k8, k9⟩, t0, t1⟩ := hW; go_simp; (first | done | with_reducible rfl)); simp only [List.getElem_toArray, List.getElem_cons_zero, List.getElem_cons_succ, Act.put, List.setIfInBounds_toArray, List.set_cons_zero, List.set_cons_succ]))
                (refine ord_op rfl ?_ (fun K hK => ?_); rfl; go_simp; (with_reducible refine (River_c r A _ (HR.out.below hBW) HL.out.1 HL.out.2.1 HL.out.2.2.1 HL.out.2.2.2).mono ?_); rintro e W1 ⟨A2, rfl, hr2, -, hb⟩; have hS1 := BxT.below hS0 hb; replace hBW := hBW.trans (hb.mono hBW.size); have HR2 := Lib.hid hr2; clear hr2; clear hb; refine hK _ _ hS1 ?_; clear hK K; try simp only [List.getElem_toArray, List.getElem_cons_zero, List.getElem_cons_succ, Act.put, List.setIfInBounds_toArray, List.set_cons_zero, List.set_cons_succ])
                (refine ord_op rfl ?_ (fun K hK => ?_); rfl; go_simp; (with_reducible refine (Truth_c t B _ (HTR.out.below hBW) (by have := HTL.out.1; omega) (by have := HTL.out.2; omega)).mono ?_); rintro e W2 ⟨B2, rfl, ht2, hb⟩; have hS2 := BxT.below hS1 hb; replace hBW := hBW.trans (hb.mono hBW.size); have HT2 := Lib.hid ht2; clear ht2; replace HR2 := Lib.hid (HR2.out.below hb); clear hb; refine hK _ _ hS2 ?_; clear hK K; try simp only [List.getElem_toArray, List.getElem_cons_zero, List.getElem_cons_succ, Act.put, List.setIfInBounds_toArray, List.set_cons_zero, List.set_cons_succ])
                (refine ord_op rfl ?_ (fun K hK => ?_); rfl; go_simp; (with_reducible refine (ProveTruth_c r A2 t B2 _ HR2.out HT2.out HL.out.1 HL.out.2.1 HL.out.2.2.1 HL.out.2.2.2).mono ?_); rintro e W3 ⟨rfl, hb⟩; have hS3 := BxT.below hS2 hb; replace hBW := hBW.trans (hb.mono hBW.size); rw [HPT.out]; clear hb; refine hK _ _ hS3 ?_; clear hK K; try simp only [List.getElem_toArray, List.getElem_cons_zero, List.getElem_cons_succ, Act.put, List.setIfInBounds_toArray, List.set_cons_zero, List.set_cons_succ])
                repeat (first
                  | (refine ord_skip rfl ?_ ?_; rfl; simp only [List.getElem_toArray, List.getElem_cons_zero, List.getElem_cons_succ, Act.put, List.setIfInBounds_toArray, List.set_cons_zero, List.set_cons_succ])
                  | (refine ord_take (v := ?_) rfl ?_ (fun W hW => ?_) ?_; rotate_left; rfl; (obtain ⟨⟨k0, k1, k2, k3, k4, k5, k6, k7, k8, k9⟩, t0, t1⟩ := hW; go_simp; (first | done | with_reducible rfl)); simp only [List.getElem_toArray, List.getElem_cons_zero, List.getElem_cons_succ, Act.put, List.setIfInBounds_toArray, List.set_cons_zero, List.set_cons_succ]))
                refine ord_nil ?_
                replace HB := Lib.hid (HB.out.trans (hBW.mono HB.out.size))
                replace HX := Lib.hid (HX.out.below hBW)
                replace HR := Lib.hid (HR.out.below hBW)
                replace HS := Lib.hid (HS.out.below hBW)
                replace HTR := Lib.hid (HTR.out.below hBW)
                replace HSP := Lib.hid (HSP.out.below hBW)
                clear hBW
                obtain ⟨⟨k0, k1, k2, k3, k4, k5, k6, k7, k8, k9⟩, t0, t1⟩ := HX.out
                go_wp2_with fail
                clear k0 k1 k2 k3 k4 k5 k6 k7 k8 k9 t0 t1
                with_reducible refine (fault_c r A _ HR.out HL.out.1 HL.out.2.1 HL.out.2.2.1 HL.out.2.2.2).mono ?_
                rintro e w4 ⟨rfl, hb⟩
                replace HB := Lib.hid (HB.out.trans (hb.mono HB.out.size))
                replace HX := Lib.hid (HX.out.below hb)
                replace HR := Lib.hid (HR.out.below hb)
                replace HS := Lib.hid (HS.out.below hb)
                replace HTR := Lib.hid (HTR.out.below hb)
                replace HSP := Lib.hid (HSP.out.below hb)
                clear hb
                rw [HFF.out]
                obtain ⟨⟨k0, k1, k2, k3, k4, k5, k6, k7, k8, k9⟩, t0, t1⟩ := HX.out
                go_wp2_with fail
                clear k0 k1 k2 k3 k4 k5 k6 k7 k8 k9 t0 t1
                with_reducible refine (River_c r A _ HR.out HL.out.1 HL.out.2.1 HL.out.2.2.1 HL.out.2.2.2).mono ?_
                rintro e w5 ⟨A3, rfl, hr3, -, hb⟩
                replace HB := Lib.hid (HB.out.trans (hb.mono HB.out.size))
                replace HX := Lib.hid (HX.out.below hb)
                replace HR := Lib.hid (HR.out.below hb)
                replace HS := Lib.hid (HS.out.below hb)
                replace HTR := Lib.hid (HTR.out.below hb)
                replace HSP := Lib.hid (HSP.out.below hb)
                clear hb
                have HR3 := Lib.hid hr3
                clear hr3
                obtain ⟨⟨k0, k1, k2, k3, k4, k5, k6, k7, k8, k9⟩, t0, t1⟩ := HX.out
                go_wp2_with fail
                clear k0 k1 k2 k3 k4 k5 k6 k7 k8 k9 t0 t1
                with_reducible refine (check_c r A3 _ HR3.out HL.out.1 HL.out.2.1 HL.out.2.2.1 HL.out.2.2.2).mono ?_
                rintro e w6 ⟨rfl, hb⟩
                replace HB := Lib.hid (HB.out.trans (hb.mono HB.out.size))
                replace HX := Lib.hid (HX.out.below hb)
                replace HR := Lib.hid (HR.out.below hb)
                replace HS := Lib.hid (HS.out.below hb)
                replace HTR := Lib.hid (HTR.out.below hb)
                replace HSP := Lib.hid (HSP.out.below hb)
                replace HR3 := Lib.hid (HR3.out.below hb)
                clear hb
                rw [HFF.out]
                obtain ⟨⟨k0, k1, k2, k3, k4, k5, k6, k7, k8, k9⟩, t0, t1⟩ := HX.out
                go_wp2_with fail
                clear k0 k1 k2 k3 k4 k5 k6 k7 k8 k9 t0 t1
                with_reducible refine (IsTruth_c r A t B _ HOK.out HR.out HTR.out).mono ?_
                rintro e w7 ⟨rfl, hb⟩
                replace HB := Lib.hid (HB.out.trans (hb.mono HB.out.size))
                replace HX := Lib.hid (HX.out.below hb)
                replace HR := Lib.hid (HR.out.below hb)
                replace HS := Lib.hid (HS.out.below hb)
                replace HTR := Lib.hid (HTR.out.below hb)
                replace HSP := Lib.hid (HSP.out.below hb)
                replace HR3 := Lib.hid (HR3.out.below hb)
                clear hb
                rw [HIT.out]
                obtain ⟨⟨k0, k1, k2, k3, k4, k5, k6, k7, k8, k9⟩, t0, t1⟩ := HX.out
                go_wp2_with fail
                clear k0 k1 k2 k3 k4 k5 k6 k7 k8 k9 t0 t1
                with_reducible refine (IsPlan_c r A ax xs cx _ HS.out (by have := HXL.out; omega) HOK.out.l0 HOK.out.l5).mono ?_
                rintro e w8 ⟨rfl, hb⟩
                replace HB := Lib.hid (HB.out.trans (hb.mono HB.out.size))
                replace HX := Lib.hid (HX.out.below hb)
                replace HR := Lib.hid (HR.out.below hb)
                replace HS := Lib.hid (HS.out.below hb)
                replace HTR := Lib.hid (HTR.out.below hb)
                replace HSP := Lib.hid (HSP.out.below hb)
                replace HR3 := Lib.hid (HR3.out.below hb)
                clear hb
                rw [HPN.out]
                obtain ⟨⟨k0, k1, k2, k3, k4, k5, k6, k7, k8, k9⟩, t0, t1⟩ := HX.out
                go_wp2_with fail
                clear k0 k1 k2 k3 k4 k5 k6 k7 k8 k9 t0 t1
                with_reducible refine (IsListed_c r A t B _ HR.out HTR.out (by have h1 := HOK.out.ns; have h2 := HOK.out.nm; omega) (by have := HL.out.1; omega)).mono ?_
                rintro e w9 ⟨rfl, hb⟩
                replace HB := Lib.hid (HB.out.trans (hb.mono HB.out.size))
                replace HX := Lib.hid (HX.out.below hb)
                replace HR := Lib.hid (HR.out.below hb)
                replace HS := Lib.hid (HS.out.below hb)
                replace HTR := Lib.hid (HTR.out.below hb)
                replace HSP := Lib.hid (HSP.out.below hb)
                replace HR3 := Lib.hid (HR3.out.below hb)
                clear hb
                rw [HLI.out]
                obtain ⟨⟨k0, k1, k2, k3, k4, k5, k6, k7, k8, k9⟩, t0, t1⟩ := HX.out
                go_wp2_with fail
                clear k0 k1 k2 k3 k4 k5 k6 k7 k8 k9 t0 t1
                with_reducible refine (awake_c _).mono ?_
                rintro e wz ⟨rfl, hbz⟩
                go_wp2_with fail
                go_ret
                exact ⟨rfl, HB.out.trans (hbz.mono HB.out.size)⟩
              · have HLI := Lib.hid ((listedR_fit HOK.out t).trans hf)
                have hpl := play_ok hF hf hp
                have hpa := play_at HOK.out hf xs
                have hpll := play_len r (gOf r t) xs
                obtain ⟨PL, hPL⟩ : ∃ L, playL r (gOf r t) xs = L := ⟨_, rfl⟩
                rw [hPL] at hpl hpa hpll
                have HPL := Lib.hid hpl
                have HPLL := Lib.hid hpll
                have HTF := Lib.hid (fit_lens HOK.out hf)
                have HPA := Lib.hid (show ∀ k : Nat, (k : Int) ≤ r.last → ∀ x, PL[k]? = some x → aftV r t xs r.size (-1) (k + 1) = x from fun k hk x hx => by
                  rw [← hpa k hk, List.getD_eq_getElem?_getD, hx]; rfl)
                clear hp hF hf hpl hpa hpll hPL
                go_enter Try.func8, Try.ntmps8
                go_wp2_with fail
                obtain ⟨wq, hwq⟩ : ∃ wq, (w.alloc (rO26 r A)).alloc (tO64 t B) = wq := ⟨_, rfl⟩
                rw [hwq] at HB HX ⊢
                clear hwq
                replace HR := Lib.hid (HR.out.below HB.out)
                replace HS := Lib.hid (HS.out.below HB.out)
                replace HTR := Lib.hid (HTR.out.below HB.out)
                obtain ⟨⟨k0, k1, k2, k3, k4, k5, k6, k7, k8, k9⟩, t0, t1⟩ := HX.out
                with_reducible refine (thin_c r A _).mono ?_
                rintro e w3 ⟨rfl, hb⟩
                replace HB := Lib.hid (HB.out.trans (hb.mono HB.out.size))
                replace HX := Lib.hid (HX.out.below hb)
                replace HR := Lib.hid (HR.out.below hb)
                replace HS := Lib.hid (HS.out.below hb)
                replace HTR := Lib.hid (HTR.out.below hb)
                clear hb
                rw [HT.out]
                clear k0 k1 k2 k3 k4 k5 k6 k7 k8 k9 t0 t1
                obtain ⟨⟨k0, k1, k2, k3, k4, k5, k6, k7, k8, k9⟩, t0, t1⟩ := HX.out
                have hx1 := HX1.out
                have hx2 := HX2.out
                have hx3 := HX3.out
                go_wp2_with fail
                clear k0 k1 k2 k3 k4 k5 k6 k7 k8 k9 t0 t1
                clear hx1 hx2 hx3
                refine region_o (S := BxT w.heap.size (w.heap.size + 1) r A t B) (.take 0 (.take 2 (.take 4 (.one 1 (.one 3 (.one 5 (.one 6 (.take 7 (.take 8 (.take 9 (.take 10 (.take 11 .nil)))))))))))) (by kernel_rfl) (by kernel_rfl) (fun _ _ d _ _ h => by cases d <;> exact h) (HX.out.below (Below.refl _ _).drew) ?_
                intro W0 hW0 hS0
                have hBW : Below w3.heap.size w3 W0 := by subst hW0; exact (Below.refl _ _).drew
                clear hW0
                repeat (first
                  | (refine ord_skip rfl ?_ ?_; rfl; simp only [List.getElem_toArray, List.getElem_cons_zero, List.getElem_cons_succ, Act.put, List.setIfInBounds_toArray, List.set_cons_zero, List.set_cons_succ])
                  | (refine ord_take (v := ?_) rfl ?_ (fun W hW => ?_) ?_; rotate_left; rfl; (obtain ⟨⟨k0, k1, k2, k3, k4, k5, k6, k7, k8, k9⟩, t0, t1⟩ := hW; go_simp; (first | done | with_reducible rfl)); simp only [List.getElem_toArray, List.getElem_cons_zero, List.getElem_cons_succ, Act.put, List.setIfInBounds_toArray, List.set_cons_zero, List.set_cons_succ]))
                (refine ord_op rfl ?_ (fun K hK => ?_); rfl; go_simp; (with_reducible refine (River_c r A _ (HR.out.below hBW) HL.out.1 HL.out.2.1 HL.out.2.2.1 HL.out.2.2.2).mono ?_); rintro e W1 ⟨A1, rfl, hr1, -, hb⟩; have hS1 := BxT.below hS0 hb; replace hBW := hBW.trans (hb.mono hBW.size); have HR1 := Lib.hid hr1; clear hr1; clear hb; refine hK _ _ hS1 ?_; clear hK K; try simp only [List.getElem_toArray, List.getElem_cons_zero, List.getElem_cons_succ, Act.put, List.setIfInBounds_toArray, List.set_cons_zero, List.set_cons_succ])
                (refine ord_op rfl ?_ (fun K hK => ?_); rfl; go_simp; (with_reducible refine (list_c ax xs cx _ (HS.out.below hBW) (by have := HXL.out; omega)).mono ?_); rintro e W2 ⟨v, rfl, hown, hb⟩; have hS2 := BxT.below hS1 hb; replace hBW := hBW.trans (hb.mono hBW.size); obtain ⟨s1, cs1, rfl, -, hs2⟩ := own_Sl hown; have HS1 := Lib.hid hs2; clear hown hs2; replace HR1 := Lib.hid (HR1.out.below hb); clear hb; refine hK _ _ hS2 ?_; clear hK K; try simp only [List.getElem_toArray, List.getElem_cons_zero, List.getElem_cons_succ, Act.put, List.setIfInBounds_toArray, List.set_cons_zero, List.set_cons_succ])
                (refine ord_op rfl ?_ (fun K hK => ?_); rfl; go_simp; (with_reducible refine (Truth_c t B _ (HTR.out.below hBW) (by have := HTL.out.1; omega) (by have := HTL.out.2; omega)).mono ?_); rintro e W3 ⟨B1, rfl, ht1, hb⟩; have hS3 := BxT.below hS2 hb; replace hBW := hBW.trans (hb.mono hBW.size); have HT1 := Lib.hid ht1; clear ht1; replace HR1 := Lib.hid (HR1.out.below hb); replace HS1 := Lib.hid (HS1.out.below hb); clear hb; refine hK _ _ hS3 ?_; clear hK K; try simp only [List.getElem_toArray, List.getElem_cons_zero, List.getElem_cons_succ, Act.put, List.setIfInBounds_toArray, List.set_cons_zero, List.set_cons_succ])
                (refine ord_op rfl ?_ (fun K hK => ?_); rfl; go_simp; (with_reducible refine (Play_c r A1 s1 xs cs1 t B1 _ HR1.out HT1.out HL.out.1 HL.out.2.1 HL.out.2.2.1 HL.out.2.2.2 HS1.out (by have := HXL.out; omega)).mono ?_); rintro e W4 ⟨pa, pc, rfl, hsp, hb⟩; have hS4 := BxT.below hS3 hb; replace hBW := hBW.trans (hb.mono hBW.size); rw [HPL.out] at hsp ⊢; have HSP := Lib.hid hsp; clear hsp; clear hb; refine hK _ _ hS4 ?_; clear hK K; try simp only [List.getElem_toArray, List.getElem_cons_zero, List.getElem_cons_succ, Act.put, List.setIfInBounds_toArray, List.set_cons_zero, List.set_cons_succ])
                repeat (first
                  | (refine ord_skip rfl ?_ ?_; rfl; simp only [List.getElem_toArray, List.getElem_cons_zero, List.getElem_cons_succ, Act.put, List.setIfInBounds_toArray, List.set_cons_zero, List.set_cons_succ])
                  | (refine ord_take (v := ?_) rfl ?_ (fun W hW => ?_) ?_; rotate_left; rfl; (obtain ⟨⟨k0, k1, k2, k3, k4, k5, k6, k7, k8, k9⟩, t0, t1⟩ := hW; go_simp; (first | done | with_reducible rfl)); simp only [List.getElem_toArray, List.getElem_cons_zero, List.getElem_cons_succ, Act.put, List.setIfInBounds_toArray, List.set_cons_zero, List.set_cons_succ]))
                refine ord_nil ?_
                replace HB := Lib.hid (HB.out.trans (hBW.mono HB.out.size))
                replace HX := Lib.hid (HX.out.below hBW)
                replace HR := Lib.hid (HR.out.below hBW)
                replace HS := Lib.hid (HS.out.below hBW)
                replace HTR := Lib.hid (HTR.out.below hBW)
                clear hBW
                obtain ⟨⟨k0, k1, k2, k3, k4, k5, k6, k7, k8, k9⟩, t0, t1⟩ := HX.out
                go_wp2_with fail
                clear k0 k1 k2 k3 k4 k5 k6 k7 k8 k9 t0 t1
                refine region_o (S := BxT w.heap.size (w.heap.size + 1) r A t B) (.take 0 (.take 2 (.one 1 (.one 3 (.one 4 (.take 5 .nil)))))) (by kernel_rfl) (by kernel_rfl) (fun _ _ d _ _ h => by cases d <;> exact h) (HX.out.below (Below.refl _ _).drew) ?_
                intro W0 hW0 hS0
                have hBW : Below W4.heap.size W4 W0 := by subst hW0; exact (Below.refl _ _).drew
                clear hW0
                repeat (first
                  | (refine ord_skip rfl ?_ ?_; rfl; simp only [List.getElem_toArray, List.getElem_cons_zero, List.getElem_cons_succ, Act.put, List.setIfInBounds_toArray, List.set_cons_zero, List.set_cons_succ])
                  | (refine ord_take (v := ?_) rfl ?_ (fun W hW => ?_) ?_; rotate_left; rfl; (obtain ⟨⟨k0, k1, k2, k3, k4, k5, k6, k7, k8, k9⟩, t0, t1⟩ := hW; go_simp; (first | done | with_reducible rfl)); simp only [List.getElem_toArray, List.getElem_cons_zero, List.getElem_cons_succ, Act.put, List.setIfInBounds_toArray, List.set_cons_zero, List.set_cons_succ]))
                (refine ord_op rfl ?_ (fun K hK => ?_); rfl; go_simp; (with_reducible refine (River_c r A _ (HR.out.below hBW) HL.out.1 HL.out.2.1 HL.out.2.2.1 HL.out.2.2.2).mono ?_); rintro e W1 ⟨A2, rfl, hr2, -, hb⟩; have hS1 := BxT.below hS0 hb; replace hBW := hBW.trans (hb.mono hBW.size); have HR2 := Lib.hid hr2; clear hr2; clear hb; refine hK _ _ hS1 ?_; clear hK K; try simp only [List.getElem_toArray, List.getElem_cons_zero, List.getElem_cons_succ, Act.put, List.setIfInBounds_toArray, List.set_cons_zero, List.set_cons_succ])
                (refine ord_op rfl ?_ (fun K hK => ?_); rfl; go_simp; (with_reducible refine (Truth_c t B _ (HTR.out.below hBW) (by have := HTL.out.1; omega) (by have := HTL.out.2; omega)).mono ?_); rintro e W2 ⟨B2, rfl, ht2, hb⟩; have hS2 := BxT.below hS1 hb; replace hBW := hBW.trans (hb.mono hBW.size); have HT2 := Lib.hid ht2; clear ht2; replace HR2 := Lib.hid (HR2.out.below hb); clear hb; refine hK _ _ hS2 ?_; clear hK K; try simp only [List.getElem_toArray, List.getElem_cons_zero, List.getElem_cons_succ, Act.put, List.setIfInBounds_toArray, List.set_cons_zero, List.set_cons_succ])
                (refine ord_op rfl ?_ (fun K hK => ?_); rfl; go_simp; (with_reducible refine (ProveTruth_c r A2 t B2 _ HR2.out HT2.out HL.out.1 HL.out.2.1 HL.out.2.2.1 HL.out.2.2.2).mono ?_); rintro e W3 ⟨rfl, hb⟩; have hS3 := BxT.below hS2 hb; replace hBW := hBW.trans (hb.mono hBW.size); rw [HPT.out]; clear hb; refine hK _ _ hS3 ?_; clear hK K; try simp only [List.getElem_toArray, List.getElem_cons_zero, List.getElem_cons_succ, Act.put, List.setIfInBounds_toArray, List.set_cons_zero, List.set_cons_succ])
                repeat (first
                  | (refine ord_skip rfl ?_ ?_; rfl; simp only [List.getElem_toArray, List.getElem_cons_zero, List.getElem_cons_succ, Act.put, List.setIfInBounds_toArray, List.set_cons_zero, List.set_cons_succ])
                  | (refine ord_take (v := ?_) rfl ?_ (fun W hW => ?_) ?_; rotate_left; rfl; (obtain ⟨⟨k0, k1, k2, k3, k4, k5, k6, k7, k8, k9⟩, t0, t1⟩ := hW; go_simp; (first | done | with_reducible rfl)); simp only [List.getElem_toArray, List.getElem_cons_zero, List.getElem_cons_succ, Act.put, List.setIfInBounds_toArray, List.set_cons_zero, List.set_cons_succ]))
                refine ord_nil ?_
                replace HB := Lib.hid (HB.out.trans (hBW.mono HB.out.size))
                replace HX := Lib.hid (HX.out.below hBW)
                replace HR := Lib.hid (HR.out.below hBW)
                replace HS := Lib.hid (HS.out.below hBW)
                replace HTR := Lib.hid (HTR.out.below hBW)
                replace HSP := Lib.hid (HSP.out.below hBW)
                clear hBW
                obtain ⟨⟨k0, k1, k2, k3, k4, k5, k6, k7, k8, k9⟩, t0, t1⟩ := HX.out
                go_wp2_with fail
                clear k0 k1 k2 k3 k4 k5 k6 k7 k8 k9 t0 t1
                with_reducible refine (fault_c r A _ HR.out HL.out.1 HL.out.2.1 HL.out.2.2.1 HL.out.2.2.2).mono ?_
                rintro e w4 ⟨rfl, hb⟩
                replace HB := Lib.hid (HB.out.trans (hb.mono HB.out.size))
                replace HX := Lib.hid (HX.out.below hb)
                replace HR := Lib.hid (HR.out.below hb)
                replace HS := Lib.hid (HS.out.below hb)
                replace HTR := Lib.hid (HTR.out.below hb)
                replace HSP := Lib.hid (HSP.out.below hb)
                clear hb
                rw [HFF.out]
                obtain ⟨⟨k0, k1, k2, k3, k4, k5, k6, k7, k8, k9⟩, t0, t1⟩ := HX.out
                go_wp2_with fail
                clear k0 k1 k2 k3 k4 k5 k6 k7 k8 k9 t0 t1
                with_reducible refine (River_c r A _ HR.out HL.out.1 HL.out.2.1 HL.out.2.2.1 HL.out.2.2.2).mono ?_
                rintro e w5 ⟨A3, rfl, hr3, -, hb⟩
                replace HB := Lib.hid (HB.out.trans (hb.mono HB.out.size))
                replace HX := Lib.hid (HX.out.below hb)
                replace HR := Lib.hid (HR.out.below hb)
                replace HS := Lib.hid (HS.out.below hb)
                replace HTR := Lib.hid (HTR.out.below hb)
                replace HSP := Lib.hid (HSP.out.below hb)
                clear hb
                have HR3 := Lib.hid hr3
                clear hr3
                obtain ⟨⟨k0, k1, k2, k3, k4, k5, k6, k7, k8, k9⟩, t0, t1⟩ := HX.out
                go_wp2_with fail
                clear k0 k1 k2 k3 k4 k5 k6 k7 k8 k9 t0 t1
                with_reducible refine (check_c r A3 _ HR3.out HL.out.1 HL.out.2.1 HL.out.2.2.1 HL.out.2.2.2).mono ?_
                rintro e w6 ⟨rfl, hb⟩
                replace HB := Lib.hid (HB.out.trans (hb.mono HB.out.size))
                replace HX := Lib.hid (HX.out.below hb)
                replace HR := Lib.hid (HR.out.below hb)
                replace HS := Lib.hid (HS.out.below hb)
                replace HTR := Lib.hid (HTR.out.below hb)
                replace HSP := Lib.hid (HSP.out.below hb)
                replace HR3 := Lib.hid (HR3.out.below hb)
                clear hb
                rw [HFF.out]
                obtain ⟨⟨k0, k1, k2, k3, k4, k5, k6, k7, k8, k9⟩, t0, t1⟩ := HX.out
                go_wp2_with fail
                clear k0 k1 k2 k3 k4 k5 k6 k7 k8 k9 t0 t1
                with_reducible refine (IsTruth_c r A t B _ HOK.out HR.out HTR.out).mono ?_
                rintro e w7 ⟨rfl, hb⟩
                replace HB := Lib.hid (HB.out.trans (hb.mono HB.out.size))
                replace HX := Lib.hid (HX.out.below hb)
                replace HR := Lib.hid (HR.out.below hb)
                replace HS := Lib.hid (HS.out.below hb)
                replace HTR := Lib.hid (HTR.out.below hb)
                replace HSP := Lib.hid (HSP.out.below hb)
                replace HR3 := Lib.hid (HR3.out.below hb)
                clear hb
                rw [HIT.out]
                obtain ⟨⟨k0, k1, k2, k3, k4, k5, k6, k7, k8, k9⟩, t0, t1⟩ := HX.out
                go_wp2_with fail
                clear k0 k1 k2 k3 k4 k5 k6 k7 k8 k9 t0 t1
                with_reducible refine (IsPlan_c r A ax xs cx _ HS.out (by have := HXL.out; omega) HOK.out.l0 HOK.out.l5).mono ?_
                rintro e w8 ⟨rfl, hb⟩
                replace HB := Lib.hid (HB.out.trans (hb.mono HB.out.size))
                replace HX := Lib.hid (HX.out.below hb)
                replace HR := Lib.hid (HR.out.below hb)
                replace HS := Lib.hid (HS.out.below hb)
                replace HTR := Lib.hid (HTR.out.below hb)
                replace HSP := Lib.hid (HSP.out.below hb)
                replace HR3 := Lib.hid (HR3.out.below hb)
                clear hb
                rw [HPN.out]
                obtain ⟨⟨k0, k1, k2, k3, k4, k5, k6, k7, k8, k9⟩, t0, t1⟩ := HX.out
                go_wp2_with fail
                clear k0 k1 k2 k3 k4 k5 k6 k7 k8 k9 t0 t1
                with_reducible refine (IsListed_c r A t B _ HR.out HTR.out (by have h1 := HOK.out.ns; have h2 := HOK.out.nm; omega) (by have := HL.out.1; omega)).mono ?_
                rintro e w9 ⟨rfl, hb⟩
                replace HB := Lib.hid (HB.out.trans (hb.mono HB.out.size))
                replace HX := Lib.hid (HX.out.below hb)
                replace HR := Lib.hid (HR.out.below hb)
                replace HS := Lib.hid (HS.out.below hb)
                replace HTR := Lib.hid (HTR.out.below hb)
                replace HSP := Lib.hid (HSP.out.below hb)
                replace HR3 := Lib.hid (HR3.out.below hb)
                clear hb
                rw [HLI.out]
                obtain ⟨⟨k0, k1, k2, k3, k4, k5, k6, k7, k8, k9⟩, t0, t1⟩ := HX.out
                have hl5 := HOK.out.l5
                have hl0 := HOK.out.l0
                have hnu := HOK.out.nu
                have hpl := HPLL.out
                go_wp2_with fail
                clear k0 k1 k2 k3 k4 k5 k6 k7 k8 k9 t0 t1
                clear hnu hpl
                go_loopw [11] (fun i wr => ∃ k : Nat, (k : Int) ≤ r.last + 1 ∧ i = .int .i64 k ∧ Below w9.heap.size w9 wr) (fun i _ => 100 - (intOf i).toNat)
                case atStart => exact ⟨0, by omega, rfl, Below.refl _ _⟩
                case round =>
                  obtain ⟨k, hk, rfl, hB⟩ := hrel
                  replace HB := Lib.hid (HB.out.trans (hB.mono HB.out.size))
                  replace HX := Lib.hid (HX.out.below hB)
                  replace HR := Lib.hid (HR.out.below hB)
                  replace HS := Lib.hid (HS.out.below hB)
                  replace HTR := Lib.hid (HTR.out.below hB)
                  replace HSP := Lib.hid (HSP.out.below hB)
                  replace HR3 := Lib.hid (HR3.out.below hB)
                  have HC := Lib.hid hB
                  clear hB
                  by_cases hlt : (k : Int) ≤ r.last
                  · obtain ⟨x, hx⟩ : ∃ x, PL[k]? = some x := ⟨_, List.getElem?_eq_getElem (by have h1 := HPLL.out; have h2 := HOK.out.nu; omega)⟩
                    have hxa := HPA.out k hlt x hx
                    obtain ⟨b, o, rfl, d1⟩ := HSP.out.int_at hx
                    have hkl : k < PL.length := (List.getElem?_eq_some_iff.1 hx).1
                    have hku : k < r.use.length := by have := HPLL.out; omega
                    have HXA := Lib.hid hxa
                    have HSS := Lib.hid (show PtS w.heap.size (w.heap.size + 1) b (o + k) r A t B x wr from ⟨HX.out, d1⟩)
                    clear hx hxa d1
                    obtain ⟨⟨k0, k1, k2, k3, k4, k5, k6, k7, k8, k9⟩, t0, t1⟩ := HX.out
                    go_wp2_with fail
                    clear k0 k1 k2 k3 k4 k5 k6 k7 k8 k9 t0 t1
                    refine region_o (S := PtS w.heap.size (w.heap.size + 1) b (o + k) r A t B x) (.take 0 (.take 1 (.take 2 (.take 3 (.take 4 (.take 5 (.take 6 (.take 7 (.take 8 (.take 9 (.one 10 (.take 11 .nil)))))))))))) (by kernel_rfl) (by kernel_rfl) (fun _ _ d _ _ h => by cases d <;> exact h) (HSS.out.below (Below.refl _ _).drew) ?_
                    intro W0 hW0 hS0
                    have hBW : Below wr.heap.size wr W0 := by subst hW0; exact (Below.refl _ _).drew
                    clear hW0
                    repeat (first
                      | (refine ord_skip rfl ?_ ?_; rfl; simp only [List.getElem_toArray, List.getElem_cons_zero, List.getElem_cons_succ, Act.put, List.setIfInBounds_toArray, List.set_cons_zero, List.set_cons_succ])
                      | (refine ord_take (v := ?_) rfl ?_ (fun W hW => ?_) ?_; rotate_left; rfl; (obtain ⟨⟨⟨k0, k1, k2, k3, k4, k5, k6, k7, k8, k9⟩, t0, t1⟩, d1⟩ := hW; go_simp; (first | done | with_reducible rfl)); simp only [List.getElem_toArray, List.getElem_cons_zero, List.getElem_cons_succ, Act.put, List.setIfInBounds_toArray, List.set_cons_zero, List.set_cons_succ]))
                    (refine ord_op rfl ?_ (fun K hK => ?_); rfl; go_simp; (with_reducible refine (After_c r A t B ax xs cx r.size (-1) HOK.out HOK.out.sz.1 HOK.out.sz.2 (by have := HXL.out; omega) HTF.out.1 HTF.out.2 k hlt _ (HR.out.below hBW) (HTR.out.below hBW) (HS.out.below hBW)).mono ?_); rintro e W1 ⟨rfl, hb⟩; have hS1 := PtS.below hS0 hb; replace hBW := hBW.trans (hb.mono hBW.size); rw [HXA.out]; clear hb; refine hK _ _ hS1 ?_; clear hK K; try simp only [List.getElem_toArray, List.getElem_cons_zero, List.getElem_cons_succ, Act.put, List.setIfInBounds_toArray, List.set_cons_zero, List.set_cons_succ])
                    repeat (first
                      | (refine ord_skip rfl ?_ ?_; rfl; simp only [List.getElem_toArray, List.getElem_cons_zero, List.getElem_cons_succ, Act.put, List.setIfInBounds_toArray, List.set_cons_zero, List.set_cons_succ])
                      | (refine ord_take (v := ?_) rfl ?_ (fun W hW => ?_) ?_; rotate_left; rfl; (obtain ⟨⟨⟨k0, k1, k2, k3, k4, k5, k6, k7, k8, k9⟩, t0, t1⟩, d1⟩ := hW; go_simp; (first | done | with_reducible rfl)); simp only [List.getElem_toArray, List.getElem_cons_zero, List.getElem_cons_succ, Act.put, List.setIfInBounds_toArray, List.set_cons_zero, List.set_cons_succ]))
                    refine ord_nil ?_
                    replace HB := Lib.hid (HB.out.trans (hBW.mono HB.out.size))
                    replace HC := Lib.hid (HC.out.trans (hBW.mono HC.out.size))
                    replace HX := Lib.hid (HX.out.below hBW)
                    replace HR := Lib.hid (HR.out.below hBW)
                    replace HS := Lib.hid (HS.out.below hBW)
                    replace HTR := Lib.hid (HTR.out.below hBW)
                    replace HSP := Lib.hid (HSP.out.below hBW)
                    replace HR3 := Lib.hid (HR3.out.below hBW)
                    clear hBW
                    obtain ⟨⟨k0, k1, k2, k3, k4, k5, k6, k7, k8, k9⟩, t0, t1⟩ := HX.out
                    go_wp2_with fail
                    clear k0 k1 k2 k3 k4 k5 k6 k7 k8 k9 t0 t1
                    go_roundw
                    case rel => exact ⟨k + 1, by omega, by go_num, HC.out⟩
                    case measure => simp [intOf]; omega
                  · obtain ⟨⟨k0, k1, k2, k3, k4, k5, k6, k7, k8, k9⟩, t0, t1⟩ := HX.out
                    go_wp2_with fail
                    clear k0 k1 k2 k3 k4 k5 k6 k7 k8 k9 t0 t1
                    with_reducible refine (awake_c _).mono ?_
                    rintro e wz ⟨rfl, hbz⟩
                    go_wp2_with fail
                    go_ret
                    exact ⟨rfl, HB.out.trans (hbz.mono HB.out.size)⟩
end Go.Proofs.Ytgglfngkomgadaa
