/- Walks of the laws: RiverLost. -/
import Derived.Test.YtgglfngkomgadaaL0
import Derived.Test.YtgglfngkomgadaaM6
namespace Go.Proofs.Ytgglfngkomgadaa
open Go.RowKit Go.Shelf
set_option linter.unusedVariables false
set_option linter.unusedSimpArgs false
set_option maxRecDepth 100000

theorem Sl.st2 {W : World} {tb : Nat} {a : Option Addr} {xs : List Int} {v0 v1 : Value} (hT : W.heap[tb]? = some (.cells #[.slice none 0 0, .slice none 0 0] 64 (0, 0))) (h : Sl W a (ints xs)) : Sl ((W.setCell ⟨tb, 0, none⟩ v0).setCell ⟨tb, 1, none⟩ v1) a (ints xs) := by
  cases xs with
  | nil => exact .inl rfl
  | cons x xs =>
    obtain ⟨b, o, rfl, hc⟩ := h.int_at (k := 0) (x := x) rfl
    have hn : b ≠ tb := by
      rintro rfl
      rw [cell_blk hT] at hc
      rcases o with _ | _ | o
      · cases hc
      · cases hc
      · simp at hc
    exact h.wr (store2 hT v0 v1).2 fun ad e k => by cases e; exact hn k
theorem nth_mod {N w : Nat} (hN : 1 ≤ N) : ∃ q : Nat, q < N ∧ (w : Int) % (N : Int) = q ∧ (w : Int).tmod (N : Int) = q := by
  refine ⟨w % N, Nat.mod_lt _ (by omega), rfl, ?_⟩
  rw [Int.tmod_eq_emod_of_nonneg (by omega)]
  rfl
theorem box_T {W : World} {q tb : Nat} {r : Riv} {A : RA} {t : Tr} {B : TA} (h : BoxR q r A W) (ht : W.heap[tb]? = some (.cells #[.slice B.sa t.salt.length B.sc, .slice B.ma t.mud.length B.mc] 64 (0, 0))) : BxT q tb r A t B W :=
  ⟨h, by rw [cell_blk ht]; rfl, by rw [cell_blk ht]; rfl⟩

theorem play_ok2 {r : Riv} {xs : List Int} {t : Tr} (h : r.faultI = 0) (ht : fitT r t = true) (hp : isPlanB r.last xs = true) : playA r xs t = (playL r (gOf r t) xs, 0) := by
  unfold playA
  rw [if_neg (by simp [h]), listedB_fit, ht, hp]
  rfl
/-- What a round of the law reads: the boxes, two numbers in lists. -/
structure LoS (q tb b o b' o' : Nat) (r : Riv) (A : RA) (us : Value) (x u : Int) (W : World) : Prop where
  bx : BoxR q r A W
  us : W.cell? ⟨q, 8, none⟩ = some us
  c0 : W.cell? ⟨b, o, none⟩ = some (.int .i64 x)
  c1 : W.cell? ⟨b', o', none⟩ = some (.int .i64 u)
theorem LoS.below {q tb b o b' o' : Nat} {r : Riv} {A : RA} {us : Value} {x u : Int} {W W' : World} (h : LoS q tb b o b' o' r A us x u W) (hb : Below W.heap.size W W') : LoS q tb b o b' o' r A us x u W' :=
  have hw : Wr (fun _ => False) W W' := Wr.of_below hb
  ⟨h.bx.below hb, hw.cell (fun e => e) h.us, hw.cell (fun e => e) h.c0, hw.cell (fun e => e) h.c1⟩
/-- What is drawn. -/
def drawI (r : Riv) (t : Tr) (xs : List Int) (k : Nat) (n : Int) : Int := if xs.contains (k : Int) && goodD r t k then min r.draw (r.size - n) else 0
theorem lost_step {r : Riv} (ok : Ok r) (t : Tr) (xs : List Int) (k : Nat) : aftV r t xs r.size (-1) (k + 1) = max 0 (aftV r t xs r.size (-1) k + drawI r t xs k (aftV r t xs r.size (-1) k) - r.use.getD k 0) := by
  have h : ¬ (k : Int) = -1 := by omega
  simp only [aftV, befV, drawI, if_neg h]
  split <;> omega

set_option maxHeartbeats 20000000 in
theorem law12_c (r : Riv) (A : RA) (wn b : Nat) (w : World) (hr : Rd w r A) (hww9 : wn < 65536) (hbb : b < 256) :
    Calls Try.prog 12 #[rivV r A, .int .u16 wn, .int .u8 b] w (RetB true w) := by
  have HB := Lib.hid (al_b w (rO26 r A))
  have HX := Lib.hid (box_new w r A)
  have HR := Lib.hid hr
  clear hr
  cases hrd : (thinB r && decide (r.faultI = 0))
  · have HRD := Lib.hid hrd
    clear hrd
    go_enter Try.func12, Try.ntmps12
    go_wp2_with fail
    obtain ⟨wq, hwq⟩ : ∃ wq, w.alloc (rO26 r A) = wq := ⟨_, rfl⟩
    rw [hwq] at HB HX ⊢
    clear hwq
    replace HR := Lib.hid (HR.out.below HB.out)
    with_reducible refine (ready_c r A _ HR.out).mono ?_
    rintro e w3 ⟨rfl, hb⟩
    replace HB := Lib.hid (HB.out.trans (hb.mono HB.out.size))
    replace HX := Lib.hid (HX.out.below hb)
    replace HR := Lib.hid (HR.out.below hb)
    clear hb
    rw [HRD.out]
    obtain ⟨k0, k1, k2, k3, k4, k5, k6, k7, k8, k9⟩ := HX.out
    go_wp2_with fail
    clear k0 k1 k2 k3 k4 k5 k6 k7 k8 k9
    with_reducible refine (awake_c _).mono ?_
    rintro e wz ⟨rfl, hbz⟩
    go_wp2_with fail
    go_ret
    exact ⟨rfl, HB.out.trans (hbz.mono HB.out.size)⟩
  · have HRD := Lib.hid hrd
    have hrd2 := Bool.and_eq_true_iff.1 hrd
    have HL := Lib.hid (thin_lens hrd2.1)
    have HZ := Lib.hid (of_decide_eq_true hrd2.2)
    have HOK := Lib.hid (ok_of_fault HZ.out).1
    clear hrd hrd2
    obtain ⟨PL, hPL⟩ : ∃ L, planL r b = L := ⟨_, rfl⟩
    have hpl6 := planL_len r b
    have hpn := plan_bits HOK.out (planM_lt HOK.out b)
    rw [← planL_eq] at hpn
    rw [hPL] at hpl6 hpn
    have HPL := Lib.hid hPL
    obtain ⟨hmp, hm2, hm1⟩ := many_prod HZ.out
    obtain ⟨M, hM⟩ : ∃ M : Nat, manyI r = M := ⟨(manyI r).toNat, by omega⟩
    obtain ⟨q, hqM, hq1, hq2⟩ := nth_mod (N := M) (w := wn) (by omega)
    obtain ⟨t, ht⟩ : ∃ t, nthT r q = t := ⟨_, rfl⟩
    have HMN := Lib.hid hM
    have HTN := Lib.hid ht
    have HFT := Lib.hid (show fitT r t = true from ht ▸ nthT_fit HOK.out q)
    have HTL := Lib.hid (fit_lens HOK.out HFT.out)
    have HNM := Lib.hid (show r.mud.length = r.salt.length from by have := HOK.out.ns; have := HOK.out.nm; omega)
    have HNS := Lib.hid (show r.salt.length ≤ 30 from HL.out.1)
    have HGS := Lib.hid (show ∀ x ∈ r.salt, GoodRg x from fun x hx => HOK.out.so x hx)
    have HGM := Lib.hid (show ∀ x ∈ r.mud, GoodRg x from fun x hx => HOK.out.mo x hx)
    have HQ6 := Lib.hid (show q ≤ 1000000 from by omega)
    have HQ1 := Lib.hid hq1
    have HQ2 := Lib.hid hq2
    have HMZ := Lib.hid (show ((M : Int) == 0) = false from by rw [beq_eq_false_iff_ne]; omega)
    have HMZ2 := Lib.hid (show ¬ (M : Int) = 0 from by omega)
    have HMZ3 := Lib.hid (show ¬ M = 0 from by omega)
    clear hmp hm2 hm1 hM hqM hq1 hq2 ht
    have hpa := play_ok2 HZ.out HFT.out hpn
    have hpt := play_at HOK.out HFT.out PL
    have hpll := play_len r (gOf r t) PL
    obtain ⟨Q, hQ⟩ : ∃ L, playL r (gOf r t) PL = L := ⟨_, rfl⟩
    rw [hQ] at hpa hpt hpll
    have HPA := Lib.hid hpa
    have HQL := Lib.hid hpll
    have HQA := Lib.hid (show ∀ k : Nat, (k : Int) ≤ r.last → ∀ x, Q[k]? = some x → aftV r t PL r.size (-1) (k + 1) = x from fun k hk x hx => by
      rw [← hpt k hk, List.getD_eq_getElem?_getD, hx]; rfl)
    clear hPL hpn hpa hpt hpll hQ
    have HNU := Lib.hid HOK.out.nu
    obtain ⟨u0, hu0⟩ : ∃ u, r.use[0]? = some u := ⟨_, List.getElem?_eq_getElem (by have := HOK.out.nu; have := HOK.out.l0; omega)⟩
    obtain ⟨ub, uo, hua, -⟩ := HR.out.u.int_at hu0
    have HUA := Lib.hid hua
    clear hua hu0
    go_enter Try.func12, Try.ntmps12
    go_wp2_with fail
    obtain ⟨wq, hwq⟩ : ∃ wq, w.alloc (rO26 r A) = wq := ⟨_, rfl⟩
    rw [hwq] at HB HX ⊢
    clear hwq
    replace HR := Lib.hid (HR.out.below HB.out)
    with_reducible refine (ready_c r A _ HR.out).mono ?_
    rintro e w3 ⟨rfl, hb⟩
    replace HB := Lib.hid (HB.out.trans (hb.mono HB.out.size))
    replace HX := Lib.hid (HX.out.below hb)
    replace HR := Lib.hid (HR.out.below hb)
    clear hb
    rw [HRD.out]
    obtain ⟨k0, k1, k2, k3, k4, k5, k6, k7, k8, k9⟩ := HX.out
    go_upto_region 3 with fail
    clear k0 k1 k2 k3 k4 k5 k6 k7 k8 k9
    go_cut [7, 8] (fun pv pt wc => ∃ pa pc tb B1, pv = .slice pa PL.length pc ∧ pt = .pointer (some ⟨tb, 0, none⟩) ∧ Sl wc pa (ints PL) ∧ wc.heap[tb]? = some (.cells #[.slice B1.sa t.salt.length B1.sc, .slice B1.ma t.mud.length B1.mc] 64 (0, 0)) ∧ RdT wc t B1 ∧ Below w3.heap.size w3 wc)
    case first =>
      have hq1 := HQ1.out
      have hq2 := HQ2.out
      have hmz := HMZ.out
      have hmz2 := HMZ2.out
      have hmz3 := HMZ3.out
      have hww : IntKind.i64.wrap (wn : Int) = (wn : Int) := IntWalk.i64_in _ (by omega)
      have hwb : IntKind.i64.wrap (b : Int) = (b : Int) := IntWalk.i64_in _ (by omega)
      refine region_o (S := BoxR w.heap.size r A) (.take 0 (.take 1 (.take 2 (.take 4 (.take 5 (.take 6 (.take 7 (.two 3 11 (.two 8 11 (.take 9 (.two 10 11 (.one 11 (.take 12 (.one 13 .nil))) (.one 10 (.take 12 (.one 13 .nil))))) (.one 8 (.take 9 (.one 10 (.take 12 (.one 13 .nil)))))) (.one 3 (.one 8 (.take 9 (.one 10 (.take 12 (.one 13 .nil)))))))))))))) (by kernel_rfl) (by kernel_rfl) (fun _ _ d _ _ h => by cases d <;> exact h) (HX.out.below (Below.refl _ _).drew) ?_
      intro W0 hW0 hS0
      have hBW : Below w3.heap.size w3 W0 := by subst hW0; exact (Below.refl _ _).drew
      clear hW0
      repeat (first
        | (refine ord_skip rfl ?_ ?_; rfl; simp only [List.getElem_toArray, List.getElem_cons_zero, List.getElem_cons_succ, Act.put, List.setIfInBounds_toArray, List.set_cons_zero, List.set_cons_succ])
        | (refine ord_take (v := ?_) rfl ?_ (fun W hW => ?_) ?_; rotate_left; rfl; (obtain ⟨k0, k1, k2, k3, k4, k5, k6, k7, k8, k9⟩ := hW; go_simp; (first | done | with_reducible rfl)); simp only [List.getElem_toArray, List.getElem_cons_zero, List.getElem_cons_succ, Act.put, List.setIfInBounds_toArray, List.set_cons_zero, List.set_cons_succ]))
      refine ord_two ?_ ?_
      · skip
        (refine ord_op rfl ?_ (fun K hK => ?_); rfl; go_simp; (with_reducible refine (Planned_c r A b _ HOK.out.l0 HOK.out.l5 hbb).mono ?_); rintro e W1 ⟨v, rfl, hown, hb⟩; have hS1 := BoxR.below hS0 hb; replace hBW := hBW.trans (hb.mono hBW.size); (try replace HSP := Lib.hid (HSP.out.below hb)); (try replace hTA := (hb.block _ (Array.getElem?_eq_some_iff.1 hTA).1).trans hTA); (try replace HRT := Lib.hid (HRT.out.below hb)); rw [HPL.out] at hown; obtain ⟨pa, pc, rfl, -, hs⟩ := own_Sl hown; have HSP := Lib.hid hs; clear hown hs; clear hb; refine hK _ _ hS1 ?_; clear hK K; try simp only [List.getElem_toArray, List.getElem_cons_zero, List.getElem_cons_succ, Act.put, List.setIfInBounds_toArray, List.set_cons_zero, List.set_cons_succ])
        refine ord_two ?_ ?_
        · skip
          (refine ord_op rfl ?_ (fun K hK => ?_); rfl; go_simp; (with_reducible refine (Many_c r A _ (HR.out.below hBW) HNM.out HNS.out HGS.out HGM.out).mono ?_); rintro e W2 ⟨rfl, hb⟩; have hS2 := BoxR.below hS1 hb; replace hBW := hBW.trans (hb.mono hBW.size); (try replace HSP := Lib.hid (HSP.out.below hb)); (try replace hTA := (hb.block _ (Array.getElem?_eq_some_iff.1 hTA).1).trans hTA); (try replace HRT := Lib.hid (HRT.out.below hb)); rw [HMN.out]; clear hb; refine hK _ _ hS2 ?_; clear hK K; try simp only [List.getElem_toArray, List.getElem_cons_zero, List.getElem_cons_succ, Act.put, List.setIfInBounds_toArray, List.set_cons_zero, List.set_cons_succ])
          repeat (first
            | (refine ord_skip rfl ?_ ?_; rfl; simp only [List.getElem_toArray, List.getElem_cons_zero, List.getElem_cons_succ, Act.put, List.setIfInBounds_toArray, List.set_cons_zero, List.set_cons_succ])
            | (refine ord_take (v := ?_) rfl ?_ (fun W hW => ?_) ?_; rotate_left; rfl; (obtain ⟨k0, k1, k2, k3, k4, k5, k6, k7, k8, k9⟩ := hW; go_simp; (first | done | with_reducible rfl)); simp only [List.getElem_toArray, List.getElem_cons_zero, List.getElem_cons_succ, Act.put, List.setIfInBounds_toArray, List.set_cons_zero, List.set_cons_succ]))
          refine ord_two ?_ ?_
          · skip
            (refine ord_op rfl ?_ (fun K hK => ?_); rfl; go_simp; (with_reducible refine (Nth_c r A q _ (HR.out.below hBW) HQ6.out HNM.out HNS.out HGS.out HGM.out).mono ?_); rintro e W3 ⟨B1, rfl, hrt, hb, -⟩; have hS3 := BoxR.below hS2 hb; replace hBW := hBW.trans (hb.mono hBW.size); (try replace HSP := Lib.hid (HSP.out.below hb)); (try replace hTA := (hb.block _ (Array.getElem?_eq_some_iff.1 hTA).1).trans hTA); (try replace HRT := Lib.hid (HRT.out.below hb)); rw [HTN.out] at hrt ⊢; have HRT := Lib.hid hrt; clear hrt; clear hb; refine hK _ _ hS3 ?_; clear hK K; try simp only [List.getElem_toArray, List.getElem_cons_zero, List.getElem_cons_succ, Act.put, List.setIfInBounds_toArray, List.set_cons_zero, List.set_cons_succ])
            refine ord_op rfl ?_ (fun K hK => ?_)
            rfl
            go_simp
            obtain ⟨tb, htb⟩ : ∃ n, n = (W3).heap.size := ⟨_, rfl⟩
            obtain ⟨W4, hW4⟩ : ∃ Q, Q = (W3).alloc (.cells #[.slice none 0 0, .slice none 0 0] 64) := ⟨_, rfl⟩
            have hb : Below (W3).heap.size (W3) W4 := by rw [hW4]; exact (Below.refl _ _).alloc (Nat.le_refl _) _
            have hTA : W4.heap[tb]? = some (.cells #[.slice none 0 0, .slice none 0 0] 64 (0, 0)) := by rw [hW4, htb]; exact heap_alloc_new _ _
            have hzt : w3.heap.size ≤ tb := by rw [htb]; exact hBW.size
            replace hBW := hBW.trans (hb.mono hBW.size)
            have hS4 := BoxR.below hS3 hb
            (try replace HSP := Lib.hid (HSP.out.below hb))
            (try replace HRT := Lib.hid (HRT.out.below hb))
            
            rw [← hW4, ← htb]
            clear hW4 htb hb
            refine hK _ _ hS4 ?_
            clear hK K
            try simp only [List.getElem_toArray, List.getElem_cons_zero, List.getElem_cons_succ, Act.put, List.setIfInBounds_toArray, List.set_cons_zero, List.set_cons_succ]
            repeat (first
              | (refine ord_skip rfl ?_ ?_; rfl; simp only [List.getElem_toArray, List.getElem_cons_zero, List.getElem_cons_succ, Act.put, List.setIfInBounds_toArray, List.set_cons_zero, List.set_cons_succ])
              | (refine ord_take (v := ?_) rfl ?_ (fun W hW => ?_) ?_; rotate_left; rfl; (obtain ⟨k0, k1, k2, k3, k4, k5, k6, k7, k8, k9⟩ := hW; go_simp; (first | done | with_reducible rfl)); simp only [List.getElem_toArray, List.getElem_cons_zero, List.getElem_cons_succ, Act.put, List.setIfInBounds_toArray, List.set_cons_zero, List.set_cons_succ]))
            refine ord_op rfl ?_ (fun K hK => ?_)
            rfl
            skip
            have g0 := cell_blk (k := 0) hTA
            have g1 := cell_blk (k := 1) hTA
            have gf := fun j => frozen_blk (k := j) hTA
            go_simp
            have hst := store2 hTA (.slice B1.sa t.salt.length B1.sc) (.slice B1.ma t.mud.length B1.mc)
            (try replace HSP := Lib.hid (Sl.st2 (v0 := .slice B1.sa t.salt.length B1.sc) (v1 := .slice B1.ma t.mud.length B1.mc) hTA HSP.out))
            replace HRT := Lib.hid (show RdT _ t B1 from ⟨Sl.st2 (v0 := .slice B1.sa t.salt.length B1.sc) (v1 := .slice B1.ma t.mud.length B1.mc) hTA HRT.out.s, Sl.st2 (v0 := .slice B1.sa t.salt.length B1.sc) (v1 := .slice B1.ma t.mud.length B1.mc) hTA HRT.out.m⟩)
            
            obtain ⟨W5, hW5⟩ : ∃ Q, Q = ((W4).setCell ⟨tb, 0, none⟩ (.slice B1.sa t.salt.length B1.sc)).setCell ⟨tb, 1, none⟩ (.slice B1.ma t.mud.length B1.mc) := ⟨_, rfl⟩
            rw [← hW5] at hst HRT ⊢
            (try rw [← hW5] at HSP)
            obtain ⟨hTB, hwr⟩ := hst
            replace hBW : Below w3.heap.size w3 W5 := hBW.trans (hwr.below hBW.size (fun k e => by have : k = tb := e; omega))
            have hS5 := HX.out.below hBW
            clear hW5 g0 g1 gf hwr hTA
            refine hK _ _ hS5 ?_
            clear hK K
            try simp only [List.getElem_toArray, List.getElem_cons_zero, List.getElem_cons_succ, Act.put, List.setIfInBounds_toArray, List.set_cons_zero, List.set_cons_succ]
            refine ord_nil ?_
            clear hq1 hq2 hmz hmz2 hmz3 hww hwb
            go_wp2_with fail
            go_meet
            case rel => exact ⟨pa, pc, tb, B1, rfl, rfl, HSP.out, hTB, HRT.out, hBW⟩
          · skip
            refine ord_op rfl ?_ (fun K hK => ?_)
            rfl
            go_simp
            obtain ⟨tb, htb⟩ : ∃ n, n = (W2).heap.size := ⟨_, rfl⟩
            obtain ⟨W6, hW6⟩ : ∃ Q, Q = (W2).alloc (.cells #[.slice none 0 0, .slice none 0 0] 64) := ⟨_, rfl⟩
            have hb : Below (W2).heap.size (W2) W6 := by rw [hW6]; exact (Below.refl _ _).alloc (Nat.le_refl _) _
            have hTA : W6.heap[tb]? = some (.cells #[.slice none 0 0, .slice none 0 0] 64 (0, 0)) := by rw [hW6, htb]; exact heap_alloc_new _ _
            have hzt : w3.heap.size ≤ tb := by rw [htb]; exact hBW.size
            replace hBW := hBW.trans (hb.mono hBW.size)
            have hS6 := BoxR.below hS2 hb
            (try replace HSP := Lib.hid (HSP.out.below hb))
            (try replace HRT := Lib.hid (HRT.out.below hb))
            
            rw [← hW6, ← htb]
            clear hW6 htb hb
            refine hK _ _ hS6 ?_
            clear hK K
            try simp only [List.getElem_toArray, List.getElem_cons_zero, List.getElem_cons_succ, Act.put, List.setIfInBounds_toArray, List.set_cons_zero, List.set_cons_succ]
            (refine ord_op rfl ?_ (fun K hK => ?_); rfl; go_simp; (with_reducible refine (Nth_c r A q _ (HR.out.below hBW) HQ6.out HNM.out HNS.out HGS.out HGM.out).mono ?_); rintro e W7 ⟨B1, rfl, hrt, hb, -⟩; have hS7 := BoxR.below hS6 hb; replace hBW := hBW.trans (hb.mono hBW.size); (try replace HSP := Lib.hid (HSP.out.below hb)); (try replace hTA := (hb.block _ (Array.getElem?_eq_some_iff.1 hTA).1).trans hTA); (try replace HRT := Lib.hid (HRT.out.below hb)); rw [HTN.out] at hrt ⊢; have HRT := Lib.hid hrt; clear hrt; clear hb; refine hK _ _ hS7 ?_; clear hK K; try simp only [List.getElem_toArray, List.getElem_cons_zero, List.getElem_cons_succ, Act.put, List.setIfInBounds_toArray, List.set_cons_zero, List.set_cons_succ])
            repeat (first
              | (refine ord_skip rfl ?_ ?_; rfl; simp only [List.getElem_toArray, List.getElem_cons_zero, List.getElem_cons_succ, Act.put, List.setIfInBounds_toArray, List.set_cons_zero, List.set_cons_succ])
              | (refine ord_take (v := ?_) rfl ?_ (fun W hW => ?_) ?_; rotate_left; rfl; (obtain ⟨k0, k1, k2, k3, k4, k5, k6, k7, k8, k9⟩ := hW; go_simp; (first | done | with_reducible rfl)); simp only [List.getElem_toArray, List.getElem_cons_zero, List.getElem_cons_succ, Act.put, List.setIfInBounds_toArray, List.set_cons_zero, List.set_cons_succ]))
            refine ord_op rfl ?_ (fun K hK => ?_)
            rfl
            skip
            have g0 := cell_blk (k := 0) hTA
            have g1 := cell_blk (k := 1) hTA
            have gf := fun j => frozen_blk (k := j) hTA
            go_simp
            have hst := store2 hTA (.slice B1.sa t.salt.length B1.sc) (.slice B1.ma t.mud.length B1.mc)
            (try replace HSP := Lib.hid (Sl.st2 (v0 := .slice B1.sa t.salt.length B1.sc) (v1 := .slice B1.ma t.mud.length B1.mc) hTA HSP.out))
            replace HRT := Lib.hid (show RdT _ t B1 from ⟨Sl.st2 (v0 := .slice B1.sa t.salt.length B1.sc) (v1 := .slice B1.ma t.mud.length B1.mc) hTA HRT.out.s, Sl.st2 (v0 := .slice B1.sa t.salt.length B1.sc) (v1 := .slice B1.ma t.mud.length B1.mc) hTA HRT.out.m⟩)
            
            obtain ⟨W8, hW8⟩ : ∃ Q, Q = ((W7).setCell ⟨tb, 0, none⟩ (.slice B1.sa t.salt.length B1.sc)).setCell ⟨tb, 1, none⟩ (.slice B1.ma t.mud.length B1.mc) := ⟨_, rfl⟩
            rw [← hW8] at hst HRT ⊢
            (try rw [← hW8] at HSP)
            obtain ⟨hTB, hwr⟩ := hst
            replace hBW : Below w3.heap.size w3 W8 := hBW.trans (hwr.below hBW.size (fun k e => by have : k = tb := e; omega))
            have hS8 := HX.out.below hBW
            clear hW8 g0 g1 gf hwr hTA
            refine hK _ _ hS8 ?_
            clear hK K
            try simp only [List.getElem_toArray, List.getElem_cons_zero, List.getElem_cons_succ, Act.put, List.setIfInBounds_toArray, List.set_cons_zero, List.set_cons_succ]
            refine ord_nil ?_
            clear hq1 hq2 hmz hmz2 hmz3 hww hwb
            go_wp2_with fail
            go_meet
            case rel => exact ⟨pa, pc, tb, B1, rfl, rfl, HSP.out, hTB, HRT.out, hBW⟩
        · skip
          refine ord_op rfl ?_ (fun K hK => ?_)
          rfl
          go_simp
          obtain ⟨tb, htb⟩ : ∃ n, n = (W1).heap.size := ⟨_, rfl⟩
          obtain ⟨W9, hW9⟩ : ∃ Q, Q = (W1).alloc (.cells #[.slice none 0 0, .slice none 0 0] 64) := ⟨_, rfl⟩
          have hb : Below (W1).heap.size (W1) W9 := by rw [hW9]; exact (Below.refl _ _).alloc (Nat.le_refl _) _
          have hTA : W9.heap[tb]? = some (.cells #[.slice none 0 0, .slice none 0 0] 64 (0, 0)) := by rw [hW9, htb]; exact heap_alloc_new _ _
          have hzt : w3.heap.size ≤ tb := by rw [htb]; exact hBW.size
          replace hBW := hBW.trans (hb.mono hBW.size)
          have hS9 := BoxR.below hS1 hb
          (try replace HSP := Lib.hid (HSP.out.below hb))
          (try replace HRT := Lib.hid (HRT.out.below hb))
          
          rw [← hW9, ← htb]
          clear hW9 htb hb
          refine hK _ _ hS9 ?_
          clear hK K
          try simp only [List.getElem_toArray, List.getElem_cons_zero, List.getElem_cons_succ, Act.put, List.setIfInBounds_toArray, List.set_cons_zero, List.set_cons_succ]
          (refine ord_op rfl ?_ (fun K hK => ?_); rfl; go_simp; (with_reducible refine (Many_c r A _ (HR.out.below hBW) HNM.out HNS.out HGS.out HGM.out).mono ?_); rintro e W10 ⟨rfl, hb⟩; have hS10 := BoxR.below hS9 hb; replace hBW := hBW.trans (hb.mono hBW.size); (try replace HSP := Lib.hid (HSP.out.below hb)); (try replace hTA := (hb.block _ (Array.getElem?_eq_some_iff.1 hTA).1).trans hTA); (try replace HRT := Lib.hid (HRT.out.below hb)); rw [HMN.out]; clear hb; refine hK _ _ hS10 ?_; clear hK K; try simp only [List.getElem_toArray, List.getElem_cons_zero, List.getElem_cons_succ, Act.put, List.setIfInBounds_toArray, List.set_cons_zero, List.set_cons_succ])
          repeat (first
            | (refine ord_skip rfl ?_ ?_; rfl; simp only [List.getElem_toArray, List.getElem_cons_zero, List.getElem_cons_succ, Act.put, List.setIfInBounds_toArray, List.set_cons_zero, List.set_cons_succ])
            | (refine ord_take (v := ?_) rfl ?_ (fun W hW => ?_) ?_; rotate_left; rfl; (obtain ⟨k0, k1, k2, k3, k4, k5, k6, k7, k8, k9⟩ := hW; go_simp; (first | done | with_reducible rfl)); simp only [List.getElem_toArray, List.getElem_cons_zero, List.getElem_cons_succ, Act.put, List.setIfInBounds_toArray, List.set_cons_zero, List.set_cons_succ]))
          (refine ord_op rfl ?_ (fun K hK => ?_); rfl; go_simp; (with_reducible refine (Nth_c r A q _ (HR.out.below hBW) HQ6.out HNM.out HNS.out HGS.out HGM.out).mono ?_); rintro e W11 ⟨B1, rfl, hrt, hb, -⟩; have hS11 := BoxR.below hS10 hb; replace hBW := hBW.trans (hb.mono hBW.size); (try replace HSP := Lib.hid (HSP.out.below hb)); (try replace hTA := (hb.block _ (Array.getElem?_eq_some_iff.1 hTA).1).trans hTA); (try replace HRT := Lib.hid (HRT.out.below hb)); rw [HTN.out] at hrt ⊢; have HRT := Lib.hid hrt; clear hrt; clear hb; refine hK _ _ hS11 ?_; clear hK K; try simp only [List.getElem_toArray, List.getElem_cons_zero, List.getElem_cons_succ, Act.put, List.setIfInBounds_toArray, List.set_cons_zero, List.set_cons_succ])
          repeat (first
            | (refine ord_skip rfl ?_ ?_; rfl; simp only [List.getElem_toArray, List.getElem_cons_zero, List.getElem_cons_succ, Act.put, List.setIfInBounds_toArray, List.set_cons_zero, List.set_cons_succ])
            | (refine ord_take (v := ?_) rfl ?_ (fun W hW => ?_) ?_; rotate_left; rfl; (obtain ⟨k0, k1, k2, k3, k4, k5, k6, k7, k8, k9⟩ := hW; go_simp; (first | done | with_reducible rfl)); simp only [List.getElem_toArray, List.getElem_cons_zero, List.getElem_cons_succ, Act.put, List.setIfInBounds_toArray, List.set_cons_zero, List.set_cons_succ]))
          refine ord_op rfl ?_ (fun K hK => ?_)
          rfl
          skip
          have g0 := cell_blk (k := 0) hTA
          have g1 := cell_blk (k := 1) hTA
          have gf := fun j => frozen_blk (k := j) hTA
          go_simp
          have hst := store2 hTA (.slice B1.sa t.salt.length B1.sc) (.slice B1.ma t.mud.length B1.mc)
          (try replace HSP := Lib.hid (Sl.st2 (v0 := .slice B1.sa t.salt.length B1.sc) (v1 := .slice B1.ma t.mud.length B1.mc) hTA HSP.out))
          replace HRT := Lib.hid (show RdT _ t B1 from ⟨Sl.st2 (v0 := .slice B1.sa t.salt.length B1.sc) (v1 := .slice B1.ma t.mud.length B1.mc) hTA HRT.out.s, Sl.st2 (v0 := .slice B1.sa t.salt.length B1.sc) (v1 := .slice B1.ma t.mud.length B1.mc) hTA HRT.out.m⟩)
          
          obtain ⟨W12, hW12⟩ : ∃ Q, Q = ((W11).setCell ⟨tb, 0, none⟩ (.slice B1.sa t.salt.length B1.sc)).setCell ⟨tb, 1, none⟩ (.slice B1.ma t.mud.length B1.mc) := ⟨_, rfl⟩
          rw [← hW12] at hst HRT ⊢
          (try rw [← hW12] at HSP)
          obtain ⟨hTB, hwr⟩ := hst
          replace hBW : Below w3.heap.size w3 W12 := hBW.trans (hwr.below hBW.size (fun k e => by have : k = tb := e; omega))
          have hS12 := HX.out.below hBW
          clear hW12 g0 g1 gf hwr hTA
          refine hK _ _ hS12 ?_
          clear hK K
          try simp only [List.getElem_toArray, List.getElem_cons_zero, List.getElem_cons_succ, Act.put, List.setIfInBounds_toArray, List.set_cons_zero, List.set_cons_succ]
          refine ord_nil ?_
          clear hq1 hq2 hmz hmz2 hmz3 hww hwb
          go_wp2_with fail
          go_meet
          case rel => exact ⟨pa, pc, tb, B1, rfl, rfl, HSP.out, hTB, HRT.out, hBW⟩
      · skip
        refine ord_op rfl ?_ (fun K hK => ?_)
        rfl
        go_simp
        obtain ⟨tb, htb⟩ : ∃ n, n = (W0).heap.size := ⟨_, rfl⟩
        obtain ⟨W13, hW13⟩ : ∃ Q, Q = (W0).alloc (.cells #[.slice none 0 0, .slice none 0 0] 64) := ⟨_, rfl⟩
        have hb : Below (W0).heap.size (W0) W13 := by rw [hW13]; exact (Below.refl _ _).alloc (Nat.le_refl _) _
        have hTA : W13.heap[tb]? = some (.cells #[.slice none 0 0, .slice none 0 0] 64 (0, 0)) := by rw [hW13, htb]; exact heap_alloc_new _ _
        have hzt : w3.heap.size ≤ tb := by rw [htb]; exact hBW.size
        replace hBW := hBW.trans (hb.mono hBW.size)
        have hS13 := BoxR.below hS0 hb
        (try replace HSP := Lib.hid (HSP.out.below hb))
        (try replace HRT := Lib.hid (HRT.out.below hb))
        
        rw [← hW13, ← htb]
        clear hW13 htb hb
        refine hK _ _ hS13 ?_
        clear hK K
        try simp only [List.getElem_toArray, List.getElem_cons_zero, List.getElem_cons_succ, Act.put, List.setIfInBounds_toArray, List.set_cons_zero, List.set_cons_succ]
        (refine ord_op rfl ?_ (fun K hK => ?_); rfl; go_simp; (with_reducible refine (Planned_c r A b _ HOK.out.l0 HOK.out.l5 hbb).mono ?_); rintro e W14 ⟨v, rfl, hown, hb⟩; have hS14 := BoxR.below hS13 hb; replace hBW := hBW.trans (hb.mono hBW.size); (try replace HSP := Lib.hid (HSP.out.below hb)); (try replace hTA := (hb.block _ (Array.getElem?_eq_some_iff.1 hTA).1).trans hTA); (try replace HRT := Lib.hid (HRT.out.below hb)); rw [HPL.out] at hown; obtain ⟨pa, pc, rfl, -, hs⟩ := own_Sl hown; have HSP := Lib.hid hs; clear hown hs; clear hb; refine hK _ _ hS14 ?_; clear hK K; try simp only [List.getElem_toArray, List.getElem_cons_zero, List.getElem_cons_succ, Act.put, List.setIfInBounds_toArray, List.set_cons_zero, List.set_cons_succ])
        (refine ord_op rfl ?_ (fun K hK => ?_); rfl; go_simp; (with_reducible refine (Many_c r A _ (HR.out.below hBW) HNM.out HNS.out HGS.out HGM.out).mono ?_); rintro e W15 ⟨rfl, hb⟩; have hS15 := BoxR.below hS14 hb; replace hBW := hBW.trans (hb.mono hBW.size); (try replace HSP := Lib.hid (HSP.out.below hb)); (try replace hTA := (hb.block _ (Array.getElem?_eq_some_iff.1 hTA).1).trans hTA); (try replace HRT := Lib.hid (HRT.out.below hb)); rw [HMN.out]; clear hb; refine hK _ _ hS15 ?_; clear hK K; try simp only [List.getElem_toArray, List.getElem_cons_zero, List.getElem_cons_succ, Act.put, List.setIfInBounds_toArray, List.set_cons_zero, List.set_cons_succ])
        repeat (first
          | (refine ord_skip rfl ?_ ?_; rfl; simp only [List.getElem_toArray, List.getElem_cons_zero, List.getElem_cons_succ, Act.put, List.setIfInBounds_toArray, List.set_cons_zero, List.set_cons_succ])
          | (refine ord_take (v := ?_) rfl ?_ (fun W hW => ?_) ?_; rotate_left; rfl; (obtain ⟨k0, k1, k2, k3, k4, k5, k6, k7, k8, k9⟩ := hW; go_simp; (first | done | with_reducible rfl)); simp only [List.getElem_toArray, List.getElem_cons_zero, List.getElem_cons_succ, Act.put, List.setIfInBounds_toArray, List.set_cons_zero, List.set_cons_succ]))
        (refine ord_op rfl ?_ (fun K hK => ?_); rfl; go_simp; (with_reducible refine (Nth_c r A q _ (HR.out.below hBW) HQ6.out HNM.out HNS.out HGS.out HGM.out).mono ?_); rintro e W16 ⟨B1, rfl, hrt, hb, -⟩; have hS16 := BoxR.below hS15 hb; replace hBW := hBW.trans (hb.mono hBW.size); (try replace HSP := Lib.hid (HSP.out.below hb)); (try replace hTA := (hb.block _ (Array.getElem?_eq_some_iff.1 hTA).1).trans hTA); (try replace HRT := Lib.hid (HRT.out.below hb)); rw [HTN.out] at hrt ⊢; have HRT := Lib.hid hrt; clear hrt; clear hb; refine hK _ _ hS16 ?_; clear hK K; try simp only [List.getElem_toArray, List.getElem_cons_zero, List.getElem_cons_succ, Act.put, List.setIfInBounds_toArray, List.set_cons_zero, List.set_cons_succ])
        repeat (first
          | (refine ord_skip rfl ?_ ?_; rfl; simp only [List.getElem_toArray, List.getElem_cons_zero, List.getElem_cons_succ, Act.put, List.setIfInBounds_toArray, List.set_cons_zero, List.set_cons_succ])
          | (refine ord_take (v := ?_) rfl ?_ (fun W hW => ?_) ?_; rotate_left; rfl; (obtain ⟨k0, k1, k2, k3, k4, k5, k6, k7, k8, k9⟩ := hW; go_simp; (first | done | with_reducible rfl)); simp only [List.getElem_toArray, List.getElem_cons_zero, List.getElem_cons_succ, Act.put, List.setIfInBounds_toArray, List.set_cons_zero, List.set_cons_succ]))
        refine ord_op rfl ?_ (fun K hK => ?_)
        rfl
        skip
        have g0 := cell_blk (k := 0) hTA
        have g1 := cell_blk (k := 1) hTA
        have gf := fun j => frozen_blk (k := j) hTA
        go_simp
        have hst := store2 hTA (.slice B1.sa t.salt.length B1.sc) (.slice B1.ma t.mud.length B1.mc)
        (try replace HSP := Lib.hid (Sl.st2 (v0 := .slice B1.sa t.salt.length B1.sc) (v1 := .slice B1.ma t.mud.length B1.mc) hTA HSP.out))
        replace HRT := Lib.hid (show RdT _ t B1 from ⟨Sl.st2 (v0 := .slice B1.sa t.salt.length B1.sc) (v1 := .slice B1.ma t.mud.length B1.mc) hTA HRT.out.s, Sl.st2 (v0 := .slice B1.sa t.salt.length B1.sc) (v1 := .slice B1.ma t.mud.length B1.mc) hTA HRT.out.m⟩)
        
        obtain ⟨W17, hW17⟩ : ∃ Q, Q = ((W16).setCell ⟨tb, 0, none⟩ (.slice B1.sa t.salt.length B1.sc)).setCell ⟨tb, 1, none⟩ (.slice B1.ma t.mud.length B1.mc) := ⟨_, rfl⟩
        rw [← hW17] at hst HRT ⊢
        (try rw [← hW17] at HSP)
        obtain ⟨hTB, hwr⟩ := hst
        replace hBW : Below w3.heap.size w3 W17 := hBW.trans (hwr.below hBW.size (fun k e => by have : k = tb := e; omega))
        have hS17 := HX.out.below hBW
        clear hW17 g0 g1 gf hwr hTA
        refine hK _ _ hS17 ?_
        clear hK K
        try simp only [List.getElem_toArray, List.getElem_cons_zero, List.getElem_cons_succ, Act.put, List.setIfInBounds_toArray, List.set_cons_zero, List.set_cons_succ]
        refine ord_nil ?_
        clear hq1 hq2 hmz hmz2 hmz3 hww hwb
        go_wp2_with fail
        go_meet
        case rel => exact ⟨pa, pc, tb, B1, rfl, rfl, HSP.out, hTB, HRT.out, hBW⟩
    case rest =>
      obtain ⟨pa, pc, tb, B1, rfl, rfl, hsp, hTB, hrt, hb⟩ := hcut
      replace HB := Lib.hid (HB.out.trans (hb.mono HB.out.size))
      replace HX := Lib.hid (HX.out.below hb)
      replace HR := Lib.hid (HR.out.below hb)
      replace HX := Lib.hid (box_T HX.out hTB)
      clear hb hTB
      have HSP := Lib.hid hsp
      clear hsp
      have HRT := Lib.hid hrt
      clear hrt
      obtain ⟨⟨k0, k1, k2, k3, k4, k5, k6, k7, k8, k9⟩, t0, t1⟩ := HX.out
      go_wp2_with fail
      clear k0 k1 k2 k3 k4 k5 k6 k7 k8 k9 t0 t1
      refine region_o (S := BxT w.heap.size tb r A t B1) (.take 0 (.take 2 (.take 4 (.one 1 (.one 3 (.one 5 (.one 6 (.take 7 (.take 8 (.take 9 (.take 10 (.take 11 .nil)))))))))))) (by kernel_rfl) (by kernel_rfl) (fun _ _ d _ _ h => by cases d <;> exact h) (HX.out.below (Below.refl _ _).drew) ?_
      intro W0 hW0 hS0
      have hBW : Below wc.heap.size wc W0 := by subst hW0; exact (Below.refl _ _).drew
      clear hW0
      repeat (first
        | (refine ord_skip rfl ?_ ?_; rfl; simp only [List.getElem_toArray, List.getElem_cons_zero, List.getElem_cons_succ, Act.put, List.setIfInBounds_toArray, List.set_cons_zero, List.set_cons_succ])
        | (refine ord_take (v := ?_) rfl ?_ (fun W hW => ?_) ?_; rotate_left; rfl; (obtain ⟨⟨k0, k1, k2, k3, k4, k5, k6, k7, k8, k9⟩, t0, t1⟩ := hW; go_simp; (first | done | with_reducible rfl)); simp only [List.getElem_toArray, List.getElem_cons_zero, List.getElem_cons_succ, Act.put, List.setIfInBounds_toArray, List.set_cons_zero, List.set_cons_succ]))
      (refine ord_op rfl ?_ (fun K hK => ?_); rfl; go_simp; (with_reducible refine (River_c r A _ (HR.out.below hBW) HL.out.1 HL.out.2.1 HL.out.2.2.1 HL.out.2.2.2).mono ?_); rintro e W1 ⟨A1, rfl, hr1, -, hb⟩; have hS1 := BxT.below hS0 hb; replace hBW := hBW.trans (hb.mono hBW.size); have HR1 := Lib.hid hr1; clear hr1; clear hb; refine hK _ _ hS1 ?_; clear hK K; try simp only [List.getElem_toArray, List.getElem_cons_zero, List.getElem_cons_succ, Act.put, List.setIfInBounds_toArray, List.set_cons_zero, List.set_cons_succ])
      (refine ord_op rfl ?_ (fun K hK => ?_); rfl; go_simp; (with_reducible refine (list_c pa PL pc _ (HSP.out.below hBW) (by omega)).mono ?_); rintro e W2 ⟨v, rfl, hown, hb⟩; have hS2 := BxT.below hS1 hb; replace hBW := hBW.trans (hb.mono hBW.size); obtain ⟨s1, cs1, rfl, -, hs2⟩ := own_Sl hown; have HS1 := Lib.hid hs2; clear hown hs2; replace HR1 := Lib.hid (HR1.out.below hb); clear hb; refine hK _ _ hS2 ?_; clear hK K; try simp only [List.getElem_toArray, List.getElem_cons_zero, List.getElem_cons_succ, Act.put, List.setIfInBounds_toArray, List.set_cons_zero, List.set_cons_succ])
      (refine ord_op rfl ?_ (fun K hK => ?_); rfl; go_simp; (with_reducible refine (Truth_c t B1 _ (HRT.out.below hBW) (by have := HTL.out.1; have := HOK.out.l5; omega) (by have := HTL.out.2; have := HOK.out.l5; omega)).mono ?_); rintro e W3 ⟨B2, rfl, ht1, hb⟩; have hS3 := BxT.below hS2 hb; replace hBW := hBW.trans (hb.mono hBW.size); have HT1 := Lib.hid ht1; clear ht1; replace HR1 := Lib.hid (HR1.out.below hb); replace HS1 := Lib.hid (HS1.out.below hb); clear hb; refine hK _ _ hS3 ?_; clear hK K; try simp only [List.getElem_toArray, List.getElem_cons_zero, List.getElem_cons_succ, Act.put, List.setIfInBounds_toArray, List.set_cons_zero, List.set_cons_succ])
      (refine ord_op rfl ?_ (fun K hK => ?_); rfl; go_simp; (with_reducible refine (Play_c r A1 s1 PL cs1 t B2 _ HR1.out HT1.out HL.out.1 HL.out.2.1 HL.out.2.2.1 HL.out.2.2.2 HS1.out (by omega)).mono ?_); rintro e W4 ⟨qa, qc, rfl, hsq, hb⟩; have hS4 := BxT.below hS3 hb; replace hBW := hBW.trans (hb.mono hBW.size); rw [HPA.out] at hsq ⊢; have HSQ := Lib.hid hsq; clear hsq; clear hb; refine hK _ _ hS4 ?_; clear hK K; try simp only [List.getElem_toArray, List.getElem_cons_zero, List.getElem_cons_succ, Act.put, List.setIfInBounds_toArray, List.set_cons_zero, List.set_cons_succ])
      repeat (first
        | (refine ord_skip rfl ?_ ?_; rfl; simp only [List.getElem_toArray, List.getElem_cons_zero, List.getElem_cons_succ, Act.put, List.setIfInBounds_toArray, List.set_cons_zero, List.set_cons_succ])
        | (refine ord_take (v := ?_) rfl ?_ (fun W hW => ?_) ?_; rotate_left; rfl; (obtain ⟨⟨k0, k1, k2, k3, k4, k5, k6, k7, k8, k9⟩, t0, t1⟩ := hW; go_simp; (first | done | with_reducible rfl)); simp only [List.getElem_toArray, List.getElem_cons_zero, List.getElem_cons_succ, Act.put, List.setIfInBounds_toArray, List.set_cons_zero, List.set_cons_succ]))
      refine ord_nil ?_
      replace HB := Lib.hid (HB.out.trans (hBW.mono HB.out.size))
      replace HX := Lib.hid (HX.out.below hBW)
      replace HR := Lib.hid (HR.out.below hBW)
      replace HSP := Lib.hid (HSP.out.below hBW)
      replace HRT := Lib.hid (HRT.out.below hBW)
      clear hBW
      have hl5 := HOK.out.l5
      have hl0 := HOK.out.l0
      have hnu := HNU.out
      have hql := HQL.out
      obtain ⟨⟨k0, k1, k2, k3, k4, k5, k6, k7, k8, k9⟩, t0, t1⟩ := HX.out
      go_wp2_with fail
      clear k0 k1 k2 k3 k4 k5 k6 k7 k8 k9 t0 t1
      clear hnu hql
      go_loopw [11, 12] (fun u i wr => ∃ (k : Nat) (n : Int), k ≤ r.use.length ∧ i = .int .i64 k ∧ Hid (aftV r t PL r.size (-1) k = n) ∧ u = .int .i64 n ∧ Below W4.heap.size W4 wr) (fun _ i _ => r.use.length - (intOf i).toNat)
      case atStart => exact ⟨0, r.start, Nat.zero_le _, rfl, rfl, rfl, Below.refl _ _⟩
      case round =>
        obtain ⟨k, n, hk, rfl, HN, rfl, hB⟩ := hrel
        replace HB := Lib.hid (HB.out.trans (hB.mono HB.out.size))
        replace HX := Lib.hid (HX.out.below hB)
        replace HR := Lib.hid (HR.out.below hB)
        replace HSP := Lib.hid (HSP.out.below hB)
        replace HRT := Lib.hid (HRT.out.below hB)
        replace HSQ := Lib.hid (HSQ.out.below hB)
        have HC := Lib.hid hB
        clear hB
        obtain ⟨hn0, hn9⟩ : 0 ≤ n ∧ n ≤ 99 := by rw [← HN.out]; exact ⟨aft_nn HOK.out t PL r.size (-1) k, Int.le_trans (aft_le HOK.out t PL r.size (-1) HOK.out.sz.1 HOK.out.st.2 k) HOK.out.sz.2⟩
        by_cases hlt : k < r.use.length
        · have hkl : (k : Int) ≤ r.last := by have := HNU.out; omega
          have hQl : k < Q.length := by have := HQL.out; omega
          obtain ⟨x, hx⟩ : ∃ x, Q[k]? = some x := ⟨_, List.getElem?_eq_getElem hQl⟩
          obtain ⟨u, hu⟩ : ∃ u, r.use[k]? = some u := ⟨_, List.getElem?_eq_getElem hlt⟩
          have hgu : r.use.getD k 0 = u := by rw [List.getD_eq_getElem?_getD, hu]; rfl
          have hub := use_bd HOK.out k
          rw [hgu] at hub
          have hstep := lost_step HOK.out t PL k
          rw [HQA.out k hkl x hx, HN.out, hgu] at hstep
          have hsz1 := aft_le HOK.out t PL r.size (-1) HOK.out.sz.1 HOK.out.st.2 (k + 1)
          rw [HQA.out k hkl x hx] at hsz1
          have hszn := aft_le HOK.out t PL r.size (-1) HOK.out.sz.1 HOK.out.st.2 k
          rw [HN.out] at hszn
          have HXN := Lib.hid (HQA.out k hkl x hx)
          obtain ⟨b0, o0, ea, d0⟩ := HSQ.out.int_at hx
          subst ea
          obtain ⟨ub', uo', ea2, d1⟩ := HR.out.u.int_at hu
          rw [HUA.out] at ea2
          cases ea2
          have HSS := Lib.hid (show LoS w.heap.size tb b0 (o0 + k) ub (uo + k) r A (.slice (some ⟨ub, uo, none⟩) r.use.length A.uc) x u wr from ⟨HX.out.bx, by have := HX.out.bx.k8; rw [HUA.out] at this; exact this, d0, d1⟩)
          have hb1 := HOK.out.sz
          have hb2 := HOK.out.dr
          have hts : k < t.salt.length := by have := HTL.out.1; omega
          have htm : k < t.mud.length := by have := HTL.out.2; omega
          have ew : IntKind.i64.wrap ((k : Int) + 1) = (k : Int) + 1 := IntWalk.i64_in _ (by omega)
          have esn : IntKind.i64.wrap (r.size - n) = r.size - n := IntWalk.i64_in _ (by omega)
          clear hx hu hgu d0 d1
          obtain ⟨⟨k0, k1, k2, k3, k4, k5, k6, k7, k8, k9⟩, t0, t1⟩ := HX.out
          go_wp2_with fail
          clear k0 k1 k2 k3 k4 k5 k6 k7 k8 k9 t0 t1
          (with_reducible refine (Has_c pa PL pc (k : Int) _ HSP.out (by omega)).mono ?_)
          rintro e wi ⟨rfl, rfl⟩
          obtain ⟨cc, hcc⟩ : ∃ c, PL.contains (k : Int) = c := ⟨_, rfl⟩
          obtain ⟨gg, hgg⟩ : ∃ c, goodD r t k = c := ⟨_, rfl⟩
          have HCC := Lib.hid hcc
          have HGG := Lib.hid hgg
          have hdr : drawI r t PL k n = if cc && gg then min r.draw (r.size - n) else 0 := by rw [← hcc, ← hgg]; rfl
          rw [hdr] at hstep
          rw [HCC.out]
          clear hcc hgg hdr
          cases cc
          · simp only [Bool.false_and, Bool.false_eq_true, if_false] at hstep
            obtain ⟨⟨k0, k1, k2, k3, k4, k5, k6, k7, k8, k9⟩, t0, t1⟩ := HX.out
            go_wp2_with fail
            clear k0 k1 k2 k3 k4 k5 k6 k7 k8 k9 t0 t1
            by_cases hlk : u ≤ n
            · have hxe : x = n - u := by omega
              subst hxe
              have hneg : ¬ (n - u < 0) := by omega
              have hgt : ¬ (r.size < n - u) := by omega
              have hnlt : ¬ (n < u) := by omega
              have e1 : IntKind.i64.wrap (n) = n := IntWalk.i64_in _ (by omega)
              have e2 : IntKind.i64.wrap (n - u) = n - u := IntWalk.i64_in _ (by omega)
              have hqn : k < Q.length := hQl
              clear hstep hsz1
              refine region_o (S := LoS w.heap.size tb b0 (o0 + k) ub (uo + k) r A (.slice (some ⟨ub, uo, none⟩) r.use.length A.uc) (n - u) u) (.take 0 (.take 1 (.take 2 (.take 3 (.take 4 (.take 5 (.take 6 (.take 7 (.take 8 (.take 9 (.take 10 (.take 11 (.take 12 (.take 13 (.take 14 (.take 15 (.take 16 (.take 17 (.take 18 (.take 19 (.take 20 (.take 21 (.take 22 (.take 23 (.take 24 (.take 25 (.take 26 (.take 27 (.take 28 (.take 29 (.take 30 (.take 31 (.take 32 (.take 33 (.take 34 (.take 35 (.take 36 (.take 37 (.take 38 (.take 39 (.take 40 (.take 41 (.take 42 (.take 43 (.take 44 (.take 45 (.take 46 (.take 47 (.take 48 (.take 49 (.take 50 (.take 51 (.take 52 (.take 53 (.take 54 (.take 55 (.take 56 (.take 57 (.take 58 .nil))))))))))))))))))))))))))))))))))))))))))))))))))))))))))) (by kernel_rfl) (by kernel_rfl) (fun _ _ d _ _ h => by cases d <;> exact h) (HSS.out.below (Below.refl _ _).drew) ?_
              intro W0 hW0 hS0
              have hBW : Below wr.heap.size wr W0 := by subst hW0; exact (Below.refl _ _).drew
              clear hW0
              repeat (first
                | (refine ord_skip rfl ?_ ?_; rfl; simp only [List.getElem_toArray, List.getElem_cons_zero, List.getElem_cons_succ, Act.put, List.setIfInBounds_toArray, List.set_cons_zero, List.set_cons_succ])
                | (refine ord_take (v := ?_) rfl ?_ (fun W hW => ?_) ?_; rotate_left; rfl; (obtain ⟨⟨k0, k1, k2, k3, k4, k5, k6, k7, -, k9⟩, k8, d0, d1⟩ := hW; go_simp; (first | done | with_reducible rfl)); simp only [List.getElem_toArray, List.getElem_cons_zero, List.getElem_cons_succ, Act.put, List.setIfInBounds_toArray, List.set_cons_zero, List.set_cons_succ]))
              refine ord_nil ?_
              replace HB := Lib.hid (HB.out.trans (hBW.mono HB.out.size))
              replace HC := Lib.hid (HC.out.trans (hBW.mono HC.out.size))
              replace HX := Lib.hid (HX.out.below hBW)
              replace HR := Lib.hid (HR.out.below hBW)
              replace HSP := Lib.hid (HSP.out.below hBW)
              replace HRT := Lib.hid (HRT.out.below hBW)
              replace HSQ := Lib.hid (HSQ.out.below hBW)
              replace HSS := Lib.hid (HSS.out.below hBW)
              clear hBW
              obtain ⟨⟨k0, k1, k2, k3, k4, k5, k6, k7, -, k9⟩, k8, d0, d1⟩ := hS0
              go_wp2_with fail
              go_roundw
              case rel => exact ⟨k + 1, _, by omega, by go_num, HXN, rfl, HC.out⟩
              case measure => simp [intOf]; omega
            · have hxe : x = 0 := by omega
              subst hxe
              have hgt : ¬ (r.size < 0) := by omega
              have hnle : (n < u) := by omega
              have e1 : IntKind.i64.wrap (n) = n := IntWalk.i64_in _ (by omega)
              have e2 : IntKind.i64.wrap (n - u) = n - u := IntWalk.i64_in _ (by omega)
              have hqn : k < Q.length := hQl
              clear hstep hsz1
              refine region_o (S := LoS w.heap.size tb b0 (o0 + k) ub (uo + k) r A (.slice (some ⟨ub, uo, none⟩) r.use.length A.uc) 0 u) (.take 0 (.take 1 (.take 2 (.take 3 (.take 4 (.take 5 (.take 6 (.take 7 (.take 8 (.take 9 (.take 10 (.take 11 (.take 12 (.take 13 (.take 14 (.take 15 (.take 16 (.take 17 (.take 18 (.take 19 (.take 20 (.take 21 (.take 22 (.take 23 (.take 24 (.take 25 (.take 26 (.take 27 (.take 28 (.take 29 (.take 30 (.take 31 (.take 32 (.take 33 (.take 34 (.take 35 (.take 36 (.take 37 (.take 38 (.take 39 (.take 40 (.take 41 (.take 42 (.take 43 (.take 44 (.take 45 (.take 46 (.take 47 (.take 48 (.take 49 (.take 50 (.take 51 (.take 52 (.take 53 (.take 54 (.take 55 (.take 56 (.take 57 (.take 58 .nil))))))))))))))))))))))))))))))))))))))))))))))))))))))))))) (by kernel_rfl) (by kernel_rfl) (fun _ _ d _ _ h => by cases d <;> exact h) (HSS.out.below (Below.refl _ _).drew) ?_
              intro W0 hW0 hS0
              have hBW : Below wr.heap.size wr W0 := by subst hW0; exact (Below.refl _ _).drew
              clear hW0
              repeat (first
                | (refine ord_skip rfl ?_ ?_; rfl; simp only [List.getElem_toArray, List.getElem_cons_zero, List.getElem_cons_succ, Act.put, List.setIfInBounds_toArray, List.set_cons_zero, List.set_cons_succ])
                | (refine ord_take (v := ?_) rfl ?_ (fun W hW => ?_) ?_; rotate_left; rfl; (obtain ⟨⟨k0, k1, k2, k3, k4, k5, k6, k7, -, k9⟩, k8, d0, d1⟩ := hW; go_simp; (first | done | with_reducible rfl)); simp only [List.getElem_toArray, List.getElem_cons_zero, List.getElem_cons_succ, Act.put, List.setIfInBounds_toArray, List.set_cons_zero, List.set_cons_succ]))
              refine ord_nil ?_
              replace HB := Lib.hid (HB.out.trans (hBW.mono HB.out.size))
              replace HC := Lib.hid (HC.out.trans (hBW.mono HC.out.size))
              replace HX := Lib.hid (HX.out.below hBW)
              replace HR := Lib.hid (HR.out.below hBW)
              replace HSP := Lib.hid (HSP.out.below hBW)
              replace HRT := Lib.hid (HRT.out.below hBW)
              replace HSQ := Lib.hid (HSQ.out.below hBW)
              replace HSS := Lib.hid (HSS.out.below hBW)
              clear hBW
              obtain ⟨⟨k0, k1, k2, k3, k4, k5, k6, k7, -, k9⟩, k8, d0, d1⟩ := hS0
              go_wp2_with fail
              go_roundw
              case rel => exact ⟨k + 1, _, by omega, by go_num, HXN, rfl, HC.out⟩
              case measure => simp [intOf]; omega
          · obtain ⟨⟨k0, k1, k2, k3, k4, k5, k6, k7, k8, k9⟩, t0, t1⟩ := HX.out
            go_wp2_with fail
            clear k0 k1 k2 k3 k4 k5 k6 k7 k8 k9 t0 t1
            with_reducible refine (IsGood_c r A t B1 k _ HRT.out hts htm).mono ?_
            rintro e w4 ⟨rfl, hb⟩
            replace HB := Lib.hid (HB.out.trans (hb.mono HB.out.size))
            replace HC := Lib.hid (HC.out.trans (hb.mono HC.out.size))
            replace HX := Lib.hid (HX.out.below hb)
            replace HR := Lib.hid (HR.out.below hb)
            replace HSP := Lib.hid (HSP.out.below hb)
            replace HRT := Lib.hid (HRT.out.below hb)
            replace HSQ := Lib.hid (HSQ.out.below hb)
            replace HSS := Lib.hid (HSS.out.below hb)
            clear hb
            rw [HGG.out]
            cases gg
            · simp only [Bool.and_false, Bool.false_eq_true, if_false] at hstep
              obtain ⟨⟨k0, k1, k2, k3, k4, k5, k6, k7, k8, k9⟩, t0, t1⟩ := HX.out
              go_wp2_with fail
              clear k0 k1 k2 k3 k4 k5 k6 k7 k8 k9 t0 t1
              by_cases hlk : u ≤ n
              · have hxe : x = n - u := by omega
                subst hxe
                have hneg : ¬ (n - u < 0) := by omega
                have hgt : ¬ (r.size < n - u) := by omega
                have hnlt : ¬ (n < u) := by omega
                have e1 : IntKind.i64.wrap (n) = n := IntWalk.i64_in _ (by omega)
                have e2 : IntKind.i64.wrap (n - u) = n - u := IntWalk.i64_in _ (by omega)
                have hqn : k < Q.length := hQl
                clear hstep hsz1
                refine region_o (S := LoS w.heap.size tb b0 (o0 + k) ub (uo + k) r A (.slice (some ⟨ub, uo, none⟩) r.use.length A.uc) (n - u) u) (.take 0 (.take 1 (.take 2 (.take 3 (.take 4 (.take 5 (.take 6 (.take 7 (.take 8 (.take 9 (.take 10 (.take 11 (.take 12 (.take 13 (.take 14 (.take 15 (.take 16 (.take 17 (.take 18 (.take 19 (.take 20 (.take 21 (.take 22 (.take 23 (.take 24 (.take 25 (.take 26 (.take 27 (.take 28 (.take 29 (.take 30 (.take 31 (.take 32 (.take 33 (.take 34 (.take 35 (.take 36 (.take 37 (.take 38 (.take 39 (.take 40 (.take 41 (.take 42 (.take 43 (.take 44 (.take 45 (.take 46 (.take 47 (.take 48 (.take 49 (.take 50 (.take 51 (.take 52 (.take 53 (.take 54 (.take 55 (.take 56 (.take 57 (.take 58 .nil))))))))))))))))))))))))))))))))))))))))))))))))))))))))))) (by kernel_rfl) (by kernel_rfl) (fun _ _ d _ _ h => by cases d <;> exact h) (HSS.out.below (Below.refl _ _).drew) ?_
                intro W0 hW0 hS0
                have hBW : Below w4.heap.size w4 W0 := by subst hW0; exact (Below.refl _ _).drew
                clear hW0
                repeat (first
                  | (refine ord_skip rfl ?_ ?_; rfl; simp only [List.getElem_toArray, List.getElem_cons_zero, List.getElem_cons_succ, Act.put, List.setIfInBounds_toArray, List.set_cons_zero, List.set_cons_succ])
                  | (refine ord_take (v := ?_) rfl ?_ (fun W hW => ?_) ?_; rotate_left; rfl; (obtain ⟨⟨k0, k1, k2, k3, k4, k5, k6, k7, -, k9⟩, k8, d0, d1⟩ := hW; go_simp; (first | done | with_reducible rfl)); simp only [List.getElem_toArray, List.getElem_cons_zero, List.getElem_cons_succ, Act.put, List.setIfInBounds_toArray, List.set_cons_zero, List.set_cons_succ]))
                refine ord_nil ?_
                replace HB := Lib.hid (HB.out.trans (hBW.mono HB.out.size))
                replace HC := Lib.hid (HC.out.trans (hBW.mono HC.out.size))
                replace HX := Lib.hid (HX.out.below hBW)
                replace HR := Lib.hid (HR.out.below hBW)
                replace HSP := Lib.hid (HSP.out.below hBW)
                replace HRT := Lib.hid (HRT.out.below hBW)
                replace HSQ := Lib.hid (HSQ.out.below hBW)
                replace HSS := Lib.hid (HSS.out.below hBW)
                clear hBW
                obtain ⟨⟨k0, k1, k2, k3, k4, k5, k6, k7, -, k9⟩, k8, d0, d1⟩ := hS0
                go_wp2_with fail
                go_roundw
                case rel => exact ⟨k + 1, _, by omega, by go_num, HXN, rfl, HC.out⟩
                case measure => simp [intOf]; omega
              · have hxe : x = 0 := by omega
                subst hxe
                have hgt : ¬ (r.size < 0) := by omega
                have hnle : (n < u) := by omega
                have e1 : IntKind.i64.wrap (n) = n := IntWalk.i64_in _ (by omega)
                have e2 : IntKind.i64.wrap (n - u) = n - u := IntWalk.i64_in _ (by omega)
                have hqn : k < Q.length := hQl
                clear hstep hsz1
                refine region_o (S := LoS w.heap.size tb b0 (o0 + k) ub (uo + k) r A (.slice (some ⟨ub, uo, none⟩) r.use.length A.uc) 0 u) (.take 0 (.take 1 (.take 2 (.take 3 (.take 4 (.take 5 (.take 6 (.take 7 (.take 8 (.take 9 (.take 10 (.take 11 (.take 12 (.take 13 (.take 14 (.take 15 (.take 16 (.take 17 (.take 18 (.take 19 (.take 20 (.take 21 (.take 22 (.take 23 (.take 24 (.take 25 (.take 26 (.take 27 (.take 28 (.take 29 (.take 30 (.take 31 (.take 32 (.take 33 (.take 34 (.take 35 (.take 36 (.take 37 (.take 38 (.take 39 (.take 40 (.take 41 (.take 42 (.take 43 (.take 44 (.take 45 (.take 46 (.take 47 (.take 48 (.take 49 (.take 50 (.take 51 (.take 52 (.take 53 (.take 54 (.take 55 (.take 56 (.take 57 (.take 58 .nil))))))))))))))))))))))))))))))))))))))))))))))))))))))))))) (by kernel_rfl) (by kernel_rfl) (fun _ _ d _ _ h => by cases d <;> exact h) (HSS.out.below (Below.refl _ _).drew) ?_
                intro W0 hW0 hS0
                have hBW : Below w4.heap.size w4 W0 := by subst hW0; exact (Below.refl _ _).drew
                clear hW0
                repeat (first
                  | (refine ord_skip rfl ?_ ?_; rfl; simp only [List.getElem_toArray, List.getElem_cons_zero, List.getElem_cons_succ, Act.put, List.setIfInBounds_toArray, List.set_cons_zero, List.set_cons_succ])
                  | (refine ord_take (v := ?_) rfl ?_ (fun W hW => ?_) ?_; rotate_left; rfl; (obtain ⟨⟨k0, k1, k2, k3, k4, k5, k6, k7, -, k9⟩, k8, d0, d1⟩ := hW; go_simp; (first | done | with_reducible rfl)); simp only [List.getElem_toArray, List.getElem_cons_zero, List.getElem_cons_succ, Act.put, List.setIfInBounds_toArray, List.set_cons_zero, List.set_cons_succ]))
                refine ord_nil ?_
                replace HB := Lib.hid (HB.out.trans (hBW.mono HB.out.size))
                replace HC := Lib.hid (HC.out.trans (hBW.mono HC.out.size))
                replace HX := Lib.hid (HX.out.below hBW)
                replace HR := Lib.hid (HR.out.below hBW)
                replace HSP := Lib.hid (HSP.out.below hBW)
                replace HRT := Lib.hid (HRT.out.below hBW)
                replace HSQ := Lib.hid (HSQ.out.below hBW)
                replace HSS := Lib.hid (HSS.out.below hBW)
                clear hBW
                obtain ⟨⟨k0, k1, k2, k3, k4, k5, k6, k7, -, k9⟩, k8, d0, d1⟩ := hS0
                go_wp2_with fail
                go_roundw
                case rel => exact ⟨k + 1, _, by omega, by go_num, HXN, rfl, HC.out⟩
                case measure => simp [intOf]; omega
            · simp only [Bool.and_self, if_true] at hstep
              obtain ⟨⟨k0, k1, k2, k3, k4, k5, k6, k7, k8, k9⟩, t0, t1⟩ := HX.out
              go_wp2_with fail
              clear k0 k1 k2 k3 k4 k5 k6 k7 k8 k9 t0 t1
              obtain ⟨dr, hdr⟩ : ∃ x, min r.draw (r.size - n) = x := ⟨_, rfl⟩
              rw [hdr] at hstep ⊢
              have hd0 : 0 ≤ dr ∧ dr ≤ 99 ∧ n + dr ≤ r.size := by omega
              clear hdr esn
              by_cases hlk : u ≤ n + dr
              · have hxe : x = n + dr - u := by omega
                subst hxe
                have hneg : ¬ (n + dr - u < 0) := by omega
                have hgt : ¬ (r.size < n + dr - u) := by omega
                have hnlt : ¬ (n + dr < u) := by omega
                have e1 : IntKind.i64.wrap (n + dr) = n + dr := IntWalk.i64_in _ (by omega)
                have e2 : IntKind.i64.wrap (n + dr - u) = n + dr - u := IntWalk.i64_in _ (by omega)
                have hqn : k < Q.length := hQl
                clear hstep hsz1
                refine region_o (S := LoS w.heap.size tb b0 (o0 + k) ub (uo + k) r A (.slice (some ⟨ub, uo, none⟩) r.use.length A.uc) (n + dr - u) u) (.take 0 (.take 1 (.take 2 (.take 3 (.take 4 (.take 5 (.take 6 (.take 7 (.take 8 (.take 9 (.take 10 (.take 11 (.take 12 (.take 13 (.take 14 (.take 15 (.take 16 (.take 17 (.take 18 (.take 19 (.take 20 (.take 21 (.take 22 (.take 23 (.take 24 (.take 25 (.take 26 (.take 27 (.take 28 (.take 29 (.take 30 (.take 31 (.take 32 (.take 33 (.take 34 (.take 35 (.take 36 (.take 37 (.take 38 (.take 39 (.take 40 (.take 41 (.take 42 (.take 43 (.take 44 (.take 45 (.take 46 (.take 47 (.take 48 (.take 49 (.take 50 (.take 51 (.take 52 (.take 53 (.take 54 (.take 55 (.take 56 (.take 57 (.take 58 .nil))))))))))))))))))))))))))))))))))))))))))))))))))))))))))) (by kernel_rfl) (by kernel_rfl) (fun _ _ d _ _ h => by cases d <;> exact h) (HSS.out.below (Below.refl _ _).drew) ?_
                intro W0 hW0 hS0
                have hBW : Below w4.heap.size w4 W0 := by subst hW0; exact (Below.refl _ _).drew
                clear hW0
                repeat (first
                  | (refine ord_skip rfl ?_ ?_; rfl; simp only [List.getElem_toArray, List.getElem_cons_zero, List.getElem_cons_succ, Act.put, List.setIfInBounds_toArray, List.set_cons_zero, List.set_cons_succ])
                  | (refine ord_take (v := ?_) rfl ?_ (fun W hW => ?_) ?_; rotate_left; rfl; (obtain ⟨⟨k0, k1, k2, k3, k4, k5, k6, k7, -, k9⟩, k8, d0, d1⟩ := hW; go_simp; (first | done | with_reducible rfl)); simp only [List.getElem_toArray, List.getElem_cons_zero, List.getElem_cons_succ, Act.put, List.setIfInBounds_toArray, List.set_cons_zero, List.set_cons_succ]))
                refine ord_nil ?_
                replace HB := Lib.hid (HB.out.trans (hBW.mono HB.out.size))
                replace HC := Lib.hid (HC.out.trans (hBW.mono HC.out.size))
                replace HX := Lib.hid (HX.out.below hBW)
                replace HR := Lib.hid (HR.out.below hBW)
                replace HSP := Lib.hid (HSP.out.below hBW)
                replace HRT := Lib.hid (HRT.out.below hBW)
                replace HSQ := Lib.hid (HSQ.out.below hBW)
                replace HSS := Lib.hid (HSS.out.below hBW)
                clear hBW
                obtain ⟨⟨k0, k1, k2, k3, k4, k5, k6, k7, -, k9⟩, k8, d0, d1⟩ := hS0
                go_wp2_with fail
                go_roundw
                case rel => exact ⟨k + 1, _, by omega, by go_num, HXN, rfl, HC.out⟩
                case measure => simp [intOf]; omega
              · have hxe : x = 0 := by omega
                subst hxe
                have hgt : ¬ (r.size < 0) := by omega
                have hnle : (n + dr < u) := by omega
                have e1 : IntKind.i64.wrap (n + dr) = n + dr := IntWalk.i64_in _ (by omega)
                have e2 : IntKind.i64.wrap (n + dr - u) = n + dr - u := IntWalk.i64_in _ (by omega)
                have hqn : k < Q.length := hQl
                clear hstep hsz1
                refine region_o (S := LoS w.heap.size tb b0 (o0 + k) ub (uo + k) r A (.slice (some ⟨ub, uo, none⟩) r.use.length A.uc) 0 u) (.take 0 (.take 1 (.take 2 (.take 3 (.take 4 (.take 5 (.take 6 (.take 7 (.take 8 (.take 9 (.take 10 (.take 11 (.take 12 (.take 13 (.take 14 (.take 15 (.take 16 (.take 17 (.take 18 (.take 19 (.take 20 (.take 21 (.take 22 (.take 23 (.take 24 (.take 25 (.take 26 (.take 27 (.take 28 (.take 29 (.take 30 (.take 31 (.take 32 (.take 33 (.take 34 (.take 35 (.take 36 (.take 37 (.take 38 (.take 39 (.take 40 (.take 41 (.take 42 (.take 43 (.take 44 (.take 45 (.take 46 (.take 47 (.take 48 (.take 49 (.take 50 (.take 51 (.take 52 (.take 53 (.take 54 (.take 55 (.take 56 (.take 57 (.take 58 .nil))))))))))))))))))))))))))))))))))))))))))))))))))))))))))) (by kernel_rfl) (by kernel_rfl) (fun _ _ d _ _ h => by cases d <;> exact h) (HSS.out.below (Below.refl _ _).drew) ?_
                intro W0 hW0 hS0
                have hBW : Below w4.heap.size w4 W0 := by subst hW0; exact (Below.refl _ _).drew
                clear hW0
                repeat (first
                  | (refine ord_skip rfl ?_ ?_; rfl; simp only [List.getElem_toArray, List.getElem_cons_zero, List.getElem_cons_succ, Act.put, List.setIfInBounds_toArray, List.set_cons_zero, List.set_cons_succ])
                  | (refine ord_take (v := ?_) rfl ?_ (fun W hW => ?_) ?_; rotate_left; rfl; (obtain ⟨⟨k0, k1, k2, k3, k4, k5, k6, k7, -, k9⟩, k8, d0, d1⟩ := hW; go_simp; (first | done | with_reducible rfl)); simp only [List.getElem_toArray, List.getElem_cons_zero, List.getElem_cons_succ, Act.put, List.setIfInBounds_toArray, List.set_cons_zero, List.set_cons_succ]))
                refine ord_nil ?_
                replace HB := Lib.hid (HB.out.trans (hBW.mono HB.out.size))
                replace HC := Lib.hid (HC.out.trans (hBW.mono HC.out.size))
                replace HX := Lib.hid (HX.out.below hBW)
                replace HR := Lib.hid (HR.out.below hBW)
                replace HSP := Lib.hid (HSP.out.below hBW)
                replace HRT := Lib.hid (HRT.out.below hBW)
                replace HSQ := Lib.hid (HSQ.out.below hBW)
                replace HSS := Lib.hid (HSS.out.below hBW)
                clear hBW
                obtain ⟨⟨k0, k1, k2, k3, k4, k5, k6, k7, -, k9⟩, k8, d0, d1⟩ := hS0
                go_wp2_with fail
                go_roundw
                case rel => exact ⟨k + 1, _, by omega, by go_num, HXN, rfl, HC.out⟩
                case measure => simp [intOf]; omega
        · obtain ⟨⟨k0, k1, k2, k3, k4, k5, k6, k7, k8, k9⟩, t0, t1⟩ := HX.out
          go_wp2_with fail
          clear k0 k1 k2 k3 k4 k5 k6 k7 k8 k9 t0 t1
          with_reducible refine (awake_c _).mono ?_
          rintro e wz ⟨rfl, hbz⟩
          go_wp2_with fail
          go_ret
          exact ⟨rfl, HB.out.trans (hbz.mono HB.out.size)⟩
end Go.Proofs.Ytgglfngkomgadaa
