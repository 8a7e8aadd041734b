/- Walks of the laws: RiverDays. -/
import Derived.Test.YtgglfngkomgadaaL0
import Derived.Test.YtgglfngkomgadaaM6
namespace Go.Proofs.Ytgglfngkomgadaa
open Go.RowKit Go.Shelf
set_option linter.unusedVariables false
set_option linter.unusedSimpArgs false
set_option maxRecDepth 100000

theorem Sl.st2 {W : World} {tb : Nat} {a : Option Addr} {xs : List Int} {v0 v1 : Value} (hT : W.heap[tb]? = some (.cells #[.slice none 0 0, .slice none 0 0] 64 (0, 0))) (h : Sl W a (ints xs)) : Sl ((W.setCell ⟨tb, 0, none⟩ v0).setCell ⟨tb, 1, none⟩ v1) a (ints xs) := by
  cases xs with
  | nil => exact .inl rfl
  | cons x xs =>
    obtain ⟨b, o, rfl, hc⟩ := h.int_at (k := 0) (x := x) rfl
    have hn : b ≠ tb := by
      rintro rfl
      rw [cell_blk hT] at hc
      rcases o with _ | _ | o
      · cases hc
      · cases hc
      · simp at hc
    exact h.wr (store2 hT v0 v1).2 fun ad e k => by cases e; exact hn k
theorem nth_mod {N w : Nat} (hN : 1 ≤ N) : ∃ q : Nat, q < N ∧ (w : Int) % (N : Int) = q ∧ (w : Int).tmod (N : Int) = q := by
  refine ⟨w % N, Nat.mod_lt _ (by omega), rfl, ?_⟩
  rw [Int.tmod_eq_emod_of_nonneg (by omega)]
  rfl
theorem box_T {W : World} {q tb : Nat} {r : Riv} {A : RA} {t : Tr} {B : TA} (h : BoxR q r A W) (ht : W.heap[tb]? = some (.cells #[.slice B.sa t.salt.length B.sc, .slice B.ma t.mud.length B.mc] 64 (0, 0))) : BxT q tb r A t B W :=
  ⟨h, by rw [cell_blk ht]; rfl, by rw [cell_blk ht]; rfl⟩

theorem play_ok2 {r : Riv} {xs : List Int} {t : Tr} (h : r.faultI = 0) (ht : fitT r t = true) (hp : isPlanB r.last xs = true) : playA r xs t = (playL r (gOf r t) xs, 0) := by
  unfold playA
  rw [if_neg (by simp [h]), listedB_fit, ht, hp]
  rfl
theorem day_mod {r : Riv} (ok : Ok r) (d : Nat) : ∃ D : Nat, (D : Int) ≤ r.last ∧ D ≤ 5 ∧ (d : Int) % (r.last + 1) = D ∧ (d : Int).tmod (r.last + 1) = D := by
  have h0 := ok.l0; have h5 := ok.l5
  have h1 := Int.emod_nonneg (d : Int) (show r.last + 1 ≠ 0 by omega)
  have h2 := Int.emod_lt_of_pos (d : Int) (show 0 < r.last + 1 by omega)
  refine ⟨((d : Int) % (r.last + 1)).toNat, by omega, by omega, by omega, ?_⟩
  rw [Int.tmod_eq_emod_of_nonneg (by omega)]
  omega
theorem or256 : ∀ b : Nat, b < 256 → ∀ d : Nat, d < 6 → Go.bits BinOp.or IntKind.i64 (b : Int) (IntKind.i64.wrap (2 ^ min (IntKind.u64.wrap (d : Int)).toNat 64)) = ((b ||| 2 ^ d : Nat) : Int) ∧ b ||| 2 ^ d < 256 := by decide +kernel
/-- Two numbers in lists. -/
structure TwoS (b o b' o' : Nat) (x y : Int) (W : World) : Prop where
  c0 : W.cell? ⟨b, o, none⟩ = some (.int .i64 x)
  c1 : W.cell? ⟨b', o', none⟩ = some (.int .i64 y)
theorem TwoS.below {b o b' o' : Nat} {x y : Int} {W W' : World} (h : TwoS b o b' o' x y W) (hb : Below W.heap.size W W') : TwoS b o b' o' x y W' :=
  have hw : Wr (fun _ => False) W W' := Wr.of_below hb
  ⟨hw.cell (fun e => e) h.c0, hw.cell (fun e => e) h.c1⟩

set_option maxHeartbeats 20000000 in
theorem law17_c (r : Riv) (A : RA) (b d wn : Nat) (w : World) (hr : Rd w r A) (hbb : b < 256) (hdd : d < 256) (hww9 : wn < 65536) :
    Calls Try.prog 17 #[rivV r A, .int .u8 b, .int .u8 d, .int .u16 wn] w (RetB true w) := by
  have HB := Lib.hid (al_b w (rO26 r A))
  have HX := Lib.hid (box_new w r A)
  have HR := Lib.hid hr
  clear hr
  cases hrd : (thinB r && decide (r.faultI = 0))
  · have HRD := Lib.hid hrd
    clear hrd
    go_enter Try.func17, Try.ntmps17
    go_wp2_with fail
    obtain ⟨wq, hwq⟩ : ∃ wq, w.alloc (rO26 r A) = wq := ⟨_, rfl⟩
    rw [hwq] at HB HX ⊢
    clear hwq
    replace HR := Lib.hid (HR.out.below HB.out)
    with_reducible refine (ready_c r A _ HR.out).mono ?_
    rintro e w3 ⟨rfl, hb⟩
    replace HB := Lib.hid (HB.out.trans (hb.mono HB.out.size))
    replace HX := Lib.hid (HX.out.below hb)
    replace HR := Lib.hid (HR.out.below hb)
    clear hb
    rw [HRD.out]
    obtain ⟨k0, k1, k2, k3, k4, k5, k6, k7, k8, k9⟩ := HX.out
    go_wp2_with fail
    clear k0 k1 k2 k3 k4 k5 k6 k7 k8 k9
    with_reducible refine (awake_c _).mono ?_
    rintro e wz ⟨rfl, hbz⟩
    go_wp2_with fail
    go_ret
    exact ⟨rfl, HB.out.trans (hbz.mono HB.out.size)⟩
  · have HRD := Lib.hid hrd
    have hrd2 := Bool.and_eq_true_iff.1 hrd
    have HL := Lib.hid (thin_lens hrd2.1)
    have HZ := Lib.hid (of_decide_eq_true hrd2.2)
    have HOK := Lib.hid (ok_of_fault HZ.out).1
    clear hrd hrd2
    obtain ⟨D, hDl, hD5, he1, he2⟩ := day_mod HOK.out d
    have hor := or256 b hbb D (by omega)
    obtain ⟨b2, hb2⟩ : ∃ x, b ||| 2 ^ D = x := ⟨_, rfl⟩
    have hdf := days_facts HZ.out b D
    rw [hb2] at hor hdf
    obtain ⟨PL, hPL⟩ : ∃ L, planL r b = L := ⟨_, rfl⟩
    obtain ⟨QL, hQL⟩ : ∃ L, planL r b2 = L := ⟨_, rfl⟩
    have hpl6 := planL_len r b
    have hql6 := planL_len r b2
    have hpn := plan_bits HOK.out (planM_lt HOK.out b)
    have hqn := plan_bits HOK.out (planM_lt HOK.out b2)
    rw [← planL_eq] at hpn hqn
    rw [hPL] at hpl6 hpn hdf
    rw [hQL] at hql6 hqn hdf
    have HPL := Lib.hid hPL
    have HQL := Lib.hid hQL
    have HOR := Lib.hid hor.1
    have hb26 := hor.2
    have HE1 := Lib.hid he1
    have HE2 := Lib.hid he2
    obtain ⟨hmp, hm2, hm1⟩ := many_prod HZ.out
    obtain ⟨M, hM⟩ : ∃ M : Nat, manyI r = M := ⟨(manyI r).toNat, by omega⟩
    obtain ⟨q, hqM, hq1, hq2⟩ := nth_mod (N := M) (w := wn) (by omega)
    obtain ⟨t, ht⟩ : ∃ t, nthT r q = t := ⟨_, rfl⟩
    have HMN := Lib.hid hM
    have HTN := Lib.hid ht
    have HFT := Lib.hid (show fitT r t = true from ht ▸ nthT_fit HOK.out q)
    have HTL := Lib.hid (fit_lens HOK.out HFT.out)
    have HNM := Lib.hid (show r.mud.length = r.salt.length from by have := HOK.out.ns; have := HOK.out.nm; omega)
    have HNS := Lib.hid (show r.salt.length ≤ 30 from HL.out.1)
    have HGS := Lib.hid (show ∀ x ∈ r.salt, GoodRg x from fun x hx => HOK.out.so x hx)
    have HGM := Lib.hid (show ∀ x ∈ r.mud, GoodRg x from fun x hx => HOK.out.mo x hx)
    have HQ6 := Lib.hid (show q ≤ 1000000 from by omega)
    have HQ1 := Lib.hid hq1
    have HQ2 := Lib.hid hq2
    have HMZ := Lib.hid (show ((M : Int) == 0) = false from by rw [beq_eq_false_iff_ne]; omega)
    have HMZ2 := Lib.hid (show ¬ (M : Int) = 0 from by omega)
    have HMZ3 := Lib.hid (show ¬ M = 0 from by omega)
    clear hmp hm2 hm1 hM hqM hq1 hq2 ht
    have hpa := play_ok2 HZ.out HFT.out hpn
    have hqa := play_ok2 HZ.out HFT.out hqn
    have hpt := play_at HOK.out HFT.out PL
    have hqt := play_at HOK.out HFT.out QL
    have hpll := play_len r (gOf r t) PL
    have hqll := play_len r (gOf r t) QL
    obtain ⟨P, hP⟩ : ∃ L, playL r (gOf r t) PL = L := ⟨_, rfl⟩
    obtain ⟨Q, hQ⟩ : ∃ L, playL r (gOf r t) QL = L := ⟨_, rfl⟩
    rw [hP] at hpa hpt hpll
    rw [hQ] at hqa hqt hqll
    have HPA := Lib.hid hpa
    have HQA := Lib.hid hqa
    have HPN := Lib.hid hpll
    have HQN := Lib.hid hqll
    have hle := hdf.2.2 t HFT.out
    have HLE := Lib.hid (show ∀ k : Nat, (k : Int) ≤ r.last → ∀ x y, P[k]? = some x → Q[k]? = some y → x ≤ y from fun k hk x y hx hy => by
      have h := hle k hk
      rw [← hpt k hk, ← hqt k hk, List.getD_eq_getElem?_getD, List.getD_eq_getElem?_getD, hx, hy] at h
      exact h)
    have hsu := hdf.1
    have hdr := hdf.2.1
    clear hPL hQL hpn hqn hpa hqa hpt hqt hpll hqll hP hQ hle hdf hor hb2 he1 he2
    have HNU := Lib.hid HOK.out.nu
    have hall : (sureP r PL = false ∨ (sureP r PL = true ∧ sureP r QL = true)) := by
      cases h : sureP r PL
      · exact .inl rfl
      · exact .inr ⟨rfl, hsu h⟩
    have HALL := Lib.hid hall
    have HDR := Lib.hid hdr
    clear hall hsu hdr
    go_enter Try.func17, Try.ntmps17
    go_wp2_with fail
    obtain ⟨wq, hwq⟩ : ∃ wq, w.alloc (rO26 r A) = wq := ⟨_, rfl⟩
    rw [hwq] at HB HX ⊢
    clear hwq
    replace HR := Lib.hid (HR.out.below HB.out)
    with_reducible refine (ready_c r A _ HR.out).mono ?_
    rintro e w3 ⟨rfl, hb⟩
    replace HB := Lib.hid (HB.out.trans (hb.mono HB.out.size))
    replace HX := Lib.hid (HX.out.below hb)
    replace HR := Lib.hid (HR.out.below hb)
    clear hb
    rw [HRD.out]
    have hl0 := HOK.out.l0
    have hl5 := HOK.out.l5
    have hlz : (r.last + 1 == 0) = false := by rw [beq_eq_false_iff_ne]; omega
    have hlz2 : ¬ r.last + 1 = 0 := by omega
    have he1 := HE1.out
    have he2 := HE2.out
    have hdw : IntKind.i64.wrap (d : Int) = (d : Int) := IntWalk.i64_in _ (by omega)
    have hlw : IntKind.i64.wrap (r.last + 1) = r.last + 1 := IntWalk.i64_in _ (by omega)
    obtain ⟨k0, k1, k2, k3, k4, k5, k6, k7, k8, k9⟩ := HX.out
    go_wp2_with fail
    clear k0 k1 k2 k3 k4 k5 k6 k7 k8 k9
    clear hlz hlz2 he1 he2 hdw hlw
    have hwb : IntKind.i64.wrap (b : Int) = (b : Int) := IntWalk.i64_in _ (by omega)
    refine region_o (S := BoxR w.heap.size r A) (.take 0 (.take 1 (.take 2 (.take 4 (.take 5 (.take 6 (.take 7 (.take 8 (.take 9 (.take 10 (.one 3 (.one 11 (.take 12 (.take 13 .nil)))))))))))))) (by kernel_rfl) (by kernel_rfl) (fun _ _ d _ _ h => by cases d <;> exact h) (HX.out.below (Below.refl _ _).drew) ?_
    intro W0 hW0 hS0
    have hBW : Below w3.heap.size w3 W0 := by subst hW0; exact (Below.refl _ _).drew
    clear hW0
    repeat (first
      | (refine ord_skip rfl ?_ ?_; rfl; simp only [List.getElem_toArray, List.getElem_cons_zero, List.getElem_cons_succ, Act.put, List.setIfInBounds_toArray, List.set_cons_zero, List.set_cons_succ])
      | (refine ord_take (v := ?_) rfl ?_ (fun W hW => ?_) ?_; rotate_left; rfl; (obtain ⟨k0, k1, k2, k3, k4, k5, k6, k7, k8, k9⟩ := hW; go_simp; (first | done | with_reducible rfl)); simp only [List.getElem_toArray, List.getElem_cons_zero, List.getElem_cons_succ, Act.put, List.setIfInBounds_toArray, List.set_cons_zero, List.set_cons_succ]))
    (refine ord_op rfl ?_ (fun K hK => ?_); rfl; go_simp; (with_reducible refine (Planned_c r A b _ HOK.out.l0 HOK.out.l5 hbb).mono ?_); rintro e W1 ⟨v, rfl, hown, hb⟩; have hS1 := BoxR.below hS0 hb; replace hBW := hBW.trans (hb.mono hBW.size); rw [HPL.out] at hown; obtain ⟨pa, pc, rfl, -, hs⟩ := own_Sl hown; have HSP := Lib.hid hs; clear hown hs; clear hb; refine hK _ _ hS1 ?_; clear hK K; try simp only [List.getElem_toArray, List.getElem_cons_zero, List.getElem_cons_succ, Act.put, List.setIfInBounds_toArray, List.set_cons_zero, List.set_cons_succ])
    (refine ord_op rfl ?_ (fun K hK => ?_); rfl; go_simp; rw [HOR.out]; (with_reducible refine (Planned_c r A b2 _ HOK.out.l0 HOK.out.l5 hb26).mono ?_); rintro e W2 ⟨v, rfl, hown, hb⟩; have hS2 := BoxR.below hS1 hb; replace hBW := hBW.trans (hb.mono hBW.size); replace HSP := Lib.hid (HSP.out.below hb); rw [HQL.out] at hown; obtain ⟨qla, qlc, rfl, -, hs⟩ := own_Sl hown; have HSQ := Lib.hid hs; clear hown hs hb; refine hK _ _ hS2 ?_; clear hK K; try simp only [List.getElem_toArray, List.getElem_cons_zero, List.getElem_cons_succ, Act.put, List.setIfInBounds_toArray, List.set_cons_zero, List.set_cons_succ])
    repeat (first
      | (refine ord_skip rfl ?_ ?_; rfl; simp only [List.getElem_toArray, List.getElem_cons_zero, List.getElem_cons_succ, Act.put, List.setIfInBounds_toArray, List.set_cons_zero, List.set_cons_succ])
      | (refine ord_take (v := ?_) rfl ?_ (fun W hW => ?_) ?_; rotate_left; rfl; (obtain ⟨k0, k1, k2, k3, k4, k5, k6, k7, k8, k9⟩ := hW; go_simp; (first | done | with_reducible rfl)); simp only [List.getElem_toArray, List.getElem_cons_zero, List.getElem_cons_succ, Act.put, List.setIfInBounds_toArray, List.set_cons_zero, List.set_cons_succ]))
    refine ord_nil ?_
    replace HB := Lib.hid (HB.out.trans (hBW.mono HB.out.size))
    replace HX := Lib.hid (HX.out.below hBW)
    replace HR := Lib.hid (HR.out.below hBW)
    clear hBW
    clear hwb
    obtain ⟨w4, hwn_⟩ : ∃ Q, Q = W2 := ⟨_, rfl⟩
    subst hwn_
    obtain ⟨k0, k1, k2, k3, k4, k5, k6, k7, k8, k9⟩ := HX.out
    go_upto_region 5 with fail
    clear k0 k1 k2 k3 k4 k5 k6 k7 k8 k9
    go_cut [12] (fun pt wc => ∃ tb B1, pt = .pointer (some ⟨tb, 0, none⟩) ∧ wc.heap[tb]? = some (.cells #[.slice B1.sa t.salt.length B1.sc, .slice B1.ma t.mud.length B1.mc] 64 (0, 0)) ∧ RdT wc t B1 ∧ Below w4.heap.size w4 wc)
    case first =>
      have hq1 := HQ1.out
      have hq2 := HQ2.out
      have hmz := HMZ.out
      have hmz2 := HMZ2.out
      have hmz3 := HMZ3.out
      have hww : IntKind.i64.wrap (wn : Int) = (wn : Int) := IntWalk.i64_in _ (by omega)
      refine region_o (S := BoxR w.heap.size r A) (.take 0 (.take 1 (.take 2 (.take 3 (.two 4 7 (.take 5 (.two 6 7 (.one 7 (.one 8 .nil)) (.one 6 (.one 8 .nil)))) (.one 4 (.take 5 (.one 6 (.one 8 .nil))))))))) (by kernel_rfl) (by kernel_rfl) (fun _ _ d _ _ h => by cases d <;> exact h) (HX.out.below (Below.refl _ _).drew) ?_
      intro W0 hW0 hS0
      have hBW : Below w4.heap.size w4 W0 := by subst hW0; exact (Below.refl _ _).drew
      clear hW0
      repeat (first
        | (refine ord_skip rfl ?_ ?_; rfl; simp only [List.getElem_toArray, List.getElem_cons_zero, List.getElem_cons_succ, Act.put, List.setIfInBounds_toArray, List.set_cons_zero, List.set_cons_succ])
        | (refine ord_take (v := ?_) rfl ?_ (fun W hW => ?_) ?_; rotate_left; rfl; (obtain ⟨k0, k1, k2, k3, k4, k5, k6, k7, k8, k9⟩ := hW; go_simp; (first | done | with_reducible rfl)); simp only [List.getElem_toArray, List.getElem_cons_zero, List.getElem_cons_succ, Act.put, List.setIfInBounds_toArray, List.set_cons_zero, List.set_cons_succ]))
      refine ord_two ?_ ?_
      · skip
        (refine ord_op rfl ?_ (fun K hK => ?_); rfl; go_simp; (with_reducible refine (Many_c r A _ (HR.out.below hBW) HNM.out HNS.out HGS.out HGM.out).mono ?_); rintro e W1 ⟨rfl, hb⟩; have hS1 := BoxR.below hS0 hb; replace hBW := hBW.trans (hb.mono hBW.size); (try replace hTA := (hb.block _ (Array.getElem?_eq_some_iff.1 hTA).1).trans hTA); (try replace HRT := Lib.hid (HRT.out.below hb)); rw [HMN.out]; clear hb; refine hK _ _ hS1 ?_; clear hK K; try simp only [List.getElem_toArray, List.getElem_cons_zero, List.getElem_cons_succ, Act.put, List.setIfInBounds_toArray, List.set_cons_zero, List.set_cons_succ])
        repeat (first
          | (refine ord_skip rfl ?_ ?_; rfl; simp only [List.getElem_toArray, List.getElem_cons_zero, List.getElem_cons_succ, Act.put, List.setIfInBounds_toArray, List.set_cons_zero, List.set_cons_succ])
          | (refine ord_take (v := ?_) rfl ?_ (fun W hW => ?_) ?_; rotate_left; rfl; (obtain ⟨k0, k1, k2, k3, k4, k5, k6, k7, k8, k9⟩ := hW; go_simp; (first | done | with_reducible rfl)); simp only [List.getElem_toArray, List.getElem_cons_zero, List.getElem_cons_succ, Act.put, List.setIfInBounds_toArray, List.set_cons_zero, List.set_cons_succ]))
        refine ord_two ?_ ?_
        · skip
          (refine ord_op rfl ?_ (fun K hK => ?_); rfl; go_simp; (with_reducible refine (Nth_c r A q _ (HR.out.below hBW) HQ6.out HNM.out HNS.out HGS.out HGM.out).mono ?_); rintro e W2 ⟨B1, rfl, hrt, hb, -⟩; have hS2 := BoxR.below hS1 hb; replace hBW := hBW.trans (hb.mono hBW.size); (try replace hTA := (hb.block _ (Array.getElem?_eq_some_iff.1 hTA).1).trans hTA); (try replace HRT := Lib.hid (HRT.out.below hb)); rw [HTN.out] at hrt ⊢; have HRT := Lib.hid hrt; clear hrt; clear hb; refine hK _ _ hS2 ?_; clear hK K; try simp only [List.getElem_toArray, List.getElem_cons_zero, List.getElem_cons_succ, Act.put, List.setIfInBounds_toArray, List.set_cons_zero, List.set_cons_succ])
          refine ord_op rfl ?_ (fun K hK => ?_)
          rfl
          go_simp
          obtain ⟨tb, htb⟩ : ∃ n, n = (W2).heap.size := ⟨_, rfl⟩
          obtain ⟨W3, hW3⟩ : ∃ Q, Q = (W2).alloc (.cells #[.slice none 0 0, .slice none 0 0] 64) := ⟨_, rfl⟩
          have hb : Below (W2).heap.size (W2) W3 := by rw [hW3]; exact (Below.refl _ _).alloc (Nat.le_refl _) _
          have hTA : W3.heap[tb]? = some (.cells #[.slice none 0 0, .slice none 0 0] 64 (0, 0)) := by rw [hW3, htb]; exact heap_alloc_new _ _
          have hzt : w4.heap.size ≤ tb := by rw [htb]; exact hBW.size
          replace hBW := hBW.trans (hb.mono hBW.size)
          have hS3 := BoxR.below hS2 hb
          (try replace HRT := Lib.hid (HRT.out.below hb))
          
          rw [← hW3, ← htb]
          clear hW3 htb hb
          refine hK _ _ hS3 ?_
          clear hK K
          try simp only [List.getElem_toArray, List.getElem_cons_zero, List.getElem_cons_succ, Act.put, List.setIfInBounds_toArray, List.set_cons_zero, List.set_cons_succ]
          refine ord_op rfl ?_ (fun K hK => ?_)
          rfl
          skip
          have g0 := cell_blk (k := 0) hTA
          have g1 := cell_blk (k := 1) hTA
          have gf := fun j => frozen_blk (k := j) hTA
          go_simp
          have hst := store2 hTA (.slice B1.sa t.salt.length B1.sc) (.slice B1.ma t.mud.length B1.mc)
          replace HRT := Lib.hid (show RdT _ t B1 from ⟨Sl.st2 (v0 := .slice B1.sa t.salt.length B1.sc) (v1 := .slice B1.ma t.mud.length B1.mc) hTA HRT.out.s, Sl.st2 (v0 := .slice B1.sa t.salt.length B1.sc) (v1 := .slice B1.ma t.mud.length B1.mc) hTA HRT.out.m⟩)
          
          obtain ⟨W4, hW4⟩ : ∃ Q, Q = ((W3).setCell ⟨tb, 0, none⟩ (.slice B1.sa t.salt.length B1.sc)).setCell ⟨tb, 1, none⟩ (.slice B1.ma t.mud.length B1.mc) := ⟨_, rfl⟩
          rw [← hW4] at hst HRT ⊢
          obtain ⟨hTB, hwr⟩ := hst
          replace hBW : Below w4.heap.size w4 W4 := hBW.trans (hwr.below hBW.size (fun k e => by have : k = tb := e; omega))
          have hS4 := HX.out.below hBW
          clear hW4 g0 g1 gf hwr hTA
          refine hK _ _ hS4 ?_
          clear hK K
          try simp only [List.getElem_toArray, List.getElem_cons_zero, List.getElem_cons_succ, Act.put, List.setIfInBounds_toArray, List.set_cons_zero, List.set_cons_succ]
          refine ord_nil ?_
          clear hq1 hq2 hmz hmz2 hmz3 hww
          go_wp2_with fail
          go_meet
          case rel => exact ⟨tb, B1, rfl, hTB, HRT.out, hBW⟩
        · skip
          refine ord_op rfl ?_ (fun K hK => ?_)
          rfl
          go_simp
          obtain ⟨tb, htb⟩ : ∃ n, n = (W1).heap.size := ⟨_, rfl⟩
          obtain ⟨W5, hW5⟩ : ∃ Q, Q = (W1).alloc (.cells #[.slice none 0 0, .slice none 0 0] 64) := ⟨_, rfl⟩
          have hb : Below (W1).heap.size (W1) W5 := by rw [hW5]; exact (Below.refl _ _).alloc (Nat.le_refl _) _
          have hTA : W5.heap[tb]? = some (.cells #[.slice none 0 0, .slice none 0 0] 64 (0, 0)) := by rw [hW5, htb]; exact heap_alloc_new _ _
          have hzt : w4.heap.size ≤ tb := by rw [htb]; exact hBW.size
          replace hBW := hBW.trans (hb.mono hBW.size)
          have hS5 := BoxR.below hS1 hb
          (try replace HRT := Lib.hid (HRT.out.below hb))
          
          rw [← hW5, ← htb]
          clear hW5 htb hb
          refine hK _ _ hS5 ?_
          clear hK K
          try simp only [List.getElem_toArray, List.getElem_cons_zero, List.getElem_cons_succ, Act.put, List.setIfInBounds_toArray, List.set_cons_zero, List.set_cons_succ]
          (refine ord_op rfl ?_ (fun K hK => ?_); rfl; go_simp; (with_reducible refine (Nth_c r A q _ (HR.out.below hBW) HQ6.out HNM.out HNS.out HGS.out HGM.out).mono ?_); rintro e W6 ⟨B1, rfl, hrt, hb, -⟩; have hS6 := BoxR.below hS5 hb; replace hBW := hBW.trans (hb.mono hBW.size); (try replace hTA := (hb.block _ (Array.getElem?_eq_some_iff.1 hTA).1).trans hTA); (try replace HRT := Lib.hid (HRT.out.below hb)); rw [HTN.out] at hrt ⊢; have HRT := Lib.hid hrt; clear hrt; clear hb; refine hK _ _ hS6 ?_; clear hK K; try simp only [List.getElem_toArray, List.getElem_cons_zero, List.getElem_cons_succ, Act.put, List.setIfInBounds_toArray, List.set_cons_zero, List.set_cons_succ])
          refine ord_op rfl ?_ (fun K hK => ?_)
          rfl
          skip
          have g0 := cell_blk (k := 0) hTA
          have g1 := cell_blk (k := 1) hTA
          have gf := fun j => frozen_blk (k := j) hTA
          go_simp
          have hst := store2 hTA (.slice B1.sa t.salt.length B1.sc) (.slice B1.ma t.mud.length B1.mc)
          replace HRT := Lib.hid (show RdT _ t B1 from ⟨Sl.st2 (v0 := .slice B1.sa t.salt.length B1.sc) (v1 := .slice B1.ma t.mud.length B1.mc) hTA HRT.out.s, Sl.st2 (v0 := .slice B1.sa t.salt.length B1.sc) (v1 := .slice B1.ma t.mud.length B1.mc) hTA HRT.out.m⟩)
          
          obtain ⟨W7, hW7⟩ : ∃ Q, Q = ((W6).setCell ⟨tb, 0, none⟩ (.slice B1.sa t.salt.length B1.sc)).setCell ⟨tb, 1, none⟩ (.slice B1.ma t.mud.length B1.mc) := ⟨_, rfl⟩
          rw [← hW7] at hst HRT ⊢
          obtain ⟨hTB, hwr⟩ := hst
          replace hBW : Below w4.heap.size w4 W7 := hBW.trans (hwr.below hBW.size (fun k e => by have : k = tb := e; omega))
          have hS7 := HX.out.below hBW
          clear hW7 g0 g1 gf hwr hTA
          refine hK _ _ hS7 ?_
          clear hK K
          try simp only [List.getElem_toArray, List.getElem_cons_zero, List.getElem_cons_succ, Act.put, List.setIfInBounds_toArray, List.set_cons_zero, List.set_cons_succ]
          refine ord_nil ?_
          clear hq1 hq2 hmz hmz2 hmz3 hww
          go_wp2_with fail
          go_meet
          case rel => exact ⟨tb, B1, rfl, hTB, HRT.out, hBW⟩
      · skip
        refine ord_op rfl ?_ (fun K hK => ?_)
        rfl
        go_simp
        obtain ⟨tb, htb⟩ : ∃ n, n = (W0).heap.size := ⟨_, rfl⟩
        obtain ⟨W8, hW8⟩ : ∃ Q, Q = (W0).alloc (.cells #[.slice none 0 0, .slice none 0 0] 64) := ⟨_, rfl⟩
        have hb : Below (W0).heap.size (W0) W8 := by rw [hW8]; exact (Below.refl _ _).alloc (Nat.le_refl _) _
        have hTA : W8.heap[tb]? = some (.cells #[.slice none 0 0, .slice none 0 0] 64 (0, 0)) := by rw [hW8, htb]; exact heap_alloc_new _ _
        have hzt : w4.heap.size ≤ tb := by rw [htb]; exact hBW.size
        replace hBW := hBW.trans (hb.mono hBW.size)
        have hS8 := BoxR.below hS0 hb
        (try replace HRT := Lib.hid (HRT.out.below hb))
        
        rw [← hW8, ← htb]
        clear hW8 htb hb
        refine hK _ _ hS8 ?_
        clear hK K
        try simp only [List.getElem_toArray, List.getElem_cons_zero, List.getElem_cons_succ, Act.put, List.setIfInBounds_toArray, List.set_cons_zero, List.set_cons_succ]
        (refine ord_op rfl ?_ (fun K hK => ?_); rfl; go_simp; (with_reducible refine (Many_c r A _ (HR.out.below hBW) HNM.out HNS.out HGS.out HGM.out).mono ?_); rintro e W9 ⟨rfl, hb⟩; have hS9 := BoxR.below hS8 hb; replace hBW := hBW.trans (hb.mono hBW.size); (try replace hTA := (hb.block _ (Array.getElem?_eq_some_iff.1 hTA).1).trans hTA); (try replace HRT := Lib.hid (HRT.out.below hb)); rw [HMN.out]; clear hb; refine hK _ _ hS9 ?_; clear hK K; try simp only [List.getElem_toArray, List.getElem_cons_zero, List.getElem_cons_succ, Act.put, List.setIfInBounds_toArray, List.set_cons_zero, List.set_cons_succ])
        repeat (first
          | (refine ord_skip rfl ?_ ?_; rfl; simp only [List.getElem_toArray, List.getElem_cons_zero, List.getElem_cons_succ, Act.put, List.setIfInBounds_toArray, List.set_cons_zero, List.set_cons_succ])
          | (refine ord_take (v := ?_) rfl ?_ (fun W hW => ?_) ?_; rotate_left; rfl; (obtain ⟨k0, k1, k2, k3, k4, k5, k6, k7, k8, k9⟩ := hW; go_simp; (first | done | with_reducible rfl)); simp only [List.getElem_toArray, List.getElem_cons_zero, List.getElem_cons_succ, Act.put, List.setIfInBounds_toArray, List.set_cons_zero, List.set_cons_succ]))
        (refine ord_op rfl ?_ (fun K hK => ?_); rfl; go_simp; (with_reducible refine (Nth_c r A q _ (HR.out.below hBW) HQ6.out HNM.out HNS.out HGS.out HGM.out).mono ?_); rintro e W10 ⟨B1, rfl, hrt, hb, -⟩; have hS10 := BoxR.below hS9 hb; replace hBW := hBW.trans (hb.mono hBW.size); (try replace hTA := (hb.block _ (Array.getElem?_eq_some_iff.1 hTA).1).trans hTA); (try replace HRT := Lib.hid (HRT.out.below hb)); rw [HTN.out] at hrt ⊢; have HRT := Lib.hid hrt; clear hrt; clear hb; refine hK _ _ hS10 ?_; clear hK K; try simp only [List.getElem_toArray, List.getElem_cons_zero, List.getElem_cons_succ, Act.put, List.setIfInBounds_toArray, List.set_cons_zero, List.set_cons_succ])
        refine ord_op rfl ?_ (fun K hK => ?_)
        rfl
        skip
        have g0 := cell_blk (k := 0) hTA
        have g1 := cell_blk (k := 1) hTA
        have gf := fun j => frozen_blk (k := j) hTA
        go_simp
        have hst := store2 hTA (.slice B1.sa t.salt.length B1.sc) (.slice B1.ma t.mud.length B1.mc)
        replace HRT := Lib.hid (show RdT _ t B1 from ⟨Sl.st2 (v0 := .slice B1.sa t.salt.length B1.sc) (v1 := .slice B1.ma t.mud.length B1.mc) hTA HRT.out.s, Sl.st2 (v0 := .slice B1.sa t.salt.length B1.sc) (v1 := .slice B1.ma t.mud.length B1.mc) hTA HRT.out.m⟩)
        
        obtain ⟨W11, hW11⟩ : ∃ Q, Q = ((W10).setCell ⟨tb, 0, none⟩ (.slice B1.sa t.salt.length B1.sc)).setCell ⟨tb, 1, none⟩ (.slice B1.ma t.mud.length B1.mc) := ⟨_, rfl⟩
        rw [← hW11] at hst HRT ⊢
        obtain ⟨hTB, hwr⟩ := hst
        replace hBW : Below w4.heap.size w4 W11 := hBW.trans (hwr.below hBW.size (fun k e => by have : k = tb := e; omega))
        have hS11 := HX.out.below hBW
        clear hW11 g0 g1 gf hwr hTA
        refine hK _ _ hS11 ?_
        clear hK K
        try simp only [List.getElem_toArray, List.getElem_cons_zero, List.getElem_cons_succ, Act.put, List.setIfInBounds_toArray, List.set_cons_zero, List.set_cons_succ]
        refine ord_nil ?_
        clear hq1 hq2 hmz hmz2 hmz3 hww
        go_wp2_with fail
        go_meet
        case rel => exact ⟨tb, B1, rfl, hTB, HRT.out, hBW⟩
    case rest =>
      obtain ⟨tb, B1, rfl, hTB, hrt, hb⟩ := hcut
      replace HB := Lib.hid (HB.out.trans (hb.mono HB.out.size))
      replace HX := Lib.hid (HX.out.below hb)
      replace HR := Lib.hid (HR.out.below hb)
      replace HSP := Lib.hid (HSP.out.below hb)
      replace HSQ := Lib.hid (HSQ.out.below hb)
      replace HX := Lib.hid (box_T HX.out hTB)
      clear hb hTB
      have HRT := Lib.hid hrt
      clear hrt
      obtain ⟨⟨k0, k1, k2, k3, k4, k5, k6, k7, k8, k9⟩, t0, t1⟩ := HX.out
      go_wp2_with fail
      clear k0 k1 k2 k3 k4 k5 k6 k7 k8 k9 t0 t1
      refine region_o (S := BxT w.heap.size tb r A t B1) (.take 0 (.take 2 (.take 4 (.one 1 (.one 3 (.one 5 (.one 6 (.take 7 (.take 8 (.take 9 (.take 10 (.take 11 .nil)))))))))))) (by kernel_rfl) (by kernel_rfl) (fun _ _ d _ _ h => by cases d <;> exact h) (HX.out.below (Below.refl _ _).drew) ?_
      intro W0 hW0 hS0
      have hBW : Below wc.heap.size wc W0 := by subst hW0; exact (Below.refl _ _).drew
      clear hW0
      repeat (first
        | (refine ord_skip rfl ?_ ?_; rfl; simp only [List.getElem_toArray, List.getElem_cons_zero, List.getElem_cons_succ, Act.put, List.setIfInBounds_toArray, List.set_cons_zero, List.set_cons_succ])
        | (refine ord_take (v := ?_) rfl ?_ (fun W hW => ?_) ?_; rotate_left; rfl; (obtain ⟨⟨k0, k1, k2, k3, k4, k5, k6, k7, k8, k9⟩, t0, t1⟩ := hW; go_simp; (first | done | with_reducible rfl)); simp only [List.getElem_toArray, List.getElem_cons_zero, List.getElem_cons_succ, Act.put, List.setIfInBounds_toArray, List.set_cons_zero, List.set_cons_succ]))
      (refine ord_op rfl ?_ (fun K hK => ?_); rfl; go_simp; (with_reducible refine (River_c r A _ (HR.out.below hBW) HL.out.1 HL.out.2.1 HL.out.2.2.1 HL.out.2.2.2).mono ?_); rintro e W1 ⟨A1, rfl, hr1, -, hb⟩; have hS1 := BxT.below hS0 hb; replace hBW := hBW.trans (hb.mono hBW.size); have HR1 := Lib.hid hr1; clear hr1; clear hb; refine hK _ _ hS1 ?_; clear hK K; try simp only [List.getElem_toArray, List.getElem_cons_zero, List.getElem_cons_succ, Act.put, List.setIfInBounds_toArray, List.set_cons_zero, List.set_cons_succ])
      (refine ord_op rfl ?_ (fun K hK => ?_); rfl; go_simp; (with_reducible refine (list_c pa PL pc _ (HSP.out.below hBW) (by omega)).mono ?_); rintro e W2 ⟨v, rfl, hown, hb⟩; have hS2 := BxT.below hS1 hb; replace hBW := hBW.trans (hb.mono hBW.size); obtain ⟨s1, cs1, rfl, -, hs2⟩ := own_Sl hown; have HS1 := Lib.hid hs2; clear hown hs2; replace HR1 := Lib.hid (HR1.out.below hb); clear hb; refine hK _ _ hS2 ?_; clear hK K; try simp only [List.getElem_toArray, List.getElem_cons_zero, List.getElem_cons_succ, Act.put, List.setIfInBounds_toArray, List.set_cons_zero, List.set_cons_succ])
      (refine ord_op rfl ?_ (fun K hK => ?_); rfl; go_simp; (with_reducible refine (Truth_c t B1 _ (HRT.out.below hBW) (by have := HTL.out.1; have := HOK.out.l5; omega) (by have := HTL.out.2; have := HOK.out.l5; omega)).mono ?_); rintro e W3 ⟨C1, rfl, ht1, hb⟩; have hS3 := BxT.below hS2 hb; replace hBW := hBW.trans (hb.mono hBW.size); have HT1 := Lib.hid ht1; clear ht1; replace HR1 := Lib.hid (HR1.out.below hb); replace HS1 := Lib.hid (HS1.out.below hb); clear hb; refine hK _ _ hS3 ?_; clear hK K; try simp only [List.getElem_toArray, List.getElem_cons_zero, List.getElem_cons_succ, Act.put, List.setIfInBounds_toArray, List.set_cons_zero, List.set_cons_succ])
      (refine ord_op rfl ?_ (fun K hK => ?_); rfl; go_simp; (with_reducible refine (Play_c r A1 s1 PL cs1 t C1 _ HR1.out HT1.out HL.out.1 HL.out.2.1 HL.out.2.2.1 HL.out.2.2.2 HS1.out (by omega)).mono ?_); rintro e W4 ⟨xqa, xqc, rfl, hsq, hb⟩; have hS4 := BxT.below hS3 hb; replace hBW := hBW.trans (hb.mono hBW.size); rw [HPA.out] at hsq ⊢; have HSX := Lib.hid hsq; clear hsq; clear hb; refine hK _ _ hS4 ?_; clear hK K; try simp only [List.getElem_toArray, List.getElem_cons_zero, List.getElem_cons_succ, Act.put, List.setIfInBounds_toArray, List.set_cons_zero, List.set_cons_succ])
      repeat (first
        | (refine ord_skip rfl ?_ ?_; rfl; simp only [List.getElem_toArray, List.getElem_cons_zero, List.getElem_cons_succ, Act.put, List.setIfInBounds_toArray, List.set_cons_zero, List.set_cons_succ])
        | (refine ord_take (v := ?_) rfl ?_ (fun W hW => ?_) ?_; rotate_left; rfl; (obtain ⟨⟨k0, k1, k2, k3, k4, k5, k6, k7, k8, k9⟩, t0, t1⟩ := hW; go_simp; (first | done | with_reducible rfl)); simp only [List.getElem_toArray, List.getElem_cons_zero, List.getElem_cons_succ, Act.put, List.setIfInBounds_toArray, List.set_cons_zero, List.set_cons_succ]))
      refine ord_nil ?_
      replace HB := Lib.hid (HB.out.trans (hBW.mono HB.out.size))
      replace HX := Lib.hid (HX.out.below hBW)
      replace HR := Lib.hid (HR.out.below hBW)
      replace HSP := Lib.hid (HSP.out.below hBW)
      replace HSQ := Lib.hid (HSQ.out.below hBW)
      replace HRT := Lib.hid (HRT.out.below hBW)
      clear hBW
      obtain ⟨⟨k0, k1, k2, k3, k4, k5, k6, k7, k8, k9⟩, t0, t1⟩ := HX.out
      go_wp2_with fail
      clear k0 k1 k2 k3 k4 k5 k6 k7 k8 k9 t0 t1
      refine region_o (S := BxT w.heap.size tb r A t B1) (.take 0 (.take 2 (.take 4 (.one 1 (.one 3 (.one 5 (.one 6 (.take 7 (.take 8 (.take 9 (.take 10 (.take 11 .nil)))))))))))) (by kernel_rfl) (by kernel_rfl) (fun _ _ d _ _ h => by cases d <;> exact h) (HX.out.below (Below.refl _ _).drew) ?_
      intro W0 hW0 hS0
      have hBW : Below W4.heap.size W4 W0 := by subst hW0; exact (Below.refl _ _).drew
      clear hW0
      repeat (first
        | (refine ord_skip rfl ?_ ?_; rfl; simp only [List.getElem_toArray, List.getElem_cons_zero, List.getElem_cons_succ, Act.put, List.setIfInBounds_toArray, List.set_cons_zero, List.set_cons_succ])
        | (refine ord_take (v := ?_) rfl ?_ (fun W hW => ?_) ?_; rotate_left; rfl; (obtain ⟨⟨k0, k1, k2, k3, k4, k5, k6, k7, k8, k9⟩, t0, t1⟩ := hW; go_simp; (first | done | with_reducible rfl)); simp only [List.getElem_toArray, List.getElem_cons_zero, List.getElem_cons_succ, Act.put, List.setIfInBounds_toArray, List.set_cons_zero, List.set_cons_succ]))
      (refine ord_op rfl ?_ (fun K hK => ?_); rfl; go_simp; (with_reducible refine (River_c r A _ (HR.out.below hBW) HL.out.1 HL.out.2.1 HL.out.2.2.1 HL.out.2.2.2).mono ?_); rintro e W1 ⟨A2, rfl, hr1, -, hb⟩; have hS1 := BxT.below hS0 hb; replace hBW := hBW.trans (hb.mono hBW.size); have HR2 := Lib.hid hr1; clear hr1; clear hb; refine hK _ _ hS1 ?_; clear hK K; try simp only [List.getElem_toArray, List.getElem_cons_zero, List.getElem_cons_succ, Act.put, List.setIfInBounds_toArray, List.set_cons_zero, List.set_cons_succ])
      (refine ord_op rfl ?_ (fun K hK => ?_); rfl; go_simp; (with_reducible refine (list_c qla QL qlc _ (HSQ.out.below hBW) (by omega)).mono ?_); rintro e W2 ⟨v, rfl, hown, hb⟩; have hS2 := BxT.below hS1 hb; replace hBW := hBW.trans (hb.mono hBW.size); obtain ⟨s2, cs2, rfl, -, hs2⟩ := own_Sl hown; have HS2 := Lib.hid hs2; clear hown hs2; replace HR2 := Lib.hid (HR2.out.below hb); clear hb; refine hK _ _ hS2 ?_; clear hK K; try simp only [List.getElem_toArray, List.getElem_cons_zero, List.getElem_cons_succ, Act.put, List.setIfInBounds_toArray, List.set_cons_zero, List.set_cons_succ])
      (refine ord_op rfl ?_ (fun K hK => ?_); rfl; go_simp; (with_reducible refine (Truth_c t B1 _ (HRT.out.below hBW) (by have := HTL.out.1; have := HOK.out.l5; omega) (by have := HTL.out.2; have := HOK.out.l5; omega)).mono ?_); rintro e W3 ⟨C2, rfl, ht1, hb⟩; have hS3 := BxT.below hS2 hb; replace hBW := hBW.trans (hb.mono hBW.size); have HT2 := Lib.hid ht1; clear ht1; replace HR2 := Lib.hid (HR2.out.below hb); replace HS2 := Lib.hid (HS2.out.below hb); clear hb; refine hK _ _ hS3 ?_; clear hK K; try simp only [List.getElem_toArray, List.getElem_cons_zero, List.getElem_cons_succ, Act.put, List.setIfInBounds_toArray, List.set_cons_zero, List.set_cons_succ])
      (refine ord_op rfl ?_ (fun K hK => ?_); rfl; go_simp; (with_reducible refine (Play_c r A2 s2 QL cs2 t C2 _ HR2.out HT2.out HL.out.1 HL.out.2.1 HL.out.2.2.1 HL.out.2.2.2 HS2.out (by omega)).mono ?_); rintro e W4 ⟨yqa, yqc, rfl, hsq, hb⟩; have hS4 := BxT.below hS3 hb; replace hBW := hBW.trans (hb.mono hBW.size); rw [HQA.out] at hsq ⊢; have HSY := Lib.hid hsq; clear hsq; clear hb; refine hK _ _ hS4 ?_; clear hK K; try simp only [List.getElem_toArray, List.getElem_cons_zero, List.getElem_cons_succ, Act.put, List.setIfInBounds_toArray, List.set_cons_zero, List.set_cons_succ])
      repeat (first
        | (refine ord_skip rfl ?_ ?_; rfl; simp only [List.getElem_toArray, List.getElem_cons_zero, List.getElem_cons_succ, Act.put, List.setIfInBounds_toArray, List.set_cons_zero, List.set_cons_succ])
        | (refine ord_take (v := ?_) rfl ?_ (fun W hW => ?_) ?_; rotate_left; rfl; (obtain ⟨⟨k0, k1, k2, k3, k4, k5, k6, k7, k8, k9⟩, t0, t1⟩ := hW; go_simp; (first | done | with_reducible rfl)); simp only [List.getElem_toArray, List.getElem_cons_zero, List.getElem_cons_succ, Act.put, List.setIfInBounds_toArray, List.set_cons_zero, List.set_cons_succ]))
      refine ord_nil ?_
      replace HB := Lib.hid (HB.out.trans (hBW.mono HB.out.size))
      replace HX := Lib.hid (HX.out.below hBW)
      replace HR := Lib.hid (HR.out.below hBW)
      replace HSP := Lib.hid (HSP.out.below hBW)
      replace HSQ := Lib.hid (HSQ.out.below hBW)
      replace HRT := Lib.hid (HRT.out.below hBW)
      replace HSX := Lib.hid (HSX.out.below hBW)
      clear hBW
      have hnu := HNU.out
      have hpn := HPN.out
      have hqn := HQN.out
      obtain ⟨⟨k0, k1, k2, k3, k4, k5, k6, k7, k8, k9⟩, t0, t1⟩ := HX.out
      go_wp2_with fail
      clear k0 k1 k2 k3 k4 k5 k6 k7 k8 k9 t0 t1
      clear hnu hpn hqn
      with_reducible refine (sure_c r A pa PL pc _ HR.out HL.out.1 HL.out.2.1 HL.out.2.2.1 HL.out.2.2.2 HSP.out (by omega)).mono ?_
      rintro e w5 ⟨rfl, hb⟩
      replace HB := Lib.hid (HB.out.trans (hb.mono HB.out.size))
      replace HX := Lib.hid (HX.out.below hb)
      replace HR := Lib.hid (HR.out.below hb)
      replace HSP := Lib.hid (HSP.out.below hb)
      replace HSQ := Lib.hid (HSQ.out.below hb)
      replace HRT := Lib.hid (HRT.out.below hb)
      replace HSX := Lib.hid (HSX.out.below hb)
      replace HSY := Lib.hid (HSY.out.below hb)
      clear hb
      rcases HALL.out with hs1 | ⟨hs1, hs2⟩
      · rw [hs1]
        clear hs1
        have hnu := HNU.out
        have hpn := HPN.out
        have hqn := HQN.out
        obtain ⟨⟨k0, k1, k2, k3, k4, k5, k6, k7, k8, k9⟩, t0, t1⟩ := HX.out
        go_wp2_with fail
        clear k0 k1 k2 k3 k4 k5 k6 k7 k8 k9 t0 t1
        clear hnu hpn hqn
        go_loopw [17] (fun i wr => ∃ k : Nat, k ≤ r.use.length ∧ i = .int .i64 k ∧ Below w5.heap.size w5 wr) (fun i _ => r.use.length - (intOf i).toNat)
        case atStart => exact ⟨0, Nat.zero_le _, rfl, Below.refl _ _⟩
        case round =>
          obtain ⟨k, hk, rfl, hB⟩ := hrel
          replace HB := Lib.hid (HB.out.trans (hB.mono HB.out.size))
          replace HX := Lib.hid (HX.out.below hB)
          replace HR := Lib.hid (HR.out.below hB)
          replace HSP := Lib.hid (HSP.out.below hB)
          replace HSQ := Lib.hid (HSQ.out.below hB)
          replace HRT := Lib.hid (HRT.out.below hB)
          replace HSX := Lib.hid (HSX.out.below hB)
          replace HSY := Lib.hid (HSY.out.below hB)
          have HC := Lib.hid hB
          clear hB
          by_cases hlt : k < r.use.length
          · have hkl : (k : Int) ≤ r.last := by have := HNU.out; omega
            have hP : k < P.length := by have := HPN.out; omega
            have hQ : k < Q.length := by have := HQN.out; omega
            obtain ⟨x, hx⟩ : ∃ x, P[k]? = some x := ⟨_, List.getElem?_eq_getElem hP⟩
            obtain ⟨y, hy⟩ : ∃ y, Q[k]? = some y := ⟨_, List.getElem?_eq_getElem hQ⟩
            have hxy := HLE.out k hkl x y hx hy
            have hnlt : ¬ y < x := by omega
            obtain ⟨b0, o0, ea, d0⟩ := HSX.out.int_at hx
            subst ea
            obtain ⟨b1, o1, ea, d1⟩ := HSY.out.int_at hy
            subst ea
            have HSS := Lib.hid (show TwoS b0 (o0 + k) b1 (o1 + k) x y wr from ⟨d0, d1⟩)
            have ew : IntKind.i64.wrap ((k : Int) + 1) = (k : Int) + 1 := IntWalk.i64_in _ (by omega)
            clear hx hy d0 d1
            obtain ⟨⟨k0, k1, k2, k3, k4, k5, k6, k7, k8, k9⟩, t0, t1⟩ := HX.out
            go_wp2_with fail
            clear k0 k1 k2 k3 k4 k5 k6 k7 k8 k9 t0 t1
            refine region_o (S := TwoS b0 (o0 + k) b1 (o1 + k) x y) (.take 0 (.take 1 (.take 2 (.take 3 (.take 4 (.take 5 (.take 6 (.take 7 (.take 8 .nil))))))))) (by kernel_rfl) (by kernel_rfl) (fun _ _ d _ _ h => by cases d <;> exact h) (HSS.out.below (Below.refl _ _).drew) ?_
            intro W0 hW0 hS0
            have hBW : Below wr.heap.size wr W0 := by subst hW0; exact (Below.refl _ _).drew
            clear hW0
            repeat (first
              | (refine ord_skip rfl ?_ ?_; rfl; simp only [List.getElem_toArray, List.getElem_cons_zero, List.getElem_cons_succ, Act.put, List.setIfInBounds_toArray, List.set_cons_zero, List.set_cons_succ])
              | (refine ord_take (v := ?_) rfl ?_ (fun W hW => ?_) ?_; rotate_left; rfl; (obtain ⟨d0, d1⟩ := hW; go_simp; (first | done | with_reducible rfl)); simp only [List.getElem_toArray, List.getElem_cons_zero, List.getElem_cons_succ, Act.put, List.setIfInBounds_toArray, List.set_cons_zero, List.set_cons_succ]))
            refine ord_nil ?_
            replace HB := Lib.hid (HB.out.trans (hBW.mono HB.out.size))
            replace HC := Lib.hid (HC.out.trans (hBW.mono HC.out.size))
            replace HX := Lib.hid (HX.out.below hBW)
            replace HR := Lib.hid (HR.out.below hBW)
            replace HSP := Lib.hid (HSP.out.below hBW)
            replace HSQ := Lib.hid (HSQ.out.below hBW)
            replace HRT := Lib.hid (HRT.out.below hBW)
            replace HSX := Lib.hid (HSX.out.below hBW)
            replace HSY := Lib.hid (HSY.out.below hBW)
            clear hBW
            obtain ⟨⟨k0, k1, k2, k3, k4, k5, k6, k7, k8, k9⟩, t0, t1⟩ := HX.out
            go_wp2_with fail
            clear k0 k1 k2 k3 k4 k5 k6 k7 k8 k9 t0 t1
            go_roundw
            case rel => exact ⟨k + 1, by omega, by go_num, HC.out⟩
            case measure => simp [intOf]; omega
          · obtain ⟨⟨k0, k1, k2, k3, k4, k5, k6, k7, k8, k9⟩, t0, t1⟩ := HX.out
            go_wp2_with fail
            clear k0 k1 k2 k3 k4 k5 k6 k7 k8 k9 t0 t1
            with_reducible refine (River_c r A _ HR.out HL.out.1 HL.out.2.1 HL.out.2.2.1 HL.out.2.2.2).mono ?_
            rintro e w6 ⟨A4, rfl, hr1, -, hb⟩
            replace HB := Lib.hid (HB.out.trans (hb.mono HB.out.size))
            replace HC := Lib.hid (HC.out.trans (hb.mono HC.out.size))
            replace HX := Lib.hid (HX.out.below hb)
            replace HR := Lib.hid (HR.out.below hb)
            replace HSP := Lib.hid (HSP.out.below hb)
            replace HSQ := Lib.hid (HSQ.out.below hb)
            replace HRT := Lib.hid (HRT.out.below hb)
            replace HSX := Lib.hid (HSX.out.below hb)
            replace HSY := Lib.hid (HSY.out.below hb)
            clear hb
            have HR4 := Lib.hid hr1
            clear hr1
            obtain ⟨⟨k0, k1, k2, k3, k4, k5, k6, k7, k8, k9⟩, t0, t1⟩ := HX.out
            go_wp2_with fail
            clear k0 k1 k2 k3 k4 k5 k6 k7 k8 k9 t0 t1
            with_reducible refine (list_c pa PL pc _ HSP.out (by omega)).mono ?_
            rintro e w7 ⟨v, rfl, hown, hb⟩
            replace HB := Lib.hid (HB.out.trans (hb.mono HB.out.size))
            replace HC := Lib.hid (HC.out.trans (hb.mono HC.out.size))
            replace HX := Lib.hid (HX.out.below hb)
            replace HR := Lib.hid (HR.out.below hb)
            replace HSP := Lib.hid (HSP.out.below hb)
            replace HSQ := Lib.hid (HSQ.out.below hb)
            replace HRT := Lib.hid (HRT.out.below hb)
            replace HSX := Lib.hid (HSX.out.below hb)
            replace HSY := Lib.hid (HSY.out.below hb)
            replace HR4 := Lib.hid (HR4.out.below hb)
            clear hb
            obtain ⟨s4, c4, rfl, -, hs2⟩ := own_Sl hown
            clear hown
            have HS4 := Lib.hid hs2
            clear hs2
            obtain ⟨⟨k0, k1, k2, k3, k4, k5, k6, k7, k8, k9⟩, t0, t1⟩ := HX.out
            go_wp2_with fail
            clear k0 k1 k2 k3 k4 k5 k6 k7 k8 k9 t0 t1
            with_reducible refine (Dry_c r A4 s4 PL c4 _ HR4.out HL.out.1 HL.out.2.1 HL.out.2.2.1 HL.out.2.2.2 HS4.out (by omega)).mono ?_
            rintro e w8 ⟨rfl, hb⟩
            replace HB := Lib.hid (HB.out.trans (hb.mono HB.out.size))
            replace HC := Lib.hid (HC.out.trans (hb.mono HC.out.size))
            replace HX := Lib.hid (HX.out.below hb)
            replace HR := Lib.hid (HR.out.below hb)
            replace HSP := Lib.hid (HSP.out.below hb)
            replace HSQ := Lib.hid (HSQ.out.below hb)
            replace HRT := Lib.hid (HRT.out.below hb)
            replace HSX := Lib.hid (HSX.out.below hb)
            replace HSY := Lib.hid (HSY.out.below hb)
            replace HR4 := Lib.hid (HR4.out.below hb)
            replace HS4 := Lib.hid (HS4.out.below hb)
            clear hb
            obtain ⟨d1, hd1⟩ : ∃ z, dryA r PL = z := ⟨_, rfl⟩
            have HD1 := Lib.hid hd1
            rw [HD1.out]
            clear hd1
            obtain ⟨⟨k0, k1, k2, k3, k4, k5, k6, k7, k8, k9⟩, t0, t1⟩ := HX.out
            go_wp2_with fail
            clear k0 k1 k2 k3 k4 k5 k6 k7 k8 k9 t0 t1
            with_reducible refine (River_c r A _ HR.out HL.out.1 HL.out.2.1 HL.out.2.2.1 HL.out.2.2.2).mono ?_
            rintro e w9 ⟨A5, rfl, hr1, -, hb⟩
            replace HB := Lib.hid (HB.out.trans (hb.mono HB.out.size))
            replace HC := Lib.hid (HC.out.trans (hb.mono HC.out.size))
            replace HX := Lib.hid (HX.out.below hb)
            replace HR := Lib.hid (HR.out.below hb)
            replace HSP := Lib.hid (HSP.out.below hb)
            replace HSQ := Lib.hid (HSQ.out.below hb)
            replace HRT := Lib.hid (HRT.out.below hb)
            replace HSX := Lib.hid (HSX.out.below hb)
            replace HSY := Lib.hid (HSY.out.below hb)
            replace HR4 := Lib.hid (HR4.out.below hb)
            replace HS4 := Lib.hid (HS4.out.below hb)
            clear hb
            have HR5 := Lib.hid hr1
            clear hr1
            obtain ⟨⟨k0, k1, k2, k3, k4, k5, k6, k7, k8, k9⟩, t0, t1⟩ := HX.out
            go_wp2_with fail
            clear k0 k1 k2 k3 k4 k5 k6 k7 k8 k9 t0 t1
            with_reducible refine (list_c qla QL qlc _ HSQ.out (by omega)).mono ?_
            rintro e w10 ⟨v, rfl, hown, hb⟩
            replace HB := Lib.hid (HB.out.trans (hb.mono HB.out.size))
            replace HC := Lib.hid (HC.out.trans (hb.mono HC.out.size))
            replace HX := Lib.hid (HX.out.below hb)
            replace HR := Lib.hid (HR.out.below hb)
            replace HSP := Lib.hid (HSP.out.below hb)
            replace HSQ := Lib.hid (HSQ.out.below hb)
            replace HRT := Lib.hid (HRT.out.below hb)
            replace HSX := Lib.hid (HSX.out.below hb)
            replace HSY := Lib.hid (HSY.out.below hb)
            replace HR4 := Lib.hid (HR4.out.below hb)
            replace HS4 := Lib.hid (HS4.out.below hb)
            replace HR5 := Lib.hid (HR5.out.below hb)
            clear hb
            obtain ⟨s5, c5, rfl, -, hs2⟩ := own_Sl hown
            clear hown
            have HS5 := Lib.hid hs2
            clear hs2
            obtain ⟨⟨k0, k1, k2, k3, k4, k5, k6, k7, k8, k9⟩, t0, t1⟩ := HX.out
            go_wp2_with fail
            clear k0 k1 k2 k3 k4 k5 k6 k7 k8 k9 t0 t1
            with_reducible refine (Dry_c r A5 s5 QL c5 _ HR5.out HL.out.1 HL.out.2.1 HL.out.2.2.1 HL.out.2.2.2 HS5.out (by omega)).mono ?_
            rintro e w11 ⟨rfl, hb⟩
            replace HB := Lib.hid (HB.out.trans (hb.mono HB.out.size))
            replace HC := Lib.hid (HC.out.trans (hb.mono HC.out.size))
            replace HX := Lib.hid (HX.out.below hb)
            replace HR := Lib.hid (HR.out.below hb)
            replace HSP := Lib.hid (HSP.out.below hb)
            replace HSQ := Lib.hid (HSQ.out.below hb)
            replace HRT := Lib.hid (HRT.out.below hb)
            replace HSX := Lib.hid (HSX.out.below hb)
            replace HSY := Lib.hid (HSY.out.below hb)
            replace HR4 := Lib.hid (HR4.out.below hb)
            replace HS4 := Lib.hid (HS4.out.below hb)
            replace HR5 := Lib.hid (HR5.out.below hb)
            replace HS5 := Lib.hid (HS5.out.below hb)
            clear hb
            obtain ⟨d2, hd2⟩ : ∃ z, dryA r QL = z := ⟨_, rfl⟩
            have HD2 := Lib.hid hd2
            rw [HD2.out]
            clear hd2
            rcases HDR.out with ⟨h1, h2⟩ | ⟨h1, h2⟩ | ⟨x, h1, h2 | ⟨y, h2, hxy⟩⟩
            all_goals
              rw [HD1.out] at h1
              rw [HD2.out] at h2
              subst h1 h2
            all_goals
              obtain ⟨⟨k0, k1, k2, k3, k4, k5, k6, k7, k8, k9⟩, t0, t1⟩ := HX.out
              go_wp2_with fail
              clear k0 k1 k2 k3 k4 k5 k6 k7 k8 k9 t0 t1
              with_reducible refine (awake_c _).mono ?_
              rintro e wz ⟨rfl, hbz⟩
              go_wp2_with fail
              go_ret
              exact ⟨rfl, HB.out.trans (hbz.mono HB.out.size)⟩
      · rw [hs1]
        have HS2 := Lib.hid hs2
        clear hs1 hs2
        have hnu := HNU.out
        have hpn := HPN.out
        have hqn := HQN.out
        obtain ⟨⟨k0, k1, k2, k3, k4, k5, k6, k7, k8, k9⟩, t0, t1⟩ := HX.out
        go_wp2_with fail
        clear k0 k1 k2 k3 k4 k5 k6 k7 k8 k9 t0 t1
        clear hnu hpn hqn
        with_reducible refine (sure_c r A qla QL qlc _ HR.out HL.out.1 HL.out.2.1 HL.out.2.2.1 HL.out.2.2.2 HSQ.out (by omega)).mono ?_
        rintro e w12 ⟨rfl, hb⟩
        replace HB := Lib.hid (HB.out.trans (hb.mono HB.out.size))
        replace HX := Lib.hid (HX.out.below hb)
        replace HR := Lib.hid (HR.out.below hb)
        replace HSP := Lib.hid (HSP.out.below hb)
        replace HSQ := Lib.hid (HSQ.out.below hb)
        replace HRT := Lib.hid (HRT.out.below hb)
        replace HSX := Lib.hid (HSX.out.below hb)
        replace HSY := Lib.hid (HSY.out.below hb)
        clear hb
        rw [HS2.out]
        have hnu := HNU.out
        have hpn := HPN.out
        have hqn := HQN.out
        obtain ⟨⟨k0, k1, k2, k3, k4, k5, k6, k7, k8, k9⟩, t0, t1⟩ := HX.out
        go_wp2_with fail
        clear k0 k1 k2 k3 k4 k5 k6 k7 k8 k9 t0 t1
        clear hnu hpn hqn
        go_loopw [17] (fun i wr => ∃ k : Nat, k ≤ r.use.length ∧ i = .int .i64 k ∧ Below w12.heap.size w12 wr) (fun i _ => r.use.length - (intOf i).toNat)
        case atStart => exact ⟨0, Nat.zero_le _, rfl, Below.refl _ _⟩
        case round =>
          obtain ⟨k, hk, rfl, hB⟩ := hrel
          replace HB := Lib.hid (HB.out.trans (hB.mono HB.out.size))
          replace HX := Lib.hid (HX.out.below hB)
          replace HR := Lib.hid (HR.out.below hB)
          replace HSP := Lib.hid (HSP.out.below hB)
          replace HSQ := Lib.hid (HSQ.out.below hB)
          replace HRT := Lib.hid (HRT.out.below hB)
          replace HSX := Lib.hid (HSX.out.below hB)
          replace HSY := Lib.hid (HSY.out.below hB)
          have HC := Lib.hid hB
          clear hB
          by_cases hlt : k < r.use.length
          · have hkl : (k : Int) ≤ r.last := by have := HNU.out; omega
            have hP : k < P.length := by have := HPN.out; omega
            have hQ : k < Q.length := by have := HQN.out; omega
            obtain ⟨x, hx⟩ : ∃ x, P[k]? = some x := ⟨_, List.getElem?_eq_getElem hP⟩
            obtain ⟨y, hy⟩ : ∃ y, Q[k]? = some y := ⟨_, List.getElem?_eq_getElem hQ⟩
            have hxy := HLE.out k hkl x y hx hy
            have hnlt : ¬ y < x := by omega
            obtain ⟨b0, o0, ea, d0⟩ := HSX.out.int_at hx
            subst ea
            obtain ⟨b1, o1, ea, d1⟩ := HSY.out.int_at hy
            subst ea
            have HSS := Lib.hid (show TwoS b0 (o0 + k) b1 (o1 + k) x y wr from ⟨d0, d1⟩)
            have ew : IntKind.i64.wrap ((k : Int) + 1) = (k : Int) + 1 := IntWalk.i64_in _ (by omega)
            clear hx hy d0 d1
            obtain ⟨⟨k0, k1, k2, k3, k4, k5, k6, k7, k8, k9⟩, t0, t1⟩ := HX.out
            go_wp2_with fail
            clear k0 k1 k2 k3 k4 k5 k6 k7 k8 k9 t0 t1
            refine region_o (S := TwoS b0 (o0 + k) b1 (o1 + k) x y) (.take 0 (.take 1 (.take 2 (.take 3 (.take 4 (.take 5 (.take 6 (.take 7 (.take 8 .nil))))))))) (by kernel_rfl) (by kernel_rfl) (fun _ _ d _ _ h => by cases d <;> exact h) (HSS.out.below (Below.refl _ _).drew) ?_
            intro W0 hW0 hS0
            have hBW : Below wr.heap.size wr W0 := by subst hW0; exact (Below.refl _ _).drew
            clear hW0
            repeat (first
              | (refine ord_skip rfl ?_ ?_; rfl; simp only [List.getElem_toArray, List.getElem_cons_zero, List.getElem_cons_succ, Act.put, List.setIfInBounds_toArray, List.set_cons_zero, List.set_cons_succ])
              | (refine ord_take (v := ?_) rfl ?_ (fun W hW => ?_) ?_; rotate_left; rfl; (obtain ⟨d0, d1⟩ := hW; go_simp; (first | done | with_reducible rfl)); simp only [List.getElem_toArray, List.getElem_cons_zero, List.getElem_cons_succ, Act.put, List.setIfInBounds_toArray, List.set_cons_zero, List.set_cons_succ]))
            refine ord_nil ?_
            replace HB := Lib.hid (HB.out.trans (hBW.mono HB.out.size))
            replace HC := Lib.hid (HC.out.trans (hBW.mono HC.out.size))
            replace HX := Lib.hid (HX.out.below hBW)
            replace HR := Lib.hid (HR.out.below hBW)
            replace HSP := Lib.hid (HSP.out.below hBW)
            replace HSQ := Lib.hid (HSQ.out.below hBW)
            replace HRT := Lib.hid (HRT.out.below hBW)
            replace HSX := Lib.hid (HSX.out.below hBW)
            replace HSY := Lib.hid (HSY.out.below hBW)
            clear hBW
            obtain ⟨⟨k0, k1, k2, k3, k4, k5, k6, k7, k8, k9⟩, t0, t1⟩ := HX.out
            go_wp2_with fail
            clear k0 k1 k2 k3 k4 k5 k6 k7 k8 k9 t0 t1
            go_roundw
            case rel => exact ⟨k + 1, by omega, by go_num, HC.out⟩
            case measure => simp [intOf]; omega
          · obtain ⟨⟨k0, k1, k2, k3, k4, k5, k6, k7, k8, k9⟩, t0, t1⟩ := HX.out
            go_wp2_with fail
            clear k0 k1 k2 k3 k4 k5 k6 k7 k8 k9 t0 t1
            with_reducible refine (River_c r A _ HR.out HL.out.1 HL.out.2.1 HL.out.2.2.1 HL.out.2.2.2).mono ?_
            rintro e w13 ⟨A4, rfl, hr1, -, hb⟩
            replace HB := Lib.hid (HB.out.trans (hb.mono HB.out.size))
            replace HC := Lib.hid (HC.out.trans (hb.mono HC.out.size))
            replace HX := Lib.hid (HX.out.below hb)
            replace HR := Lib.hid (HR.out.below hb)
            replace HSP := Lib.hid (HSP.out.below hb)
            replace HSQ := Lib.hid (HSQ.out.below hb)
            replace HRT := Lib.hid (HRT.out.below hb)
            replace HSX := Lib.hid (HSX.out.below hb)
            replace HSY := Lib.hid (HSY.out.below hb)
            clear hb
            have HR4 := Lib.hid hr1
            clear hr1
            obtain ⟨⟨k0, k1, k2, k3, k4, k5, k6, k7, k8, k9⟩, t0, t1⟩ := HX.out
            go_wp2_with fail
            clear k0 k1 k2 k3 k4 k5 k6 k7 k8 k9 t0 t1
            with_reducible refine (list_c pa PL pc _ HSP.out (by omega)).mono ?_
            rintro e w14 ⟨v, rfl, hown, hb⟩
            replace HB := Lib.hid (HB.out.trans (hb.mono HB.out.size))
            replace HC := Lib.hid (HC.out.trans (hb.mono HC.out.size))
            replace HX := Lib.hid (HX.out.below hb)
            replace HR := Lib.hid (HR.out.below hb)
            replace HSP := Lib.hid (HSP.out.below hb)
            replace HSQ := Lib.hid (HSQ.out.below hb)
            replace HRT := Lib.hid (HRT.out.below hb)
            replace HSX := Lib.hid (HSX.out.below hb)
            replace HSY := Lib.hid (HSY.out.below hb)
            replace HR4 := Lib.hid (HR4.out.below hb)
            clear hb
            obtain ⟨s4, c4, rfl, -, hs2⟩ := own_Sl hown
            clear hown
            have HS4 := Lib.hid hs2
            clear hs2
            obtain ⟨⟨k0, k1, k2, k3, k4, k5, k6, k7, k8, k9⟩, t0, t1⟩ := HX.out
            go_wp2_with fail
            clear k0 k1 k2 k3 k4 k5 k6 k7 k8 k9 t0 t1
            with_reducible refine (Dry_c r A4 s4 PL c4 _ HR4.out HL.out.1 HL.out.2.1 HL.out.2.2.1 HL.out.2.2.2 HS4.out (by omega)).mono ?_
            rintro e w15 ⟨rfl, hb⟩
            replace HB := Lib.hid (HB.out.trans (hb.mono HB.out.size))
            replace HC := Lib.hid (HC.out.trans (hb.mono HC.out.size))
            replace HX := Lib.hid (HX.out.below hb)
            replace HR := Lib.hid (HR.out.below hb)
            replace HSP := Lib.hid (HSP.out.below hb)
            replace HSQ := Lib.hid (HSQ.out.below hb)
            replace HRT := Lib.hid (HRT.out.below hb)
            replace HSX := Lib.hid (HSX.out.below hb)
            replace HSY := Lib.hid (HSY.out.below hb)
            replace HR4 := Lib.hid (HR4.out.below hb)
            replace HS4 := Lib.hid (HS4.out.below hb)
            clear hb
            obtain ⟨d1, hd1⟩ : ∃ z, dryA r PL = z := ⟨_, rfl⟩
            have HD1 := Lib.hid hd1
            rw [HD1.out]
            clear hd1
            obtain ⟨⟨k0, k1, k2, k3, k4, k5, k6, k7, k8, k9⟩, t0, t1⟩ := HX.out
            go_wp2_with fail
            clear k0 k1 k2 k3 k4 k5 k6 k7 k8 k9 t0 t1
            with_reducible refine (River_c r A _ HR.out HL.out.1 HL.out.2.1 HL.out.2.2.1 HL.out.2.2.2).mono ?_
            rintro e w16 ⟨A5, rfl, hr1, -, hb⟩
            replace HB := Lib.hid (HB.out.trans (hb.mono HB.out.size))
            replace HC := Lib.hid (HC.out.trans (hb.mono HC.out.size))
            replace HX := Lib.hid (HX.out.below hb)
            replace HR := Lib.hid (HR.out.below hb)
            replace HSP := Lib.hid (HSP.out.below hb)
            replace HSQ := Lib.hid (HSQ.out.below hb)
            replace HRT := Lib.hid (HRT.out.below hb)
            replace HSX := Lib.hid (HSX.out.below hb)
            replace HSY := Lib.hid (HSY.out.below hb)
            replace HR4 := Lib.hid (HR4.out.below hb)
            replace HS4 := Lib.hid (HS4.out.below hb)
            clear hb
            have HR5 := Lib.hid hr1
            clear hr1
            obtain ⟨⟨k0, k1, k2, k3, k4, k5, k6, k7, k8, k9⟩, t0, t1⟩ := HX.out
            go_wp2_with fail
            clear k0 k1 k2 k3 k4 k5 k6 k7 k8 k9 t0 t1
            with_reducible refine (list_c qla QL qlc _ HSQ.out (by omega)).mono ?_
            rintro e w17 ⟨v, rfl, hown, hb⟩
            replace HB := Lib.hid (HB.out.trans (hb.mono HB.out.size))
            replace HC := Lib.hid (HC.out.trans (hb.mono HC.out.size))
            replace HX := Lib.hid (HX.out.below hb)
            replace HR := Lib.hid (HR.out.below hb)
            replace HSP := Lib.hid (HSP.out.below hb)
            replace HSQ := Lib.hid (HSQ.out.below hb)
            replace HRT := Lib.hid (HRT.out.below hb)
            replace HSX := Lib.hid (HSX.out.below hb)
            replace HSY := Lib.hid (HSY.out.below hb)
            replace HR4 := Lib.hid (HR4.out.below hb)
            replace HS4 := Lib.hid (HS4.out.below hb)
            replace HR5 := Lib.hid (HR5.out.below hb)
            clear hb
            obtain ⟨s5, c5, rfl, -, hs2⟩ := own_Sl hown
            clear hown
            have HS5 := Lib.hid hs2
            clear hs2
            obtain ⟨⟨k0, k1, k2, k3, k4, k5, k6, k7, k8, k9⟩, t0, t1⟩ := HX.out
            go_wp2_with fail
            clear k0 k1 k2 k3 k4 k5 k6 k7 k8 k9 t0 t1
            with_reducible refine (Dry_c r A5 s5 QL c5 _ HR5.out HL.out.1 HL.out.2.1 HL.out.2.2.1 HL.out.2.2.2 HS5.out (by omega)).mono ?_
            rintro e w18 ⟨rfl, hb⟩
            replace HB := Lib.hid (HB.out.trans (hb.mono HB.out.size))
            replace HC := Lib.hid (HC.out.trans (hb.mono HC.out.size))
            replace HX := Lib.hid (HX.out.below hb)
            replace HR := Lib.hid (HR.out.below hb)
            replace HSP := Lib.hid (HSP.out.below hb)
            replace HSQ := Lib.hid (HSQ.out.below hb)
            replace HRT := Lib.hid (HRT.out.below hb)
            replace HSX := Lib.hid (HSX.out.below hb)
            replace HSY := Lib.hid (HSY.out.below hb)
            replace HR4 := Lib.hid (HR4.out.below hb)
            replace HS4 := Lib.hid (HS4.out.below hb)
            replace HR5 := Lib.hid (HR5.out.below hb)
            replace HS5 := Lib.hid (HS5.out.below hb)
            clear hb
            obtain ⟨d2, hd2⟩ : ∃ z, dryA r QL = z := ⟨_, rfl⟩
            have HD2 := Lib.hid hd2
            rw [HD2.out]
            clear hd2
            rcases HDR.out with ⟨h1, h2⟩ | ⟨h1, h2⟩ | ⟨x, h1, h2 | ⟨y, h2, hxy⟩⟩
            all_goals
              rw [HD1.out] at h1
              rw [HD2.out] at h2
              subst h1 h2
            all_goals
              obtain ⟨⟨k0, k1, k2, k3, k4, k5, k6, k7, k8, k9⟩, t0, t1⟩ := HX.out
              go_wp2_with fail
              clear k0 k1 k2 k3 k4 k5 k6 k7 k8 k9 t0 t1
              with_reducible refine (awake_c _).mono ?_
              rintro e wz ⟨rfl, hbz⟩
              go_wp2_with fail
              go_ret
              exact ⟨rfl, HB.out.trans (hbz.mono HB.out.size)⟩
end Go.Proofs.Ytgglfngkomgadaa
