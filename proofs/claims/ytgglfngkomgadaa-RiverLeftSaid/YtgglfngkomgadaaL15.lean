/- Walks of the laws: RiverLeft. -/
import Derived.Test.YtgglfngkomgadaaL0
import Derived.Test.YtgglfngkomgadaaM5
namespace Go.Proofs.Ytgglfngkomgadaa
open Go.RowKit Go.Shelf
set_option linter.unusedVariables false
set_option linter.unusedSimpArgs false
set_option maxRecDepth 100000

/-- A river in its box, and two numbers in a list. -/
structure In2S (q b o o' : Nat) (r : Riv) (A : RA) (x y : Int) (W : World) : Prop where
  bx : BoxR q r A W
  c0 : W.cell? ⟨b, o, none⟩ = some (.int .i64 x)
  c1 : W.cell? ⟨b, o', none⟩ = some (.int .i64 y)
theorem In2S.below {q b o o' : Nat} {r : Riv} {A : RA} {x y : Int} {W W' : World} (h : In2S q b o o' r A x y W) (hb : Below W.heap.size W W') : In2S q b o o' r A x y W' :=
  have hw : Wr (fun _ => False) W W' := Wr.of_below hb
  ⟨h.bx.below hb, hw.cell (fun e => e) h.c0, hw.cell (fun e => e) h.c1⟩
theorem left_facts {r : Riv} (h : r.faultI = 0) : ∃ LR n, leaveA r = (LR, 0) ∧ n < 2 ^ r.gauges.length ∧ LR = bitsL n ∧ bitsN LR = n ∧ posB r LR = true ∧ LR.length ≤ 6 ∧
    (∀ x ∈ LR, 0 ≤ x ∧ x < r.gauges.length) ∧ (∀ k x y, LR[k + 1]? = some x → LR[k]? = some y → y < x) ∧ ∀ m : Nat, m < 2 ^ r.gauges.length → posB r (bitsL m) = true → shortB (bitsL m) LR = false := by
  have ok := (ok_of_fault h).1
  have hg := ok.ng
  have hm := leave_spec h
  obtain ⟨LR, hLR⟩ : ∃ L, L = leaveRf r (allF r) := ⟨_, rfl⟩
  have ha := leave_ans h
  rw [← hLR] at hm ha
  have hb := hm.bits
  have hn6 : bitsN LR < 64 := Nat.lt_of_lt_of_le hb.1 (Nat.le_trans (Nat.pow_le_pow_right (by omega) (show r.gauges.length ≤ 6 by omega)) (by decide))
  have hlen := bitsL_len (bitsN LR)
  rw [hb.2] at hlen
  refine ⟨LR, bitsN LR, ha, hb.1, hb.2.symm, rfl, hm.ok, hlen, ?_, ?_, hm.best⟩
  · have := below64 r.gauges.length (by omega) _ hb.1
    rw [hb.2] at this
    exact this
  · intro k x y hx hy
    have h1 := (List.getElem?_eq_some_iff.1 hx).1
    have h2 := sorted64 _ hn6 k (by omega) (by rw [hb.2]; exact h1)
    rw [hb.2] at h2
    simpa [List.getD_eq_getElem?_getD, hx, hy] using h2

set_option maxHeartbeats 8000000 in
theorem law15_c (r : Riv) (A : RA) (t : Nat) (w : World) (hr : Rd w r A) (ht : t < 256) :
    Calls Try.prog 15 #[rivV r A, .int .u8 t] w (RetB true w) := by
  have HB := Lib.hid (al_b w (rO26 r A))
  have HX := Lib.hid (box_new w r A)
  have HR := Lib.hid hr
  clear hr
  cases hrd : (thinB r && decide (r.faultI = 0))
  · have HRD := Lib.hid hrd
    clear hrd
    go_enter Try.func15, Try.ntmps15
    go_wp2_with fail
    obtain ⟨wq, hwq⟩ : ∃ wq, w.alloc (rO26 r A) = wq := ⟨_, rfl⟩
    rw [hwq] at HB HX ⊢
    clear hwq
    replace HR := Lib.hid (HR.out.below HB.out)
    with_reducible refine (ready_c r A _ HR.out).mono ?_
    rintro e w3 ⟨rfl, hb⟩
    replace HB := Lib.hid (HB.out.trans (hb.mono HB.out.size))
    replace HX := Lib.hid (HX.out.below hb)
    replace HR := Lib.hid (HR.out.below hb)
    clear hb
    rw [HRD.out]
    obtain ⟨k0, k1, k2, k3, k4, k5, k6, k7, k8, k9⟩ := HX.out
    go_wp2_with fail
    clear k0 k1 k2 k3 k4 k5 k6 k7 k8 k9
    with_reducible refine (awake_c _).mono ?_
    rintro e wz ⟨rfl, hbz⟩
    go_wp2_with fail
    go_ret
    exact ⟨rfl, HB.out.trans (hbz.mono HB.out.size)⟩
  · have HRD := Lib.hid hrd
    have hrd2 := Bool.and_eq_true_iff.1 hrd
    have HL := Lib.hid (thin_lens hrd2.1)
    have HZ := Lib.hid (of_decide_eq_true hrd2.2)
    have HOK := Lib.hid (ok_of_fault HZ.out).1
    clear hrd hrd2
    obtain ⟨LR, n, hla, hn, hLn, hbn, hpo, hll, hin, hso, hbest⟩ := left_facts HZ.out
    have HLA := Lib.hid hla
    have HLL := Lib.hid hll
    have HIN := Lib.hid hin
    have HSO := Lib.hid hso
    have hfl := full_succ r
    have h32 : 2 ^ r.gauges.length ≤ 32 := Nat.le_trans (Nat.pow_le_pow_right (by omega) HOK.out.ng) (by decide)
    obtain ⟨F, hF⟩ : ∃ F, fullR r = F := ⟨_, rfl⟩
    have HFU := Lib.hid hF
    obtain ⟨q, hq⟩ : ∃ q, q = t &&& F := ⟨_, rfl⟩
    have hqn : q < 2 ^ r.gauges.length := by
      have : t &&& F ≤ F := Nat.and_le_right
      omega
    have HQ := Lib.hid (show Go.bits BinOp.and IntKind.i64 (t : Int) (F : Int) = (q : Int) from by rw [hq]; exact (and256 t ht F (by omega)).1)
    have han := andnot_small F (by omega) q (by omega)
    have hbb := andnot_small F (by omega) n (by omega)
    obtain ⟨m1, hm1⟩ : ∃ m, m = F ^^^ (F &&& q) := ⟨_, rfl⟩
    obtain ⟨m2, hm2⟩ : ∃ m, m = F ^^^ (F &&& n) := ⟨_, rfl⟩
    rw [← hm1] at han
    rw [← hm2] at hbb
    have HAN := Lib.hid han
    have HBB := Lib.hid hbb
    have hl1 := left_iff HZ.out hqn
    have hl2 := (left_iff HZ.out hn).2 (by rw [← hLn]; exact hpo)
    rw [hF, ← hm1] at hl1
    rw [hF, ← hm2] at hl2
    have HC2 := Lib.hid (show canE (someR r m2) = 0 from by rw [can_ans (fault_some HZ.out _)]; exact hl2)
    have HBN := Lib.hid hbn
    have HQ6 := Lib.hid (show q < 64 from by omega)
    have HL1 := Lib.hid (some_lens r m1 HL.out)
    have HL2 := Lib.hid (some_lens r m2 HL.out)
    have hor := (ask_some HZ.out m1).2
    clear hla hll hin hso hfl h32 hF hq hm1 hm2 hn hLn hbn hpo hl2 han hbb
    by_cases hc : askR (someR r m1) true = 0
    · have HSH := Lib.hid (hbest q hqn (hl1.1 hc))
      have HC1 := Lib.hid (show canE (someR r m1) = 0 from by rw [can_ans (fault_some HZ.out _)]; exact hc)
      clear hbest hc hl1 hqn hor
      go_enter Try.func15, Try.ntmps15
      go_wp2_with fail
      obtain ⟨wq, hwq⟩ : ∃ wq, w.alloc (rO26 r A) = wq := ⟨_, rfl⟩
      rw [hwq] at HB HX ⊢
      clear hwq
      replace HR := Lib.hid (HR.out.below HB.out)
      with_reducible refine (ready_c r A _ HR.out).mono ?_
      rintro e w3 ⟨rfl, hb⟩
      replace HB := Lib.hid (HB.out.trans (hb.mono HB.out.size))
      replace HX := Lib.hid (HX.out.below hb)
      replace HR := Lib.hid (HR.out.below hb)
      clear hb
      rw [HRD.out]
      obtain ⟨k0, k1, k2, k3, k4, k5, k6, k7, k8, k9⟩ := HX.out
      go_wp2_with fail
      clear k0 k1 k2 k3 k4 k5 k6 k7 k8 k9
      with_reducible refine (River_c r A _ HR.out HL.out.1 HL.out.2.1 HL.out.2.2.1 HL.out.2.2.2).mono ?_
      rintro e w4 ⟨A1, rfl, hr1, -, hb⟩
      replace HB := Lib.hid (HB.out.trans (hb.mono HB.out.size))
      replace HX := Lib.hid (HX.out.below hb)
      replace HR := Lib.hid (HR.out.below hb)
      clear hb
      have HR1 := Lib.hid hr1
      clear hr1
      obtain ⟨k0, k1, k2, k3, k4, k5, k6, k7, k8, k9⟩ := HX.out
      go_wp2_with fail
      clear k0 k1 k2 k3 k4 k5 k6 k7 k8 k9
      with_reducible refine (Leave_c r A1 _ HR1.out HL.out.1 HL.out.2.1 HL.out.2.2.1 HL.out.2.2.2).mono ?_
      rintro e w5 ⟨sa, sc, rfl, hsl, hb⟩
      replace HB := Lib.hid (HB.out.trans (hb.mono HB.out.size))
      replace HX := Lib.hid (HX.out.below hb)
      replace HR := Lib.hid (HR.out.below hb)
      replace HR1 := Lib.hid (HR1.out.below hb)
      clear hb
      rw [HLA.out] at hsl ⊢
      have HS := Lib.hid hsl
      clear hsl
      obtain ⟨k0, k1, k2, k3, k4, k5, k6, k7, k8, k9⟩ := HX.out
      go_wp2_with fail
      clear k0 k1 k2 k3 k4 k5 k6 k7 k8 k9
      go_loopw [7, 8] (fun u i wr => ∃ (k v : Nat), k ≤ LR.length ∧ i = .int .i64 k ∧ v < 64 ∧ u = .int .i64 v ∧ Hid (v = bitsN (LR.take k)) ∧ Below w5.heap.size w5 wr) (fun _ i _ => LR.length - (intOf i).toNat)
      case atStart => exact ⟨0, 0, Nat.zero_le _, rfl, by omega, rfl, rfl, Below.refl _ _⟩
      case round =>
        obtain ⟨k, v, hk, rfl, hv, rfl, HV, hB⟩ := hrel
        replace HB := Lib.hid (HB.out.trans (hB.mono HB.out.size))
        replace HX := Lib.hid (HX.out.below hB)
        replace HR := Lib.hid (HR.out.below hB)
        replace HR1 := Lib.hid (HR1.out.below hB)
        replace HS := Lib.hid (HS.out.below hB)
        have HC := Lib.hid hB
        clear hB
        by_cases hlt : k < LR.length
        · obtain ⟨x, hx⟩ : ∃ x, LR[k]? = some x := ⟨_, List.getElem?_eq_getElem hlt⟩
          have HXX := Lib.hid hx
          obtain ⟨hx0, hxg⟩ := HIN.out x (List.mem_of_getElem? hx)
          obtain ⟨b, o, ea, d⟩ := HS.out.int_at hx
          subst ea
          obtain ⟨d0, rfl⟩ := Int.eq_ofNat_of_zero_le hx0
          have hd5 : d0 ≤ 5 := by have := HOK.out.ng; omega
          have HOR := Lib.hid (or_small v hv d0 hd5)
          have hng : ¬ (r.gauges.length : Int) ≤ (d0 : Int) := by omega
          have hng2 : ¬ r.gauges.length ≤ d0 := by omega
          have hneg : ¬ (d0 : Int) < 0 := by omega
          have hneg2 : decide ((d0 : Int) < 0) = false := by simp
          have hl6 := HLL.out
          have ew : IntKind.i64.wrap ((k : Int) + 1) = (k : Int) + 1 := IntWalk.i64_in _ (by omega)
          clear hx
          by_cases hk0 : k = 0
          · subst hk0
            have HSS := Lib.hid (show InS w.heap.size b o r A d0 wr from ⟨HX.out, by simpa using d⟩)
            clear d
            obtain ⟨k0, k1, k2, k3, k4, k5, k6, k7, k8, k9⟩ := HX.out
            go_wp2_with fail
            clear k0 k1 k2 k3 k4 k5 k6 k7 k8 k9
            refine region_o (S := InS w.heap.size b o r A d0) (.take 0 (.take 1 (.take 2 (.take 3 (.take 4 (.take 5 (.take 6 (.take 7 (.take 8 (.take 9 (.take 10 (.take 11 (.take 12 (.take 13 (.take 14 (.take 15 (.take 16 (.take 17 (.take 18 (.take 19 (.take 20 (.take 21 (.take 22 (.take 23 (.take 24 (.take 25 (.take 26 (.take 27 (.take 28 (.take 29 (.take 30 .nil))))))))))))))))))))))))))))))) (by kernel_rfl) (by kernel_rfl) (fun _ _ d _ _ h => by cases d <;> exact h) (HSS.out.below (Below.refl _ _).drew) ?_
            intro W0 hW0 hS0
            have hBW : Below wr.heap.size wr W0 := by subst hW0; exact (Below.refl _ _).drew
            clear hW0
            repeat (first
              | (refine ord_skip rfl ?_ ?_; rfl; simp only [List.getElem_toArray, List.getElem_cons_zero, List.getElem_cons_succ, Act.put, List.setIfInBounds_toArray, List.set_cons_zero, List.set_cons_succ])
              | (refine ord_take (v := ?_) rfl ?_ (fun W hW => ?_) ?_; rotate_left; rfl; (obtain ⟨⟨k0, k1, k2, k3, k4, k5, k6, k7, k8, k9⟩, d⟩ := hW; go_simp; (first | done | with_reducible rfl)); simp only [List.getElem_toArray, List.getElem_cons_zero, List.getElem_cons_succ, Act.put, List.setIfInBounds_toArray, List.set_cons_zero, List.set_cons_succ]))
            refine ord_nil ?_
            replace HB := Lib.hid (HB.out.trans (hBW.mono HB.out.size))
            replace HC := Lib.hid (HC.out.trans (hBW.mono HC.out.size))
            replace HX := Lib.hid (HX.out.below hBW)
            replace HR := Lib.hid (HR.out.below hBW)
            replace HR1 := Lib.hid (HR1.out.below hBW)
            replace HS := Lib.hid (HS.out.below hBW)
            clear hBW
            obtain ⟨k0, k1, k2, k3, k4, k5, k6, k7, k8, k9⟩ := hS0.bx
            have dc := hS0.c0
            go_wp2_with fail
            go_roundw
            case rel => exact ⟨0 + 1, v ||| 2 ^ d0, by omega, by go_num, HOR.out.2, by rw [HOR.out.1], by rw [bitsN_take _ _ _ HXX.out, ← HV.out]; rfl, HC.out⟩
            case measure => simp [intOf]; omega
          · obtain ⟨j, hj⟩ : ∃ j, k = j + 1 := ⟨k - 1, by omega⟩
            obtain ⟨y, hy⟩ : ∃ y, LR[j]? = some y := ⟨_, List.getElem?_eq_getElem (by omega)⟩
            have hyx := HSO.out j _ _ (by rw [← hj]; exact HXX.out) hy
            obtain ⟨b2, o2, ea2, d2⟩ := HS.out.int_at hy
            cases ea2
            have HSS := Lib.hid (show In2S w.heap.size b (o + k) (o + j) r A d0 y wr from ⟨HX.out, d, d2⟩)
            have hjl : j < LR.length := by omega
            have ekm : IntKind.i64.wrap ((k : Int) - 1) = (j : Int) := by rw [show (k : Int) - 1 = (j : Int) from by omega]; exact IntWalk.i64_in _ (by omega)
            have hkp : 0 < k := by omega
            have hnle : ¬ (d0 : Int) ≤ y := by omega
            clear d d2 hy hk0 hj
            obtain ⟨k0, k1, k2, k3, k4, k5, k6, k7, k8, k9⟩ := HX.out
            go_wp2_with fail
            clear k0 k1 k2 k3 k4 k5 k6 k7 k8 k9
            refine region_o (S := In2S w.heap.size b (o + k) (o + j) r A d0 y) (.take 0 (.take 1 (.take 2 (.take 3 (.take 4 (.take 5 (.take 6 (.take 7 (.take 8 (.take 9 (.take 10 (.take 11 (.take 12 (.take 13 (.take 14 (.take 15 (.take 16 (.take 17 (.take 18 (.take 19 (.take 20 (.take 21 (.take 22 (.take 23 (.take 24 (.take 25 (.take 26 (.take 27 (.take 28 (.take 29 (.take 30 .nil))))))))))))))))))))))))))))))) (by kernel_rfl) (by kernel_rfl) (fun _ _ d _ _ h => by cases d <;> exact h) (HSS.out.below (Below.refl _ _).drew) ?_
            intro W0 hW0 hS0
            have hBW : Below wr.heap.size wr W0 := by subst hW0; exact (Below.refl _ _).drew
            clear hW0
            repeat (first
              | (refine ord_skip rfl ?_ ?_; rfl; simp only [List.getElem_toArray, List.getElem_cons_zero, List.getElem_cons_succ, Act.put, List.setIfInBounds_toArray, List.set_cons_zero, List.set_cons_succ])
              | (refine ord_take (v := ?_) rfl ?_ (fun W hW => ?_) ?_; rotate_left; rfl; (obtain ⟨⟨k0, k1, k2, k3, k4, k5, k6, k7, k8, k9⟩, d, d2⟩ := hW; go_simp; (first | done | with_reducible rfl)); simp only [List.getElem_toArray, List.getElem_cons_zero, List.getElem_cons_succ, Act.put, List.setIfInBounds_toArray, List.set_cons_zero, List.set_cons_succ]))
            refine ord_nil ?_
            replace HB := Lib.hid (HB.out.trans (hBW.mono HB.out.size))
            replace HC := Lib.hid (HC.out.trans (hBW.mono HC.out.size))
            replace HX := Lib.hid (HX.out.below hBW)
            replace HR := Lib.hid (HR.out.below hBW)
            replace HR1 := Lib.hid (HR1.out.below hBW)
            replace HS := Lib.hid (HS.out.below hBW)
            clear hBW
            obtain ⟨k0, k1, k2, k3, k4, k5, k6, k7, k8, k9⟩ := hS0.bx
            have dc := hS0.c0
            go_wp2_with fail
            go_roundw
            case rel => exact ⟨k + 1, v ||| 2 ^ d0, by omega, by go_num, HOR.out.2, by rw [HOR.out.1], by rw [bitsN_take _ _ _ HXX.out, ← HV.out]; rfl, HC.out⟩
            case measure => simp [intOf]; omega
        · have hkl : k = LR.length := by omega
          have hvn : v = n := by rw [HV.out, hkl, List.take_length, HBN.out]
          subst hvn
          clear hkl hk
          obtain ⟨k0, k1, k2, k3, k4, k5, k6, k7, k8, k9⟩ := HX.out
          go_wp2_with fail
          clear k0 k1 k2 k3 k4 k5 k6 k7 k8 k9
          with_reducible refine (Full_c r A _ HOK.out.ng).mono ?_
          rintro e w6 ⟨rfl, hb⟩
          replace HB := Lib.hid (HB.out.trans (hb.mono HB.out.size))
          replace HC := Lib.hid (HC.out.trans (hb.mono HC.out.size))
          replace HX := Lib.hid (HX.out.below hb)
          replace HR := Lib.hid (HR.out.below hb)
          replace HR1 := Lib.hid (HR1.out.below hb)
          replace HS := Lib.hid (HS.out.below hb)
          clear hb
          rw [HFU.out]
          obtain ⟨k0, k1, k2, k3, k4, k5, k6, k7, k8, k9⟩ := HX.out
          go_wp2_with fail
          clear k0 k1 k2 k3 k4 k5 k6 k7 k8 k9
          rw [HQ.out]
          refine region_o (S := BoxR w.heap.size r A) (.take 0 (.take 1 (.take 3 (.one 2 (.take 4 (.one 5 (.one 6 (.take 7 .nil)))))))) (by kernel_rfl) (by kernel_rfl) (fun _ _ d _ _ h => by cases d <;> exact h) (HX.out.below (Below.refl _ _).drew) ?_
          intro W0 hW0 hS0
          have hBW : Below w6.heap.size w6 W0 := by subst hW0; exact (Below.refl _ _).drew
          clear hW0
          repeat (first
            | (refine ord_skip rfl ?_ ?_; rfl; simp only [List.getElem_toArray, List.getElem_cons_zero, List.getElem_cons_succ, Act.put, List.setIfInBounds_toArray, List.set_cons_zero, List.set_cons_succ])
            | (refine ord_take (v := ?_) rfl ?_ (fun W hW => ?_) ?_; rotate_left; rfl; (obtain ⟨k0, k1, k2, k3, k4, k5, k6, k7, k8, k9⟩ := hW; go_simp; (first | done | with_reducible rfl)); simp only [List.getElem_toArray, List.getElem_cons_zero, List.getElem_cons_succ, Act.put, List.setIfInBounds_toArray, List.set_cons_zero, List.set_cons_succ]))
          (refine ord_op rfl ?_ (fun K hK => ?_); rfl; go_simp; (with_reducible refine (Full_c r A _ HOK.out.ng).mono ?_); rintro e W1 ⟨rfl, hb⟩; have hS1 := BoxR.below hS0 hb; replace hBW := hBW.trans (hb.mono hBW.size); rw [HFU.out]; clear hb; refine hK _ _ hS1 ?_; clear hK K; try simp only [List.getElem_toArray, List.getElem_cons_zero, List.getElem_cons_succ, Act.put, List.setIfInBounds_toArray, List.set_cons_zero, List.set_cons_succ])
          repeat (first
            | (refine ord_skip rfl ?_ ?_; rfl; simp only [List.getElem_toArray, List.getElem_cons_zero, List.getElem_cons_succ, Act.put, List.setIfInBounds_toArray, List.set_cons_zero, List.set_cons_succ])
            | (refine ord_take (v := ?_) rfl ?_ (fun W hW => ?_) ?_; rotate_left; rfl; (obtain ⟨k0, k1, k2, k3, k4, k5, k6, k7, k8, k9⟩ := hW; go_simp; (first | done | with_reducible rfl)); simp only [List.getElem_toArray, List.getElem_cons_zero, List.getElem_cons_succ, Act.put, List.setIfInBounds_toArray, List.set_cons_zero, List.set_cons_succ]))
          (refine ord_op rfl ?_ (fun K hK => ?_); rfl; go_simp; rw [HAN.out.1]; (with_reducible refine (some_c r A m1 _ (HR.out.below hBW) HAN.out.2 HOK.out.ng).mono ?_); rintro e W2 ⟨A2, rfl, hr2, hb⟩; have hS2 := BoxR.below hS1 hb; replace hBW := hBW.trans (hb.mono hBW.size); have HR2 := Lib.hid hr2; clear hr2 hb; refine hK _ _ hS2 ?_; clear hK K; try simp only [List.getElem_toArray, List.getElem_cons_zero, List.getElem_cons_succ, Act.put, List.setIfInBounds_toArray, List.set_cons_zero, List.set_cons_succ])
          (refine ord_op rfl ?_ (fun K hK => ?_); rfl; go_simp; (with_reducible refine (can_c (someR r m1) A2 _ HR2.out HL1.out.1 HL1.out.2.1 HL1.out.2.2.1 HL1.out.2.2.2).mono ?_); rintro e W3 ⟨rfl, hb⟩; have hS3 := BoxR.below hS2 hb; replace hBW := hBW.trans (hb.mono hBW.size); rw [HC1.out]; clear hb; refine hK _ _ hS3 ?_; clear hK K; try simp only [List.getElem_toArray, List.getElem_cons_zero, List.getElem_cons_succ, Act.put, List.setIfInBounds_toArray, List.set_cons_zero, List.set_cons_succ])
          repeat (first
            | (refine ord_skip rfl ?_ ?_; rfl; simp only [List.getElem_toArray, List.getElem_cons_zero, List.getElem_cons_succ, Act.put, List.setIfInBounds_toArray, List.set_cons_zero, List.set_cons_succ])
            | (refine ord_take (v := ?_) rfl ?_ (fun W hW => ?_) ?_; rotate_left; rfl; (obtain ⟨k0, k1, k2, k3, k4, k5, k6, k7, k8, k9⟩ := hW; go_simp; (first | done | with_reducible rfl)); simp only [List.getElem_toArray, List.getElem_cons_zero, List.getElem_cons_succ, Act.put, List.setIfInBounds_toArray, List.set_cons_zero, List.set_cons_succ]))
          refine ord_nil ?_
          replace HB := Lib.hid (HB.out.trans (hBW.mono HB.out.size))
          replace HC := Lib.hid (HC.out.trans (hBW.mono HC.out.size))
          replace HX := Lib.hid (HX.out.below hBW)
          replace HR := Lib.hid (HR.out.below hBW)
          replace HR1 := Lib.hid (HR1.out.below hBW)
          replace HS := Lib.hid (HS.out.below hBW)
          clear hBW
          obtain ⟨k0, k1, k2, k3, k4, k5, k6, k7, k8, k9⟩ := HX.out
          go_wp2_with fail
          clear k0 k1 k2 k3 k4 k5 k6 k7 k8 k9
          refine region_o (S := BoxR w.heap.size r A) (.take 0 (.take 1 (.take 3 (.one 2 (.take 4 (.one 5 (.one 6 (.take 7 (.take 8 (.take 9 (.take 10 (.take 11 (.take 12 (.take 13 (.take 14 (.take 15 (.take 17 (.one 16 (.one 18 (.take 19 (.take 20 (.take 21 (.take 22 (.take 23 (.one 24 (.take 25 (.take 26 .nil))))))))))))))))))))))))))) (by kernel_rfl) (by kernel_rfl) (fun _ _ d _ _ h => by cases d <;> exact h) (HX.out.below (Below.refl _ _).drew) ?_
          intro W0 hW0 hS0
          have hBW : Below W3.heap.size W3 W0 := by subst hW0; exact (Below.refl _ _).drew
          clear hW0
          repeat (first
            | (refine ord_skip rfl ?_ ?_; rfl; simp only [List.getElem_toArray, List.getElem_cons_zero, List.getElem_cons_succ, Act.put, List.setIfInBounds_toArray, List.set_cons_zero, List.set_cons_succ])
            | (refine ord_take (v := ?_) rfl ?_ (fun W hW => ?_) ?_; rotate_left; rfl; (obtain ⟨k0, k1, k2, k3, k4, k5, k6, k7, k8, k9⟩ := hW; go_simp; (first | done | with_reducible rfl)); simp only [List.getElem_toArray, List.getElem_cons_zero, List.getElem_cons_succ, Act.put, List.setIfInBounds_toArray, List.set_cons_zero, List.set_cons_succ]))
          (refine ord_op rfl ?_ (fun K hK => ?_); rfl; go_simp; (with_reducible refine (Full_c r A _ HOK.out.ng).mono ?_); rintro e W1 ⟨rfl, hb⟩; have hS1 := BoxR.below hS0 hb; replace hBW := hBW.trans (hb.mono hBW.size); rw [HFU.out]; clear hb; refine hK _ _ hS1 ?_; clear hK K; try simp only [List.getElem_toArray, List.getElem_cons_zero, List.getElem_cons_succ, Act.put, List.setIfInBounds_toArray, List.set_cons_zero, List.set_cons_succ])
          repeat (first
            | (refine ord_skip rfl ?_ ?_; rfl; simp only [List.getElem_toArray, List.getElem_cons_zero, List.getElem_cons_succ, Act.put, List.setIfInBounds_toArray, List.set_cons_zero, List.set_cons_succ])
            | (refine ord_take (v := ?_) rfl ?_ (fun W hW => ?_) ?_; rotate_left; rfl; (obtain ⟨k0, k1, k2, k3, k4, k5, k6, k7, k8, k9⟩ := hW; go_simp; (first | done | with_reducible rfl)); simp only [List.getElem_toArray, List.getElem_cons_zero, List.getElem_cons_succ, Act.put, List.setIfInBounds_toArray, List.set_cons_zero, List.set_cons_succ]))
          (refine ord_op rfl ?_ (fun K hK => ?_); rfl; go_simp; rw [HBB.out.1]; (with_reducible refine (some_c r A m2 _ (HR.out.below hBW) HBB.out.2 HOK.out.ng).mono ?_); rintro e W2 ⟨A3, rfl, hr3, hb⟩; have hS2 := BoxR.below hS1 hb; replace hBW := hBW.trans (hb.mono hBW.size); have HR3 := Lib.hid hr3; clear hr3 hb; refine hK _ _ hS2 ?_; clear hK K; try simp only [List.getElem_toArray, List.getElem_cons_zero, List.getElem_cons_succ, Act.put, List.setIfInBounds_toArray, List.set_cons_zero, List.set_cons_succ])
          (refine ord_op rfl ?_ (fun K hK => ?_); rfl; go_simp; (with_reducible refine (can_c (someR r m2) A3 _ HR3.out HL2.out.1 HL2.out.2.1 HL2.out.2.2.1 HL2.out.2.2.2).mono ?_); rintro e W3 ⟨rfl, hb⟩; have hS3 := BoxR.below hS2 hb; replace hBW := hBW.trans (hb.mono hBW.size); rw [HC2.out]; clear hb; refine hK _ _ hS3 ?_; clear hK K; try simp only [List.getElem_toArray, List.getElem_cons_zero, List.getElem_cons_succ, Act.put, List.setIfInBounds_toArray, List.set_cons_zero, List.set_cons_succ])
          repeat (first
            | (refine ord_skip rfl ?_ ?_; rfl; simp only [List.getElem_toArray, List.getElem_cons_zero, List.getElem_cons_succ, Act.put, List.setIfInBounds_toArray, List.set_cons_zero, List.set_cons_succ])
            | (refine ord_take (v := ?_) rfl ?_ (fun W hW => ?_) ?_; rotate_left; rfl; (obtain ⟨k0, k1, k2, k3, k4, k5, k6, k7, k8, k9⟩ := hW; go_simp; (first | done | with_reducible rfl)); simp only [List.getElem_toArray, List.getElem_cons_zero, List.getElem_cons_succ, Act.put, List.setIfInBounds_toArray, List.set_cons_zero, List.set_cons_succ]))
          first
            | (refine ord_pass rfl ?_ hS3 ?_; rfl; simp only [List.getElem_toArray, List.getElem_cons_zero, List.getElem_cons_succ, Act.put, List.setIfInBounds_toArray, List.set_cons_zero, List.set_cons_succ]; have W4 := W3; have hS4 := hS3)
            | (refine ord_op rfl ?_ (fun K hK => ?_); rfl; go_simp; (with_reducible refine (Bits_c q _ HQ6.out).mono ?_); rintro e W4 ⟨vb, rfl, hown, hb⟩; have hS4 := BoxR.below hS3 hb; replace hBW := hBW.trans (hb.mono hBW.size); obtain ⟨ba, bc, rfl, -, hsb⟩ := own_Sl hown; have HSB := Lib.hid hsb; clear hown hsb; clear hb; refine hK _ _ hS4 ?_; clear hK K; try simp only [List.getElem_toArray, List.getElem_cons_zero, List.getElem_cons_succ, Act.put, List.setIfInBounds_toArray, List.set_cons_zero, List.set_cons_succ])
          first
            | (refine ord_pass rfl ?_ hS4 ?_; rfl; simp only [List.getElem_toArray, List.getElem_cons_zero, List.getElem_cons_succ, Act.put, List.setIfInBounds_toArray, List.set_cons_zero, List.set_cons_succ]; have W5 := W4; have hS5 := hS4)
            | (refine ord_op rfl ?_ (fun K hK => ?_); rfl; go_simp; (with_reducible refine (Shorter_c ba sa (bitsL q) LR bc sc _ HSB.out (HS.out.below hBW) (by have := bitsL_len q; omega) (by have := HLL.out; omega)).mono ?_); rintro e W5 ⟨rfl, hb⟩; have hS5 := BoxR.below hS4 hb; replace hBW := hBW.trans (hb.mono hBW.size); rw [HSH.out]; clear hb; refine hK _ _ hS5 ?_; clear hK K; try simp only [List.getElem_toArray, List.getElem_cons_zero, List.getElem_cons_succ, Act.put, List.setIfInBounds_toArray, List.set_cons_zero, List.set_cons_succ])
          repeat (first
            | (refine ord_skip rfl ?_ ?_; rfl; simp only [List.getElem_toArray, List.getElem_cons_zero, List.getElem_cons_succ, Act.put, List.setIfInBounds_toArray, List.set_cons_zero, List.set_cons_succ])
            | (refine ord_take (v := ?_) rfl ?_ (fun W hW => ?_) ?_; rotate_left; rfl; (obtain ⟨k0, k1, k2, k3, k4, k5, k6, k7, k8, k9⟩ := hW; go_simp; (first | done | with_reducible rfl)); simp only [List.getElem_toArray, List.getElem_cons_zero, List.getElem_cons_succ, Act.put, List.setIfInBounds_toArray, List.set_cons_zero, List.set_cons_succ]))
          first
            | (refine ord_pass rfl ?_ hS5 ?_; rfl; simp only [List.getElem_toArray, List.getElem_cons_zero, List.getElem_cons_succ, Act.put, List.setIfInBounds_toArray, List.set_cons_zero, List.set_cons_succ]; have W6 := W5; have hS6 := hS5)
            | (refine ord_op rfl ?_ (fun K hK => ?_); rfl; go_simp; (with_reducible refine (awake_c _).mono ?_); rintro e W6 ⟨rfl, hb⟩; have hS6 := BoxR.below hS5 hb; replace hBW := hBW.trans (hb.mono hBW.size); clear hb; refine hK _ _ hS6 ?_; clear hK K; try simp only [List.getElem_toArray, List.getElem_cons_zero, List.getElem_cons_succ, Act.put, List.setIfInBounds_toArray, List.set_cons_zero, List.set_cons_succ])
          repeat (first
            | (refine ord_skip rfl ?_ ?_; rfl; simp only [List.getElem_toArray, List.getElem_cons_zero, List.getElem_cons_succ, Act.put, List.setIfInBounds_toArray, List.set_cons_zero, List.set_cons_succ])
            | (refine ord_take (v := ?_) rfl ?_ (fun W hW => ?_) ?_; rotate_left; rfl; (obtain ⟨k0, k1, k2, k3, k4, k5, k6, k7, k8, k9⟩ := hW; go_simp; (first | done | with_reducible rfl)); simp only [List.getElem_toArray, List.getElem_cons_zero, List.getElem_cons_succ, Act.put, List.setIfInBounds_toArray, List.set_cons_zero, List.set_cons_succ]))
          refine ord_nil ?_
          replace HB := Lib.hid (HB.out.trans (hBW.mono HB.out.size))
          replace HC := Lib.hid (HC.out.trans (hBW.mono HC.out.size))
          replace HX := Lib.hid (HX.out.below hBW)
          replace HR := Lib.hid (HR.out.below hBW)
          replace HR1 := Lib.hid (HR1.out.below hBW)
          replace HS := Lib.hid (HS.out.below hBW)
          clear hBW
          go_wp2_with fail
          go_ret
          exact ⟨rfl, HB.out⟩
    · have HC1 := Lib.hid (show canE (someR r m1) = 11 from by rw [can_ans (fault_some HZ.out _)]; exact hor.resolve_left hc)
      clear hbest hc hl1 hqn hor
      go_enter Try.func15, Try.ntmps15
      go_wp2_with fail
      obtain ⟨wq, hwq⟩ : ∃ wq, w.alloc (rO26 r A) = wq := ⟨_, rfl⟩
      rw [hwq] at HB HX ⊢
      clear hwq
      replace HR := Lib.hid (HR.out.below HB.out)
      with_reducible refine (ready_c r A _ HR.out).mono ?_
      rintro e w3 ⟨rfl, hb⟩
      replace HB := Lib.hid (HB.out.trans (hb.mono HB.out.size))
      replace HX := Lib.hid (HX.out.below hb)
      replace HR := Lib.hid (HR.out.below hb)
      clear hb
      rw [HRD.out]
      obtain ⟨k0, k1, k2, k3, k4, k5, k6, k7, k8, k9⟩ := HX.out
      go_wp2_with fail
      clear k0 k1 k2 k3 k4 k5 k6 k7 k8 k9
      with_reducible refine (River_c r A _ HR.out HL.out.1 HL.out.2.1 HL.out.2.2.1 HL.out.2.2.2).mono ?_
      rintro e w4 ⟨A1, rfl, hr1, -, hb⟩
      replace HB := Lib.hid (HB.out.trans (hb.mono HB.out.size))
      replace HX := Lib.hid (HX.out.below hb)
      replace HR := Lib.hid (HR.out.below hb)
      clear hb
      have HR1 := Lib.hid hr1
      clear hr1
      obtain ⟨k0, k1, k2, k3, k4, k5, k6, k7, k8, k9⟩ := HX.out
      go_wp2_with fail
      clear k0 k1 k2 k3 k4 k5 k6 k7 k8 k9
      with_reducible refine (Leave_c r A1 _ HR1.out HL.out.1 HL.out.2.1 HL.out.2.2.1 HL.out.2.2.2).mono ?_
      rintro e w5 ⟨sa, sc, rfl, hsl, hb⟩
      replace HB := Lib.hid (HB.out.trans (hb.mono HB.out.size))
      replace HX := Lib.hid (HX.out.below hb)
      replace HR := Lib.hid (HR.out.below hb)
      replace HR1 := Lib.hid (HR1.out.below hb)
      clear hb
      rw [HLA.out] at hsl ⊢
      have HS := Lib.hid hsl
      clear hsl
      obtain ⟨k0, k1, k2, k3, k4, k5, k6, k7, k8, k9⟩ := HX.out
      go_wp2_with fail
      clear k0 k1 k2 k3 k4 k5 k6 k7 k8 k9
      go_loopw [7, 8] (fun u i wr => ∃ (k v : Nat), k ≤ LR.length ∧ i = .int .i64 k ∧ v < 64 ∧ u = .int .i64 v ∧ Hid (v = bitsN (LR.take k)) ∧ Below w5.heap.size w5 wr) (fun _ i _ => LR.length - (intOf i).toNat)
      case atStart => exact ⟨0, 0, Nat.zero_le _, rfl, by omega, rfl, rfl, Below.refl _ _⟩
      case round =>
        obtain ⟨k, v, hk, rfl, hv, rfl, HV, hB⟩ := hrel
        replace HB := Lib.hid (HB.out.trans (hB.mono HB.out.size))
        replace HX := Lib.hid (HX.out.below hB)
        replace HR := Lib.hid (HR.out.below hB)
        replace HR1 := Lib.hid (HR1.out.below hB)
        replace HS := Lib.hid (HS.out.below hB)
        have HC := Lib.hid hB
        clear hB
        by_cases hlt : k < LR.length
        · obtain ⟨x, hx⟩ : ∃ x, LR[k]? = some x := ⟨_, List.getElem?_eq_getElem hlt⟩
          have HXX := Lib.hid hx
          obtain ⟨hx0, hxg⟩ := HIN.out x (List.mem_of_getElem? hx)
          obtain ⟨b, o, ea, d⟩ := HS.out.int_at hx
          subst ea
          obtain ⟨d0, rfl⟩ := Int.eq_ofNat_of_zero_le hx0
          have hd5 : d0 ≤ 5 := by have := HOK.out.ng; omega
          have HOR := Lib.hid (or_small v hv d0 hd5)
          have hng : ¬ (r.gauges.length : Int) ≤ (d0 : Int) := by omega
          have hng2 : ¬ r.gauges.length ≤ d0 := by omega
          have hneg : ¬ (d0 : Int) < 0 := by omega
          have hneg2 : decide ((d0 : Int) < 0) = false := by simp
          have hl6 := HLL.out
          have ew : IntKind.i64.wrap ((k : Int) + 1) = (k : Int) + 1 := IntWalk.i64_in _ (by omega)
          clear hx
          by_cases hk0 : k = 0
          · subst hk0
            have HSS := Lib.hid (show InS w.heap.size b o r A d0 wr from ⟨HX.out, by simpa using d⟩)
            clear d
            obtain ⟨k0, k1, k2, k3, k4, k5, k6, k7, k8, k9⟩ := HX.out
            go_wp2_with fail
            clear k0 k1 k2 k3 k4 k5 k6 k7 k8 k9
            refine region_o (S := InS w.heap.size b o r A d0) (.take 0 (.take 1 (.take 2 (.take 3 (.take 4 (.take 5 (.take 6 (.take 7 (.take 8 (.take 9 (.take 10 (.take 11 (.take 12 (.take 13 (.take 14 (.take 15 (.take 16 (.take 17 (.take 18 (.take 19 (.take 20 (.take 21 (.take 22 (.take 23 (.take 24 (.take 25 (.take 26 (.take 27 (.take 28 (.take 29 (.take 30 .nil))))))))))))))))))))))))))))))) (by kernel_rfl) (by kernel_rfl) (fun _ _ d _ _ h => by cases d <;> exact h) (HSS.out.below (Below.refl _ _).drew) ?_
            intro W0 hW0 hS0
            have hBW : Below wr.heap.size wr W0 := by subst hW0; exact (Below.refl _ _).drew
            clear hW0
            repeat (first
              | (refine ord_skip rfl ?_ ?_; rfl; simp only [List.getElem_toArray, List.getElem_cons_zero, List.getElem_cons_succ, Act.put, List.setIfInBounds_toArray, List.set_cons_zero, List.set_cons_succ])
              | (refine ord_take (v := ?_) rfl ?_ (fun W hW => ?_) ?_; rotate_left; rfl; (obtain ⟨⟨k0, k1, k2, k3, k4, k5, k6, k7, k8, k9⟩, d⟩ := hW; go_simp; (first | done | with_reducible rfl)); simp only [List.getElem_toArray, List.getElem_cons_zero, List.getElem_cons_succ, Act.put, List.setIfInBounds_toArray, List.set_cons_zero, List.set_cons_succ]))
            refine ord_nil ?_
            replace HB := Lib.hid (HB.out.trans (hBW.mono HB.out.size))
            replace HC := Lib.hid (HC.out.trans (hBW.mono HC.out.size))
            replace HX := Lib.hid (HX.out.below hBW)
            replace HR := Lib.hid (HR.out.below hBW)
            replace HR1 := Lib.hid (HR1.out.below hBW)
            replace HS := Lib.hid (HS.out.below hBW)
            clear hBW
            obtain ⟨k0, k1, k2, k3, k4, k5, k6, k7, k8, k9⟩ := hS0.bx
            have dc := hS0.c0
            go_wp2_with fail
            go_roundw
            case rel => exact ⟨0 + 1, v ||| 2 ^ d0, by omega, by go_num, HOR.out.2, by rw [HOR.out.1], by rw [bitsN_take _ _ _ HXX.out, ← HV.out]; rfl, HC.out⟩
            case measure => simp [intOf]; omega
          · obtain ⟨j, hj⟩ : ∃ j, k = j + 1 := ⟨k - 1, by omega⟩
            obtain ⟨y, hy⟩ : ∃ y, LR[j]? = some y := ⟨_, List.getElem?_eq_getElem (by omega)⟩
            have hyx := HSO.out j _ _ (by rw [← hj]; exact HXX.out) hy
            obtain ⟨b2, o2, ea2, d2⟩ := HS.out.int_at hy
            cases ea2
            have HSS := Lib.hid (show In2S w.heap.size b (o + k) (o + j) r A d0 y wr from ⟨HX.out, d, d2⟩)
            have hjl : j < LR.length := by omega
            have ekm : IntKind.i64.wrap ((k : Int) - 1) = (j : Int) := by rw [show (k : Int) - 1 = (j : Int) from by omega]; exact IntWalk.i64_in _ (by omega)
            have hkp : 0 < k := by omega
            have hnle : ¬ (d0 : Int) ≤ y := by omega
            clear d d2 hy hk0 hj
            obtain ⟨k0, k1, k2, k3, k4, k5, k6, k7, k8, k9⟩ := HX.out
            go_wp2_with fail
            clear k0 k1 k2 k3 k4 k5 k6 k7 k8 k9
            refine region_o (S := In2S w.heap.size b (o + k) (o + j) r A d0 y) (.take 0 (.take 1 (.take 2 (.take 3 (.take 4 (.take 5 (.take 6 (.take 7 (.take 8 (.take 9 (.take 10 (.take 11 (.take 12 (.take 13 (.take 14 (.take 15 (.take 16 (.take 17 (.take 18 (.take 19 (.take 20 (.take 21 (.take 22 (.take 23 (.take 24 (.take 25 (.take 26 (.take 27 (.take 28 (.take 29 (.take 30 .nil))))))))))))))))))))))))))))))) (by kernel_rfl) (by kernel_rfl) (fun _ _ d _ _ h => by cases d <;> exact h) (HSS.out.below (Below.refl _ _).drew) ?_
            intro W0 hW0 hS0
            have hBW : Below wr.heap.size wr W0 := by subst hW0; exact (Below.refl _ _).drew
            clear hW0
            repeat (first
              | (refine ord_skip rfl ?_ ?_; rfl; simp only [List.getElem_toArray, List.getElem_cons_zero, List.getElem_cons_succ, Act.put, List.setIfInBounds_toArray, List.set_cons_zero, List.set_cons_succ])
              | (refine ord_take (v := ?_) rfl ?_ (fun W hW => ?_) ?_; rotate_left; rfl; (obtain ⟨⟨k0, k1, k2, k3, k4, k5, k6, k7, k8, k9⟩, d, d2⟩ := hW; go_simp; (first | done | with_reducible rfl)); simp only [List.getElem_toArray, List.getElem_cons_zero, List.getElem_cons_succ, Act.put, List.setIfInBounds_toArray, List.set_cons_zero, List.set_cons_succ]))
            refine ord_nil ?_
            replace HB := Lib.hid (HB.out.trans (hBW.mono HB.out.size))
            replace HC := Lib.hid (HC.out.trans (hBW.mono HC.out.size))
            replace HX := Lib.hid (HX.out.below hBW)
            replace HR := Lib.hid (HR.out.below hBW)
            replace HR1 := Lib.hid (HR1.out.below hBW)
            replace HS := Lib.hid (HS.out.below hBW)
            clear hBW
            obtain ⟨k0, k1, k2, k3, k4, k5, k6, k7, k8, k9⟩ := hS0.bx
            have dc := hS0.c0
            go_wp2_with fail
            go_roundw
            case rel => exact ⟨k + 1, v ||| 2 ^ d0, by omega, by go_num, HOR.out.2, by rw [HOR.out.1], by rw [bitsN_take _ _ _ HXX.out, ← HV.out]; rfl, HC.out⟩
            case measure => simp [intOf]; omega
        · have hkl : k = LR.length := by omega
          have hvn : v = n := by rw [HV.out, hkl, List.take_length, HBN.out]
          subst hvn
          clear hkl hk
          obtain ⟨k0, k1, k2, k3, k4, k5, k6, k7, k8, k9⟩ := HX.out
          go_wp2_with fail
          clear k0 k1 k2 k3 k4 k5 k6 k7 k8 k9
          with_reducible refine (Full_c r A _ HOK.out.ng).mono ?_
          rintro e w6 ⟨rfl, hb⟩
          replace HB := Lib.hid (HB.out.trans (hb.mono HB.out.size))
          replace HC := Lib.hid (HC.out.trans (hb.mono HC.out.size))
          replace HX := Lib.hid (HX.out.below hb)
          replace HR := Lib.hid (HR.out.below hb)
          replace HR1 := Lib.hid (HR1.out.below hb)
          replace HS := Lib.hid (HS.out.below hb)
          clear hb
          rw [HFU.out]
          obtain ⟨k0, k1, k2, k3, k4, k5, k6, k7, k8, k9⟩ := HX.out
          go_wp2_with fail
          clear k0 k1 k2 k3 k4 k5 k6 k7 k8 k9
          rw [HQ.out]
          refine region_o (S := BoxR w.heap.size r A) (.take 0 (.take 1 (.take 3 (.one 2 (.take 4 (.one 5 (.one 6 (.take 7 .nil)))))))) (by kernel_rfl) (by kernel_rfl) (fun _ _ d _ _ h => by cases d <;> exact h) (HX.out.below (Below.refl _ _).drew) ?_
          intro W0 hW0 hS0
          have hBW : Below w6.heap.size w6 W0 := by subst hW0; exact (Below.refl _ _).drew
          clear hW0
          repeat (first
            | (refine ord_skip rfl ?_ ?_; rfl; simp only [List.getElem_toArray, List.getElem_cons_zero, List.getElem_cons_succ, Act.put, List.setIfInBounds_toArray, List.set_cons_zero, List.set_cons_succ])
            | (refine ord_take (v := ?_) rfl ?_ (fun W hW => ?_) ?_; rotate_left; rfl; (obtain ⟨k0, k1, k2, k3, k4, k5, k6, k7, k8, k9⟩ := hW; go_simp; (first | done | with_reducible rfl)); simp only [List.getElem_toArray, List.getElem_cons_zero, List.getElem_cons_succ, Act.put, List.setIfInBounds_toArray, List.set_cons_zero, List.set_cons_succ]))
          (refine ord_op rfl ?_ (fun K hK => ?_); rfl; go_simp; (with_reducible refine (Full_c r A _ HOK.out.ng).mono ?_); rintro e W1 ⟨rfl, hb⟩; have hS1 := BoxR.below hS0 hb; replace hBW := hBW.trans (hb.mono hBW.size); rw [HFU.out]; clear hb; refine hK _ _ hS1 ?_; clear hK K; try simp only [List.getElem_toArray, List.getElem_cons_zero, List.getElem_cons_succ, Act.put, List.setIfInBounds_toArray, List.set_cons_zero, List.set_cons_succ])
          repeat (first
            | (refine ord_skip rfl ?_ ?_; rfl; simp only [List.getElem_toArray, List.getElem_cons_zero, List.getElem_cons_succ, Act.put, List.setIfInBounds_toArray, List.set_cons_zero, List.set_cons_succ])
            | (refine ord_take (v := ?_) rfl ?_ (fun W hW => ?_) ?_; rotate_left; rfl; (obtain ⟨k0, k1, k2, k3, k4, k5, k6, k7, k8, k9⟩ := hW; go_simp; (first | done | with_reducible rfl)); simp only [List.getElem_toArray, List.getElem_cons_zero, List.getElem_cons_succ, Act.put, List.setIfInBounds_toArray, List.set_cons_zero, List.set_cons_succ]))
          (refine ord_op rfl ?_ (fun K hK => ?_); rfl; go_simp; rw [HAN.out.1]; (with_reducible refine (some_c r A m1 _ (HR.out.below hBW) HAN.out.2 HOK.out.ng).mono ?_); rintro e W2 ⟨A2, rfl, hr2, hb⟩; have hS2 := BoxR.below hS1 hb; replace hBW := hBW.trans (hb.mono hBW.size); have HR2 := Lib.hid hr2; clear hr2 hb; refine hK _ _ hS2 ?_; clear hK K; try simp only [List.getElem_toArray, List.getElem_cons_zero, List.getElem_cons_succ, Act.put, List.setIfInBounds_toArray, List.set_cons_zero, List.set_cons_succ])
          (refine ord_op rfl ?_ (fun K hK => ?_); rfl; go_simp; (with_reducible refine (can_c (someR r m1) A2 _ HR2.out HL1.out.1 HL1.out.2.1 HL1.out.2.2.1 HL1.out.2.2.2).mono ?_); rintro e W3 ⟨rfl, hb⟩; have hS3 := BoxR.below hS2 hb; replace hBW := hBW.trans (hb.mono hBW.size); rw [HC1.out]; clear hb; refine hK _ _ hS3 ?_; clear hK K; try simp only [List.getElem_toArray, List.getElem_cons_zero, List.getElem_cons_succ, Act.put, List.setIfInBounds_toArray, List.set_cons_zero, List.set_cons_succ])
          repeat (first
            | (refine ord_skip rfl ?_ ?_; rfl; simp only [List.getElem_toArray, List.getElem_cons_zero, List.getElem_cons_succ, Act.put, List.setIfInBounds_toArray, List.set_cons_zero, List.set_cons_succ])
            | (refine ord_take (v := ?_) rfl ?_ (fun W hW => ?_) ?_; rotate_left; rfl; (obtain ⟨k0, k1, k2, k3, k4, k5, k6, k7, k8, k9⟩ := hW; go_simp; (first | done | with_reducible rfl)); simp only [List.getElem_toArray, List.getElem_cons_zero, List.getElem_cons_succ, Act.put, List.setIfInBounds_toArray, List.set_cons_zero, List.set_cons_succ]))
          refine ord_nil ?_
          replace HB := Lib.hid (HB.out.trans (hBW.mono HB.out.size))
          replace HC := Lib.hid (HC.out.trans (hBW.mono HC.out.size))
          replace HX := Lib.hid (HX.out.below hBW)
          replace HR := Lib.hid (HR.out.below hBW)
          replace HR1 := Lib.hid (HR1.out.below hBW)
          replace HS := Lib.hid (HS.out.below hBW)
          clear hBW
          obtain ⟨k0, k1, k2, k3, k4, k5, k6, k7, k8, k9⟩ := HX.out
          go_wp2_with fail
          clear k0 k1 k2 k3 k4 k5 k6 k7 k8 k9
          refine region_o (S := BoxR w.heap.size r A) (.take 0 (.take 1 (.take 3 (.one 2 (.take 4 (.one 5 (.one 6 (.take 7 (.take 8 (.take 9 (.take 10 (.take 11 (.take 12 (.take 13 (.take 14 (.take 15 (.take 17 (.one 16 (.one 18 (.take 19 (.take 20 (.take 21 (.take 22 (.take 23 (.one 24 (.take 25 (.take 26 .nil))))))))))))))))))))))))))) (by kernel_rfl) (by kernel_rfl) (fun _ _ d _ _ h => by cases d <;> exact h) (HX.out.below (Below.refl _ _).drew) ?_
          intro W0 hW0 hS0
          have hBW : Below W3.heap.size W3 W0 := by subst hW0; exact (Below.refl _ _).drew
          clear hW0
          repeat (first
            | (refine ord_skip rfl ?_ ?_; rfl; simp only [List.getElem_toArray, List.getElem_cons_zero, List.getElem_cons_succ, Act.put, List.setIfInBounds_toArray, List.set_cons_zero, List.set_cons_succ])
            | (refine ord_take (v := ?_) rfl ?_ (fun W hW => ?_) ?_; rotate_left; rfl; (obtain ⟨k0, k1, k2, k3, k4, k5, k6, k7, k8, k9⟩ := hW; go_simp; (first | done | with_reducible rfl)); simp only [List.getElem_toArray, List.getElem_cons_zero, List.getElem_cons_succ, Act.put, List.setIfInBounds_toArray, List.set_cons_zero, List.set_cons_succ]))
          (refine ord_op rfl ?_ (fun K hK => ?_); rfl; go_simp; (with_reducible refine (Full_c r A _ HOK.out.ng).mono ?_); rintro e W1 ⟨rfl, hb⟩; have hS1 := BoxR.below hS0 hb; replace hBW := hBW.trans (hb.mono hBW.size); rw [HFU.out]; clear hb; refine hK _ _ hS1 ?_; clear hK K; try simp only [List.getElem_toArray, List.getElem_cons_zero, List.getElem_cons_succ, Act.put, List.setIfInBounds_toArray, List.set_cons_zero, List.set_cons_succ])
          repeat (first
            | (refine ord_skip rfl ?_ ?_; rfl; simp only [List.getElem_toArray, List.getElem_cons_zero, List.getElem_cons_succ, Act.put, List.setIfInBounds_toArray, List.set_cons_zero, List.set_cons_succ])
            | (refine ord_take (v := ?_) rfl ?_ (fun W hW => ?_) ?_; rotate_left; rfl; (obtain ⟨k0, k1, k2, k3, k4, k5, k6, k7, k8, k9⟩ := hW; go_simp; (first | done | with_reducible rfl)); simp only [List.getElem_toArray, List.getElem_cons_zero, List.getElem_cons_succ, Act.put, List.setIfInBounds_toArray, List.set_cons_zero, List.set_cons_succ]))
          (refine ord_op rfl ?_ (fun K hK => ?_); rfl; go_simp; rw [HBB.out.1]; (with_reducible refine (some_c r A m2 _ (HR.out.below hBW) HBB.out.2 HOK.out.ng).mono ?_); rintro e W2 ⟨A3, rfl, hr3, hb⟩; have hS2 := BoxR.below hS1 hb; replace hBW := hBW.trans (hb.mono hBW.size); have HR3 := Lib.hid hr3; clear hr3 hb; refine hK _ _ hS2 ?_; clear hK K; try simp only [List.getElem_toArray, List.getElem_cons_zero, List.getElem_cons_succ, Act.put, List.setIfInBounds_toArray, List.set_cons_zero, List.set_cons_succ])
          (refine ord_op rfl ?_ (fun K hK => ?_); rfl; go_simp; (with_reducible refine (can_c (someR r m2) A3 _ HR3.out HL2.out.1 HL2.out.2.1 HL2.out.2.2.1 HL2.out.2.2.2).mono ?_); rintro e W3 ⟨rfl, hb⟩; have hS3 := BoxR.below hS2 hb; replace hBW := hBW.trans (hb.mono hBW.size); rw [HC2.out]; clear hb; refine hK _ _ hS3 ?_; clear hK K; try simp only [List.getElem_toArray, List.getElem_cons_zero, List.getElem_cons_succ, Act.put, List.setIfInBounds_toArray, List.set_cons_zero, List.set_cons_succ])
          repeat (first
            | (refine ord_skip rfl ?_ ?_; rfl; simp only [List.getElem_toArray, List.getElem_cons_zero, List.getElem_cons_succ, Act.put, List.setIfInBounds_toArray, List.set_cons_zero, List.set_cons_succ])
            | (refine ord_take (v := ?_) rfl ?_ (fun W hW => ?_) ?_; rotate_left; rfl; (obtain ⟨k0, k1, k2, k3, k4, k5, k6, k7, k8, k9⟩ := hW; go_simp; (first | done | with_reducible rfl)); simp only [List.getElem_toArray, List.getElem_cons_zero, List.getElem_cons_succ, Act.put, List.setIfInBounds_toArray, List.set_cons_zero, List.set_cons_succ]))
          first
            | (refine ord_pass rfl ?_ hS3 ?_; rfl; simp only [List.getElem_toArray, List.getElem_cons_zero, List.getElem_cons_succ, Act.put, List.setIfInBounds_toArray, List.set_cons_zero, List.set_cons_succ]; have W4 := W3; have hS4 := hS3)
            | (refine ord_op rfl ?_ (fun K hK => ?_); rfl; go_simp; fail; clear hK K; try simp only [List.getElem_toArray, List.getElem_cons_zero, List.getElem_cons_succ, Act.put, List.setIfInBounds_toArray, List.set_cons_zero, List.set_cons_succ])
          first
            | (refine ord_pass rfl ?_ hS4 ?_; rfl; simp only [List.getElem_toArray, List.getElem_cons_zero, List.getElem_cons_succ, Act.put, List.setIfInBounds_toArray, List.set_cons_zero, List.set_cons_succ]; have W5 := W4; have hS5 := hS4)
            | (refine ord_op rfl ?_ (fun K hK => ?_); rfl; go_simp; fail; clear hK K; try simp only [List.getElem_toArray, List.getElem_cons_zero, List.getElem_cons_succ, Act.put, List.setIfInBounds_toArray, List.set_cons_zero, List.set_cons_succ])
          repeat (first
            | (refine ord_skip rfl ?_ ?_; rfl; simp only [List.getElem_toArray, List.getElem_cons_zero, List.getElem_cons_succ, Act.put, List.setIfInBounds_toArray, List.set_cons_zero, List.set_cons_succ])
            | (refine ord_take (v := ?_) rfl ?_ (fun W hW => ?_) ?_; rotate_left; rfl; (obtain ⟨k0, k1, k2, k3, k4, k5, k6, k7, k8, k9⟩ := hW; go_simp; (first | done | with_reducible rfl)); simp only [List.getElem_toArray, List.getElem_cons_zero, List.getElem_cons_succ, Act.put, List.setIfInBounds_toArray, List.set_cons_zero, List.set_cons_succ]))
          first
            | (refine ord_pass rfl ?_ hS5 ?_; rfl; simp only [List.getElem_toArray, List.getElem_cons_zero, List.getElem_cons_succ, Act.put, List.setIfInBounds_toArray, List.set_cons_zero, List.set_cons_succ]; have W6 := W5; have hS6 := hS5)
            | (refine ord_op rfl ?_ (fun K hK => ?_); rfl; go_simp; (with_reducible refine (awake_c _).mono ?_); rintro e W6 ⟨rfl, hb⟩; have hS6 := BoxR.below hS5 hb; replace hBW := hBW.trans (hb.mono hBW.size); clear hb; refine hK _ _ hS6 ?_; clear hK K; try simp only [List.getElem_toArray, List.getElem_cons_zero, List.getElem_cons_succ, Act.put, List.setIfInBounds_toArray, List.set_cons_zero, List.set_cons_succ])
          repeat (first
            | (refine ord_skip rfl ?_ ?_; rfl; simp only [List.getElem_toArray, List.getElem_cons_zero, List.getElem_cons_succ, Act.put, List.setIfInBounds_toArray, List.set_cons_zero, List.set_cons_succ])
            | (refine ord_take (v := ?_) rfl ?_ (fun W hW => ?_) ?_; rotate_left; rfl; (obtain ⟨k0, k1, k2, k3, k4, k5, k6, k7, k8, k9⟩ := hW; go_simp; (first | done | with_reducible rfl)); simp only [List.getElem_toArray, List.getElem_cons_zero, List.getElem_cons_succ, Act.put, List.setIfInBounds_toArray, List.set_cons_zero, List.set_cons_succ]))
          refine ord_nil ?_
          replace HB := Lib.hid (HB.out.trans (hBW.mono HB.out.size))
          replace HC := Lib.hid (HC.out.trans (hBW.mono HC.out.size))
          replace HX := Lib.hid (HX.out.below hBW)
          replace HR := Lib.hid (HR.out.below hBW)
          replace HR1 := Lib.hid (HR1.out.below hBW)
          replace HS := Lib.hid (HS.out.below hBW)
          clear hBW
          go_wp2_with fail
          go_ret
          exact ⟨rfl, HB.out⟩
end Go.Proofs.Ytgglfngkomgadaa
