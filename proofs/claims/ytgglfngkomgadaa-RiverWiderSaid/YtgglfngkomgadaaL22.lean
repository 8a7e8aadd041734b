/- Walks of the laws: RiverWider. -/
import Derived.Test.YtgglfngkomgadaaL0
import Derived.Test.YtgglfngkomgadaaM8
import Derived.Test.YtgglfngkomgadaaH10
import Derived.Test.YtgglfngkomgadaaH9
namespace Go.Proofs.Ytgglfngkomgadaa
open Go.RowKit Go.Shelf
set_option linter.unusedVariables false
set_option linter.unusedSimpArgs false
set_option maxRecDepth 100000

theorem inside2_c (a a' : Option Addr) (xs ys : List Rg) (c c' n n' : Nat) (w : World) (hs : Sl w a (rgs xs)) (hs' : Sl w a' (rgs ys)) (hn : n = xs.length) (hn2 : n' = ys.length) (hnn : n = n') (hlen : n ≤ 1000) (h : ∀ (k : Nat) (x y : Rg), xs[k]? = some x → ys[k]? = some y → y.lo ≤ x.lo ∧ x.hi ≤ y.hi) :
    Calls Try.prog 73 #[.slice a n c, .slice a' n' c'] w (RetB true w) := by
  subst hn
  rw [← hnn]
  exact inside_c a a' xs ys c c' w hs hs' (hnn.trans hn2) hlen h
theorem tanks_len (r : Riv) (xs : List Int) : (tanksL r xs).length = r.use.length := by simp [tanksL]
theorem Leave_len {r : Riv} (h : r.faultI = 0) : (leaveRf r (allF r)).length ≤ 6 := lvFold_len r _ _

theorem wide_by (n : Nat) : ∃ a b m : Nat, a ≤ 1 ∧ b ≤ 1 ∧ (n : Int) % 2 = a ∧ (n : Int).tmod 2 = a ∧ (n : Int).tdiv 2 = m ∧ (m : Int) % 2 = b ∧ (m : Int).tmod 2 = b ∧ (n : Int) / 2 = m ∧ m ≤ n := by
  have h1 : (n : Int).tmod 2 = (n : Int) % 2 := Int.tmod_eq_emod_of_nonneg (by omega)
  have h2 : ((n / 2 : Nat) : Int).tmod 2 = ((n / 2 : Nat) : Int) % 2 := Int.tmod_eq_emod_of_nonneg (by omega)
  have h3 : (n : Int).tdiv 2 = (n : Int) / 2 := Int.tdiv_eq_ediv_of_nonneg (by omega)
  exact ⟨n % 2, n / 2 % 2, n / 2, by omega, by omega, by omega, by omega, by omega, by omega, by omega, by omega, by omega⟩
theorem wide_mod {r : Riv} (ok : Ok r) (n a : Nat) : ∃ k : Nat, (k : Int) < 2 * (r.last + 1) + (n : Int) ∧ (a : Int) % (2 * (r.last + 1) + (n : Int)) = k ∧ (a : Int).tmod (2 * (r.last + 1) + (n : Int)) = k := by
  have h0 := ok.l0
  have h1 := Int.emod_nonneg (a : Int) (show 2 * (r.last + 1) + (n : Int) ≠ 0 by omega)
  have h2 := Int.emod_lt_of_pos (a : Int) (show 0 < 2 * (r.last + 1) + (n : Int) by omega)
  have h3 : (a : Int).tmod (2 * (r.last + 1) + (n : Int)) = (a : Int) % (2 * (r.last + 1) + (n : Int)) := Int.tmod_eq_emod_of_nonneg (by omega)
  exact ⟨((a : Int) % (2 * (r.last + 1) + (n : Int))).toNat, by omega, by omega, by omega⟩

set_option maxHeartbeats 20000000 in
theorem law22_c (r : Riv) (A : RA) (wt yn b : Nat) (w : World) (hr : Rd w r A) (hw9 : wt < 256) (hy9 : yn < 256) (hbb : b < 256) :
    Calls Try.prog 22 #[rivV r A, .int .u8 wt, .int .u8 yn, .int .u8 b] w (RetB true w) := by
  have HB := Lib.hid (al_b w (rO26 r A))
  have HX := Lib.hid (box_new w r A)
  have HR := Lib.hid hr
  clear hr
  cases hrd : (thinB r && decide (r.faultI = 0))
  · have HRD := Lib.hid hrd
    clear hrd
    go_enter Try.func22, Try.ntmps22
    go_wp2_with fail
    obtain ⟨wq, hwq⟩ : ∃ wq, w.alloc (rO26 r A) = wq := ⟨_, rfl⟩
    rw [hwq] at HB HX ⊢
    clear hwq
    replace HR := Lib.hid (HR.out.below HB.out)
    with_reducible refine (ready_c r A _ HR.out).mono ?_
    rintro e w3 ⟨rfl, hb⟩
    replace HB := Lib.hid (HB.out.trans (hb.mono HB.out.size))
    replace HX := Lib.hid (HX.out.below hb)
    replace HR := Lib.hid (HR.out.below hb)
    clear hb
    rw [HRD.out]
    obtain ⟨k0, k1, k2, k3, k4, k5, k6, k7, k8, k9⟩ := HX.out
    go_wp2_with fail
    clear k0 k1 k2 k3 k4 k5 k6 k7 k8 k9
    with_reducible refine (awake_c _).mono ?_
    rintro e wz ⟨rfl, hbz⟩
    go_wp2_with fail
    go_ret
    exact ⟨rfl, HB.out.trans (hbz.mono HB.out.size)⟩
  · have HRD := Lib.hid hrd
    have hrd2 := Bool.and_eq_true_iff.1 hrd
    have HL := Lib.hid (thin_lens hrd2.1)
    have HZ := Lib.hid (of_decide_eq_true hrd2.2)
    have HOK := Lib.hid (ok_of_fault HZ.out).1
    clear hrd hrd2
    have HR0 := Lib.hid (show Rd w r A from HR.out)
    go_enter Try.func22, Try.ntmps22
    go_wp2_with fail
    obtain ⟨wq, hwq⟩ : ∃ wq, w.alloc (rO26 r A) = wq := ⟨_, rfl⟩
    rw [hwq] at HB HX ⊢
    clear hwq
    replace HR := Lib.hid (HR.out.below HB.out)
    with_reducible refine (ready_c r A _ HR.out).mono ?_
    rintro e w3 ⟨rfl, hb⟩
    replace HB := Lib.hid (HB.out.trans (hb.mono HB.out.size))
    replace HX := Lib.hid (HX.out.below hb)
    replace HR := Lib.hid (HR.out.below hb)
    clear hb
    rw [HRD.out]
    obtain ⟨k0, k1, k2, k3, k4, k5, k6, k7, k8, k9⟩ := HX.out
    go_upto_region 4 with fail
    clear k0 k1 k2 k3 k4 k5 k6 k7 k8 k9
    obtain ⟨xb, hxb⟩ : ∃ n, n = w3.heap.size := ⟨_, rfl⟩
    obtain ⟨wx, hwx⟩ : ∃ Q, Q = w3.alloc (rO26 r A) := ⟨_, rfl⟩
    have hb : Below w3.heap.size w3 wx := by rw [hwx]; exact al_b _ _
    have hX1 : wx.heap[xb]? = some (bx26 r A (.slice A.sa r.salt.length A.sc) (.slice A.ma r.mud.length A.mc) (.slice A.ga r.gauges.length A.gc)) := by rw [hwx, hxb]; exact heap_alloc_new _ _
    have hqx : w.heap.size < xb := by rw [hxb]; exact cell_lt HX.out.k0
    have hxl : xb < wx.heap.size := (Array.getElem?_eq_some_iff.1 hX1).1
    rw [← hwx, ← hxb]
    replace HB := Lib.hid (HB.out.trans (hb.mono HB.out.size))
    replace HX := Lib.hid (HX.out.below hb)
    replace HR := Lib.hid (HR.out.below hb)
    have HX1 := Lib.hid hX1
    have HRX0 := Lib.hid HR.out
    have hl1 := HL.out.1
    have hl2 := HL.out.2.1
    have hl3 := HL.out.2.2.2
    clear hb hwx hxb hX1
    go_cut [] (fun wc => ∃ aS cS aM cM aG cG, wc.heap[xb]? = some (bx26 r A (.slice aS r.salt.length cS) (.slice aM r.mud.length cM) (.slice aG r.gauges.length cG)) ∧ OwnL wx.heap.size 51 wc aS (rgs r.salt) ∧ OwnL wx.heap.size 51 wc aM (rgs r.mud) ∧ OwnL wx.heap.size 99 wc aG (ggs r.gauges) ∧ Wr (fun k => k = xb) wx wc ∧ (0 < (rgs r.salt).length → ∀ b, aS = some ⟨b, 0, none⟩ → aM ≠ some ⟨b, 0, none⟩))
    case first =>
      as_aux_lemma =>
        refine region_o (S := BoxR w.heap.size r A) (.take 1 (.take 2 (.take 5 (.take 6 (.take 9 (.take 10 (.three 0 4 8 (.three 3 4 8 (.take 12 (.two 4 8 (.two 7 8 (.one 8 (.one 11 (.one 13 (.take 14 (.one 15 (.take 16 (.one 17 .nil))))))) (.one 7 (.one 11 (.one 13 (.take 14 (.one 15 (.take 16 (.one 17 .nil)))))))) (.one 4 (.one 7 (.one 11 (.one 13 (.take 14 (.one 15 (.take 16 (.one 17 .nil)))))))))) (.two 3 8 (.take 12 (.two 7 8 (.one 8 (.one 11 (.one 13 (.take 14 (.one 15 (.take 16 (.one 17 .nil))))))) (.one 7 (.one 11 (.one 13 (.take 14 (.one 15 (.take 16 (.one 17 .nil))))))))) (.one 3 (.take 12 (.one 7 (.one 11 (.one 13 (.take 14 (.one 15 (.take 16 (.one 17 .nil)))))))))) (.two 3 4 (.take 12 (.one 4 (.one 7 (.one 11 (.one 13 (.take 14 (.one 15 (.take 16 (.one 17 .nil))))))))) (.one 3 (.take 12 (.one 7 (.one 11 (.one 13 (.take 14 (.one 15 (.take 16 (.one 17 .nil))))))))))) (.two 0 8 (.two 3 8 (.take 12 (.two 7 8 (.one 8 (.one 11 (.one 13 (.take 14 (.one 15 (.take 16 (.one 17 .nil))))))) (.one 7 (.one 11 (.one 13 (.take 14 (.one 15 (.take 16 (.one 17 .nil))))))))) (.one 3 (.take 12 (.one 7 (.one 11 (.one 13 (.take 14 (.one 15 (.take 16 (.one 17 .nil)))))))))) (.one 0 (.one 3 (.take 12 (.one 7 (.one 11 (.one 13 (.take 14 (.one 15 (.take 16 (.one 17 .nil))))))))))) (.two 0 4 (.two 3 4 (.take 12 (.one 4 (.one 7 (.one 11 (.one 13 (.take 14 (.one 15 (.take 16 (.one 17 .nil))))))))) (.one 3 (.take 12 (.one 7 (.one 11 (.one 13 (.take 14 (.one 15 (.take 16 (.one 17 .nil)))))))))) (.one 0 (.one 3 (.take 12 (.one 7 (.one 11 (.one 13 (.take 14 (.one 15 (.take 16 (.one 17 .nil)))))))))))))))))) (by kernel_rfl) (by kernel_rfl) (fun _ _ d _ _ h => by cases d <;> exact h) (HX.out.below (Below.refl _ _).drew) ?_
        intro W0 hW0 hS0
        have hBW : Below wx.heap.size wx W0 := by subst hW0; exact (Below.refl _ _).drew
        clear hW0
        repeat (first
          | (refine ord_skip rfl ?_ ?_; rfl; simp only [pz])
          | (refine ord_take (v := ?_) rfl ?_ (fun W hW => ?_) ?_; rotate_left; rfl; (obtain ⟨k0, k1, k2, k3, k4, k5, k6, k7, k8, k9⟩ := hW; go_simp; (first | done | with_reducible rfl)); simp only [pz]))
        refine ord_three ?_ ?_ ?_
        · skip
          refine ord_op rfl ?_ (fun K hK => ?_)
          rfl
          go_simp
          obtain ⟨eS, W1, heb, hWj, hb, hES, hzS, ho⟩ := eb_new hBW 51
          rw [hWj, heb]
          (try have nMS := (ho _ _ hEM).1)
          (try replace hEM := (ho _ _ hEM).2)
          (try replace hOM := hOM.below hb)
          (try have nGS := (ho _ _ hEG).1)
          (try replace hEG := (ho _ _ hEG).2)
          (try replace hOG := hOG.below hb)
          replace hBW := hBW.trans (hb.mono hBW.size)
          have hS1 := BoxR.below hS0 hb
          clear heb hWj hb ho
          refine hK _ _ hS1 ?_
          clear hK K
          try simp only [pz]
          refine ord_three ?_ ?_ ?_
          · skip
            refine ord_op rfl ?_ (fun K hK => ?_)
            rfl
            skip
            refine wp_app elRgR _ _ rfl rfl rfl (own_none hES hzS) (HRX0.out.s.below hBW) (len_flat rgc 2 (fun _ => rfl) r.salt) (ones_rgs r.salt) (by omega) (by omega) (by have := hBW.size; omega) ?_
            intro vS W2 hown hg hor
            obtain ⟨aS, cS, rfl, hOS, hB2, hwr, ho⟩ := ap_new hBW hES hzS hown hg
            skip
            (try replace hOM := hOM.grown hES hg)
            (try replace hEM := ho _ _ (by first | exact nMS | exact (nSM).symm) hEM)
            (try replace hOG := hOG.grown hES hg)
            (try replace hEG := ho _ _ (by first | exact nGS | exact (nSG).symm) hEG)
            have hS2 := BoxR.wr hS1 hwr (fun e => by have := Option.some.inj e; omega)
            replace hBW := hB2
            clear hown hg hor hB2 hwr ho hES
            refine hK _ _ hS2 ?_
            clear hK K
            try simp only [pz]
            repeat (first
              | (refine ord_skip rfl ?_ ?_; rfl; simp only [pz])
              | (refine ord_take (v := ?_) rfl ?_ (fun W hW => ?_) ?_; rotate_left; rfl; (obtain ⟨k0, k1, k2, k3, k4, k5, k6, k7, k8, k9⟩ := hW; go_simp; (first | done | with_reducible rfl)); simp only [pz]))
            refine ord_two ?_ ?_
            · skip
              refine ord_op rfl ?_ (fun K hK => ?_)
              rfl
              go_simp
              obtain ⟨eM, W3, heb, hWj, hb, hEM, hzM, ho⟩ := eb_new hBW 51
              rw [hWj, heb]
              (try have nSM := (ho _ _ hES).1)
              (try replace hES := (ho _ _ hES).2)
              (try replace hOS := hOS.below hb)
              (try have nGM := (ho _ _ hEG).1)
              (try replace hEG := (ho _ _ hEG).2)
              (try replace hOG := hOG.below hb)
              replace hBW := hBW.trans (hb.mono hBW.size)
              have hS3 := BoxR.below hS2 hb
              clear heb hWj hb ho
              refine hK _ _ hS3 ?_
              clear hK K
              try simp only [pz]
              refine ord_two ?_ ?_
              · skip
                refine ord_op rfl ?_ (fun K hK => ?_)
                rfl
                skip
                refine wp_app elRgR _ _ rfl rfl rfl (own_none hEM hzM) (HRX0.out.m.below hBW) (len_flat rgc 2 (fun _ => rfl) r.mud) (ones_rgs r.mud) (by omega) (by omega) (by have := hBW.size; omega) ?_
                intro vM W4 hown hg hor
                obtain ⟨aM, cM, rfl, hOM, hB2, hwr, ho⟩ := ap_new hBW hEM hzM hown hg
                skip
                have hDJ := dj_new hOS hEM hor
                (try replace hOS := hOS.grown hEM hg)
                (try replace hES := ho _ _ (by first | exact nSM | exact (nMS).symm) hES)
                (try replace hOG := hOG.grown hEM hg)
                (try replace hEG := ho _ _ (by first | exact nGM | exact (nMG).symm) hEG)
                have hS4 := BoxR.wr hS3 hwr (fun e => by have := Option.some.inj e; omega)
                replace hBW := hB2
                clear hown hg hor hB2 hwr ho hEM
                refine hK _ _ hS4 ?_
                clear hK K
                try simp only [pz]
                refine ord_op rfl ?_ (fun K hK => ?_)
                rfl
                go_simp
                obtain ⟨eG, W5, heb, hWj, hb, hEG, hzG, ho⟩ := eb_new hBW 99
                rw [hWj, heb]
                (try have nSG := (ho _ _ hES).1)
                (try replace hES := (ho _ _ hES).2)
                (try replace hOS := hOS.below hb)
                (try have nMG := (ho _ _ hEM).1)
                (try replace hEM := (ho _ _ hEM).2)
                (try replace hOM := hOM.below hb)
                replace hBW := hBW.trans (hb.mono hBW.size)
                have hS5 := BoxR.below hS4 hb
                clear heb hWj hb ho
                refine hK _ _ hS5 ?_
                clear hK K
                try simp only [pz]
                refine ord_op rfl ?_ (fun K hK => ?_)
                rfl
                skip
                refine wp_app elGgR _ _ rfl rfl rfl (own_none hEG hzG) (HRX0.out.g.below hBW) (len_flat ggc 4 (fun _ => rfl) r.gauges) (ones_ggs r.gauges) (by omega) (by omega) (by have := hBW.size; omega) ?_
                intro vG W6 hown hg hor
                obtain ⟨aG, cG, rfl, hOG, hB2, hwr, ho⟩ := ap_new hBW hEG hzG hown hg
                skip
                (try replace hOS := hOS.grown hEG hg)
                (try replace hES := ho _ _ (by first | exact nSG | exact (nGS).symm) hES)
                (try replace hOM := hOM.grown hEG hg)
                (try replace hEM := ho _ _ (by first | exact nMG | exact (nGM).symm) hEM)
                have hS6 := BoxR.wr hS5 hwr (fun e => by have := Option.some.inj e; omega)
                replace hBW := hB2
                clear hown hg hor hB2 hwr ho hEG
                refine hK _ _ hS6 ?_
                clear hK K
                try simp only [pz]
                refine ord_op rfl ?_ (fun K hK => ?_)
                rfl
                skip
                have hX := (hBW.block _ hxl).trans HX1.out
                have hw := Wr.of_below (S := fun k => k = xb) hBW
                have oc := cell_blk (k := 1) hX
                have of := frozen_blk (k := 1) hX
                go_simp
                obtain ⟨W7, hWj, hX2, hw1, hw2⟩ := st_new (fi := 1) (v := .slice aS r.salt.length cS) hX hw
                rw [hWj]
                have hS7 := BoxR.wr hS6 hw1 (fun e => by have : w.heap.size = xb := e; omega)
                replace hOS := hOS.wr hw1 (fun b h e => by have : b = xb := e; omega)
                replace hOM := hOM.wr hw1 (fun b h e => by have : b = xb := e; omega)
                replace hOG := hOG.wr hw1 (fun b h e => by have : b = xb := e; omega)
                replace hX : W7.heap[xb]? = some (bx26 r A (.slice aS r.salt.length cS) (.slice A.ma r.mud.length A.mc) (.slice A.ga r.gauges.length A.gc)) := hX2
                replace hw := hw2
                clear oc of hX2 hWj hw1 hw2
                refine hK _ _ hS7 ?_
                clear hK K
                try simp only [pz]
                repeat (first
                  | (refine ord_skip rfl ?_ ?_; rfl; simp only [pz])
                  | (refine ord_take (v := ?_) rfl ?_ (fun W hW => ?_) ?_; rotate_left; rfl; (obtain ⟨k0, k1, k2, k3, k4, k5, k6, k7, k8, k9⟩ := hW; go_simp; (first | done | with_reducible rfl)); simp only [pz]))
                refine ord_op rfl ?_ (fun K hK => ?_)
                rfl
                skip
                have oc := cell_blk (k := 2) hX
                have of := frozen_blk (k := 2) hX
                go_simp
                obtain ⟨W8, hWj, hX2, hw1, hw2⟩ := st_new (fi := 2) (v := .slice aM r.mud.length cM) hX hw
                rw [hWj]
                have hS8 := BoxR.wr hS7 hw1 (fun e => by have : w.heap.size = xb := e; omega)
                replace hOS := hOS.wr hw1 (fun b h e => by have : b = xb := e; omega)
                replace hOM := hOM.wr hw1 (fun b h e => by have : b = xb := e; omega)
                replace hOG := hOG.wr hw1 (fun b h e => by have : b = xb := e; omega)
                replace hX : W8.heap[xb]? = some (bx26 r A (.slice aS r.salt.length cS) (.slice aM r.mud.length cM) (.slice A.ga r.gauges.length A.gc)) := hX2
                replace hw := hw2
                clear oc of hX2 hWj hw1 hw2
                refine hK _ _ hS8 ?_
                clear hK K
                try simp only [pz]
                repeat (first
                  | (refine ord_skip rfl ?_ ?_; rfl; simp only [pz])
                  | (refine ord_take (v := ?_) rfl ?_ (fun W hW => ?_) ?_; rotate_left; rfl; (obtain ⟨k0, k1, k2, k3, k4, k5, k6, k7, k8, k9⟩ := hW; go_simp; (first | done | with_reducible rfl)); simp only [pz]))
                refine ord_op rfl ?_ (fun K hK => ?_)
                rfl
                skip
                have oc := cell_blk (k := 9) hX
                have of := frozen_blk (k := 9) hX
                go_simp
                obtain ⟨W9, hWj, hX2, hw1, hw2⟩ := st_new (fi := 9) (v := .slice aG r.gauges.length cG) hX hw
                rw [hWj]
                have hS9 := BoxR.wr hS8 hw1 (fun e => by have : w.heap.size = xb := e; omega)
                replace hOS := hOS.wr hw1 (fun b h e => by have : b = xb := e; omega)
                replace hOM := hOM.wr hw1 (fun b h e => by have : b = xb := e; omega)
                replace hOG := hOG.wr hw1 (fun b h e => by have : b = xb := e; omega)
                replace hX : W9.heap[xb]? = some (bx26 r A (.slice aS r.salt.length cS) (.slice aM r.mud.length cM) (.slice aG r.gauges.length cG)) := hX2
                replace hw := hw2
                clear oc of hX2 hWj hw1 hw2
                refine hK _ _ hS9 ?_
                clear hK K
                try simp only [pz]
                refine ord_nil ?_
                go_wp2_with fail
                go_meet
                case rel => exact ⟨aS, cS, aM, cM, aG, cG, hX, hOS, hOM, hOG, hw, hDJ⟩
              · skip
                refine ord_op rfl ?_ (fun K hK => ?_)
                rfl
                go_simp
                obtain ⟨eG, W10, heb, hWj, hb, hEG, hzG, ho⟩ := eb_new hBW 99
                rw [hWj, heb]
                (try have nSG := (ho _ _ hES).1)
                (try replace hES := (ho _ _ hES).2)
                (try replace hOS := hOS.below hb)
                (try have nMG := (ho _ _ hEM).1)
                (try replace hEM := (ho _ _ hEM).2)
                (try replace hOM := hOM.below hb)
                replace hBW := hBW.trans (hb.mono hBW.size)
                have hS10 := BoxR.below hS3 hb
                clear heb hWj hb ho
                refine hK _ _ hS10 ?_
                clear hK K
                try simp only [pz]
                refine ord_op rfl ?_ (fun K hK => ?_)
                rfl
                skip
                refine wp_app elRgR _ _ rfl rfl rfl (own_none hEM hzM) (HRX0.out.m.below hBW) (len_flat rgc 2 (fun _ => rfl) r.mud) (ones_rgs r.mud) (by omega) (by omega) (by have := hBW.size; omega) ?_
                intro vM W11 hown hg hor
                obtain ⟨aM, cM, rfl, hOM, hB2, hwr, ho⟩ := ap_new hBW hEM hzM hown hg
                skip
                have hDJ := dj_new hOS hEM hor
                (try replace hOS := hOS.grown hEM hg)
                (try replace hES := ho _ _ (by first | exact nSM | exact (nMS).symm) hES)
                (try replace hOG := hOG.grown hEM hg)
                (try replace hEG := ho _ _ (by first | exact nGM | exact (nMG).symm) hEG)
                have hS11 := BoxR.wr hS10 hwr (fun e => by have := Option.some.inj e; omega)
                replace hBW := hB2
                clear hown hg hor hB2 hwr ho hEM
                refine hK _ _ hS11 ?_
                clear hK K
                try simp only [pz]
                refine ord_op rfl ?_ (fun K hK => ?_)
                rfl
                skip
                refine wp_app elGgR _ _ rfl rfl rfl (own_none hEG hzG) (HRX0.out.g.below hBW) (len_flat ggc 4 (fun _ => rfl) r.gauges) (ones_ggs r.gauges) (by omega) (by omega) (by have := hBW.size; omega) ?_
                intro vG W12 hown hg hor
                obtain ⟨aG, cG, rfl, hOG, hB2, hwr, ho⟩ := ap_new hBW hEG hzG hown hg
                skip
                (try replace hOS := hOS.grown hEG hg)
                (try replace hES := ho _ _ (by first | exact nSG | exact (nGS).symm) hES)
                (try replace hOM := hOM.grown hEG hg)
                (try replace hEM := ho _ _ (by first | exact nMG | exact (nGM).symm) hEM)
                have hS12 := BoxR.wr hS11 hwr (fun e => by have := Option.some.inj e; omega)
                replace hBW := hB2
                clear hown hg hor hB2 hwr ho hEG
                refine hK _ _ hS12 ?_
                clear hK K
                try simp only [pz]
                refine ord_op rfl ?_ (fun K hK => ?_)
                rfl
                skip
                have hX := (hBW.block _ hxl).trans HX1.out
                have hw := Wr.of_below (S := fun k => k = xb) hBW
                have oc := cell_blk (k := 1) hX
                have of := frozen_blk (k := 1) hX
                go_simp
                obtain ⟨W13, hWj, hX2, hw1, hw2⟩ := st_new (fi := 1) (v := .slice aS r.salt.length cS) hX hw
                rw [hWj]
                have hS13 := BoxR.wr hS12 hw1 (fun e => by have : w.heap.size = xb := e; omega)
                replace hOS := hOS.wr hw1 (fun b h e => by have : b = xb := e; omega)
                replace hOM := hOM.wr hw1 (fun b h e => by have : b = xb := e; omega)
                replace hOG := hOG.wr hw1 (fun b h e => by have : b = xb := e; omega)
                replace hX : W13.heap[xb]? = some (bx26 r A (.slice aS r.salt.length cS) (.slice A.ma r.mud.length A.mc) (.slice A.ga r.gauges.length A.gc)) := hX2
                replace hw := hw2
                clear oc of hX2 hWj hw1 hw2
                refine hK _ _ hS13 ?_
                clear hK K
                try simp only [pz]
                repeat (first
                  | (refine ord_skip rfl ?_ ?_; rfl; simp only [pz])
                  | (refine ord_take (v := ?_) rfl ?_ (fun W hW => ?_) ?_; rotate_left; rfl; (obtain ⟨k0, k1, k2, k3, k4, k5, k6, k7, k8, k9⟩ := hW; go_simp; (first | done | with_reducible rfl)); simp only [pz]))
                refine ord_op rfl ?_ (fun K hK => ?_)
                rfl
                skip
                have oc := cell_blk (k := 2) hX
                have of := frozen_blk (k := 2) hX
                go_simp
                obtain ⟨W14, hWj, hX2, hw1, hw2⟩ := st_new (fi := 2) (v := .slice aM r.mud.length cM) hX hw
                rw [hWj]
                have hS14 := BoxR.wr hS13 hw1 (fun e => by have : w.heap.size = xb := e; omega)
                replace hOS := hOS.wr hw1 (fun b h e => by have : b = xb := e; omega)
                replace hOM := hOM.wr hw1 (fun b h e => by have : b = xb := e; omega)
                replace hOG := hOG.wr hw1 (fun b h e => by have : b = xb := e; omega)
                replace hX : W14.heap[xb]? = some (bx26 r A (.slice aS r.salt.length cS) (.slice aM r.mud.length cM) (.slice A.ga r.gauges.length A.gc)) := hX2
                replace hw := hw2
                clear oc of hX2 hWj hw1 hw2
                refine hK _ _ hS14 ?_
                clear hK K
                try simp only [pz]
                repeat (first
                  | (refine ord_skip rfl ?_ ?_; rfl; simp only [pz])
                  | (refine ord_take (v := ?_) rfl ?_ (fun W hW => ?_) ?_; rotate_left; rfl; (obtain ⟨k0, k1, k2, k3, k4, k5, k6, k7, k8, k9⟩ := hW; go_simp; (first | done | with_reducible rfl)); simp only [pz]))
                refine ord_op rfl ?_ (fun K hK => ?_)
                rfl
                skip
                have oc := cell_blk (k := 9) hX
                have of := frozen_blk (k := 9) hX
                go_simp
                obtain ⟨W15, hWj, hX2, hw1, hw2⟩ := st_new (fi := 9) (v := .slice aG r.gauges.length cG) hX hw
                rw [hWj]
                have hS15 := BoxR.wr hS14 hw1 (fun e => by have : w.heap.size = xb := e; omega)
                replace hOS := hOS.wr hw1 (fun b h e => by have : b = xb := e; omega)
                replace hOM := hOM.wr hw1 (fun b h e => by have : b = xb := e; omega)
                replace hOG := hOG.wr hw1 (fun b h e => by have : b = xb := e; omega)
                replace hX : W15.heap[xb]? = some (bx26 r A (.slice aS r.salt.length cS) (.slice aM r.mud.length cM) (.slice aG r.gauges.length cG)) := hX2
                replace hw := hw2
                clear oc of hX2 hWj hw1 hw2
                refine hK _ _ hS15 ?_
                clear hK K
                try simp only [pz]
                refine ord_nil ?_
                go_wp2_with fail
                go_meet
                case rel => exact ⟨aS, cS, aM, cM, aG, cG, hX, hOS, hOM, hOG, hw, hDJ⟩
            · skip
              refine ord_op rfl ?_ (fun K hK => ?_)
              rfl
              go_simp
              obtain ⟨eG, W16, heb, hWj, hb, hEG, hzG, ho⟩ := eb_new hBW 99
              rw [hWj, heb]
              (try have nSG := (ho _ _ hES).1)
              (try replace hES := (ho _ _ hES).2)
              (try replace hOS := hOS.below hb)
              (try have nMG := (ho _ _ hEM).1)
              (try replace hEM := (ho _ _ hEM).2)
              (try replace hOM := hOM.below hb)
              replace hBW := hBW.trans (hb.mono hBW.size)
              have hS16 := BoxR.below hS2 hb
              clear heb hWj hb ho
              refine hK _ _ hS16 ?_
              clear hK K
              try simp only [pz]
              refine ord_op rfl ?_ (fun K hK => ?_)
              rfl
              go_simp
              obtain ⟨eM, W17, heb, hWj, hb, hEM, hzM, ho⟩ := eb_new hBW 51
              rw [hWj, heb]
              (try have nSM := (ho _ _ hES).1)
              (try replace hES := (ho _ _ hES).2)
              (try replace hOS := hOS.below hb)
              (try have nGM := (ho _ _ hEG).1)
              (try replace hEG := (ho _ _ hEG).2)
              (try replace hOG := hOG.below hb)
              replace hBW := hBW.trans (hb.mono hBW.size)
              have hS17 := BoxR.below hS16 hb
              clear heb hWj hb ho
              refine hK _ _ hS17 ?_
              clear hK K
              try simp only [pz]
              refine ord_op rfl ?_ (fun K hK => ?_)
              rfl
              skip
              refine wp_app elRgR _ _ rfl rfl rfl (own_none hEM hzM) (HRX0.out.m.below hBW) (len_flat rgc 2 (fun _ => rfl) r.mud) (ones_rgs r.mud) (by omega) (by omega) (by have := hBW.size; omega) ?_
              intro vM W18 hown hg hor
              obtain ⟨aM, cM, rfl, hOM, hB2, hwr, ho⟩ := ap_new hBW hEM hzM hown hg
              skip
              have hDJ := dj_new hOS hEM hor
              (try replace hOS := hOS.grown hEM hg)
              (try replace hES := ho _ _ (by first | exact nSM | exact (nMS).symm) hES)
              (try replace hOG := hOG.grown hEM hg)
              (try replace hEG := ho _ _ (by first | exact nGM | exact (nMG).symm) hEG)
              have hS18 := BoxR.wr hS17 hwr (fun e => by have := Option.some.inj e; omega)
              replace hBW := hB2
              clear hown hg hor hB2 hwr ho hEM
              refine hK _ _ hS18 ?_
              clear hK K
              try simp only [pz]
              refine ord_op rfl ?_ (fun K hK => ?_)
              rfl
              skip
              refine wp_app elGgR _ _ rfl rfl rfl (own_none hEG hzG) (HRX0.out.g.below hBW) (len_flat ggc 4 (fun _ => rfl) r.gauges) (ones_ggs r.gauges) (by omega) (by omega) (by have := hBW.size; omega) ?_
              intro vG W19 hown hg hor
              obtain ⟨aG, cG, rfl, hOG, hB2, hwr, ho⟩ := ap_new hBW hEG hzG hown hg
              skip
              (try replace hOS := hOS.grown hEG hg)
              (try replace hES := ho _ _ (by first | exact nSG | exact (nGS).symm) hES)
              (try replace hOM := hOM.grown hEG hg)
              (try replace hEM := ho _ _ (by first | exact nMG | exact (nGM).symm) hEM)
              have hS19 := BoxR.wr hS18 hwr (fun e => by have := Option.some.inj e; omega)
              replace hBW := hB2
              clear hown hg hor hB2 hwr ho hEG
              refine hK _ _ hS19 ?_
              clear hK K
              try simp only [pz]
              refine ord_op rfl ?_ (fun K hK => ?_)
              rfl
              skip
              have hX := (hBW.block _ hxl).trans HX1.out
              have hw := Wr.of_below (S := fun k => k = xb) hBW
              have oc := cell_blk (k := 1) hX
              have of := frozen_blk (k := 1) hX
              go_simp
              obtain ⟨W20, hWj, hX2, hw1, hw2⟩ := st_new (fi := 1) (v := .slice aS r.salt.length cS) hX hw
              rw [hWj]
              have hS20 := BoxR.wr hS19 hw1 (fun e => by have : w.heap.size = xb := e; omega)
              replace hOS := hOS.wr hw1 (fun b h e => by have : b = xb := e; omega)
              replace hOM := hOM.wr hw1 (fun b h e => by have : b = xb := e; omega)
              replace hOG := hOG.wr hw1 (fun b h e => by have : b = xb := e; omega)
              replace hX : W20.heap[xb]? = some (bx26 r A (.slice aS r.salt.length cS) (.slice A.ma r.mud.length A.mc) (.slice A.ga r.gauges.length A.gc)) := hX2
              replace hw := hw2
              clear oc of hX2 hWj hw1 hw2
              refine hK _ _ hS20 ?_
              clear hK K
              try simp only [pz]
              repeat (first
                | (refine ord_skip rfl ?_ ?_; rfl; simp only [pz])
                | (refine ord_take (v := ?_) rfl ?_ (fun W hW => ?_) ?_; rotate_left; rfl; (obtain ⟨k0, k1, k2, k3, k4, k5, k6, k7, k8, k9⟩ := hW; go_simp; (first | done | with_reducible rfl)); simp only [pz]))
              refine ord_op rfl ?_ (fun K hK => ?_)
              rfl
              skip
              have oc := cell_blk (k := 2) hX
              have of := frozen_blk (k := 2) hX
              go_simp
              obtain ⟨W21, hWj, hX2, hw1, hw2⟩ := st_new (fi := 2) (v := .slice aM r.mud.length cM) hX hw
              rw [hWj]
              have hS21 := BoxR.wr hS20 hw1 (fun e => by have : w.heap.size = xb := e; omega)
              replace hOS := hOS.wr hw1 (fun b h e => by have : b = xb := e; omega)
              replace hOM := hOM.wr hw1 (fun b h e => by have : b = xb := e; omega)
              replace hOG := hOG.wr hw1 (fun b h e => by have : b = xb := e; omega)
              replace hX : W21.heap[xb]? = some (bx26 r A (.slice aS r.salt.length cS) (.slice aM r.mud.length cM) (.slice A.ga r.gauges.length A.gc)) := hX2
              replace hw := hw2
              clear oc of hX2 hWj hw1 hw2
              refine hK _ _ hS21 ?_
              clear hK K
              try simp only [pz]
              repeat (first
                | (refine ord_skip rfl ?_ ?_; rfl; simp only [pz])
                | (refine ord_take (v := ?_) rfl ?_ (fun W hW => ?_) ?_; rotate_left; rfl; (obtain ⟨k0, k1, k2, k3, k4, k5, k6, k7, k8, k9⟩ := hW; go_simp; (first | done | with_reducible rfl)); simp only [pz]))
              refine ord_op rfl ?_ (fun K hK => ?_)
              rfl
              skip
              have oc := cell_blk (k := 9) hX
              have of := frozen_blk (k := 9) hX
              go_simp
              obtain ⟨W22, hWj, hX2, hw1, hw2⟩ := st_new (fi := 9) (v := .slice aG r.gauges.length cG) hX hw
              rw [hWj]
              have hS22 := BoxR.wr hS21 hw1 (fun e => by have : w.heap.size = xb := e; omega)
              replace hOS := hOS.wr hw1 (fun b h e => by have : b = xb := e; omega)
              replace hOM := hOM.wr hw1 (fun b h e => by have : b = xb := e; omega)
              replace hOG := hOG.wr hw1 (fun b h e => by have : b = xb := e; omega)
              replace hX : W22.heap[xb]? = some (bx26 r A (.slice aS r.salt.length cS) (.slice aM r.mud.length cM) (.slice aG r.gauges.length cG)) := hX2
              replace hw := hw2
              clear oc of hX2 hWj hw1 hw2
              refine hK _ _ hS22 ?_
              clear hK K
              try simp only [pz]
              refine ord_nil ?_
              go_wp2_with fail
              go_meet
              case rel => exact ⟨aS, cS, aM, cM, aG, cG, hX, hOS, hOM, hOG, hw, hDJ⟩
          · skip
            refine ord_op rfl ?_ (fun K hK => ?_)
            rfl
            go_simp
            obtain ⟨eM, W23, heb, hWj, hb, hEM, hzM, ho⟩ := eb_new hBW 51
            rw [hWj, heb]
            (try have nSM := (ho _ _ hES).1)
            (try replace hES := (ho _ _ hES).2)
            (try replace hOS := hOS.below hb)
            (try have nGM := (ho _ _ hEG).1)
            (try replace hEG := (ho _ _ hEG).2)
            (try replace hOG := hOG.below hb)
            replace hBW := hBW.trans (hb.mono hBW.size)
            have hS23 := BoxR.below hS1 hb
            clear heb hWj hb ho
            refine hK _ _ hS23 ?_
            clear hK K
            try simp only [pz]
            refine ord_two ?_ ?_
            · skip
              refine ord_op rfl ?_ (fun K hK => ?_)
              rfl
              skip
              refine wp_app elRgR _ _ rfl rfl rfl (own_none hES hzS) (HRX0.out.s.below hBW) (len_flat rgc 2 (fun _ => rfl) r.salt) (ones_rgs r.salt) (by omega) (by omega) (by have := hBW.size; omega) ?_
              intro vS W24 hown hg hor
              obtain ⟨aS, cS, rfl, hOS, hB2, hwr, ho⟩ := ap_new hBW hES hzS hown hg
              skip
              (try replace hOM := hOM.grown hES hg)
              (try replace hEM := ho _ _ (by first | exact nMS | exact (nSM).symm) hEM)
              (try replace hOG := hOG.grown hES hg)
              (try replace hEG := ho _ _ (by first | exact nGS | exact (nSG).symm) hEG)
              have hS24 := BoxR.wr hS23 hwr (fun e => by have := Option.some.inj e; omega)
              replace hBW := hB2
              clear hown hg hor hB2 hwr ho hES
              refine hK _ _ hS24 ?_
              clear hK K
              try simp only [pz]
              repeat (first
                | (refine ord_skip rfl ?_ ?_; rfl; simp only [pz])
                | (refine ord_take (v := ?_) rfl ?_ (fun W hW => ?_) ?_; rotate_left; rfl; (obtain ⟨k0, k1, k2, k3, k4, k5, k6, k7, k8, k9⟩ := hW; go_simp; (first | done | with_reducible rfl)); simp only [pz]))
              refine ord_two ?_ ?_
              · skip
                refine ord_op rfl ?_ (fun K hK => ?_)
                rfl
                skip
                refine wp_app elRgR _ _ rfl rfl rfl (own_none hEM hzM) (HRX0.out.m.below hBW) (len_flat rgc 2 (fun _ => rfl) r.mud) (ones_rgs r.mud) (by omega) (by omega) (by have := hBW.size; omega) ?_
                intro vM W25 hown hg hor
                obtain ⟨aM, cM, rfl, hOM, hB2, hwr, ho⟩ := ap_new hBW hEM hzM hown hg
                skip
                have hDJ := dj_new hOS hEM hor
                (try replace hOS := hOS.grown hEM hg)
                (try replace hES := ho _ _ (by first | exact nSM | exact (nMS).symm) hES)
                (try replace hOG := hOG.grown hEM hg)
                (try replace hEG := ho _ _ (by first | exact nGM | exact (nMG).symm) hEG)
                have hS25 := BoxR.wr hS24 hwr (fun e => by have := Option.some.inj e; omega)
                replace hBW := hB2
                clear hown hg hor hB2 hwr ho hEM
                refine hK _ _ hS25 ?_
                clear hK K
                try simp only [pz]
                refine ord_op rfl ?_ (fun K hK => ?_)
                rfl
                go_simp
                obtain ⟨eG, W26, heb, hWj, hb, hEG, hzG, ho⟩ := eb_new hBW 99
                rw [hWj, heb]
                (try have nSG := (ho _ _ hES).1)
                (try replace hES := (ho _ _ hES).2)
                (try replace hOS := hOS.below hb)
                (try have nMG := (ho _ _ hEM).1)
                (try replace hEM := (ho _ _ hEM).2)
                (try replace hOM := hOM.below hb)
                replace hBW := hBW.trans (hb.mono hBW.size)
                have hS26 := BoxR.below hS25 hb
                clear heb hWj hb ho
                refine hK _ _ hS26 ?_
                clear hK K
                try simp only [pz]
                refine ord_op rfl ?_ (fun K hK => ?_)
                rfl
                skip
                refine wp_app elGgR _ _ rfl rfl rfl (own_none hEG hzG) (HRX0.out.g.below hBW) (len_flat ggc 4 (fun _ => rfl) r.gauges) (ones_ggs r.gauges) (by omega) (by omega) (by have := hBW.size; omega) ?_
                intro vG W27 hown hg hor
                obtain ⟨aG, cG, rfl, hOG, hB2, hwr, ho⟩ := ap_new hBW hEG hzG hown hg
                skip
                (try replace hOS := hOS.grown hEG hg)
                (try replace hES := ho _ _ (by first | exact nSG | exact (nGS).symm) hES)
                (try replace hOM := hOM.grown hEG hg)
                (try replace hEM := ho _ _ (by first | exact nMG | exact (nGM).symm) hEM)
                have hS27 := BoxR.wr hS26 hwr (fun e => by have := Option.some.inj e; omega)
                replace hBW := hB2
                clear hown hg hor hB2 hwr ho hEG
                refine hK _ _ hS27 ?_
                clear hK K
                try simp only [pz]
                refine ord_op rfl ?_ (fun K hK => ?_)
                rfl
                skip
                have hX := (hBW.block _ hxl).trans HX1.out
                have hw := Wr.of_below (S := fun k => k = xb) hBW
                have oc := cell_blk (k := 1) hX
                have of := frozen_blk (k := 1) hX
                go_simp
                obtain ⟨W28, hWj, hX2, hw1, hw2⟩ := st_new (fi := 1) (v := .slice aS r.salt.length cS) hX hw
                rw [hWj]
                have hS28 := BoxR.wr hS27 hw1 (fun e => by have : w.heap.size = xb := e; omega)
                replace hOS := hOS.wr hw1 (fun b h e => by have : b = xb := e; omega)
                replace hOM := hOM.wr hw1 (fun b h e => by have : b = xb := e; omega)
                replace hOG := hOG.wr hw1 (fun b h e => by have : b = xb := e; omega)
                replace hX : W28.heap[xb]? = some (bx26 r A (.slice aS r.salt.length cS) (.slice A.ma r.mud.length A.mc) (.slice A.ga r.gauges.length A.gc)) := hX2
                replace hw := hw2
                clear oc of hX2 hWj hw1 hw2
                refine hK _ _ hS28 ?_
                clear hK K
                try simp only [pz]
                repeat (first
                  | (refine ord_skip rfl ?_ ?_; rfl; simp only [pz])
                  | (refine ord_take (v := ?_) rfl ?_ (fun W hW => ?_) ?_; rotate_left; rfl; (obtain ⟨k0, k1, k2, k3, k4, k5, k6, k7, k8, k9⟩ := hW; go_simp; (first | done | with_reducible rfl)); simp only [pz]))
                refine ord_op rfl ?_ (fun K hK => ?_)
                rfl
                skip
                have oc := cell_blk (k := 2) hX
                have of := frozen_blk (k := 2) hX
                go_simp
                obtain ⟨W29, hWj, hX2, hw1, hw2⟩ := st_new (fi := 2) (v := .slice aM r.mud.length cM) hX hw
                rw [hWj]
                have hS29 := BoxR.wr hS28 hw1 (fun e => by have : w.heap.size = xb := e; omega)
                replace hOS := hOS.wr hw1 (fun b h e => by have : b = xb := e; omega)
                replace hOM := hOM.wr hw1 (fun b h e => by have : b = xb := e; omega)
                replace hOG := hOG.wr hw1 (fun b h e => by have : b = xb := e; omega)
                replace hX : W29.heap[xb]? = some (bx26 r A (.slice aS r.salt.length cS) (.slice aM r.mud.length cM) (.slice A.ga r.gauges.length A.gc)) := hX2
                replace hw := hw2
                clear oc of hX2 hWj hw1 hw2
                refine hK _ _ hS29 ?_
                clear hK K
                try simp only [pz]
                repeat (first
                  | (refine ord_skip rfl ?_ ?_; rfl; simp only [pz])
                  | (refine ord_take (v := ?_) rfl ?_ (fun W hW => ?_) ?_; rotate_left; rfl; (obtain ⟨k0, k1, k2, k3, k4, k5, k6, k7, k8, k9⟩ := hW; go_simp; (first | done | with_reducible rfl)); simp only [pz]))
                refine ord_op rfl ?_ (fun K hK => ?_)
                rfl
                skip
                have oc := cell_blk (k := 9) hX
                have of := frozen_blk (k := 9) hX
                go_simp
                obtain ⟨W30, hWj, hX2, hw1, hw2⟩ := st_new (fi := 9) (v := .slice aG r.gauges.length cG) hX hw
                rw [hWj]
                have hS30 := BoxR.wr hS29 hw1 (fun e => by have : w.heap.size = xb := e; omega)
                replace hOS := hOS.wr hw1 (fun b h e => by have : b = xb := e; omega)
                replace hOM := hOM.wr hw1 (fun b h e => by have : b = xb := e; omega)
                replace hOG := hOG.wr hw1 (fun b h e => by have : b = xb := e; omega)
                replace hX : W30.heap[xb]? = some (bx26 r A (.slice aS r.salt.length cS) (.slice aM r.mud.length cM) (.slice aG r.gauges.length cG)) := hX2
                replace hw := hw2
                clear oc of hX2 hWj hw1 hw2
                refine hK _ _ hS30 ?_
                clear hK K
                try simp only [pz]
                refine ord_nil ?_
                go_wp2_with fail
                go_meet
                case rel => exact ⟨aS, cS, aM, cM, aG, cG, hX, hOS, hOM, hOG, hw, hDJ⟩
              · skip
                refine ord_op rfl ?_ (fun K hK => ?_)
                rfl
                go_simp
                obtain ⟨eG, W31, heb, hWj, hb, hEG, hzG, ho⟩ := eb_new hBW 99
                rw [hWj, heb]
                (try have nSG := (ho _ _ hES).1)
                (try replace hES := (ho _ _ hES).2)
                (try replace hOS := hOS.below hb)
                (try have nMG := (ho _ _ hEM).1)
                (try replace hEM := (ho _ _ hEM).2)
                (try replace hOM := hOM.below hb)
                replace hBW := hBW.trans (hb.mono hBW.size)
                have hS31 := BoxR.below hS24 hb
                clear heb hWj hb ho
                refine hK _ _ hS31 ?_
                clear hK K
                try simp only [pz]
                refine ord_op rfl ?_ (fun K hK => ?_)
                rfl
                skip
                refine wp_app elRgR _ _ rfl rfl rfl (own_none hEM hzM) (HRX0.out.m.below hBW) (len_flat rgc 2 (fun _ => rfl) r.mud) (ones_rgs r.mud) (by omega) (by omega) (by have := hBW.size; omega) ?_
                intro vM W32 hown hg hor
                obtain ⟨aM, cM, rfl, hOM, hB2, hwr, ho⟩ := ap_new hBW hEM hzM hown hg
                skip
                have hDJ := dj_new hOS hEM hor
                (try replace hOS := hOS.grown hEM hg)
                (try replace hES := ho _ _ (by first | exact nSM | exact (nMS).symm) hES)
                (try replace hOG := hOG.grown hEM hg)
                (try replace hEG := ho _ _ (by first | exact nGM | exact (nMG).symm) hEG)
                have hS32 := BoxR.wr hS31 hwr (fun e => by have := Option.some.inj e; omega)
                replace hBW := hB2
                clear hown hg hor hB2 hwr ho hEM
                refine hK _ _ hS32 ?_
                clear hK K
                try simp only [pz]
                refine ord_op rfl ?_ (fun K hK => ?_)
                rfl
                skip
                refine wp_app elGgR _ _ rfl rfl rfl (own_none hEG hzG) (HRX0.out.g.below hBW) (len_flat ggc 4 (fun _ => rfl) r.gauges) (ones_ggs r.gauges) (by omega) (by omega) (by have := hBW.size; omega) ?_
                intro vG W33 hown hg hor
                obtain ⟨aG, cG, rfl, hOG, hB2, hwr, ho⟩ := ap_new hBW hEG hzG hown hg
                skip
                (try replace hOS := hOS.grown hEG hg)
                (try replace hES := ho _ _ (by first | exact nSG | exact (nGS).symm) hES)
                (try replace hOM := hOM.grown hEG hg)
                (try replace hEM := ho _ _ (by first | exact nMG | exact (nGM).symm) hEM)
                have hS33 := BoxR.wr hS32 hwr (fun e => by have := Option.some.inj e; omega)
                replace hBW := hB2
                clear hown hg hor hB2 hwr ho hEG
                refine hK _ _ hS33 ?_
                clear hK K
                try simp only [pz]
                refine ord_op rfl ?_ (fun K hK => ?_)
                rfl
                skip
                have hX := (hBW.block _ hxl).trans HX1.out
                have hw := Wr.of_below (S := fun k => k = xb) hBW
                have oc := cell_blk (k := 1) hX
                have of := frozen_blk (k := 1) hX
                go_simp
                obtain ⟨W34, hWj, hX2, hw1, hw2⟩ := st_new (fi := 1) (v := .slice aS r.salt.length cS) hX hw
                rw [hWj]
                have hS34 := BoxR.wr hS33 hw1 (fun e => by have : w.heap.size = xb := e; omega)
                replace hOS := hOS.wr hw1 (fun b h e => by have : b = xb := e; omega)
                replace hOM := hOM.wr hw1 (fun b h e => by have : b = xb := e; omega)
                replace hOG := hOG.wr hw1 (fun b h e => by have : b = xb := e; omega)
                replace hX : W34.heap[xb]? = some (bx26 r A (.slice aS r.salt.length cS) (.slice A.ma r.mud.length A.mc) (.slice A.ga r.gauges.length A.gc)) := hX2
                replace hw := hw2
                clear oc of hX2 hWj hw1 hw2
                refine hK _ _ hS34 ?_
                clear hK K
                try simp only [pz]
                repeat (first
                  | (refine ord_skip rfl ?_ ?_; rfl; simp only [pz])
                  | (refine ord_take (v := ?_) rfl ?_ (fun W hW => ?_) ?_; rotate_left; rfl; (obtain ⟨k0, k1, k2, k3, k4, k5, k6, k7, k8, k9⟩ := hW; go_simp; (first | done | with_reducible rfl)); simp only [pz]))
                refine ord_op rfl ?_ (fun K hK => ?_)
                rfl
                skip
                have oc := cell_blk (k := 2) hX
                have of := frozen_blk (k := 2) hX
                go_simp
                obtain ⟨W35, hWj, hX2, hw1, hw2⟩ := st_new (fi := 2) (v := .slice aM r.mud.length cM) hX hw
                rw [hWj]
                have hS35 := BoxR.wr hS34 hw1 (fun e => by have : w.heap.size = xb := e; omega)
                replace hOS := hOS.wr hw1 (fun b h e => by have : b = xb := e; omega)
                replace hOM := hOM.wr hw1 (fun b h e => by have : b = xb := e; omega)
                replace hOG := hOG.wr hw1 (fun b h e => by have : b = xb := e; omega)
                replace hX : W35.heap[xb]? = some (bx26 r A (.slice aS r.salt.length cS) (.slice aM r.mud.length cM) (.slice A.ga r.gauges.length A.gc)) := hX2
                replace hw := hw2
                clear oc of hX2 hWj hw1 hw2
                refine hK _ _ hS35 ?_
                clear hK K
                try simp only [pz]
                repeat (first
                  | (refine ord_skip rfl ?_ ?_; rfl; simp only [pz])
                  | (refine ord_take (v := ?_) rfl ?_ (fun W hW => ?_) ?_; rotate_left; rfl; (obtain ⟨k0, k1, k2, k3, k4, k5, k6, k7, k8, k9⟩ := hW; go_simp; (first | done | with_reducible rfl)); simp only [pz]))
                refine ord_op rfl ?_ (fun K hK => ?_)
                rfl
                skip
                have oc := cell_blk (k := 9) hX
                have of := frozen_blk (k := 9) hX
                go_simp
                obtain ⟨W36, hWj, hX2, hw1, hw2⟩ := st_new (fi := 9) (v := .slice aG r.gauges.length cG) hX hw
                rw [hWj]
                have hS36 := BoxR.wr hS35 hw1 (fun e => by have : w.heap.size = xb := e; omega)
                replace hOS := hOS.wr hw1 (fun b h e => by have : b = xb := e; omega)
                replace hOM := hOM.wr hw1 (fun b h e => by have : b = xb := e; omega)
                replace hOG := hOG.wr hw1 (fun b h e => by have : b = xb := e; omega)
                replace hX : W36.heap[xb]? = some (bx26 r A (.slice aS r.salt.length cS) (.slice aM r.mud.length cM) (.slice aG r.gauges.length cG)) := hX2
                replace hw := hw2
                clear oc of hX2 hWj hw1 hw2
                refine hK _ _ hS36 ?_
                clear hK K
                try simp only [pz]
                refine ord_nil ?_
                go_wp2_with fail
                go_meet
                case rel => exact ⟨aS, cS, aM, cM, aG, cG, hX, hOS, hOM, hOG, hw, hDJ⟩
            · skip
              refine ord_op rfl ?_ (fun K hK => ?_)
              rfl
              go_simp
              obtain ⟨eG, W37, heb, hWj, hb, hEG, hzG, ho⟩ := eb_new hBW 99
              rw [hWj, heb]
              (try have nSG := (ho _ _ hES).1)
              (try replace hES := (ho _ _ hES).2)
              (try replace hOS := hOS.below hb)
              (try have nMG := (ho _ _ hEM).1)
              (try replace hEM := (ho _ _ hEM).2)
              (try replace hOM := hOM.below hb)
              replace hBW := hBW.trans (hb.mono hBW.size)
              have hS37 := BoxR.below hS23 hb
              clear heb hWj hb ho
              refine hK _ _ hS37 ?_
              clear hK K
              try simp only [pz]
              refine ord_op rfl ?_ (fun K hK => ?_)
              rfl
              skip
              refine wp_app elRgR _ _ rfl rfl rfl (own_none hES hzS) (HRX0.out.s.below hBW) (len_flat rgc 2 (fun _ => rfl) r.salt) (ones_rgs r.salt) (by omega) (by omega) (by have := hBW.size; omega) ?_
              intro vS W38 hown hg hor
              obtain ⟨aS, cS, rfl, hOS, hB2, hwr, ho⟩ := ap_new hBW hES hzS hown hg
              skip
              (try replace hOM := hOM.grown hES hg)
              (try replace hEM := ho _ _ (by first | exact nMS | exact (nSM).symm) hEM)
              (try replace hOG := hOG.grown hES hg)
              (try replace hEG := ho _ _ (by first | exact nGS | exact (nSG).symm) hEG)
              have hS38 := BoxR.wr hS37 hwr (fun e => by have := Option.some.inj e; omega)
              replace hBW := hB2
              clear hown hg hor hB2 hwr ho hES
              refine hK _ _ hS38 ?_
              clear hK K
              try simp only [pz]
              repeat (first
                | (refine ord_skip rfl ?_ ?_; rfl; simp only [pz])
                | (refine ord_take (v := ?_) rfl ?_ (fun W hW => ?_) ?_; rotate_left; rfl; (obtain ⟨k0, k1, k2, k3, k4, k5, k6, k7, k8, k9⟩ := hW; go_simp; (first | done | with_reducible rfl)); simp only [pz]))
              refine ord_op rfl ?_ (fun K hK => ?_)
              rfl
              skip
              refine wp_app elRgR _ _ rfl rfl rfl (own_none hEM hzM) (HRX0.out.m.below hBW) (len_flat rgc 2 (fun _ => rfl) r.mud) (ones_rgs r.mud) (by omega) (by omega) (by have := hBW.size; omega) ?_
              intro vM W39 hown hg hor
              obtain ⟨aM, cM, rfl, hOM, hB2, hwr, ho⟩ := ap_new hBW hEM hzM hown hg
              skip
              have hDJ := dj_new hOS hEM hor
              (try replace hOS := hOS.grown hEM hg)
              (try replace hES := ho _ _ (by first | exact nSM | exact (nMS).symm) hES)
              (try replace hOG := hOG.grown hEM hg)
              (try replace hEG := ho _ _ (by first | exact nGM | exact (nMG).symm) hEG)
              have hS39 := BoxR.wr hS38 hwr (fun e => by have := Option.some.inj e; omega)
              replace hBW := hB2
              clear hown hg hor hB2 hwr ho hEM
              refine hK _ _ hS39 ?_
              clear hK K
              try simp only [pz]
              refine ord_op rfl ?_ (fun K hK => ?_)
              rfl
              skip
              refine wp_app elGgR _ _ rfl rfl rfl (own_none hEG hzG) (HRX0.out.g.below hBW) (len_flat ggc 4 (fun _ => rfl) r.gauges) (ones_ggs r.gauges) (by omega) (by omega) (by have := hBW.size; omega) ?_
              intro vG W40 hown hg hor
              obtain ⟨aG, cG, rfl, hOG, hB2, hwr, ho⟩ := ap_new hBW hEG hzG hown hg
              skip
              (try replace hOS := hOS.grown hEG hg)
              (try replace hES := ho _ _ (by first | exact nSG | exact (nGS).symm) hES)
              (try replace hOM := hOM.grown hEG hg)
              (try replace hEM := ho _ _ (by first | exact nMG | exact (nGM).symm) hEM)
              have hS40 := BoxR.wr hS39 hwr (fun e => by have := Option.some.inj e; omega)
              replace hBW := hB2
              clear hown hg hor hB2 hwr ho hEG
              refine hK _ _ hS40 ?_
              clear hK K
              try simp only [pz]
              refine ord_op rfl ?_ (fun K hK => ?_)
              rfl
              skip
              have hX := (hBW.block _ hxl).trans HX1.out
              have hw := Wr.of_below (S := fun k => k = xb) hBW
              have oc := cell_blk (k := 1) hX
              have of := frozen_blk (k := 1) hX
              go_simp
              obtain ⟨W41, hWj, hX2, hw1, hw2⟩ := st_new (fi := 1) (v := .slice aS r.salt.length cS) hX hw
              rw [hWj]
              have hS41 := BoxR.wr hS40 hw1 (fun e => by have : w.heap.size = xb := e; omega)
              replace hOS := hOS.wr hw1 (fun b h e => by have : b = xb := e; omega)
              replace hOM := hOM.wr hw1 (fun b h e => by have : b = xb := e; omega)
              replace hOG := hOG.wr hw1 (fun b h e => by have : b = xb := e; omega)
              replace hX : W41.heap[xb]? = some (bx26 r A (.slice aS r.salt.length cS) (.slice A.ma r.mud.length A.mc) (.slice A.ga r.gauges.length A.gc)) := hX2
              replace hw := hw2
              clear oc of hX2 hWj hw1 hw2
              refine hK _ _ hS41 ?_
              clear hK K
              try simp only [pz]
              repeat (first
                | (refine ord_skip rfl ?_ ?_; rfl; simp only [pz])
                | (refine ord_take (v := ?_) rfl ?_ (fun W hW => ?_) ?_; rotate_left; rfl; (obtain ⟨k0, k1, k2, k3, k4, k5, k6, k7, k8, k9⟩ := hW; go_simp; (first | done | with_reducible rfl)); simp only [pz]))
              refine ord_op rfl ?_ (fun K hK => ?_)
              rfl
              skip
              have oc := cell_blk (k := 2) hX
              have of := frozen_blk (k := 2) hX
              go_simp
              obtain ⟨W42, hWj, hX2, hw1, hw2⟩ := st_new (fi := 2) (v := .slice aM r.mud.length cM) hX hw
              rw [hWj]
              have hS42 := BoxR.wr hS41 hw1 (fun e => by have : w.heap.size = xb := e; omega)
              replace hOS := hOS.wr hw1 (fun b h e => by have : b = xb := e; omega)
              replace hOM := hOM.wr hw1 (fun b h e => by have : b = xb := e; omega)
              replace hOG := hOG.wr hw1 (fun b h e => by have : b = xb := e; omega)
              replace hX : W42.heap[xb]? = some (bx26 r A (.slice aS r.salt.length cS) (.slice aM r.mud.length cM) (.slice A.ga r.gauges.length A.gc)) := hX2
              replace hw := hw2
              clear oc of hX2 hWj hw1 hw2
              refine hK _ _ hS42 ?_
              clear hK K
              try simp only [pz]
              repeat (first
                | (refine ord_skip rfl ?_ ?_; rfl; simp only [pz])
                | (refine ord_take (v := ?_) rfl ?_ (fun W hW => ?_) ?_; rotate_left; rfl; (obtain ⟨k0, k1, k2, k3, k4, k5, k6, k7, k8, k9⟩ := hW; go_simp; (first | done | with_reducible rfl)); simp only [pz]))
              refine ord_op rfl ?_ (fun K hK => ?_)
              rfl
              skip
              have oc := cell_blk (k := 9) hX
              have of := frozen_blk (k := 9) hX
              go_simp
              obtain ⟨W43, hWj, hX2, hw1, hw2⟩ := st_new (fi := 9) (v := .slice aG r.gauges.length cG) hX hw
              rw [hWj]
              have hS43 := BoxR.wr hS42 hw1 (fun e => by have : w.heap.size = xb := e; omega)
              replace hOS := hOS.wr hw1 (fun b h e => by have : b = xb := e; omega)
              replace hOM := hOM.wr hw1 (fun b h e => by have : b = xb := e; omega)
              replace hOG := hOG.wr hw1 (fun b h e => by have : b = xb := e; omega)
              replace hX : W43.heap[xb]? = some (bx26 r A (.slice aS r.salt.length cS) (.slice aM r.mud.length cM) (.slice aG r.gauges.length cG)) := hX2
              replace hw := hw2
              clear oc of hX2 hWj hw1 hw2
              refine hK _ _ hS43 ?_
              clear hK K
              try simp only [pz]
              refine ord_nil ?_
              go_wp2_with fail
              go_meet
              case rel => exact ⟨aS, cS, aM, cM, aG, cG, hX, hOS, hOM, hOG, hw, hDJ⟩
          · skip
            refine ord_op rfl ?_ (fun K hK => ?_)
            rfl
            go_simp
            obtain ⟨eG, W44, heb, hWj, hb, hEG, hzG, ho⟩ := eb_new hBW 99
            rw [hWj, heb]
            (try have nSG := (ho _ _ hES).1)
            (try replace hES := (ho _ _ hES).2)
            (try replace hOS := hOS.below hb)
            (try have nMG := (ho _ _ hEM).1)
            (try replace hEM := (ho _ _ hEM).2)
            (try replace hOM := hOM.below hb)
            replace hBW := hBW.trans (hb.mono hBW.size)
            have hS44 := BoxR.below hS1 hb
            clear heb hWj hb ho
            refine hK _ _ hS44 ?_
            clear hK K
            try simp only [pz]
            refine ord_two ?_ ?_
            · skip
              refine ord_op rfl ?_ (fun K hK => ?_)
              rfl
              skip
              refine wp_app elRgR _ _ rfl rfl rfl (own_none hES hzS) (HRX0.out.s.below hBW) (len_flat rgc 2 (fun _ => rfl) r.salt) (ones_rgs r.salt) (by omega) (by omega) (by have := hBW.size; omega) ?_
              intro vS W45 hown hg hor
              obtain ⟨aS, cS, rfl, hOS, hB2, hwr, ho⟩ := ap_new hBW hES hzS hown hg
              skip
              (try replace hOM := hOM.grown hES hg)
              (try replace hEM := ho _ _ (by first | exact nMS | exact (nSM).symm) hEM)
              (try replace hOG := hOG.grown hES hg)
              (try replace hEG := ho _ _ (by first | exact nGS | exact (nSG).symm) hEG)
              have hS45 := BoxR.wr hS44 hwr (fun e => by have := Option.some.inj e; omega)
              replace hBW := hB2
              clear hown hg hor hB2 hwr ho hES
              refine hK _ _ hS45 ?_
              clear hK K
              try simp only [pz]
              repeat (first
                | (refine ord_skip rfl ?_ ?_; rfl; simp only [pz])
                | (refine ord_take (v := ?_) rfl ?_ (fun W hW => ?_) ?_; rotate_left; rfl; (obtain ⟨k0, k1, k2, k3, k4, k5, k6, k7, k8, k9⟩ := hW; go_simp; (first | done | with_reducible rfl)); simp only [pz]))
              refine ord_op rfl ?_ (fun K hK => ?_)
              rfl
              go_simp
              obtain ⟨eM, W46, heb, hWj, hb, hEM, hzM, ho⟩ := eb_new hBW 51
              rw [hWj, heb]
              (try have nSM := (ho _ _ hES).1)
              (try replace hES := (ho _ _ hES).2)
              (try replace hOS := hOS.below hb)
              (try have nGM := (ho _ _ hEG).1)
              (try replace hEG := (ho _ _ hEG).2)
              (try replace hOG := hOG.below hb)
              replace hBW := hBW.trans (hb.mono hBW.size)
              have hS46 := BoxR.below hS45 hb
              clear heb hWj hb ho
              refine hK _ _ hS46 ?_
              clear hK K
              try simp only [pz]
              refine ord_op rfl ?_ (fun K hK => ?_)
              rfl
              skip
              refine wp_app elRgR _ _ rfl rfl rfl (own_none hEM hzM) (HRX0.out.m.below hBW) (len_flat rgc 2 (fun _ => rfl) r.mud) (ones_rgs r.mud) (by omega) (by omega) (by have := hBW.size; omega) ?_
              intro vM W47 hown hg hor
              obtain ⟨aM, cM, rfl, hOM, hB2, hwr, ho⟩ := ap_new hBW hEM hzM hown hg
              skip
              have hDJ := dj_new hOS hEM hor
              (try replace hOS := hOS.grown hEM hg)
              (try replace hES := ho _ _ (by first | exact nSM | exact (nMS).symm) hES)
              (try replace hOG := hOG.grown hEM hg)
              (try replace hEG := ho _ _ (by first | exact nGM | exact (nMG).symm) hEG)
              have hS47 := BoxR.wr hS46 hwr (fun e => by have := Option.some.inj e; omega)
              replace hBW := hB2
              clear hown hg hor hB2 hwr ho hEM
              refine hK _ _ hS47 ?_
              clear hK K
              try simp only [pz]
              refine ord_op rfl ?_ (fun K hK => ?_)
              rfl
              skip
              refine wp_app elGgR _ _ rfl rfl rfl (own_none hEG hzG) (HRX0.out.g.below hBW) (len_flat ggc 4 (fun _ => rfl) r.gauges) (ones_ggs r.gauges) (by omega) (by omega) (by have := hBW.size; omega) ?_
              intro vG W48 hown hg hor
              obtain ⟨aG, cG, rfl, hOG, hB2, hwr, ho⟩ := ap_new hBW hEG hzG hown hg
              skip
              (try replace hOS := hOS.grown hEG hg)
              (try replace hES := ho _ _ (by first | exact nSG | exact (nGS).symm) hES)
              (try replace hOM := hOM.grown hEG hg)
              (try replace hEM := ho _ _ (by first | exact nMG | exact (nGM).symm) hEM)
              have hS48 := BoxR.wr hS47 hwr (fun e => by have := Option.some.inj e; omega)
              replace hBW := hB2
              clear hown hg hor hB2 hwr ho hEG
              refine hK _ _ hS48 ?_
              clear hK K
              try simp only [pz]
              refine ord_op rfl ?_ (fun K hK => ?_)
              rfl
              skip
              have hX := (hBW.block _ hxl).trans HX1.out
              have hw := Wr.of_below (S := fun k => k = xb) hBW
              have oc := cell_blk (k := 1) hX
              have of := frozen_blk (k := 1) hX
              go_simp
              obtain ⟨W49, hWj, hX2, hw1, hw2⟩ := st_new (fi := 1) (v := .slice aS r.salt.length cS) hX hw
              rw [hWj]
              have hS49 := BoxR.wr hS48 hw1 (fun e => by have : w.heap.size = xb := e; omega)
              replace hOS := hOS.wr hw1 (fun b h e => by have : b = xb := e; omega)
              replace hOM := hOM.wr hw1 (fun b h e => by have : b = xb := e; omega)
              replace hOG := hOG.wr hw1 (fun b h e => by have : b = xb := e; omega)
              replace hX : W49.heap[xb]? = some (bx26 r A (.slice aS r.salt.length cS) (.slice A.ma r.mud.length A.mc) (.slice A.ga r.gauges.length A.gc)) := hX2
              replace hw := hw2
              clear oc of hX2 hWj hw1 hw2
              refine hK _ _ hS49 ?_
              clear hK K
              try simp only [pz]
              repeat (first
                | (refine ord_skip rfl ?_ ?_; rfl; simp only [pz])
                | (refine ord_take (v := ?_) rfl ?_ (fun W hW => ?_) ?_; rotate_left; rfl; (obtain ⟨k0, k1, k2, k3, k4, k5, k6, k7, k8, k9⟩ := hW; go_simp; (first | done | with_reducible rfl)); simp only [pz]))
              refine ord_op rfl ?_ (fun K hK => ?_)
              rfl
              skip
              have oc := cell_blk (k := 2) hX
              have of := frozen_blk (k := 2) hX
              go_simp
              obtain ⟨W50, hWj, hX2, hw1, hw2⟩ := st_new (fi := 2) (v := .slice aM r.mud.length cM) hX hw
              rw [hWj]
              have hS50 := BoxR.wr hS49 hw1 (fun e => by have : w.heap.size = xb := e; omega)
              replace hOS := hOS.wr hw1 (fun b h e => by have : b = xb := e; omega)
              replace hOM := hOM.wr hw1 (fun b h e => by have : b = xb := e; omega)
              replace hOG := hOG.wr hw1 (fun b h e => by have : b = xb := e; omega)
              replace hX : W50.heap[xb]? = some (bx26 r A (.slice aS r.salt.length cS) (.slice aM r.mud.length cM) (.slice A.ga r.gauges.length A.gc)) := hX2
              replace hw := hw2
              clear oc of hX2 hWj hw1 hw2
              refine hK _ _ hS50 ?_
              clear hK K
              try simp only [pz]
              repeat (first
                | (refine ord_skip rfl ?_ ?_; rfl; simp only [pz])
                | (refine ord_take (v := ?_) rfl ?_ (fun W hW => ?_) ?_; rotate_left; rfl; (obtain ⟨k0, k1, k2, k3, k4, k5, k6, k7, k8, k9⟩ := hW; go_simp; (first | done | with_reducible rfl)); simp only [pz]))
              refine ord_op rfl ?_ (fun K hK => ?_)
              rfl
              skip
              have oc := cell_blk (k := 9) hX
              have of := frozen_blk (k := 9) hX
              go_simp
              obtain ⟨W51, hWj, hX2, hw1, hw2⟩ := st_new (fi := 9) (v := .slice aG r.gauges.length cG) hX hw
              rw [hWj]
              have hS51 := BoxR.wr hS50 hw1 (fun e => by have : w.heap.size = xb := e; omega)
              replace hOS := hOS.wr hw1 (fun b h e => by have : b = xb := e; omega)
              replace hOM := hOM.wr hw1 (fun b h e => by have : b = xb := e; omega)
              replace hOG := hOG.wr hw1 (fun b h e => by have : b = xb := e; omega)
              replace hX : W51.heap[xb]? = some (bx26 r A (.slice aS r.salt.length cS) (.slice aM r.mud.length cM) (.slice aG r.gauges.length cG)) := hX2
              replace hw := hw2
              clear oc of hX2 hWj hw1 hw2
              refine hK _ _ hS51 ?_
              clear hK K
              try simp only [pz]
              refine ord_nil ?_
              go_wp2_with fail
              go_meet
              case rel => exact ⟨aS, cS, aM, cM, aG, cG, hX, hOS, hOM, hOG, hw, hDJ⟩
            · skip
              refine ord_op rfl ?_ (fun K hK => ?_)
              rfl
              go_simp
              obtain ⟨eM, W52, heb, hWj, hb, hEM, hzM, ho⟩ := eb_new hBW 51
              rw [hWj, heb]
              (try have nSM := (ho _ _ hES).1)
              (try replace hES := (ho _ _ hES).2)
              (try replace hOS := hOS.below hb)
              (try have nGM := (ho _ _ hEG).1)
              (try replace hEG := (ho _ _ hEG).2)
              (try replace hOG := hOG.below hb)
              replace hBW := hBW.trans (hb.mono hBW.size)
              have hS52 := BoxR.below hS44 hb
              clear heb hWj hb ho
              refine hK _ _ hS52 ?_
              clear hK K
              try simp only [pz]
              refine ord_op rfl ?_ (fun K hK => ?_)
              rfl
              skip
              refine wp_app elRgR _ _ rfl rfl rfl (own_none hES hzS) (HRX0.out.s.below hBW) (len_flat rgc 2 (fun _ => rfl) r.salt) (ones_rgs r.salt) (by omega) (by omega) (by have := hBW.size; omega) ?_
              intro vS W53 hown hg hor
              obtain ⟨aS, cS, rfl, hOS, hB2, hwr, ho⟩ := ap_new hBW hES hzS hown hg
              skip
              (try replace hOM := hOM.grown hES hg)
              (try replace hEM := ho _ _ (by first | exact nMS | exact (nSM).symm) hEM)
              (try replace hOG := hOG.grown hES hg)
              (try replace hEG := ho _ _ (by first | exact nGS | exact (nSG).symm) hEG)
              have hS53 := BoxR.wr hS52 hwr (fun e => by have := Option.some.inj e; omega)
              replace hBW := hB2
              clear hown hg hor hB2 hwr ho hES
              refine hK _ _ hS53 ?_
              clear hK K
              try simp only [pz]
              repeat (first
                | (refine ord_skip rfl ?_ ?_; rfl; simp only [pz])
                | (refine ord_take (v := ?_) rfl ?_ (fun W hW => ?_) ?_; rotate_left; rfl; (obtain ⟨k0, k1, k2, k3, k4, k5, k6, k7, k8, k9⟩ := hW; go_simp; (first | done | with_reducible rfl)); simp only [pz]))
              refine ord_op rfl ?_ (fun K hK => ?_)
              rfl
              skip
              refine wp_app elRgR _ _ rfl rfl rfl (own_none hEM hzM) (HRX0.out.m.below hBW) (len_flat rgc 2 (fun _ => rfl) r.mud) (ones_rgs r.mud) (by omega) (by omega) (by have := hBW.size; omega) ?_
              intro vM W54 hown hg hor
              obtain ⟨aM, cM, rfl, hOM, hB2, hwr, ho⟩ := ap_new hBW hEM hzM hown hg
              skip
              have hDJ := dj_new hOS hEM hor
              (try replace hOS := hOS.grown hEM hg)
              (try replace hES := ho _ _ (by first | exact nSM | exact (nMS).symm) hES)
              (try replace hOG := hOG.grown hEM hg)
              (try replace hEG := ho _ _ (by first | exact nGM | exact (nMG).symm) hEG)
              have hS54 := BoxR.wr hS53 hwr (fun e => by have := Option.some.inj e; omega)
              replace hBW := hB2
              clear hown hg hor hB2 hwr ho hEM
              refine hK _ _ hS54 ?_
              clear hK K
              try simp only [pz]
              refine ord_op rfl ?_ (fun K hK => ?_)
              rfl
              skip
              refine wp_app elGgR _ _ rfl rfl rfl (own_none hEG hzG) (HRX0.out.g.below hBW) (len_flat ggc 4 (fun _ => rfl) r.gauges) (ones_ggs r.gauges) (by omega) (by omega) (by have := hBW.size; omega) ?_
              intro vG W55 hown hg hor
              obtain ⟨aG, cG, rfl, hOG, hB2, hwr, ho⟩ := ap_new hBW hEG hzG hown hg
              skip
              (try replace hOS := hOS.grown hEG hg)
              (try replace hES := ho _ _ (by first | exact nSG | exact (nGS).symm) hES)
              (try replace hOM := hOM.grown hEG hg)
              (try replace hEM := ho _ _ (by first | exact nMG | exact (nGM).symm) hEM)
              have hS55 := BoxR.wr hS54 hwr (fun e => by have := Option.some.inj e; omega)
              replace hBW := hB2
              clear hown hg hor hB2 hwr ho hEG
              refine hK _ _ hS55 ?_
              clear hK K
              try simp only [pz]
              refine ord_op rfl ?_ (fun K hK => ?_)
              rfl
              skip
              have hX := (hBW.block _ hxl).trans HX1.out
              have hw := Wr.of_below (S := fun k => k = xb) hBW
              have oc := cell_blk (k := 1) hX
              have of := frozen_blk (k := 1) hX
              go_simp
              obtain ⟨W56, hWj, hX2, hw1, hw2⟩ := st_new (fi := 1) (v := .slice aS r.salt.length cS) hX hw
              rw [hWj]
              have hS56 := BoxR.wr hS55 hw1 (fun e => by have : w.heap.size = xb := e; omega)
              replace hOS := hOS.wr hw1 (fun b h e => by have : b = xb := e; omega)
              replace hOM := hOM.wr hw1 (fun b h e => by have : b = xb := e; omega)
              replace hOG := hOG.wr hw1 (fun b h e => by have : b = xb := e; omega)
              replace hX : W56.heap[xb]? = some (bx26 r A (.slice aS r.salt.length cS) (.slice A.ma r.mud.length A.mc) (.slice A.ga r.gauges.length A.gc)) := hX2
              replace hw := hw2
              clear oc of hX2 hWj hw1 hw2
              refine hK _ _ hS56 ?_
              clear hK K
              try simp only [pz]
              repeat (first
                | (refine ord_skip rfl ?_ ?_; rfl; simp only [pz])
                | (refine ord_take (v := ?_) rfl ?_ (fun W hW => ?_) ?_; rotate_left; rfl; (obtain ⟨k0, k1, k2, k3, k4, k5, k6, k7, k8, k9⟩ := hW; go_simp; (first | done | with_reducible rfl)); simp only [pz]))
              refine ord_op rfl ?_ (fun K hK => ?_)
              rfl
              skip
              have oc := cell_blk (k := 2) hX
              have of := frozen_blk (k := 2) hX
              go_simp
              obtain ⟨W57, hWj, hX2, hw1, hw2⟩ := st_new (fi := 2) (v := .slice aM r.mud.length cM) hX hw
              rw [hWj]
              have hS57 := BoxR.wr hS56 hw1 (fun e => by have : w.heap.size = xb := e; omega)
              replace hOS := hOS.wr hw1 (fun b h e => by have : b = xb := e; omega)
              replace hOM := hOM.wr hw1 (fun b h e => by have : b = xb := e; omega)
              replace hOG := hOG.wr hw1 (fun b h e => by have : b = xb := e; omega)
              replace hX : W57.heap[xb]? = some (bx26 r A (.slice aS r.salt.length cS) (.slice aM r.mud.length cM) (.slice A.ga r.gauges.length A.gc)) := hX2
              replace hw := hw2
              clear oc of hX2 hWj hw1 hw2
              refine hK _ _ hS57 ?_
              clear hK K
              try simp only [pz]
              repeat (first
                | (refine ord_skip rfl ?_ ?_; rfl; simp only [pz])
                | (refine ord_take (v := ?_) rfl ?_ (fun W hW => ?_) ?_; rotate_left; rfl; (obtain ⟨k0, k1, k2, k3, k4, k5, k6, k7, k8, k9⟩ := hW; go_simp; (first | done | with_reducible rfl)); simp only [pz]))
              refine ord_op rfl ?_ (fun K hK => ?_)
              rfl
              skip
              have oc := cell_blk (k := 9) hX
              have of := frozen_blk (k := 9) hX
              go_simp
              obtain ⟨W58, hWj, hX2, hw1, hw2⟩ := st_new (fi := 9) (v := .slice aG r.gauges.length cG) hX hw
              rw [hWj]
              have hS58 := BoxR.wr hS57 hw1 (fun e => by have : w.heap.size = xb := e; omega)
              replace hOS := hOS.wr hw1 (fun b h e => by have : b = xb := e; omega)
              replace hOM := hOM.wr hw1 (fun b h e => by have : b = xb := e; omega)
              replace hOG := hOG.wr hw1 (fun b h e => by have : b = xb := e; omega)
              replace hX : W58.heap[xb]? = some (bx26 r A (.slice aS r.salt.length cS) (.slice aM r.mud.length cM) (.slice aG r.gauges.length cG)) := hX2
              replace hw := hw2
              clear oc of hX2 hWj hw1 hw2
              refine hK _ _ hS58 ?_
              clear hK K
              try simp only [pz]
              refine ord_nil ?_
              go_wp2_with fail
              go_meet
              case rel => exact ⟨aS, cS, aM, cM, aG, cG, hX, hOS, hOM, hOG, hw, hDJ⟩
        · skip
          refine ord_op rfl ?_ (fun K hK => ?_)
          rfl
          go_simp
          obtain ⟨eM, W59, heb, hWj, hb, hEM, hzM, ho⟩ := eb_new hBW 51
          rw [hWj, heb]
          (try have nSM := (ho _ _ hES).1)
          (try replace hES := (ho _ _ hES).2)
          (try replace hOS := hOS.below hb)
          (try have nGM := (ho _ _ hEG).1)
          (try replace hEG := (ho _ _ hEG).2)
          (try replace hOG := hOG.below hb)
          replace hBW := hBW.trans (hb.mono hBW.size)
          have hS59 := BoxR.below hS0 hb
          clear heb hWj hb ho
          refine hK _ _ hS59 ?_
          clear hK K
          try simp only [pz]
          refine ord_two ?_ ?_
          · skip
            refine ord_op rfl ?_ (fun K hK => ?_)
            rfl
            go_simp
            obtain ⟨eS, W60, heb, hWj, hb, hES, hzS, ho⟩ := eb_new hBW 51
            rw [hWj, heb]
            (try have nMS := (ho _ _ hEM).1)
            (try replace hEM := (ho _ _ hEM).2)
            (try replace hOM := hOM.below hb)
            (try have nGS := (ho _ _ hEG).1)
            (try replace hEG := (ho _ _ hEG).2)
            (try replace hOG := hOG.below hb)
            replace hBW := hBW.trans (hb.mono hBW.size)
            have hS60 := BoxR.below hS59 hb
            clear heb hWj hb ho
            refine hK _ _ hS60 ?_
            clear hK K
            try simp only [pz]
            refine ord_two ?_ ?_
            · skip
              refine ord_op rfl ?_ (fun K hK => ?_)
              rfl
              skip
              refine wp_app elRgR _ _ rfl rfl rfl (own_none hES hzS) (HRX0.out.s.below hBW) (len_flat rgc 2 (fun _ => rfl) r.salt) (ones_rgs r.salt) (by omega) (by omega) (by have := hBW.size; omega) ?_
              intro vS W61 hown hg hor
              obtain ⟨aS, cS, rfl, hOS, hB2, hwr, ho⟩ := ap_new hBW hES hzS hown hg
              skip
              (try replace hOM := hOM.grown hES hg)
              (try replace hEM := ho _ _ (by first | exact nMS | exact (nSM).symm) hEM)
              (try replace hOG := hOG.grown hES hg)
              (try replace hEG := ho _ _ (by first | exact nGS | exact (nSG).symm) hEG)
              have hS61 := BoxR.wr hS60 hwr (fun e => by have := Option.some.inj e; omega)
              replace hBW := hB2
              clear hown hg hor hB2 hwr ho hES
              refine hK _ _ hS61 ?_
              clear hK K
              try simp only [pz]
              repeat (first
                | (refine ord_skip rfl ?_ ?_; rfl; simp only [pz])
                | (refine ord_take (v := ?_) rfl ?_ (fun W hW => ?_) ?_; rotate_left; rfl; (obtain ⟨k0, k1, k2, k3, k4, k5, k6, k7, k8, k9⟩ := hW; go_simp; (first | done | with_reducible rfl)); simp only [pz]))
              refine ord_two ?_ ?_
              · skip
                refine ord_op rfl ?_ (fun K hK => ?_)
                rfl
                skip
                refine wp_app elRgR _ _ rfl rfl rfl (own_none hEM hzM) (HRX0.out.m.below hBW) (len_flat rgc 2 (fun _ => rfl) r.mud) (ones_rgs r.mud) (by omega) (by omega) (by have := hBW.size; omega) ?_
                intro vM W62 hown hg hor
                obtain ⟨aM, cM, rfl, hOM, hB2, hwr, ho⟩ := ap_new hBW hEM hzM hown hg
                skip
                have hDJ := dj_new hOS hEM hor
                (try replace hOS := hOS.grown hEM hg)
                (try replace hES := ho _ _ (by first | exact nSM | exact (nMS).symm) hES)
                (try replace hOG := hOG.grown hEM hg)
                (try replace hEG := ho _ _ (by first | exact nGM | exact (nMG).symm) hEG)
                have hS62 := BoxR.wr hS61 hwr (fun e => by have := Option.some.inj e; omega)
                replace hBW := hB2
                clear hown hg hor hB2 hwr ho hEM
                refine hK _ _ hS62 ?_
                clear hK K
                try simp only [pz]
                refine ord_op rfl ?_ (fun K hK => ?_)
                rfl
                go_simp
                obtain ⟨eG, W63, heb, hWj, hb, hEG, hzG, ho⟩ := eb_new hBW 99
                rw [hWj, heb]
                (try have nSG := (ho _ _ hES).1)
                (try replace hES := (ho _ _ hES).2)
                (try replace hOS := hOS.below hb)
                (try have nMG := (ho _ _ hEM).1)
                (try replace hEM := (ho _ _ hEM).2)
                (try replace hOM := hOM.below hb)
                replace hBW := hBW.trans (hb.mono hBW.size)
                have hS63 := BoxR.below hS62 hb
                clear heb hWj hb ho
                refine hK _ _ hS63 ?_
                clear hK K
                try simp only [pz]
                refine ord_op rfl ?_ (fun K hK => ?_)
                rfl
                skip
                refine wp_app elGgR _ _ rfl rfl rfl (own_none hEG hzG) (HRX0.out.g.below hBW) (len_flat ggc 4 (fun _ => rfl) r.gauges) (ones_ggs r.gauges) (by omega) (by omega) (by have := hBW.size; omega) ?_
                intro vG W64 hown hg hor
                obtain ⟨aG, cG, rfl, hOG, hB2, hwr, ho⟩ := ap_new hBW hEG hzG hown hg
                skip
                (try replace hOS := hOS.grown hEG hg)
                (try replace hES := ho _ _ (by first | exact nSG | exact (nGS).symm) hES)
                (try replace hOM := hOM.grown hEG hg)
                (try replace hEM := ho _ _ (by first | exact nMG | exact (nGM).symm) hEM)
                have hS64 := BoxR.wr hS63 hwr (fun e => by have := Option.some.inj e; omega)
                replace hBW := hB2
                clear hown hg hor hB2 hwr ho hEG
                refine hK _ _ hS64 ?_
                clear hK K
                try simp only [pz]
                refine ord_op rfl ?_ (fun K hK => ?_)
                rfl
                skip
                have hX := (hBW.block _ hxl).trans HX1.out
                have hw := Wr.of_below (S := fun k => k = xb) hBW
                have oc := cell_blk (k := 1) hX
                have of := frozen_blk (k := 1) hX
                go_simp
                obtain ⟨W65, hWj, hX2, hw1, hw2⟩ := st_new (fi := 1) (v := .slice aS r.salt.length cS) hX hw
                rw [hWj]
                have hS65 := BoxR.wr hS64 hw1 (fun e => by have : w.heap.size = xb := e; omega)
                replace hOS := hOS.wr hw1 (fun b h e => by have : b = xb := e; omega)
                replace hOM := hOM.wr hw1 (fun b h e => by have : b = xb := e; omega)
                replace hOG := hOG.wr hw1 (fun b h e => by have : b = xb := e; omega)
                replace hX : W65.heap[xb]? = some (bx26 r A (.slice aS r.salt.length cS) (.slice A.ma r.mud.length A.mc) (.slice A.ga r.gauges.length A.gc)) := hX2
                replace hw := hw2
                clear oc of hX2 hWj hw1 hw2
                refine hK _ _ hS65 ?_
                clear hK K
                try simp only [pz]
                repeat (first
                  | (refine ord_skip rfl ?_ ?_; rfl; simp only [pz])
                  | (refine ord_take (v := ?_) rfl ?_ (fun W hW => ?_) ?_; rotate_left; rfl; (obtain ⟨k0, k1, k2, k3, k4, k5, k6, k7, k8, k9⟩ := hW; go_simp; (first | done | with_reducible rfl)); simp only [pz]))
                refine ord_op rfl ?_ (fun K hK => ?_)
                rfl
                skip
                have oc := cell_blk (k := 2) hX
                have of := frozen_blk (k := 2) hX
                go_simp
                obtain ⟨W66, hWj, hX2, hw1, hw2⟩ := st_new (fi := 2) (v := .slice aM r.mud.length cM) hX hw
                rw [hWj]
                have hS66 := BoxR.wr hS65 hw1 (fun e => by have : w.heap.size = xb := e; omega)
                replace hOS := hOS.wr hw1 (fun b h e => by have : b = xb := e; omega)
                replace hOM := hOM.wr hw1 (fun b h e => by have : b = xb := e; omega)
                replace hOG := hOG.wr hw1 (fun b h e => by have : b = xb := e; omega)
                replace hX : W66.heap[xb]? = some (bx26 r A (.slice aS r.salt.length cS) (.slice aM r.mud.length cM) (.slice A.ga r.gauges.length A.gc)) := hX2
                replace hw := hw2
                clear oc of hX2 hWj hw1 hw2
                refine hK _ _ hS66 ?_
                clear hK K
                try simp only [pz]
                repeat (first
                  | (refine ord_skip rfl ?_ ?_; rfl; simp only [pz])
                  | (refine ord_take (v := ?_) rfl ?_ (fun W hW => ?_) ?_; rotate_left; rfl; (obtain ⟨k0, k1, k2, k3, k4, k5, k6, k7, k8, k9⟩ := hW; go_simp; (first | done | with_reducible rfl)); simp only [pz]))
                refine ord_op rfl ?_ (fun K hK => ?_)
                rfl
                skip
                have oc := cell_blk (k := 9) hX
                have of := frozen_blk (k := 9) hX
                go_simp
                obtain ⟨W67, hWj, hX2, hw1, hw2⟩ := st_new (fi := 9) (v := .slice aG r.gauges.length cG) hX hw
                rw [hWj]
                have hS67 := BoxR.wr hS66 hw1 (fun e => by have : w.heap.size = xb := e; omega)
                replace hOS := hOS.wr hw1 (fun b h e => by have : b = xb := e; omega)
                replace hOM := hOM.wr hw1 (fun b h e => by have : b = xb := e; omega)
                replace hOG := hOG.wr hw1 (fun b h e => by have : b = xb := e; omega)
                replace hX : W67.heap[xb]? = some (bx26 r A (.slice aS r.salt.length cS) (.slice aM r.mud.length cM) (.slice aG r.gauges.length cG)) := hX2
                replace hw := hw2
                clear oc of hX2 hWj hw1 hw2
                refine hK _ _ hS67 ?_
                clear hK K
                try simp only [pz]
                refine ord_nil ?_
                go_wp2_with fail
                go_meet
                case rel => exact ⟨aS, cS, aM, cM, aG, cG, hX, hOS, hOM, hOG, hw, hDJ⟩
              · skip
                refine ord_op rfl ?_ (fun K hK => ?_)
                rfl
                go_simp
                obtain ⟨eG, W68, heb, hWj, hb, hEG, hzG, ho⟩ := eb_new hBW 99
                rw [hWj, heb]
                (try have nSG := (ho _ _ hES).1)
                (try replace hES := (ho _ _ hES).2)
                (try replace hOS := hOS.below hb)
                (try have nMG := (ho _ _ hEM).1)
                (try replace hEM := (ho _ _ hEM).2)
                (try replace hOM := hOM.below hb)
                replace hBW := hBW.trans (hb.mono hBW.size)
                have hS68 := BoxR.below hS61 hb
                clear heb hWj hb ho
                refine hK _ _ hS68 ?_
                clear hK K
                try simp only [pz]
                refine ord_op rfl ?_ (fun K hK => ?_)
                rfl
                skip
                refine wp_app elRgR _ _ rfl rfl rfl (own_none hEM hzM) (HRX0.out.m.below hBW) (len_flat rgc 2 (fun _ => rfl) r.mud) (ones_rgs r.mud) (by omega) (by omega) (by have := hBW.size; omega) ?_
                intro vM W69 hown hg hor
                obtain ⟨aM, cM, rfl, hOM, hB2, hwr, ho⟩ := ap_new hBW hEM hzM hown hg
                skip
                have hDJ := dj_new hOS hEM hor
                (try replace hOS := hOS.grown hEM hg)
                (try replace hES := ho _ _ (by first | exact nSM | exact (nMS).symm) hES)
                (try replace hOG := hOG.grown hEM hg)
                (try replace hEG := ho _ _ (by first | exact nGM | exact (nMG).symm) hEG)
                have hS69 := BoxR.wr hS68 hwr (fun e => by have := Option.some.inj e; omega)
                replace hBW := hB2
                clear hown hg hor hB2 hwr ho hEM
                refine hK _ _ hS69 ?_
                clear hK K
                try simp only [pz]
                refine ord_op rfl ?_ (fun K hK => ?_)
                rfl
                skip
                refine wp_app elGgR _ _ rfl rfl rfl (own_none hEG hzG) (HRX0.out.g.below hBW) (len_flat ggc 4 (fun _ => rfl) r.gauges) (ones_ggs r.gauges) (by omega) (by omega) (by have := hBW.size; omega) ?_
                intro vG W70 hown hg hor
                obtain ⟨aG, cG, rfl, hOG, hB2, hwr, ho⟩ := ap_new hBW hEG hzG hown hg
                skip
                (try replace hOS := hOS.grown hEG hg)
                (try replace hES := ho _ _ (by first | exact nSG | exact (nGS).symm) hES)
                (try replace hOM := hOM.grown hEG hg)
                (try replace hEM := ho _ _ (by first | exact nMG | exact (nGM).symm) hEM)
                have hS70 := BoxR.wr hS69 hwr (fun e => by have := Option.some.inj e; omega)
                replace hBW := hB2
                clear hown hg hor hB2 hwr ho hEG
                refine hK _ _ hS70 ?_
                clear hK K
                try simp only [pz]
                refine ord_op rfl ?_ (fun K hK => ?_)
                rfl
                skip
                have hX := (hBW.block _ hxl).trans HX1.out
                have hw := Wr.of_below (S := fun k => k = xb) hBW
                have oc := cell_blk (k := 1) hX
                have of := frozen_blk (k := 1) hX
                go_simp
                obtain ⟨W71, hWj, hX2, hw1, hw2⟩ := st_new (fi := 1) (v := .slice aS r.salt.length cS) hX hw
                rw [hWj]
                have hS71 := BoxR.wr hS70 hw1 (fun e => by have : w.heap.size = xb := e; omega)
                replace hOS := hOS.wr hw1 (fun b h e => by have : b = xb := e; omega)
                replace hOM := hOM.wr hw1 (fun b h e => by have : b = xb := e; omega)
                replace hOG := hOG.wr hw1 (fun b h e => by have : b = xb := e; omega)
                replace hX : W71.heap[xb]? = some (bx26 r A (.slice aS r.salt.length cS) (.slice A.ma r.mud.length A.mc) (.slice A.ga r.gauges.length A.gc)) := hX2
                replace hw := hw2
                clear oc of hX2 hWj hw1 hw2
                refine hK _ _ hS71 ?_
                clear hK K
                try simp only [pz]
                repeat (first
                  | (refine ord_skip rfl ?_ ?_; rfl; simp only [pz])
                  | (refine ord_take (v := ?_) rfl ?_ (fun W hW => ?_) ?_; rotate_left; rfl; (obtain ⟨k0, k1, k2, k3, k4, k5, k6, k7, k8, k9⟩ := hW; go_simp; (first | done | with_reducible rfl)); simp only [pz]))
                refine ord_op rfl ?_ (fun K hK => ?_)
                rfl
                skip
                have oc := cell_blk (k := 2) hX
                have of := frozen_blk (k := 2) hX
                go_simp
                obtain ⟨W72, hWj, hX2, hw1, hw2⟩ := st_new (fi := 2) (v := .slice aM r.mud.length cM) hX hw
                rw [hWj]
                have hS72 := BoxR.wr hS71 hw1 (fun e => by have : w.heap.size = xb := e; omega)
                replace hOS := hOS.wr hw1 (fun b h e => by have : b = xb := e; omega)
                replace hOM := hOM.wr hw1 (fun b h e => by have : b = xb := e; omega)
                replace hOG := hOG.wr hw1 (fun b h e => by have : b = xb := e; omega)
                replace hX : W72.heap[xb]? = some (bx26 r A (.slice aS r.salt.length cS) (.slice aM r.mud.length cM) (.slice A.ga r.gauges.length A.gc)) := hX2
                replace hw := hw2
                clear oc of hX2 hWj hw1 hw2
                refine hK _ _ hS72 ?_
                clear hK K
                try simp only [pz]
                repeat (first
                  | (refine ord_skip rfl ?_ ?_; rfl; simp only [pz])
                  | (refine ord_take (v := ?_) rfl ?_ (fun W hW => ?_) ?_; rotate_left; rfl; (obtain ⟨k0, k1, k2, k3, k4, k5, k6, k7, k8, k9⟩ := hW; go_simp; (first | done | with_reducible rfl)); simp only [pz]))
                refine ord_op rfl ?_ (fun K hK => ?_)
                rfl
                skip
                have oc := cell_blk (k := 9) hX
                have of := frozen_blk (k := 9) hX
                go_simp
                obtain ⟨W73, hWj, hX2, hw1, hw2⟩ := st_new (fi := 9) (v := .slice aG r.gauges.length cG) hX hw
                rw [hWj]
                have hS73 := BoxR.wr hS72 hw1 (fun e => by have : w.heap.size = xb := e; omega)
                replace hOS := hOS.wr hw1 (fun b h e => by have : b = xb := e; omega)
                replace hOM := hOM.wr hw1 (fun b h e => by have : b = xb := e; omega)
                replace hOG := hOG.wr hw1 (fun b h e => by have : b = xb := e; omega)
                replace hX : W73.heap[xb]? = some (bx26 r A (.slice aS r.salt.length cS) (.slice aM r.mud.length cM) (.slice aG r.gauges.length cG)) := hX2
                replace hw := hw2
                clear oc of hX2 hWj hw1 hw2
                refine hK _ _ hS73 ?_
                clear hK K
                try simp only [pz]
                refine ord_nil ?_
                go_wp2_with fail
                go_meet
                case rel => exact ⟨aS, cS, aM, cM, aG, cG, hX, hOS, hOM, hOG, hw, hDJ⟩
            · skip
              refine ord_op rfl ?_ (fun K hK => ?_)
              rfl
              go_simp
              obtain ⟨eG, W74, heb, hWj, hb, hEG, hzG, ho⟩ := eb_new hBW 99
              rw [hWj, heb]
              (try have nSG := (ho _ _ hES).1)
              (try replace hES := (ho _ _ hES).2)
              (try replace hOS := hOS.below hb)
              (try have nMG := (ho _ _ hEM).1)
              (try replace hEM := (ho _ _ hEM).2)
              (try replace hOM := hOM.below hb)
              replace hBW := hBW.trans (hb.mono hBW.size)
              have hS74 := BoxR.below hS60 hb
              clear heb hWj hb ho
              refine hK _ _ hS74 ?_
              clear hK K
              try simp only [pz]
              refine ord_op rfl ?_ (fun K hK => ?_)
              rfl
              skip
              refine wp_app elRgR _ _ rfl rfl rfl (own_none hES hzS) (HRX0.out.s.below hBW) (len_flat rgc 2 (fun _ => rfl) r.salt) (ones_rgs r.salt) (by omega) (by omega) (by have := hBW.size; omega) ?_
              intro vS W75 hown hg hor
              obtain ⟨aS, cS, rfl, hOS, hB2, hwr, ho⟩ := ap_new hBW hES hzS hown hg
              skip
              (try replace hOM := hOM.grown hES hg)
              (try replace hEM := ho _ _ (by first | exact nMS | exact (nSM).symm) hEM)
              (try replace hOG := hOG.grown hES hg)
              (try replace hEG := ho _ _ (by first | exact nGS | exact (nSG).symm) hEG)
              have hS75 := BoxR.wr hS74 hwr (fun e => by have := Option.some.inj e; omega)
              replace hBW := hB2
              clear hown hg hor hB2 hwr ho hES
              refine hK _ _ hS75 ?_
              clear hK K
              try simp only [pz]
              repeat (first
                | (refine ord_skip rfl ?_ ?_; rfl; simp only [pz])
                | (refine ord_take (v := ?_) rfl ?_ (fun W hW => ?_) ?_; rotate_left; rfl; (obtain ⟨k0, k1, k2, k3, k4, k5, k6, k7, k8, k9⟩ := hW; go_simp; (first | done | with_reducible rfl)); simp only [pz]))
              refine ord_op rfl ?_ (fun K hK => ?_)
              rfl
              skip
              refine wp_app elRgR _ _ rfl rfl rfl (own_none hEM hzM) (HRX0.out.m.below hBW) (len_flat rgc 2 (fun _ => rfl) r.mud) (ones_rgs r.mud) (by omega) (by omega) (by have := hBW.size; omega) ?_
              intro vM W76 hown hg hor
              obtain ⟨aM, cM, rfl, hOM, hB2, hwr, ho⟩ := ap_new hBW hEM hzM hown hg
              skip
              have hDJ := dj_new hOS hEM hor
              (try replace hOS := hOS.grown hEM hg)
              (try replace hES := ho _ _ (by first | exact nSM | exact (nMS).symm) hES)
              (try replace hOG := hOG.grown hEM hg)
              (try replace hEG := ho _ _ (by first | exact nGM | exact (nMG).symm) hEG)
              have hS76 := BoxR.wr hS75 hwr (fun e => by have := Option.some.inj e; omega)
              replace hBW := hB2
              clear hown hg hor hB2 hwr ho hEM
              refine hK _ _ hS76 ?_
              clear hK K
              try simp only [pz]
              refine ord_op rfl ?_ (fun K hK => ?_)
              rfl
              skip
              refine wp_app elGgR _ _ rfl rfl rfl (own_none hEG hzG) (HRX0.out.g.below hBW) (len_flat ggc 4 (fun _ => rfl) r.gauges) (ones_ggs r.gauges) (by omega) (by omega) (by have := hBW.size; omega) ?_
              intro vG W77 hown hg hor
              obtain ⟨aG, cG, rfl, hOG, hB2, hwr, ho⟩ := ap_new hBW hEG hzG hown hg
              skip
              (try replace hOS := hOS.grown hEG hg)
              (try replace hES := ho _ _ (by first | exact nSG | exact (nGS).symm) hES)
              (try replace hOM := hOM.grown hEG hg)
              (try replace hEM := ho _ _ (by first | exact nMG | exact (nGM).symm) hEM)
              have hS77 := BoxR.wr hS76 hwr (fun e => by have := Option.some.inj e; omega)
              replace hBW := hB2
              clear hown hg hor hB2 hwr ho hEG
              refine hK _ _ hS77 ?_
              clear hK K
              try simp only [pz]
              refine ord_op rfl ?_ (fun K hK => ?_)
              rfl
              skip
              have hX := (hBW.block _ hxl).trans HX1.out
              have hw := Wr.of_below (S := fun k => k = xb) hBW
              have oc := cell_blk (k := 1) hX
              have of := frozen_blk (k := 1) hX
              go_simp
              obtain ⟨W78, hWj, hX2, hw1, hw2⟩ := st_new (fi := 1) (v := .slice aS r.salt.length cS) hX hw
              rw [hWj]
              have hS78 := BoxR.wr hS77 hw1 (fun e => by have : w.heap.size = xb := e; omega)
              replace hOS := hOS.wr hw1 (fun b h e => by have : b = xb := e; omega)
              replace hOM := hOM.wr hw1 (fun b h e => by have : b = xb := e; omega)
              replace hOG := hOG.wr hw1 (fun b h e => by have : b = xb := e; omega)
              replace hX : W78.heap[xb]? = some (bx26 r A (.slice aS r.salt.length cS) (.slice A.ma r.mud.length A.mc) (.slice A.ga r.gauges.length A.gc)) := hX2
              replace hw := hw2
              clear oc of hX2 hWj hw1 hw2
              refine hK _ _ hS78 ?_
              clear hK K
              try simp only [pz]
              repeat (first
                | (refine ord_skip rfl ?_ ?_; rfl; simp only [pz])
                | (refine ord_take (v := ?_) rfl ?_ (fun W hW => ?_) ?_; rotate_left; rfl; (obtain ⟨k0, k1, k2, k3, k4, k5, k6, k7, k8, k9⟩ := hW; go_simp; (first | done | with_reducible rfl)); simp only [pz]))
              refine ord_op rfl ?_ (fun K hK => ?_)
              rfl
              skip
              have oc := cell_blk (k := 2) hX
              have of := frozen_blk (k := 2) hX
              go_simp
              obtain ⟨W79, hWj, hX2, hw1, hw2⟩ := st_new (fi := 2) (v := .slice aM r.mud.length cM) hX hw
              rw [hWj]
              have hS79 := BoxR.wr hS78 hw1 (fun e => by have : w.heap.size = xb := e; omega)
              replace hOS := hOS.wr hw1 (fun b h e => by have : b = xb := e; omega)
              replace hOM := hOM.wr hw1 (fun b h e => by have : b = xb := e; omega)
              replace hOG := hOG.wr hw1 (fun b h e => by have : b = xb := e; omega)
              replace hX : W79.heap[xb]? = some (bx26 r A (.slice aS r.salt.length cS) (.slice aM r.mud.length cM) (.slice A.ga r.gauges.length A.gc)) := hX2
              replace hw := hw2
              clear oc of hX2 hWj hw1 hw2
              refine hK _ _ hS79 ?_
              clear hK K
              try simp only [pz]
              repeat (first
                | (refine ord_skip rfl ?_ ?_; rfl; simp only [pz])
                | (refine ord_take (v := ?_) rfl ?_ (fun W hW => ?_) ?_; rotate_left; rfl; (obtain ⟨k0, k1, k2, k3, k4, k5, k6, k7, k8, k9⟩ := hW; go_simp; (first | done | with_reducible rfl)); simp only [pz]))
              refine ord_op rfl ?_ (fun K hK => ?_)
              rfl
              skip
              have oc := cell_blk (k := 9) hX
              have of := frozen_blk (k := 9) hX
              go_simp
              obtain ⟨W80, hWj, hX2, hw1, hw2⟩ := st_new (fi := 9) (v := .slice aG r.gauges.length cG) hX hw
              rw [hWj]
              have hS80 := BoxR.wr hS79 hw1 (fun e => by have : w.heap.size = xb := e; omega)
              replace hOS := hOS.wr hw1 (fun b h e => by have : b = xb := e; omega)
              replace hOM := hOM.wr hw1 (fun b h e => by have : b = xb := e; omega)
              replace hOG := hOG.wr hw1 (fun b h e => by have : b = xb := e; omega)
              replace hX : W80.heap[xb]? = some (bx26 r A (.slice aS r.salt.length cS) (.slice aM r.mud.length cM) (.slice aG r.gauges.length cG)) := hX2
              replace hw := hw2
              clear oc of hX2 hWj hw1 hw2
              refine hK _ _ hS80 ?_
              clear hK K
              try simp only [pz]
              refine ord_nil ?_
              go_wp2_with fail
              go_meet
              case rel => exact ⟨aS, cS, aM, cM, aG, cG, hX, hOS, hOM, hOG, hw, hDJ⟩
          · skip
            refine ord_op rfl ?_ (fun K hK => ?_)
            rfl
            go_simp
            obtain ⟨eG, W81, heb, hWj, hb, hEG, hzG, ho⟩ := eb_new hBW 99
            rw [hWj, heb]
            (try have nSG := (ho _ _ hES).1)
            (try replace hES := (ho _ _ hES).2)
            (try replace hOS := hOS.below hb)
            (try have nMG := (ho _ _ hEM).1)
            (try replace hEM := (ho _ _ hEM).2)
            (try replace hOM := hOM.below hb)
            replace hBW := hBW.trans (hb.mono hBW.size)
            have hS81 := BoxR.below hS59 hb
            clear heb hWj hb ho
            refine hK _ _ hS81 ?_
            clear hK K
            try simp only [pz]
            refine ord_op rfl ?_ (fun K hK => ?_)
            rfl
            go_simp
            obtain ⟨eS, W82, heb, hWj, hb, hES, hzS, ho⟩ := eb_new hBW 51
            rw [hWj, heb]
            (try have nMS := (ho _ _ hEM).1)
            (try replace hEM := (ho _ _ hEM).2)
            (try replace hOM := hOM.below hb)
            (try have nGS := (ho _ _ hEG).1)
            (try replace hEG := (ho _ _ hEG).2)
            (try replace hOG := hOG.below hb)
            replace hBW := hBW.trans (hb.mono hBW.size)
            have hS82 := BoxR.below hS81 hb
            clear heb hWj hb ho
            refine hK _ _ hS82 ?_
            clear hK K
            try simp only [pz]
            refine ord_op rfl ?_ (fun K hK => ?_)
            rfl
            skip
            refine wp_app elRgR _ _ rfl rfl rfl (own_none hES hzS) (HRX0.out.s.below hBW) (len_flat rgc 2 (fun _ => rfl) r.salt) (ones_rgs r.salt) (by omega) (by omega) (by have := hBW.size; omega) ?_
            intro vS W83 hown hg hor
            obtain ⟨aS, cS, rfl, hOS, hB2, hwr, ho⟩ := ap_new hBW hES hzS hown hg
            skip
            (try replace hOM := hOM.grown hES hg)
            (try replace hEM := ho _ _ (by first | exact nMS | exact (nSM).symm) hEM)
            (try replace hOG := hOG.grown hES hg)
            (try replace hEG := ho _ _ (by first | exact nGS | exact (nSG).symm) hEG)
            have hS83 := BoxR.wr hS82 hwr (fun e => by have := Option.some.inj e; omega)
            replace hBW := hB2
            clear hown hg hor hB2 hwr ho hES
            refine hK _ _ hS83 ?_
            clear hK K
            try simp only [pz]
            repeat (first
              | (refine ord_skip rfl ?_ ?_; rfl; simp only [pz])
              | (refine ord_take (v := ?_) rfl ?_ (fun W hW => ?_) ?_; rotate_left; rfl; (obtain ⟨k0, k1, k2, k3, k4, k5, k6, k7, k8, k9⟩ := hW; go_simp; (first | done | with_reducible rfl)); simp only [pz]))
            refine ord_op rfl ?_ (fun K hK => ?_)
            rfl
            skip
            refine wp_app elRgR _ _ rfl rfl rfl (own_none hEM hzM) (HRX0.out.m.below hBW) (len_flat rgc 2 (fun _ => rfl) r.mud) (ones_rgs r.mud) (by omega) (by omega) (by have := hBW.size; omega) ?_
            intro vM W84 hown hg hor
            obtain ⟨aM, cM, rfl, hOM, hB2, hwr, ho⟩ := ap_new hBW hEM hzM hown hg
            skip
            have hDJ := dj_new hOS hEM hor
            (try replace hOS := hOS.grown hEM hg)
            (try replace hES := ho _ _ (by first | exact nSM | exact (nMS).symm) hES)
            (try replace hOG := hOG.grown hEM hg)
            (try replace hEG := ho _ _ (by first | exact nGM | exact (nMG).symm) hEG)
            have hS84 := BoxR.wr hS83 hwr (fun e => by have := Option.some.inj e; omega)
            replace hBW := hB2
            clear hown hg hor hB2 hwr ho hEM
            refine hK _ _ hS84 ?_
            clear hK K
            try simp only [pz]
            refine ord_op rfl ?_ (fun K hK => ?_)
            rfl
            skip
            refine wp_app elGgR _ _ rfl rfl rfl (own_none hEG hzG) (HRX0.out.g.below hBW) (len_flat ggc 4 (fun _ => rfl) r.gauges) (ones_ggs r.gauges) (by omega) (by omega) (by have := hBW.size; omega) ?_
            intro vG W85 hown hg hor
            obtain ⟨aG, cG, rfl, hOG, hB2, hwr, ho⟩ := ap_new hBW hEG hzG hown hg
            skip
            (try replace hOS := hOS.grown hEG hg)
            (try replace hES := ho _ _ (by first | exact nSG | exact (nGS).symm) hES)
            (try replace hOM := hOM.grown hEG hg)
            (try replace hEM := ho _ _ (by first | exact nMG | exact (nGM).symm) hEM)
            have hS85 := BoxR.wr hS84 hwr (fun e => by have := Option.some.inj e; omega)
            replace hBW := hB2
            clear hown hg hor hB2 hwr ho hEG
            refine hK _ _ hS85 ?_
            clear hK K
            try simp only [pz]
            refine ord_op rfl ?_ (fun K hK => ?_)
            rfl
            skip
            have hX := (hBW.block _ hxl).trans HX1.out
            have hw := Wr.of_below (S := fun k => k = xb) hBW
            have oc := cell_blk (k := 1) hX
            have of := frozen_blk (k := 1) hX
            go_simp
            obtain ⟨W86, hWj, hX2, hw1, hw2⟩ := st_new (fi := 1) (v := .slice aS r.salt.length cS) hX hw
            rw [hWj]
            have hS86 := BoxR.wr hS85 hw1 (fun e => by have : w.heap.size = xb := e; omega)
            replace hOS := hOS.wr hw1 (fun b h e => by have : b = xb := e; omega)
            replace hOM := hOM.wr hw1 (fun b h e => by have : b = xb := e; omega)
            replace hOG := hOG.wr hw1 (fun b h e => by have : b = xb := e; omega)
            replace hX : W86.heap[xb]? = some (bx26 r A (.slice aS r.salt.length cS) (.slice A.ma r.mud.length A.mc) (.slice A.ga r.gauges.length A.gc)) := hX2
            replace hw := hw2
            clear oc of hX2 hWj hw1 hw2
            refine hK _ _ hS86 ?_
            clear hK K
            try simp only [pz]
            repeat (first
              | (refine ord_skip rfl ?_ ?_; rfl; simp only [pz])
              | (refine ord_take (v := ?_) rfl ?_ (fun W hW => ?_) ?_; rotate_left; rfl; (obtain ⟨k0, k1, k2, k3, k4, k5, k6, k7, k8, k9⟩ := hW; go_simp; (first | done | with_reducible rfl)); simp only [pz]))
            refine ord_op rfl ?_ (fun K hK => ?_)
            rfl
            skip
            have oc := cell_blk (k := 2) hX
            have of := frozen_blk (k := 2) hX
            go_simp
            obtain ⟨W87, hWj, hX2, hw1, hw2⟩ := st_new (fi := 2) (v := .slice aM r.mud.length cM) hX hw
            rw [hWj]
            have hS87 := BoxR.wr hS86 hw1 (fun e => by have : w.heap.size = xb := e; omega)
            replace hOS := hOS.wr hw1 (fun b h e => by have : b = xb := e; omega)
            replace hOM := hOM.wr hw1 (fun b h e => by have : b = xb := e; omega)
            replace hOG := hOG.wr hw1 (fun b h e => by have : b = xb := e; omega)
            replace hX : W87.heap[xb]? = some (bx26 r A (.slice aS r.salt.length cS) (.slice aM r.mud.length cM) (.slice A.ga r.gauges.length A.gc)) := hX2
            replace hw := hw2
            clear oc of hX2 hWj hw1 hw2
            refine hK _ _ hS87 ?_
            clear hK K
            try simp only [pz]
            repeat (first
              | (refine ord_skip rfl ?_ ?_; rfl; simp only [pz])
              | (refine ord_take (v := ?_) rfl ?_ (fun W hW => ?_) ?_; rotate_left; rfl; (obtain ⟨k0, k1, k2, k3, k4, k5, k6, k7, k8, k9⟩ := hW; go_simp; (first | done | with_reducible rfl)); simp only [pz]))
            refine ord_op rfl ?_ (fun K hK => ?_)
            rfl
            skip
            have oc := cell_blk (k := 9) hX
            have of := frozen_blk (k := 9) hX
            go_simp
            obtain ⟨W88, hWj, hX2, hw1, hw2⟩ := st_new (fi := 9) (v := .slice aG r.gauges.length cG) hX hw
            rw [hWj]
            have hS88 := BoxR.wr hS87 hw1 (fun e => by have : w.heap.size = xb := e; omega)
            replace hOS := hOS.wr hw1 (fun b h e => by have : b = xb := e; omega)
            replace hOM := hOM.wr hw1 (fun b h e => by have : b = xb := e; omega)
            replace hOG := hOG.wr hw1 (fun b h e => by have : b = xb := e; omega)
            replace hX : W88.heap[xb]? = some (bx26 r A (.slice aS r.salt.length cS) (.slice aM r.mud.length cM) (.slice aG r.gauges.length cG)) := hX2
            replace hw := hw2
            clear oc of hX2 hWj hw1 hw2
            refine hK _ _ hS88 ?_
            clear hK K
            try simp only [pz]
            refine ord_nil ?_
            go_wp2_with fail
            go_meet
            case rel => exact ⟨aS, cS, aM, cM, aG, cG, hX, hOS, hOM, hOG, hw, hDJ⟩
        · skip
          refine ord_op rfl ?_ (fun K hK => ?_)
          rfl
          go_simp
          obtain ⟨eG, W89, heb, hWj, hb, hEG, hzG, ho⟩ := eb_new hBW 99
          rw [hWj, heb]
          (try have nSG := (ho _ _ hES).1)
          (try replace hES := (ho _ _ hES).2)
          (try replace hOS := hOS.below hb)
          (try have nMG := (ho _ _ hEM).1)
          (try replace hEM := (ho _ _ hEM).2)
          (try replace hOM := hOM.below hb)
          replace hBW := hBW.trans (hb.mono hBW.size)
          have hS89 := BoxR.below hS0 hb
          clear heb hWj hb ho
          refine hK _ _ hS89 ?_
          clear hK K
          try simp only [pz]
          refine ord_two ?_ ?_
          · skip
            refine ord_op rfl ?_ (fun K hK => ?_)
            rfl
            go_simp
            obtain ⟨eS, W90, heb, hWj, hb, hES, hzS, ho⟩ := eb_new hBW 51
            rw [hWj, heb]
            (try have nMS := (ho _ _ hEM).1)
            (try replace hEM := (ho _ _ hEM).2)
            (try replace hOM := hOM.below hb)
            (try have nGS := (ho _ _ hEG).1)
            (try replace hEG := (ho _ _ hEG).2)
            (try replace hOG := hOG.below hb)
            replace hBW := hBW.trans (hb.mono hBW.size)
            have hS90 := BoxR.below hS89 hb
            clear heb hWj hb ho
            refine hK _ _ hS90 ?_
            clear hK K
            try simp only [pz]
            refine ord_two ?_ ?_
            · skip
              refine ord_op rfl ?_ (fun K hK => ?_)
              rfl
              skip
              refine wp_app elRgR _ _ rfl rfl rfl (own_none hES hzS) (HRX0.out.s.below hBW) (len_flat rgc 2 (fun _ => rfl) r.salt) (ones_rgs r.salt) (by omega) (by omega) (by have := hBW.size; omega) ?_
              intro vS W91 hown hg hor
              obtain ⟨aS, cS, rfl, hOS, hB2, hwr, ho⟩ := ap_new hBW hES hzS hown hg
              skip
              (try replace hOM := hOM.grown hES hg)
              (try replace hEM := ho _ _ (by first | exact nMS | exact (nSM).symm) hEM)
              (try replace hOG := hOG.grown hES hg)
              (try replace hEG := ho _ _ (by first | exact nGS | exact (nSG).symm) hEG)
              have hS91 := BoxR.wr hS90 hwr (fun e => by have := Option.some.inj e; omega)
              replace hBW := hB2
              clear hown hg hor hB2 hwr ho hES
              refine hK _ _ hS91 ?_
              clear hK K
              try simp only [pz]
              repeat (first
                | (refine ord_skip rfl ?_ ?_; rfl; simp only [pz])
                | (refine ord_take (v := ?_) rfl ?_ (fun W hW => ?_) ?_; rotate_left; rfl; (obtain ⟨k0, k1, k2, k3, k4, k5, k6, k7, k8, k9⟩ := hW; go_simp; (first | done | with_reducible rfl)); simp only [pz]))
              refine ord_op rfl ?_ (fun K hK => ?_)
              rfl
              go_simp
              obtain ⟨eM, W92, heb, hWj, hb, hEM, hzM, ho⟩ := eb_new hBW 51
              rw [hWj, heb]
              (try have nSM := (ho _ _ hES).1)
              (try replace hES := (ho _ _ hES).2)
              (try replace hOS := hOS.below hb)
              (try have nGM := (ho _ _ hEG).1)
              (try replace hEG := (ho _ _ hEG).2)
              (try replace hOG := hOG.below hb)
              replace hBW := hBW.trans (hb.mono hBW.size)
              have hS92 := BoxR.below hS91 hb
              clear heb hWj hb ho
              refine hK _ _ hS92 ?_
              clear hK K
              try simp only [pz]
              refine ord_op rfl ?_ (fun K hK => ?_)
              rfl
              skip
              refine wp_app elRgR _ _ rfl rfl rfl (own_none hEM hzM) (HRX0.out.m.below hBW) (len_flat rgc 2 (fun _ => rfl) r.mud) (ones_rgs r.mud) (by omega) (by omega) (by have := hBW.size; omega) ?_
              intro vM W93 hown hg hor
              obtain ⟨aM, cM, rfl, hOM, hB2, hwr, ho⟩ := ap_new hBW hEM hzM hown hg
              skip
              have hDJ := dj_new hOS hEM hor
              (try replace hOS := hOS.grown hEM hg)
              (try replace hES := ho _ _ (by first | exact nSM | exact (nMS).symm) hES)
              (try replace hOG := hOG.grown hEM hg)
              (try replace hEG := ho _ _ (by first | exact nGM | exact (nMG).symm) hEG)
              have hS93 := BoxR.wr hS92 hwr (fun e => by have := Option.some.inj e; omega)
              replace hBW := hB2
              clear hown hg hor hB2 hwr ho hEM
              refine hK _ _ hS93 ?_
              clear hK K
              try simp only [pz]
              refine ord_op rfl ?_ (fun K hK => ?_)
              rfl
              skip
              refine wp_app elGgR _ _ rfl rfl rfl (own_none hEG hzG) (HRX0.out.g.below hBW) (len_flat ggc 4 (fun _ => rfl) r.gauges) (ones_ggs r.gauges) (by omega) (by omega) (by have := hBW.size; omega) ?_
              intro vG W94 hown hg hor
              obtain ⟨aG, cG, rfl, hOG, hB2, hwr, ho⟩ := ap_new hBW hEG hzG hown hg
              skip
              (try replace hOS := hOS.grown hEG hg)
              (try replace hES := ho _ _ (by first | exact nSG | exact (nGS).symm) hES)
              (try replace hOM := hOM.grown hEG hg)
              (try replace hEM := ho _ _ (by first | exact nMG | exact (nGM).symm) hEM)
              have hS94 := BoxR.wr hS93 hwr (fun e => by have := Option.some.inj e; omega)
              replace hBW := hB2
              clear hown hg hor hB2 hwr ho hEG
              refine hK _ _ hS94 ?_
              clear hK K
              try simp only [pz]
              refine ord_op rfl ?_ (fun K hK => ?_)
              rfl
              skip
              have hX := (hBW.block _ hxl).trans HX1.out
              have hw := Wr.of_below (S := fun k => k = xb) hBW
              have oc := cell_blk (k := 1) hX
              have of := frozen_blk (k := 1) hX
              go_simp
              obtain ⟨W95, hWj, hX2, hw1, hw2⟩ := st_new (fi := 1) (v := .slice aS r.salt.length cS) hX hw
              rw [hWj]
              have hS95 := BoxR.wr hS94 hw1 (fun e => by have : w.heap.size = xb := e; omega)
              replace hOS := hOS.wr hw1 (fun b h e => by have : b = xb := e; omega)
              replace hOM := hOM.wr hw1 (fun b h e => by have : b = xb := e; omega)
              replace hOG := hOG.wr hw1 (fun b h e => by have : b = xb := e; omega)
              replace hX : W95.heap[xb]? = some (bx26 r A (.slice aS r.salt.length cS) (.slice A.ma r.mud.length A.mc) (.slice A.ga r.gauges.length A.gc)) := hX2
              replace hw := hw2
              clear oc of hX2 hWj hw1 hw2
              refine hK _ _ hS95 ?_
              clear hK K
              try simp only [pz]
              repeat (first
                | (refine ord_skip rfl ?_ ?_; rfl; simp only [pz])
                | (refine ord_take (v := ?_) rfl ?_ (fun W hW => ?_) ?_; rotate_left; rfl; (obtain ⟨k0, k1, k2, k3, k4, k5, k6, k7, k8, k9⟩ := hW; go_simp; (first | done | with_reducible rfl)); simp only [pz]))
              refine ord_op rfl ?_ (fun K hK => ?_)
              rfl
              skip
              have oc := cell_blk (k := 2) hX
              have of := frozen_blk (k := 2) hX
              go_simp
              obtain ⟨W96, hWj, hX2, hw1, hw2⟩ := st_new (fi := 2) (v := .slice aM r.mud.length cM) hX hw
              rw [hWj]
              have hS96 := BoxR.wr hS95 hw1 (fun e => by have : w.heap.size = xb := e; omega)
              replace hOS := hOS.wr hw1 (fun b h e => by have : b = xb := e; omega)
              replace hOM := hOM.wr hw1 (fun b h e => by have : b = xb := e; omega)
              replace hOG := hOG.wr hw1 (fun b h e => by have : b = xb := e; omega)
              replace hX : W96.heap[xb]? = some (bx26 r A (.slice aS r.salt.length cS) (.slice aM r.mud.length cM) (.slice A.ga r.gauges.length A.gc)) := hX2
              replace hw := hw2
              clear oc of hX2 hWj hw1 hw2
              refine hK _ _ hS96 ?_
              clear hK K
              try simp only [pz]
              repeat (first
                | (refine ord_skip rfl ?_ ?_; rfl; simp only [pz])
                | (refine ord_take (v := ?_) rfl ?_ (fun W hW => ?_) ?_; rotate_left; rfl; (obtain ⟨k0, k1, k2, k3, k4, k5, k6, k7, k8, k9⟩ := hW; go_simp; (first | done | with_reducible rfl)); simp only [pz]))
              refine ord_op rfl ?_ (fun K hK => ?_)
              rfl
              skip
              have oc := cell_blk (k := 9) hX
              have of := frozen_blk (k := 9) hX
              go_simp
              obtain ⟨W97, hWj, hX2, hw1, hw2⟩ := st_new (fi := 9) (v := .slice aG r.gauges.length cG) hX hw
              rw [hWj]
              have hS97 := BoxR.wr hS96 hw1 (fun e => by have : w.heap.size = xb := e; omega)
              replace hOS := hOS.wr hw1 (fun b h e => by have : b = xb := e; omega)
              replace hOM := hOM.wr hw1 (fun b h e => by have : b = xb := e; omega)
              replace hOG := hOG.wr hw1 (fun b h e => by have : b = xb := e; omega)
              replace hX : W97.heap[xb]? = some (bx26 r A (.slice aS r.salt.length cS) (.slice aM r.mud.length cM) (.slice aG r.gauges.length cG)) := hX2
              replace hw := hw2
              clear oc of hX2 hWj hw1 hw2
              refine hK _ _ hS97 ?_
              clear hK K
              try simp only [pz]
              refine ord_nil ?_
              go_wp2_with fail
              go_meet
              case rel => exact ⟨aS, cS, aM, cM, aG, cG, hX, hOS, hOM, hOG, hw, hDJ⟩
            · skip
              refine ord_op rfl ?_ (fun K hK => ?_)
              rfl
              go_simp
              obtain ⟨eM, W98, heb, hWj, hb, hEM, hzM, ho⟩ := eb_new hBW 51
              rw [hWj, heb]
              (try have nSM := (ho _ _ hES).1)
              (try replace hES := (ho _ _ hES).2)
              (try replace hOS := hOS.below hb)
              (try have nGM := (ho _ _ hEG).1)
              (try replace hEG := (ho _ _ hEG).2)
              (try replace hOG := hOG.below hb)
              replace hBW := hBW.trans (hb.mono hBW.size)
              have hS98 := BoxR.below hS90 hb
              clear heb hWj hb ho
              refine hK _ _ hS98 ?_
              clear hK K
              try simp only [pz]
              refine ord_op rfl ?_ (fun K hK => ?_)
              rfl
              skip
              refine wp_app elRgR _ _ rfl rfl rfl (own_none hES hzS) (HRX0.out.s.below hBW) (len_flat rgc 2 (fun _ => rfl) r.salt) (ones_rgs r.salt) (by omega) (by omega) (by have := hBW.size; omega) ?_
              intro vS W99 hown hg hor
              obtain ⟨aS, cS, rfl, hOS, hB2, hwr, ho⟩ := ap_new hBW hES hzS hown hg
              skip
              (try replace hOM := hOM.grown hES hg)
              (try replace hEM := ho _ _ (by first | exact nMS | exact (nSM).symm) hEM)
              (try replace hOG := hOG.grown hES hg)
              (try replace hEG := ho _ _ (by first | exact nGS | exact (nSG).symm) hEG)
              have hS99 := BoxR.wr hS98 hwr (fun e => by have := Option.some.inj e; omega)
              replace hBW := hB2
              clear hown hg hor hB2 hwr ho hES
              refine hK _ _ hS99 ?_
              clear hK K
              try simp only [pz]
              repeat (first
                | (refine ord_skip rfl ?_ ?_; rfl; simp only [pz])
                | (refine ord_take (v := ?_) rfl ?_ (fun W hW => ?_) ?_; rotate_left; rfl; (obtain ⟨k0, k1, k2, k3, k4, k5, k6, k7, k8, k9⟩ := hW; go_simp; (first | done | with_reducible rfl)); simp only [pz]))
              refine ord_op rfl ?_ (fun K hK => ?_)
              rfl
              skip
              refine wp_app elRgR _ _ rfl rfl rfl (own_none hEM hzM) (HRX0.out.m.below hBW) (len_flat rgc 2 (fun _ => rfl) r.mud) (ones_rgs r.mud) (by omega) (by omega) (by have := hBW.size; omega) ?_
              intro vM W100 hown hg hor
              obtain ⟨aM, cM, rfl, hOM, hB2, hwr, ho⟩ := ap_new hBW hEM hzM hown hg
              skip
              have hDJ := dj_new hOS hEM hor
              (try replace hOS := hOS.grown hEM hg)
              (try replace hES := ho _ _ (by first | exact nSM | exact (nMS).symm) hES)
              (try replace hOG := hOG.grown hEM hg)
              (try replace hEG := ho _ _ (by first | exact nGM | exact (nMG).symm) hEG)
              have hS100 := BoxR.wr hS99 hwr (fun e => by have := Option.some.inj e; omega)
              replace hBW := hB2
              clear hown hg hor hB2 hwr ho hEM
              refine hK _ _ hS100 ?_
              clear hK K
              try simp only [pz]
              refine ord_op rfl ?_ (fun K hK => ?_)
              rfl
              skip
              refine wp_app elGgR _ _ rfl rfl rfl (own_none hEG hzG) (HRX0.out.g.below hBW) (len_flat ggc 4 (fun _ => rfl) r.gauges) (ones_ggs r.gauges) (by omega) (by omega) (by have := hBW.size; omega) ?_
              intro vG W101 hown hg hor
              obtain ⟨aG, cG, rfl, hOG, hB2, hwr, ho⟩ := ap_new hBW hEG hzG hown hg
              skip
              (try replace hOS := hOS.grown hEG hg)
              (try replace hES := ho _ _ (by first | exact nSG | exact (nGS).symm) hES)
              (try replace hOM := hOM.grown hEG hg)
              (try replace hEM := ho _ _ (by first | exact nMG | exact (nGM).symm) hEM)
              have hS101 := BoxR.wr hS100 hwr (fun e => by have := Option.some.inj e; omega)
              replace hBW := hB2
              clear hown hg hor hB2 hwr ho hEG
              refine hK _ _ hS101 ?_
              clear hK K
              try simp only [pz]
              refine ord_op rfl ?_ (fun K hK => ?_)
              rfl
              skip
              have hX := (hBW.block _ hxl).trans HX1.out
              have hw := Wr.of_below (S := fun k => k = xb) hBW
              have oc := cell_blk (k := 1) hX
              have of := frozen_blk (k := 1) hX
              go_simp
              obtain ⟨W102, hWj, hX2, hw1, hw2⟩ := st_new (fi := 1) (v := .slice aS r.salt.length cS) hX hw
              rw [hWj]
              have hS102 := BoxR.wr hS101 hw1 (fun e => by have : w.heap.size = xb := e; omega)
              replace hOS := hOS.wr hw1 (fun b h e => by have : b = xb := e; omega)
              replace hOM := hOM.wr hw1 (fun b h e => by have : b = xb := e; omega)
              replace hOG := hOG.wr hw1 (fun b h e => by have : b = xb := e; omega)
              replace hX : W102.heap[xb]? = some (bx26 r A (.slice aS r.salt.length cS) (.slice A.ma r.mud.length A.mc) (.slice A.ga r.gauges.length A.gc)) := hX2
              replace hw := hw2
              clear oc of hX2 hWj hw1 hw2
              refine hK _ _ hS102 ?_
              clear hK K
              try simp only [pz]
              repeat (first
                | (refine ord_skip rfl ?_ ?_; rfl; simp only [pz])
                | (refine ord_take (v := ?_) rfl ?_ (fun W hW => ?_) ?_; rotate_left; rfl; (obtain ⟨k0, k1, k2, k3, k4, k5, k6, k7, k8, k9⟩ := hW; go_simp; (first | done | with_reducible rfl)); simp only [pz]))
              refine ord_op rfl ?_ (fun K hK => ?_)
              rfl
              skip
              have oc := cell_blk (k := 2) hX
              have of := frozen_blk (k := 2) hX
              go_simp
              obtain ⟨W103, hWj, hX2, hw1, hw2⟩ := st_new (fi := 2) (v := .slice aM r.mud.length cM) hX hw
              rw [hWj]
              have hS103 := BoxR.wr hS102 hw1 (fun e => by have : w.heap.size = xb := e; omega)
              replace hOS := hOS.wr hw1 (fun b h e => by have : b = xb := e; omega)
              replace hOM := hOM.wr hw1 (fun b h e => by have : b = xb := e; omega)
              replace hOG := hOG.wr hw1 (fun b h e => by have : b = xb := e; omega)
              replace hX : W103.heap[xb]? = some (bx26 r A (.slice aS r.salt.length cS) (.slice aM r.mud.length cM) (.slice A.ga r.gauges.length A.gc)) := hX2
              replace hw := hw2
              clear oc of hX2 hWj hw1 hw2
              refine hK _ _ hS103 ?_
              clear hK K
              try simp only [pz]
              repeat (first
                | (refine ord_skip rfl ?_ ?_; rfl; simp only [pz])
                | (refine ord_take (v := ?_) rfl ?_ (fun W hW => ?_) ?_; rotate_left; rfl; (obtain ⟨k0, k1, k2, k3, k4, k5, k6, k7, k8, k9⟩ := hW; go_simp; (first | done | with_reducible rfl)); simp only [pz]))
              refine ord_op rfl ?_ (fun K hK => ?_)
              rfl
              skip
              have oc := cell_blk (k := 9) hX
              have of := frozen_blk (k := 9) hX
              go_simp
              obtain ⟨W104, hWj, hX2, hw1, hw2⟩ := st_new (fi := 9) (v := .slice aG r.gauges.length cG) hX hw
              rw [hWj]
              have hS104 := BoxR.wr hS103 hw1 (fun e => by have : w.heap.size = xb := e; omega)
              replace hOS := hOS.wr hw1 (fun b h e => by have : b = xb := e; omega)
              replace hOM := hOM.wr hw1 (fun b h e => by have : b = xb := e; omega)
              replace hOG := hOG.wr hw1 (fun b h e => by have : b = xb := e; omega)
              replace hX : W104.heap[xb]? = some (bx26 r A (.slice aS r.salt.length cS) (.slice aM r.mud.length cM) (.slice aG r.gauges.length cG)) := hX2
              replace hw := hw2
              clear oc of hX2 hWj hw1 hw2
              refine hK _ _ hS104 ?_
              clear hK K
              try simp only [pz]
              refine ord_nil ?_
              go_wp2_with fail
              go_meet
              case rel => exact ⟨aS, cS, aM, cM, aG, cG, hX, hOS, hOM, hOG, hw, hDJ⟩
          · skip
            refine ord_op rfl ?_ (fun K hK => ?_)
            rfl
            go_simp
            obtain ⟨eM, W105, heb, hWj, hb, hEM, hzM, ho⟩ := eb_new hBW 51
            rw [hWj, heb]
            (try have nSM := (ho _ _ hES).1)
            (try replace hES := (ho _ _ hES).2)
            (try replace hOS := hOS.below hb)
            (try have nGM := (ho _ _ hEG).1)
            (try replace hEG := (ho _ _ hEG).2)
            (try replace hOG := hOG.below hb)
            replace hBW := hBW.trans (hb.mono hBW.size)
            have hS105 := BoxR.below hS89 hb
            clear heb hWj hb ho
            refine hK _ _ hS105 ?_
            clear hK K
            try simp only [pz]
            refine ord_op rfl ?_ (fun K hK => ?_)
            rfl
            go_simp
            obtain ⟨eS, W106, heb, hWj, hb, hES, hzS, ho⟩ := eb_new hBW 51
            rw [hWj, heb]
            (try have nMS := (ho _ _ hEM).1)
            (try replace hEM := (ho _ _ hEM).2)
            (try replace hOM := hOM.below hb)
            (try have nGS := (ho _ _ hEG).1)
            (try replace hEG := (ho _ _ hEG).2)
            (try replace hOG := hOG.below hb)
            replace hBW := hBW.trans (hb.mono hBW.size)
            have hS106 := BoxR.below hS105 hb
            clear heb hWj hb ho
            refine hK _ _ hS106 ?_
            clear hK K
            try simp only [pz]
            refine ord_op rfl ?_ (fun K hK => ?_)
            rfl
            skip
            refine wp_app elRgR _ _ rfl rfl rfl (own_none hES hzS) (HRX0.out.s.below hBW) (len_flat rgc 2 (fun _ => rfl) r.salt) (ones_rgs r.salt) (by omega) (by omega) (by have := hBW.size; omega) ?_
            intro vS W107 hown hg hor
            obtain ⟨aS, cS, rfl, hOS, hB2, hwr, ho⟩ := ap_new hBW hES hzS hown hg
            skip
            (try replace hOM := hOM.grown hES hg)
            (try replace hEM := ho _ _ (by first | exact nMS | exact (nSM).symm) hEM)
            (try replace hOG := hOG.grown hES hg)
            (try replace hEG := ho _ _ (by first | exact nGS | exact (nSG).symm) hEG)
            have hS107 := BoxR.wr hS106 hwr (fun e => by have := Option.some.inj e; omega)
            replace hBW := hB2
            clear hown hg hor hB2 hwr ho hES
            refine hK _ _ hS107 ?_
            clear hK K
            try simp only [pz]
            repeat (first
              | (refine ord_skip rfl ?_ ?_; rfl; simp only [pz])
              | (refine ord_take (v := ?_) rfl ?_ (fun W hW => ?_) ?_; rotate_left; rfl; (obtain ⟨k0, k1, k2, k3, k4, k5, k6, k7, k8, k9⟩ := hW; go_simp; (first | done | with_reducible rfl)); simp only [pz]))
            refine ord_op rfl ?_ (fun K hK => ?_)
            rfl
            skip
            refine wp_app elRgR _ _ rfl rfl rfl (own_none hEM hzM) (HRX0.out.m.below hBW) (len_flat rgc 2 (fun _ => rfl) r.mud) (ones_rgs r.mud) (by omega) (by omega) (by have := hBW.size; omega) ?_
            intro vM W108 hown hg hor
            obtain ⟨aM, cM, rfl, hOM, hB2, hwr, ho⟩ := ap_new hBW hEM hzM hown hg
            skip
            have hDJ := dj_new hOS hEM hor
            (try replace hOS := hOS.grown hEM hg)
            (try replace hES := ho _ _ (by first | exact nSM | exact (nMS).symm) hES)
            (try replace hOG := hOG.grown hEM hg)
            (try replace hEG := ho _ _ (by first | exact nGM | exact (nMG).symm) hEG)
            have hS108 := BoxR.wr hS107 hwr (fun e => by have := Option.some.inj e; omega)
            replace hBW := hB2
            clear hown hg hor hB2 hwr ho hEM
            refine hK _ _ hS108 ?_
            clear hK K
            try simp only [pz]
            refine ord_op rfl ?_ (fun K hK => ?_)
            rfl
            skip
            refine wp_app elGgR _ _ rfl rfl rfl (own_none hEG hzG) (HRX0.out.g.below hBW) (len_flat ggc 4 (fun _ => rfl) r.gauges) (ones_ggs r.gauges) (by omega) (by omega) (by have := hBW.size; omega) ?_
            intro vG W109 hown hg hor
            obtain ⟨aG, cG, rfl, hOG, hB2, hwr, ho⟩ := ap_new hBW hEG hzG hown hg
            skip
            (try replace hOS := hOS.grown hEG hg)
            (try replace hES := ho _ _ (by first | exact nSG | exact (nGS).symm) hES)
            (try replace hOM := hOM.grown hEG hg)
            (try replace hEM := ho _ _ (by first | exact nMG | exact (nGM).symm) hEM)
            have hS109 := BoxR.wr hS108 hwr (fun e => by have := Option.some.inj e; omega)
            replace hBW := hB2
            clear hown hg hor hB2 hwr ho hEG
            refine hK _ _ hS109 ?_
            clear hK K
            try simp only [pz]
            refine ord_op rfl ?_ (fun K hK => ?_)
            rfl
            skip
            have hX := (hBW.block _ hxl).trans HX1.out
            have hw := Wr.of_below (S := fun k => k = xb) hBW
            have oc := cell_blk (k := 1) hX
            have of := frozen_blk (k := 1) hX
            go_simp
            obtain ⟨W110, hWj, hX2, hw1, hw2⟩ := st_new (fi := 1) (v := .slice aS r.salt.length cS) hX hw
            rw [hWj]
            have hS110 := BoxR.wr hS109 hw1 (fun e => by have : w.heap.size = xb := e; omega)
            replace hOS := hOS.wr hw1 (fun b h e => by have : b = xb := e; omega)
            replace hOM := hOM.wr hw1 (fun b h e => by have : b = xb := e; omega)
            replace hOG := hOG.wr hw1 (fun b h e => by have : b = xb := e; omega)
            replace hX : W110.heap[xb]? = some (bx26 r A (.slice aS r.salt.length cS) (.slice A.ma r.mud.length A.mc) (.slice A.ga r.gauges.length A.gc)) := hX2
            replace hw := hw2
            clear oc of hX2 hWj hw1 hw2
            refine hK _ _ hS110 ?_
            clear hK K
            try simp only [pz]
            repeat (first
              | (refine ord_skip rfl ?_ ?_; rfl; simp only [pz])
              | (refine ord_take (v := ?_) rfl ?_ (fun W hW => ?_) ?_; rotate_left; rfl; (obtain ⟨k0, k1, k2, k3, k4, k5, k6, k7, k8, k9⟩ := hW; go_simp; (first | done | with_reducible rfl)); simp only [pz]))
            refine ord_op rfl ?_ (fun K hK => ?_)
            rfl
            skip
            have oc := cell_blk (k := 2) hX
            have of := frozen_blk (k := 2) hX
            go_simp
            obtain ⟨W111, hWj, hX2, hw1, hw2⟩ := st_new (fi := 2) (v := .slice aM r.mud.length cM) hX hw
            rw [hWj]
            have hS111 := BoxR.wr hS110 hw1 (fun e => by have : w.heap.size = xb := e; omega)
            replace hOS := hOS.wr hw1 (fun b h e => by have : b = xb := e; omega)
            replace hOM := hOM.wr hw1 (fun b h e => by have : b = xb := e; omega)
            replace hOG := hOG.wr hw1 (fun b h e => by have : b = xb := e; omega)
            replace hX : W111.heap[xb]? = some (bx26 r A (.slice aS r.salt.length cS) (.slice aM r.mud.length cM) (.slice A.ga r.gauges.length A.gc)) := hX2
            replace hw := hw2
            clear oc of hX2 hWj hw1 hw2
            refine hK _ _ hS111 ?_
            clear hK K
            try simp only [pz]
            repeat (first
              | (refine ord_skip rfl ?_ ?_; rfl; simp only [pz])
              | (refine ord_take (v := ?_) rfl ?_ (fun W hW => ?_) ?_; rotate_left; rfl; (obtain ⟨k0, k1, k2, k3, k4, k5, k6, k7, k8, k9⟩ := hW; go_simp; (first | done | with_reducible rfl)); simp only [pz]))
            refine ord_op rfl ?_ (fun K hK => ?_)
            rfl
            skip
            have oc := cell_blk (k := 9) hX
            have of := frozen_blk (k := 9) hX
            go_simp
            obtain ⟨W112, hWj, hX2, hw1, hw2⟩ := st_new (fi := 9) (v := .slice aG r.gauges.length cG) hX hw
            rw [hWj]
            have hS112 := BoxR.wr hS111 hw1 (fun e => by have : w.heap.size = xb := e; omega)
            replace hOS := hOS.wr hw1 (fun b h e => by have : b = xb := e; omega)
            replace hOM := hOM.wr hw1 (fun b h e => by have : b = xb := e; omega)
            replace hOG := hOG.wr hw1 (fun b h e => by have : b = xb := e; omega)
            replace hX : W112.heap[xb]? = some (bx26 r A (.slice aS r.salt.length cS) (.slice aM r.mud.length cM) (.slice aG r.gauges.length cG)) := hX2
            replace hw := hw2
            clear oc of hX2 hWj hw1 hw2
            refine hK _ _ hS112 ?_
            clear hK K
            try simp only [pz]
            refine ord_nil ?_
            go_wp2_with fail
            go_meet
            case rel => exact ⟨aS, cS, aM, cM, aG, cG, hX, hOS, hOM, hOG, hw, hDJ⟩
    case rest =>
      obtain ⟨aS, cS, aM, cM, aG, cG, hX, hOS, hOM, hOG, hw, hDJ⟩ := hcut
      replace HB := Lib.hid (HB.out.trans (hw.below HB.out.size (fun k e => by have : k = xb := e; omega)))
      replace HX := Lib.hid (HX.out.wr hw (fun e => by have : w.heap.size = xb := e; omega))
      replace HR := Lib.hid (HR0.out.below HB.out)
      have hsz := hw.size
      obtain ⟨kk, hk1, hk2, hk3⟩ := wide_mod HOK.out (r.gauges.length) wt
      have hlw : IntKind.i64.wrap (r.last + 1) = r.last + 1 := IntWalk.i64_in _ (by have := HOK.out.l0; have := HOK.out.l5; omega)
      have hlw2 : IntKind.i64.wrap (2 * (r.last + 1)) = 2 * (r.last + 1) := IntWalk.i64_in _ (by have := HOK.out.l0; have := HOK.out.l5; omega)
      have hlw3 : IntKind.i64.wrap (2 * (r.last + 1) + (r.gauges.length : Int)) = 2 * (r.last + 1) + (r.gauges.length : Int) := IntWalk.i64_in _ (by have := HOK.out.l0; have := HOK.out.l5; omega)
      have hlz : (2 * (r.last + 1) + (r.gauges.length : Int) == 0) = false := by rw [beq_eq_false_iff_ne]; have := HOK.out.l0; omega
      have hlz2 : ¬ 2 * (r.last + 1) + (r.gauges.length : Int) = 0 := by have := HOK.out.l0; omega
      have cx1 : wc.cell? ⟨xb, 1, none⟩ = some (.slice aS r.salt.length cS) := cell_blk hX
      have cx2 : wc.cell? ⟨xb, 2, none⟩ = some (.slice aM r.mud.length cM) := cell_blk hX
      have cx9 : wc.cell? ⟨xb, 9, none⟩ = some (.slice aG r.gauges.length cG) := cell_blk hX
      have hx0 := HX.out.k0
      have hkk : kk ≤ 100 := by have := HOK.out.l5; omega
      have hm1 := HOK.out.l0
      have hm5 := HOK.out.l5
      have hms := HOK.out.ns
      have hmm := HOK.out.nm
      obtain ⟨wd, hwd⟩ : ∃ Q, Q = wc.alloc (.cells #[.int .i64 0, .int .i64 0] 51) := ⟨_, rfl⟩
      have hb : Below wc.heap.size wc wd := by rw [hwd]; exact al_b _ _
      go_upto_region 8 with fail
      rw [← hwd]
      clear hlw hlw2 hlw3 hlz hlz2 cx1 cx2 cx9 hx0 hk2 hk3
      replace HB := Lib.hid (HB.out.trans (hb.mono HB.out.size))
      replace HX := Lib.hid (HX.out.below hb)
      replace hX := (hb.block xb (Array.getElem?_eq_some_iff.1 hX).1).trans hX
      replace hOS := hOS.below hb
      replace hOM := hOM.below hb
      replace hOG := hOG.below hb
      clear hb hwd hw hsz
      obtain ⟨a1, b1, m2, ha1, hb1, ha2, ha3, hb2, hb3, hb4, hb5, hm2⟩ := wide_by yn
      have HB5 := Lib.hid hb5
      have HA := Lib.hid ha1
      have HBB := Lib.hid hb1
      have HA2 := Lib.hid ha2
      have HA3 := Lib.hid ha3
      have HB2 := Lib.hid hb2
      have HB3 := Lib.hid hb3
      have HB4 := Lib.hid hb4
      clear ha1 hb1 ha2 ha3 hb2 hb3 hb4 hb5
      have cx1 : wd.cell? ⟨xb, 1, none⟩ = some (.slice aS r.salt.length cS) := cell_blk hX
      have cx2 : wd.cell? ⟨xb, 2, none⟩ = some (.slice aM r.mud.length cM) := cell_blk hX
      have cx9 : wd.cell? ⟨xb, 9, none⟩ = some (.slice aG r.gauges.length cG) := cell_blk hX
      go_upto_if 58 with fail
      go_cut [12] (fun v12 wr => wr = wd ∧ ∃ ab ao y x A', v12 = .pointer (some ⟨ab, ao, none⟩) ∧ PtrW w wd r xb a1 b1 ab ao y x A')
      case first =>
        rcases Int.lt_or_le (kk : Int) (r.last + 1) with hc | hc
        · obtain ⟨ab, y, x, A', rfl, hP⟩ := ptr_salt (kk := kk) HOK.out (Int.natCast_nonneg a1) (Int.natCast_nonneg b1) HR0.out HB.out (by omega) hxl hX hOS hOM hOG hDJ (by omega)
          go_wp2_with fail
          go_meet
          case rel => exact ⟨rfl, ab, kk * 2, y, x, A', rfl, hP⟩
        · rcases Int.lt_or_le (kk : Int) (2 * (r.last + 1)) with hd | hd
          · have hc2 : ¬ (kk : Int) < r.last + 1 := by omega
            obtain ⟨m, hm⟩ : ∃ m : Nat, (kk : Int) - (r.last + 1) = m := ⟨((kk : Int) - (r.last + 1)).toNat, by omega⟩
            obtain ⟨ab, y, x, A', rfl, hP⟩ := ptr_mud (kk := m) HOK.out (Int.natCast_nonneg a1) (Int.natCast_nonneg b1) HR0.out HB.out (by omega) hxl hX hOS hOM hOG hDJ (by omega)
            have hmw : IntKind.i64.wrap ((kk : Int) - (r.last + 1)) = m := by rw [hm]; exact IntWalk.i64_in _ (by omega)
            have hlw2 : IntKind.i64.wrap (2 * (r.last + 1)) = 2 * (r.last + 1) := IntWalk.i64_in _ (by omega)
            have hml : m < r.mud.length := by omega
            go_wp2_with fail
            go_meet
            case rel => exact ⟨rfl, ab, m * 2, y, x, A', rfl, hP⟩
          · have hc2 : ¬ (kk : Int) < r.last + 1 := by omega
            have hd2 : ¬ (kk : Int) < 2 * (r.last + 1) := by omega
            obtain ⟨m, hm⟩ : ∃ m : Nat, (kk : Int) - 2 * (r.last + 1) = m := ⟨((kk : Int) - 2 * (r.last + 1)).toNat, by omega⟩
            have hml : m < r.gauges.length := by omega
            obtain ⟨ab, y, x, A', rfl, hP⟩ := ptr_read (kk := m) HOK.out (Int.natCast_nonneg a1) (Int.natCast_nonneg b1) HR0.out HB.out (by omega) hxl hX hOS hOM hOG hml
            have hlw2 : IntKind.i64.wrap (2 * (r.last + 1)) = 2 * (r.last + 1) := IntWalk.i64_in _ (by omega)
            have hmw : IntKind.i64.wrap ((kk : Int) - 2 * (r.last + 1)) = m := by rw [hm]; exact IntWalk.i64_in _ (by omega)
            go_wp2_with fail
            go_meet
            case rel => exact ⟨rfl, ab, m * 4 + 2, y, x, A', rfl, hP⟩
      case rest =>
        obtain ⟨hwe, ab, ao, y, x, A', rfl, hP⟩ := hcut
        subst hwe
        clear hX hOS hOM hOG hDJ hm1 hm5 hms hmm hk1 hkk
        have hnq := hP.nq
        have hbd1 := hP.bd.1
        have hbd2 := hP.bd.2.1
        have hbd3 := hP.bd.2.2
        have he1 := HA2.out
        have he2 := HA3.out
        have he3 := HB2.out
        have he4 := HB3.out
        have he5 := HB4.out
        have he6 := HB5.out
        have ha1 := HA.out
        have hb1 := HBB.out
        have hyw : IntKind.i64.wrap (yn : Int) = (yn : Int) := IntWalk.i64_in _ (by omega)
        have hy1 : IntKind.i64.wrap (y.lo - (a1 : Int)) = y.lo - (a1 : Int) := IntWalk.i64_in _ (by omega)
        have hy2 : IntKind.i64.wrap (y.hi + (b1 : Int)) = y.hi + (b1 : Int) := IntWalk.i64_in _ (by omega)
        have hn2 : IntKind.i64.wrap (m2 : Int) = (m2 : Int) := IntWalk.i64_in _ (by omega)
        have HP := Lib.hid hP
        clear hP
        go_upto_region 13 with fail
        have hsl : ab < wc.heap.size := cell_lt HP.out.c0
        go_cut [] (fun wr => BoxR w.heap.size r A wr ∧ BoxR xb x A' wr ∧ Rd wr x A' ∧ Below w.heap.size w wr)
        case first =>
          as_aux_lemma =>
            refine region_o (S := BoxR w.heap.size r A) (.take 0 (.take 1 (.take 2 (.take 3 (.take 4 (.take 6 (.take 7 (.take 8 (.take 10 (.take 11 (.take 12 (.take 14 (.take 15 (.take 16 (.take 17 (.two 5 13 (.take 9 (.one 13 (.take 18 (.take 19 (.take 20 (.one 21 (.take 22 (.take 23 (.one 24 .nil))))))))) (.take 18 (.one 5 (.take 9 (.take 19 (.take 20 (.one 21 (.take 22 (.take 23 (.one 24 .nil))))))))))))))))))))))))) (by kernel_rfl) (by kernel_rfl) (fun _ _ d _ _ h => by cases d <;> exact h) (HX.out.below (Below.refl _ _).drew) ?_
            intro W0 hW0 hS0
            have hBW : Below wc.heap.size wc W0 := by subst hW0; exact (Below.refl _ _).drew
            clear hW0
            repeat (first
              | (refine ord_skip rfl ?_ ?_; rfl; simp only [pz])
              | (refine ord_take (v := ?_) rfl ?_ (fun W hW => ?_) ?_; rotate_left; rfl; (obtain ⟨k0, k1, k2, k3, k4, k5, k6, k7, k8, k9⟩ := hW; go_simp; (first | done | with_reducible rfl)); simp only [pz]))
            refine ord_two ?_ ?_
            · skip
              refine ord_op rfl ?_ (fun K hK => ?_)
              rfl
              skip
              have oc := (hBW.cell (p := ⟨ab, ao, none⟩) hsl).trans HP.out.c0
              go_simp
              obtain ⟨W1, hWj⟩ : ∃ Q, Q = W0 := ⟨_, rfl⟩
              rw [← hWj]
              subst hWj
              have hS1 := hS0
              clear oc
              refine hK _ _ hS1 ?_
              clear hK K
              try simp only [pz]
              repeat (first
                | (refine ord_skip rfl ?_ ?_; rfl; simp only [pz])
                | (refine ord_take (v := ?_) rfl ?_ (fun W hW => ?_) ?_; rotate_left; rfl; (obtain ⟨k0, k1, k2, k3, k4, k5, k6, k7, k8, k9⟩ := hW; go_simp; (first | done | with_reducible rfl)); simp only [pz]))
              refine ord_op rfl ?_ (fun K hK => ?_)
              rfl
              skip
              have oc := (hBW.cell (p := ⟨ab, ao + 1, none⟩) hsl).trans HP.out.c1
              go_simp
              obtain ⟨W2, hWj⟩ : ∃ Q, Q = W1 := ⟨_, rfl⟩
              rw [← hWj]
              subst hWj
              have hS2 := hS1
              clear oc
              refine hK _ _ hS2 ?_
              clear hK K
              try simp only [pz]
              repeat (first
                | (refine ord_skip rfl ?_ ?_; rfl; simp only [pz])
                | (refine ord_take (v := ?_) rfl ?_ (fun W hW => ?_) ?_; rotate_left; rfl; (obtain ⟨k0, k1, k2, k3, k4, k5, k6, k7, k8, k9⟩ := hW; go_simp; (first | done | with_reducible rfl)); simp only [pz]))
              refine ord_op rfl ?_ (fun K hK => ?_)
              rfl
              skip
              obtain ⟨arr, ety, hab⟩ := HP.out.fz
              replace hab := (hBW.block ab hsl).trans hab
              have oc := (hBW.cell (p := ⟨ab, ao, none⟩) hsl).trans HP.out.c0
              have of := frozen_blk (k := ao) hab
              go_simp
              obtain ⟨W3, hWj⟩ : ∃ Q, Q = (W2).setCell ⟨ab, ao, none⟩ (.int .i64 (y.lo - (a1 : Int))) := ⟨_, rfl⟩
              rw [← hWj]
              have hS3 := BoxR.wr hS2 (show Wr (fun k => k = ab) W2 W3 from by rw [hWj]; exact Wr.setCell (fun k => k = ab) _ ⟨ab, ao, none⟩ _ rfl) (fun e => by have : w.heap.size = ab := e; omega)
              have hab := (show W3.heap[ab]? = some _ from by rw [hWj]; exact heap_set hab (k := ao) (.int .i64 (y.lo - (a1 : Int))))
              have hcl := HP.out.clo _ hBW
              have oc2 : W3.cell? ⟨ab, ao + 1, none⟩ = some (.int .i64 y.hi) := by rw [hWj]; exact cell_other (by omega) ((hBW.cell (p := ⟨ab, ao + 1, none⟩) hsl).trans HP.out.c1)
              unfold set2 at hcl
              rw [← hWj] at hcl
              clear oc of hWj
              refine hK _ _ hS3 ?_
              clear hK K
              try simp only [pz]
              repeat (first
                | (refine ord_skip rfl ?_ ?_; rfl; simp only [pz])
                | (refine ord_take (v := ?_) rfl ?_ (fun W hW => ?_) ?_; rotate_left; rfl; (obtain ⟨k0, k1, k2, k3, k4, k5, k6, k7, k8, k9⟩ := hW; go_simp; (first | done | with_reducible rfl)); simp only [pz]))
              refine ord_op rfl ?_ (fun K hK => ?_)
              rfl
              skip
              have of := frozen_blk (k := ao + 1) hab
              go_simp
              obtain ⟨W4, hWj⟩ : ∃ Q, Q = (W3).setCell ⟨ab, ao + 1, none⟩ (.int .i64 (y.hi + (b1 : Int))) := ⟨_, rfl⟩
              rw [← hWj]
              have hS4 := BoxR.wr hS3 (show Wr (fun k => k = ab) W3 W4 from by rw [hWj]; exact Wr.setCell (fun k => k = ab) _ ⟨ab, ao + 1, none⟩ _ rfl) (fun e => by have : w.heap.size = ab := e; omega)
              have hab := (show W4.heap[ab]? = some _ from by rw [hWj]; exact heap_set hab (k := ao + 1) (.int .i64 (y.hi + (b1 : Int))))
              rw [← hWj] at hcl
              clear oc2 of hWj hab
              refine hK _ _ hS4 ?_
              clear hK K
              try simp only [pz]
              refine ord_nil ?_
              go_wp2_with fail
              go_meet
              case rel => exact ⟨hS4, hcl⟩
            · skip
              refine ord_op rfl ?_ (fun K hK => ?_)
              rfl
              skip
              have oc := (hBW.cell (p := ⟨ab, ao + 1, none⟩) hsl).trans HP.out.c1
              go_simp
              obtain ⟨W5, hWj⟩ : ∃ Q, Q = W0 := ⟨_, rfl⟩
              rw [← hWj]
              subst hWj
              have hS5 := hS0
              clear oc
              refine hK _ _ hS5 ?_
              clear hK K
              try simp only [pz]
              repeat (first
                | (refine ord_skip rfl ?_ ?_; rfl; simp only [pz])
                | (refine ord_take (v := ?_) rfl ?_ (fun W hW => ?_) ?_; rotate_left; rfl; (obtain ⟨k0, k1, k2, k3, k4, k5, k6, k7, k8, k9⟩ := hW; go_simp; (first | done | with_reducible rfl)); simp only [pz]))
              refine ord_op rfl ?_ (fun K hK => ?_)
              rfl
              skip
              have oc := (hBW.cell (p := ⟨ab, ao, none⟩) hsl).trans HP.out.c0
              go_simp
              obtain ⟨W6, hWj⟩ : ∃ Q, Q = W5 := ⟨_, rfl⟩
              rw [← hWj]
              subst hWj
              have hS6 := hS5
              clear oc
              refine hK _ _ hS6 ?_
              clear hK K
              try simp only [pz]
              repeat (first
                | (refine ord_skip rfl ?_ ?_; rfl; simp only [pz])
                | (refine ord_take (v := ?_) rfl ?_ (fun W hW => ?_) ?_; rotate_left; rfl; (obtain ⟨k0, k1, k2, k3, k4, k5, k6, k7, k8, k9⟩ := hW; go_simp; (first | done | with_reducible rfl)); simp only [pz]))
              refine ord_op rfl ?_ (fun K hK => ?_)
              rfl
              skip
              obtain ⟨arr, ety, hab⟩ := HP.out.fz
              replace hab := (hBW.block ab hsl).trans hab
              have oc := (hBW.cell (p := ⟨ab, ao, none⟩) hsl).trans HP.out.c0
              have of := frozen_blk (k := ao) hab
              go_simp
              obtain ⟨W7, hWj⟩ : ∃ Q, Q = (W6).setCell ⟨ab, ao, none⟩ (.int .i64 (y.lo - (a1 : Int))) := ⟨_, rfl⟩
              rw [← hWj]
              have hS7 := BoxR.wr hS6 (show Wr (fun k => k = ab) W6 W7 from by rw [hWj]; exact Wr.setCell (fun k => k = ab) _ ⟨ab, ao, none⟩ _ rfl) (fun e => by have : w.heap.size = ab := e; omega)
              have hab := (show W7.heap[ab]? = some _ from by rw [hWj]; exact heap_set hab (k := ao) (.int .i64 (y.lo - (a1 : Int))))
              have hcl := HP.out.clo _ hBW
              have oc2 : W7.cell? ⟨ab, ao + 1, none⟩ = some (.int .i64 y.hi) := by rw [hWj]; exact cell_other (by omega) ((hBW.cell (p := ⟨ab, ao + 1, none⟩) hsl).trans HP.out.c1)
              unfold set2 at hcl
              rw [← hWj] at hcl
              clear oc of hWj
              refine hK _ _ hS7 ?_
              clear hK K
              try simp only [pz]
              repeat (first
                | (refine ord_skip rfl ?_ ?_; rfl; simp only [pz])
                | (refine ord_take (v := ?_) rfl ?_ (fun W hW => ?_) ?_; rotate_left; rfl; (obtain ⟨k0, k1, k2, k3, k4, k5, k6, k7, k8, k9⟩ := hW; go_simp; (first | done | with_reducible rfl)); simp only [pz]))
              refine ord_op rfl ?_ (fun K hK => ?_)
              rfl
              skip
              have of := frozen_blk (k := ao + 1) hab
              go_simp
              obtain ⟨W8, hWj⟩ : ∃ Q, Q = (W7).setCell ⟨ab, ao + 1, none⟩ (.int .i64 (y.hi + (b1 : Int))) := ⟨_, rfl⟩
              rw [← hWj]
              have hS8 := BoxR.wr hS7 (show Wr (fun k => k = ab) W7 W8 from by rw [hWj]; exact Wr.setCell (fun k => k = ab) _ ⟨ab, ao + 1, none⟩ _ rfl) (fun e => by have : w.heap.size = ab := e; omega)
              have hab := (show W8.heap[ab]? = some _ from by rw [hWj]; exact heap_set hab (k := ao + 1) (.int .i64 (y.hi + (b1 : Int))))
              rw [← hWj] at hcl
              clear oc2 of hWj hab
              refine hK _ _ hS8 ?_
              clear hK K
              try simp only [pz]
              refine ord_nil ?_
              go_wp2_with fail
              go_meet
              case rel => exact ⟨hS8, hcl⟩
        case rest =>
          obtain ⟨h1, h2, h3, h4⟩ := hcut
          have HW := Lib.hid HP.out.wide
          clear HP hsl he1 he2 he3 he4 he5 he6 ha1 hb1 hyw hy1 hy2 hn2 hnq hbd1 hbd2 hbd3 HA HBB HA2 HA3 HB2 HB3 HB4 HB5 hm2 cx1 cx2 cx9 HR HB HX HRX0 HX1
          have HB := Lib.hid h4
          have HX := Lib.hid h1
          have HXX := Lib.hid h2
          have HRX := Lib.hid h3
          have HR := Lib.hid (HR0.out.below h4)
          clear h1 h2 h3 h4
          cases hrd : (thinB x && decide (x.faultI = 0))
          · as_aux_lemma =>
              have HRD2 := Lib.hid hrd
              clear hrd
              obtain ⟨k0, k1, k2, k3, k4, k5, k6, k7, k8, k9⟩ := HX.out
              obtain ⟨j0, j1, j2, j3, j4, j5, j6, j7, j8, j9⟩ := HXX.out
              go_wp2_with fail
              clear k0 k1 k2 k3 k4 k5 k6 k7 k8 k9 j0 j1 j2 j3 j4 j5 j6 j7 j8 j9
              with_reducible refine (ready_c x A' _ HRX.out).mono ?_
              rintro e w4 ⟨rfl, hb⟩
              replace HB := Lib.hid (HB.out.trans (hb.mono HB.out.size))
              replace HX := Lib.hid (HX.out.below hb)
              replace HXX := Lib.hid (HXX.out.below hb)
              replace HR := Lib.hid (HR.out.below hb)
              replace HRX := Lib.hid (HRX.out.below hb)
              clear hb
              rw [HRD2.out]
              obtain ⟨k0, k1, k2, k3, k4, k5, k6, k7, k8, k9⟩ := HX.out
              obtain ⟨j0, j1, j2, j3, j4, j5, j6, j7, j8, j9⟩ := HXX.out
              go_wp2_with fail
              clear k0 k1 k2 k3 k4 k5 k6 k7 k8 k9 j0 j1 j2 j3 j4 j5 j6 j7 j8 j9
              with_reducible refine (awake_c _).mono ?_
              rintro e wz ⟨rfl, hbz⟩
              go_wp2_with fail
              go_ret
              exact ⟨rfl, HB.out.trans (hbz.mono HB.out.size)⟩
          · have HRD2 := Lib.hid hrd
            have hrd2 := Bool.and_eq_true_iff.1 hrd
            have HLX := Lib.hid (thin_lens hrd2.1)
            have HZX := Lib.hid (of_decide_eq_true hrd2.2)
            have hle := wide_leave HW.out HZ.out HZX.out
            have hla := leave_ans HZ.out
            have hlb := leave_ans HZX.out
            have hl1 := Leave_len HZ.out
            have hl2 := Leave_len HZX.out
            have hnil := fun e => leave_nil HZ.out e
            obtain ⟨LR, hLR⟩ : ∃ L, leaveRf r (allF r) = L := ⟨_, rfl⟩
            obtain ⟨LX, hLX⟩ : ∃ L, leaveRf x (allF x) = L := ⟨_, rfl⟩
            rw [hLR] at hle hla hl1 hnil
            rw [hLX] at hle hlb hl2
            have HLA := Lib.hid hla
            have HLB := Lib.hid hlb
            have HLE := Lib.hid hle
            have HLS := Lib.hid (show LR.length ≤ 6 from hl1)
            clear hrd hrd2 hle hla hlb hl1 hl2 hLR hLX
            by_cases hpo : 0 < LR.length
            · as_aux_lemma =>
                have HPO := Lib.hid hpo
                clear hpo hnil
                obtain ⟨k0, k1, k2, k3, k4, k5, k6, k7, k8, k9⟩ := HX.out
                obtain ⟨j0, j1, j2, j3, j4, j5, j6, j7, j8, j9⟩ := HXX.out
                go_wp2_with fail
                clear k0 k1 k2 k3 k4 k5 k6 k7 k8 k9 j0 j1 j2 j3 j4 j5 j6 j7 j8 j9
                with_reducible refine (ready_c x A' _ HRX.out).mono ?_
                rintro e w5 ⟨rfl, hb⟩
                replace HB := Lib.hid (HB.out.trans (hb.mono HB.out.size))
                replace HX := Lib.hid (HX.out.below hb)
                replace HXX := Lib.hid (HXX.out.below hb)
                replace HR := Lib.hid (HR.out.below hb)
                replace HRX := Lib.hid (HRX.out.below hb)
                clear hb
                rw [HRD2.out]
                obtain ⟨k0, k1, k2, k3, k4, k5, k6, k7, k8, k9⟩ := HX.out
                obtain ⟨j0, j1, j2, j3, j4, j5, j6, j7, j8, j9⟩ := HXX.out
                go_wp2_with fail
                clear k0 k1 k2 k3 k4 k5 k6 k7 k8 k9 j0 j1 j2 j3 j4 j5 j6 j7 j8 j9
                with_reducible refine (River_c r A _ HR.out HL.out.1 HL.out.2.1 HL.out.2.2.1 HL.out.2.2.2).mono ?_
                rintro e w6 ⟨A1, rfl, hr1, -, hb⟩
                replace HB := Lib.hid (HB.out.trans (hb.mono HB.out.size))
                replace HX := Lib.hid (HX.out.below hb)
                replace HXX := Lib.hid (HXX.out.below hb)
                replace HR := Lib.hid (HR.out.below hb)
                replace HRX := Lib.hid (HRX.out.below hb)
                clear hb
                have HR1 := Lib.hid hr1
                clear hr1
                obtain ⟨k0, k1, k2, k3, k4, k5, k6, k7, k8, k9⟩ := HX.out
                obtain ⟨j0, j1, j2, j3, j4, j5, j6, j7, j8, j9⟩ := HXX.out
                go_wp2_with fail
                clear k0 k1 k2 k3 k4 k5 k6 k7 k8 k9 j0 j1 j2 j3 j4 j5 j6 j7 j8 j9
                with_reducible refine (Leave_c r A1 _ HR1.out HL.out.1 HL.out.2.1 HL.out.2.2.1 HL.out.2.2.2).mono ?_
                rintro e w7 ⟨sa, sc, rfl, hsl, hb⟩
                replace HB := Lib.hid (HB.out.trans (hb.mono HB.out.size))
                replace HX := Lib.hid (HX.out.below hb)
                replace HXX := Lib.hid (HXX.out.below hb)
                replace HR := Lib.hid (HR.out.below hb)
                replace HRX := Lib.hid (HRX.out.below hb)
                replace HR1 := Lib.hid (HR1.out.below hb)
                clear hb
                rw [HLA.out] at hsl ⊢
                clear hsl
                obtain ⟨k0, k1, k2, k3, k4, k5, k6, k7, k8, k9⟩ := HX.out
                obtain ⟨j0, j1, j2, j3, j4, j5, j6, j7, j8, j9⟩ := HXX.out
                go_wp2_with fail
                clear k0 k1 k2 k3 k4 k5 k6 k7 k8 k9 j0 j1 j2 j3 j4 j5 j6 j7 j8 j9
                with_reducible refine (River_c x A' _ HRX.out HLX.out.1 HLX.out.2.1 HLX.out.2.2.1 HLX.out.2.2.2).mono ?_
                rintro e w8 ⟨A2, rfl, hr1, -, hb⟩
                replace HB := Lib.hid (HB.out.trans (hb.mono HB.out.size))
                replace HX := Lib.hid (HX.out.below hb)
                replace HXX := Lib.hid (HXX.out.below hb)
                replace HR := Lib.hid (HR.out.below hb)
                replace HRX := Lib.hid (HRX.out.below hb)
                replace HR1 := Lib.hid (HR1.out.below hb)
                clear hb
                have HR2 := Lib.hid hr1
                clear hr1
                obtain ⟨k0, k1, k2, k3, k4, k5, k6, k7, k8, k9⟩ := HX.out
                obtain ⟨j0, j1, j2, j3, j4, j5, j6, j7, j8, j9⟩ := HXX.out
                go_wp2_with fail
                clear k0 k1 k2 k3 k4 k5 k6 k7 k8 k9 j0 j1 j2 j3 j4 j5 j6 j7 j8 j9
                with_reducible refine (Leave_c x A2 _ HR2.out HLX.out.1 HLX.out.2.1 HLX.out.2.2.1 HLX.out.2.2.2).mono ?_
                rintro e w9 ⟨sb, sd, rfl, hsl, hb⟩
                replace HB := Lib.hid (HB.out.trans (hb.mono HB.out.size))
                replace HX := Lib.hid (HX.out.below hb)
                replace HXX := Lib.hid (HXX.out.below hb)
                replace HR := Lib.hid (HR.out.below hb)
                replace HRX := Lib.hid (HRX.out.below hb)
                replace HR1 := Lib.hid (HR1.out.below hb)
                replace HR2 := Lib.hid (HR2.out.below hb)
                clear hb
                rw [HLB.out] at hsl ⊢
                clear hsl
                have hle1 := HLE.out
                have hpos := HPO.out
                have hn1 : ¬ LR.length < LX.length := by omega
                have hls := HLS.out
                obtain ⟨k0, k1, k2, k3, k4, k5, k6, k7, k8, k9⟩ := HX.out
                obtain ⟨j0, j1, j2, j3, j4, j5, j6, j7, j8, j9⟩ := HXX.out
                go_wp2_with fail
                clear k0 k1 k2 k3 k4 k5 k6 k7 k8 k9 j0 j1 j2 j3 j4 j5 j6 j7 j8 j9
                clear hn1 hpos hle1 hls
                with_reducible refine (awake_c _).mono ?_
                rintro e wz ⟨rfl, hbz⟩
                go_wp2_with fail
                go_ret
                exact ⟨rfl, HB.out.trans (hbz.mono HB.out.size)⟩
            · have HPO := Lib.hid hpo
              have hT := hnil (List.eq_nil_of_length_eq_zero (by omega))
              have hTx := hT.imp fun t ht => HW.out.isT ht
              have hpm := planM_lt HOK.out b
              have hpn := plan_bits HOK.out hpm
              have hpl6 := planL_len r b
              have hin := same_tanks HW.out.same.symm HZX.out HZ.out (fun t ht => HW.out.isT ht) hT (planL r b)
              have hsu := wide_sure HW.out HZ.out HZX.out hT hpm
              have ha1 := (askR_ok HZ.out).2 hT
              have ha2 := (askR_ok HZX.out).2 hTx
              rw [← planL_eq] at hpn hsu
              obtain ⟨PL, hPL⟩ : ∃ L, planL r b = L := ⟨_, rfl⟩
              rw [hPL] at hpn hpl6 hin hsu
              have HPL := Lib.hid hPL
              have HIN := Lib.hid hin
              have HSU := Lib.hid hsu
              have HAR := Lib.hid (show askR r (isPlanB r.last PL) = 0 from by rw [hpn]; exact ha1)
              have HAX := Lib.hid (show askR x (isPlanB x.last PL) = 0 from by rw [HW.out.same.last, hpn]; exact ha2)
              have HTN1 := Lib.hid (tanks_len r PL).symm
              have HTN2 := Lib.hid (tanks_len x PL).symm
              have HTN3 := Lib.hid (show r.use.length = x.use.length from by rw [HW.out.same.use])
              have HTN4 := Lib.hid (show r.use.length ≤ 1000 from by have := HL.out.2.2.1; omega)
              clear hpm hpn hin hsu ha1 ha2 hPL hT hTx hnil hpo
              cases hsx : sureP x PL
              · as_aux_lemma =>
                  have HSX := Lib.hid hsx
                  clear hsx
                  obtain ⟨k0, k1, k2, k3, k4, k5, k6, k7, k8, k9⟩ := HX.out
                  obtain ⟨j0, j1, j2, j3, j4, j5, j6, j7, j8, j9⟩ := HXX.out
                  go_wp2_with fail
                  clear k0 k1 k2 k3 k4 k5 k6 k7 k8 k9 j0 j1 j2 j3 j4 j5 j6 j7 j8 j9
                  with_reducible refine (ready_c x A' _ HRX.out).mono ?_
                  rintro e w10 ⟨rfl, hb⟩
                  replace HB := Lib.hid (HB.out.trans (hb.mono HB.out.size))
                  replace HX := Lib.hid (HX.out.below hb)
                  replace HXX := Lib.hid (HXX.out.below hb)
                  replace HR := Lib.hid (HR.out.below hb)
                  replace HRX := Lib.hid (HRX.out.below hb)
                  clear hb
                  rw [HRD2.out]
                  obtain ⟨k0, k1, k2, k3, k4, k5, k6, k7, k8, k9⟩ := HX.out
                  obtain ⟨j0, j1, j2, j3, j4, j5, j6, j7, j8, j9⟩ := HXX.out
                  go_wp2_with fail
                  clear k0 k1 k2 k3 k4 k5 k6 k7 k8 k9 j0 j1 j2 j3 j4 j5 j6 j7 j8 j9
                  with_reducible refine (River_c r A _ HR.out HL.out.1 HL.out.2.1 HL.out.2.2.1 HL.out.2.2.2).mono ?_
                  rintro e w11 ⟨A1, rfl, hr1, -, hb⟩
                  replace HB := Lib.hid (HB.out.trans (hb.mono HB.out.size))
                  replace HX := Lib.hid (HX.out.below hb)
                  replace HXX := Lib.hid (HXX.out.below hb)
                  replace HR := Lib.hid (HR.out.below hb)
                  replace HRX := Lib.hid (HRX.out.below hb)
                  clear hb
                  have HR1 := Lib.hid hr1
                  clear hr1
                  obtain ⟨k0, k1, k2, k3, k4, k5, k6, k7, k8, k9⟩ := HX.out
                  obtain ⟨j0, j1, j2, j3, j4, j5, j6, j7, j8, j9⟩ := HXX.out
                  go_wp2_with fail
                  clear k0 k1 k2 k3 k4 k5 k6 k7 k8 k9 j0 j1 j2 j3 j4 j5 j6 j7 j8 j9
                  with_reducible refine (Leave_c r A1 _ HR1.out HL.out.1 HL.out.2.1 HL.out.2.2.1 HL.out.2.2.2).mono ?_
                  rintro e w12 ⟨sa, sc, rfl, hsl, hb⟩
                  replace HB := Lib.hid (HB.out.trans (hb.mono HB.out.size))
                  replace HX := Lib.hid (HX.out.below hb)
                  replace HXX := Lib.hid (HXX.out.below hb)
                  replace HR := Lib.hid (HR.out.below hb)
                  replace HRX := Lib.hid (HRX.out.below hb)
                  replace HR1 := Lib.hid (HR1.out.below hb)
                  clear hb
                  rw [HLA.out] at hsl ⊢
                  clear hsl
                  obtain ⟨k0, k1, k2, k3, k4, k5, k6, k7, k8, k9⟩ := HX.out
                  obtain ⟨j0, j1, j2, j3, j4, j5, j6, j7, j8, j9⟩ := HXX.out
                  go_wp2_with fail
                  clear k0 k1 k2 k3 k4 k5 k6 k7 k8 k9 j0 j1 j2 j3 j4 j5 j6 j7 j8 j9
                  with_reducible refine (River_c x A' _ HRX.out HLX.out.1 HLX.out.2.1 HLX.out.2.2.1 HLX.out.2.2.2).mono ?_
                  rintro e w13 ⟨A2, rfl, hr1, -, hb⟩
                  replace HB := Lib.hid (HB.out.trans (hb.mono HB.out.size))
                  replace HX := Lib.hid (HX.out.below hb)
                  replace HXX := Lib.hid (HXX.out.below hb)
                  replace HR := Lib.hid (HR.out.below hb)
                  replace HRX := Lib.hid (HRX.out.below hb)
                  replace HR1 := Lib.hid (HR1.out.below hb)
                  clear hb
                  have HR2 := Lib.hid hr1
                  clear hr1
                  obtain ⟨k0, k1, k2, k3, k4, k5, k6, k7, k8, k9⟩ := HX.out
                  obtain ⟨j0, j1, j2, j3, j4, j5, j6, j7, j8, j9⟩ := HXX.out
                  go_wp2_with fail
                  clear k0 k1 k2 k3 k4 k5 k6 k7 k8 k9 j0 j1 j2 j3 j4 j5 j6 j7 j8 j9
                  with_reducible refine (Leave_c x A2 _ HR2.out HLX.out.1 HLX.out.2.1 HLX.out.2.2.1 HLX.out.2.2.2).mono ?_
                  rintro e w14 ⟨sb, sd, rfl, hsl, hb⟩
                  replace HB := Lib.hid (HB.out.trans (hb.mono HB.out.size))
                  replace HX := Lib.hid (HX.out.below hb)
                  replace HXX := Lib.hid (HXX.out.below hb)
                  replace HR := Lib.hid (HR.out.below hb)
                  replace HRX := Lib.hid (HRX.out.below hb)
                  replace HR1 := Lib.hid (HR1.out.below hb)
                  replace HR2 := Lib.hid (HR2.out.below hb)
                  clear hb
                  rw [HLB.out] at hsl ⊢
                  clear hsl
                  have hle1 := HLE.out
                  have hpos := HPO.out
                  have hn1 : ¬ LR.length < LX.length := by omega
                  have hls := HLS.out
                  obtain ⟨k0, k1, k2, k3, k4, k5, k6, k7, k8, k9⟩ := HX.out
                  obtain ⟨j0, j1, j2, j3, j4, j5, j6, j7, j8, j9⟩ := HXX.out
                  go_wp2_with fail
                  clear k0 k1 k2 k3 k4 k5 k6 k7 k8 k9 j0 j1 j2 j3 j4 j5 j6 j7 j8 j9
                  clear hn1 hpos hle1 hls
                  with_reducible refine (Planned_c r A b _ HOK.out.l0 HOK.out.l5 hbb).mono ?_
                  rintro e w15 ⟨v, rfl, hown, hb⟩
                  replace HB := Lib.hid (HB.out.trans (hb.mono HB.out.size))
                  replace HX := Lib.hid (HX.out.below hb)
                  replace HXX := Lib.hid (HXX.out.below hb)
                  replace HR := Lib.hid (HR.out.below hb)
                  replace HRX := Lib.hid (HRX.out.below hb)
                  replace HR1 := Lib.hid (HR1.out.below hb)
                  replace HR2 := Lib.hid (HR2.out.below hb)
                  clear hb
                  rw [HPL.out] at hown
                  obtain ⟨pa, pc, rfl, -, hs⟩ := own_Sl hown
                  clear hown
                  have HSP := Lib.hid hs
                  clear hs
                  obtain ⟨k0, k1, k2, k3, k4, k5, k6, k7, k8, k9⟩ := HX.out
                  obtain ⟨j0, j1, j2, j3, j4, j5, j6, j7, j8, j9⟩ := HXX.out
                  go_wp2_with fail
                  clear k0 k1 k2 k3 k4 k5 k6 k7 k8 k9 j0 j1 j2 j3 j4 j5 j6 j7 j8 j9
                  with_reducible refine (River_c r A _ HR.out HL.out.1 HL.out.2.1 HL.out.2.2.1 HL.out.2.2.2).mono ?_
                  rintro e w16 ⟨A3, rfl, hr1, -, hb⟩
                  replace HB := Lib.hid (HB.out.trans (hb.mono HB.out.size))
                  replace HX := Lib.hid (HX.out.below hb)
                  replace HXX := Lib.hid (HXX.out.below hb)
                  replace HR := Lib.hid (HR.out.below hb)
                  replace HRX := Lib.hid (HRX.out.below hb)
                  replace HR1 := Lib.hid (HR1.out.below hb)
                  replace HR2 := Lib.hid (HR2.out.below hb)
                  replace HSP := Lib.hid (HSP.out.below hb)
                  clear hb
                  have HR3 := Lib.hid hr1
                  clear hr1
                  obtain ⟨k0, k1, k2, k3, k4, k5, k6, k7, k8, k9⟩ := HX.out
                  obtain ⟨j0, j1, j2, j3, j4, j5, j6, j7, j8, j9⟩ := HXX.out
                  go_wp2_with fail
                  clear k0 k1 k2 k3 k4 k5 k6 k7 k8 k9 j0 j1 j2 j3 j4 j5 j6 j7 j8 j9
                  with_reducible refine (list_c pa PL pc _ HSP.out (by omega)).mono ?_
                  rintro e w17 ⟨v, rfl, hown, hb⟩
                  replace HB := Lib.hid (HB.out.trans (hb.mono HB.out.size))
                  replace HX := Lib.hid (HX.out.below hb)
                  replace HXX := Lib.hid (HXX.out.below hb)
                  replace HR := Lib.hid (HR.out.below hb)
                  replace HRX := Lib.hid (HRX.out.below hb)
                  replace HR1 := Lib.hid (HR1.out.below hb)
                  replace HR2 := Lib.hid (HR2.out.below hb)
                  replace HSP := Lib.hid (HSP.out.below hb)
                  replace HR3 := Lib.hid (HR3.out.below hb)
                  clear hb
                  obtain ⟨s3, cs3, rfl, -, hs2⟩ := own_Sl hown
                  clear hown
                  have HS3 := Lib.hid hs2
                  clear hs2
                  obtain ⟨k0, k1, k2, k3, k4, k5, k6, k7, k8, k9⟩ := HX.out
                  obtain ⟨j0, j1, j2, j3, j4, j5, j6, j7, j8, j9⟩ := HXX.out
                  go_wp2_with fail
                  clear k0 k1 k2 k3 k4 k5 k6 k7 k8 k9 j0 j1 j2 j3 j4 j5 j6 j7 j8 j9
                  with_reducible refine (Tank_ok_c r A3 s3 PL cs3 _ HR3.out HL.out HS3.out (by omega) HAR.out).mono ?_
                  rintro e w18 ⟨taa, tac, rfl, hra, hb⟩
                  replace HB := Lib.hid (HB.out.trans (hb.mono HB.out.size))
                  replace HX := Lib.hid (HX.out.below hb)
                  replace HXX := Lib.hid (HXX.out.below hb)
                  replace HR := Lib.hid (HR.out.below hb)
                  replace HRX := Lib.hid (HRX.out.below hb)
                  replace HR1 := Lib.hid (HR1.out.below hb)
                  replace HR2 := Lib.hid (HR2.out.below hb)
                  replace HSP := Lib.hid (HSP.out.below hb)
                  replace HR3 := Lib.hid (HR3.out.below hb)
                  replace HS3 := Lib.hid (HS3.out.below hb)
                  clear hb
                  have Hta := Lib.hid hra
                  clear hra
                  obtain ⟨k0, k1, k2, k3, k4, k5, k6, k7, k8, k9⟩ := HX.out
                  obtain ⟨j0, j1, j2, j3, j4, j5, j6, j7, j8, j9⟩ := HXX.out
                  go_wp2_with fail
                  clear k0 k1 k2 k3 k4 k5 k6 k7 k8 k9 j0 j1 j2 j3 j4 j5 j6 j7 j8 j9
                  with_reducible refine (River_c x A' _ HRX.out HLX.out.1 HLX.out.2.1 HLX.out.2.2.1 HLX.out.2.2.2).mono ?_
                  rintro e w19 ⟨A4, rfl, hr1, -, hb⟩
                  replace HB := Lib.hid (HB.out.trans (hb.mono HB.out.size))
                  replace HX := Lib.hid (HX.out.below hb)
                  replace HXX := Lib.hid (HXX.out.below hb)
                  replace HR := Lib.hid (HR.out.below hb)
                  replace HRX := Lib.hid (HRX.out.below hb)
                  replace HR1 := Lib.hid (HR1.out.below hb)
                  replace HR2 := Lib.hid (HR2.out.below hb)
                  replace HSP := Lib.hid (HSP.out.below hb)
                  replace HR3 := Lib.hid (HR3.out.below hb)
                  replace HS3 := Lib.hid (HS3.out.below hb)
                  replace Hta := Lib.hid (Hta.out.below hb)
                  clear hb
                  have HR4 := Lib.hid hr1
                  clear hr1
                  obtain ⟨k0, k1, k2, k3, k4, k5, k6, k7, k8, k9⟩ := HX.out
                  obtain ⟨j0, j1, j2, j3, j4, j5, j6, j7, j8, j9⟩ := HXX.out
                  go_wp2_with fail
                  clear k0 k1 k2 k3 k4 k5 k6 k7 k8 k9 j0 j1 j2 j3 j4 j5 j6 j7 j8 j9
                  with_reducible refine (list_c pa PL pc _ HSP.out (by omega)).mono ?_
                  rintro e w20 ⟨v, rfl, hown, hb⟩
                  replace HB := Lib.hid (HB.out.trans (hb.mono HB.out.size))
                  replace HX := Lib.hid (HX.out.below hb)
                  replace HXX := Lib.hid (HXX.out.below hb)
                  replace HR := Lib.hid (HR.out.below hb)
                  replace HRX := Lib.hid (HRX.out.below hb)
                  replace HR1 := Lib.hid (HR1.out.below hb)
                  replace HR2 := Lib.hid (HR2.out.below hb)
                  replace HSP := Lib.hid (HSP.out.below hb)
                  replace HR3 := Lib.hid (HR3.out.below hb)
                  replace HS3 := Lib.hid (HS3.out.below hb)
                  replace Hta := Lib.hid (Hta.out.below hb)
                  replace HR4 := Lib.hid (HR4.out.below hb)
                  clear hb
                  obtain ⟨s4, cs4, rfl, -, hs2⟩ := own_Sl hown
                  clear hown
                  have HS4 := Lib.hid hs2
                  clear hs2
                  obtain ⟨k0, k1, k2, k3, k4, k5, k6, k7, k8, k9⟩ := HX.out
                  obtain ⟨j0, j1, j2, j3, j4, j5, j6, j7, j8, j9⟩ := HXX.out
                  go_wp2_with fail
                  clear k0 k1 k2 k3 k4 k5 k6 k7 k8 k9 j0 j1 j2 j3 j4 j5 j6 j7 j8 j9
                  with_reducible refine (Tank_ok_c x A4 s4 PL cs4 _ HR4.out HLX.out HS4.out (by omega) HAX.out).mono ?_
                  rintro e w21 ⟨tba, tbc, rfl, hra, hb⟩
                  replace HB := Lib.hid (HB.out.trans (hb.mono HB.out.size))
                  replace HX := Lib.hid (HX.out.below hb)
                  replace HXX := Lib.hid (HXX.out.below hb)
                  replace HR := Lib.hid (HR.out.below hb)
                  replace HRX := Lib.hid (HRX.out.below hb)
                  replace HR1 := Lib.hid (HR1.out.below hb)
                  replace HR2 := Lib.hid (HR2.out.below hb)
                  replace HSP := Lib.hid (HSP.out.below hb)
                  replace HR3 := Lib.hid (HR3.out.below hb)
                  replace HS3 := Lib.hid (HS3.out.below hb)
                  replace Hta := Lib.hid (Hta.out.below hb)
                  replace HR4 := Lib.hid (HR4.out.below hb)
                  replace HS4 := Lib.hid (HS4.out.below hb)
                  clear hb
                  have Htb := Lib.hid hra
                  clear hra
                  obtain ⟨k0, k1, k2, k3, k4, k5, k6, k7, k8, k9⟩ := HX.out
                  obtain ⟨j0, j1, j2, j3, j4, j5, j6, j7, j8, j9⟩ := HXX.out
                  go_wp2_with fail
                  clear k0 k1 k2 k3 k4 k5 k6 k7 k8 k9 j0 j1 j2 j3 j4 j5 j6 j7 j8 j9
                  with_reducible refine (inside2_c taa tba (tanksL r PL) (tanksL x PL) tac tbc r.use.length x.use.length _ Hta.out Htb.out HTN1.out HTN2.out HTN3.out HTN4.out HIN.out).mono ?_
                  rintro e w22 ⟨rfl, hb⟩
                  replace HB := Lib.hid (HB.out.trans (hb.mono HB.out.size))
                  replace HX := Lib.hid (HX.out.below hb)
                  replace HXX := Lib.hid (HXX.out.below hb)
                  replace HR := Lib.hid (HR.out.below hb)
                  replace HRX := Lib.hid (HRX.out.below hb)
                  replace HR1 := Lib.hid (HR1.out.below hb)
                  replace HR2 := Lib.hid (HR2.out.below hb)
                  replace HSP := Lib.hid (HSP.out.below hb)
                  replace HR3 := Lib.hid (HR3.out.below hb)
                  replace HS3 := Lib.hid (HS3.out.below hb)
                  replace Hta := Lib.hid (Hta.out.below hb)
                  replace HR4 := Lib.hid (HR4.out.below hb)
                  replace HS4 := Lib.hid (HS4.out.below hb)
                  replace Htb := Lib.hid (Htb.out.below hb)
                  clear hb
                  obtain ⟨k0, k1, k2, k3, k4, k5, k6, k7, k8, k9⟩ := HX.out
                  obtain ⟨j0, j1, j2, j3, j4, j5, j6, j7, j8, j9⟩ := HXX.out
                  go_wp2_with fail
                  clear k0 k1 k2 k3 k4 k5 k6 k7 k8 k9 j0 j1 j2 j3 j4 j5 j6 j7 j8 j9
                  with_reducible refine (sure_c x A' pa PL pc _ HRX.out HLX.out.1 HLX.out.2.1 HLX.out.2.2.1 HLX.out.2.2.2 HSP.out (by omega)).mono ?_
                  rintro e w23 ⟨rfl, hb⟩
                  replace HB := Lib.hid (HB.out.trans (hb.mono HB.out.size))
                  replace HX := Lib.hid (HX.out.below hb)
                  replace HXX := Lib.hid (HXX.out.below hb)
                  replace HR := Lib.hid (HR.out.below hb)
                  replace HRX := Lib.hid (HRX.out.below hb)
                  replace HR1 := Lib.hid (HR1.out.below hb)
                  replace HR2 := Lib.hid (HR2.out.below hb)
                  replace HSP := Lib.hid (HSP.out.below hb)
                  replace HR3 := Lib.hid (HR3.out.below hb)
                  replace HS3 := Lib.hid (HS3.out.below hb)
                  replace Hta := Lib.hid (Hta.out.below hb)
                  replace HR4 := Lib.hid (HR4.out.below hb)
                  replace HS4 := Lib.hid (HS4.out.below hb)
                  replace Htb := Lib.hid (Htb.out.below hb)
                  clear hb
                  rw [HSX.out]
                  obtain ⟨k0, k1, k2, k3, k4, k5, k6, k7, k8, k9⟩ := HX.out
                  obtain ⟨j0, j1, j2, j3, j4, j5, j6, j7, j8, j9⟩ := HXX.out
                  go_wp2_with fail
                  clear k0 k1 k2 k3 k4 k5 k6 k7 k8 k9 j0 j1 j2 j3 j4 j5 j6 j7 j8 j9
                  with_reducible refine (awake_c _).mono ?_
                  rintro e wz ⟨rfl, hbz⟩
                  go_wp2_with fail
                  go_ret
                  exact ⟨rfl, HB.out.trans (hbz.mono HB.out.size)⟩
              · as_aux_lemma =>
                  have HSX := Lib.hid hsx
                  clear hsx
                  have HSR := Lib.hid (HSU.out HSX.out)
                  obtain ⟨k0, k1, k2, k3, k4, k5, k6, k7, k8, k9⟩ := HX.out
                  obtain ⟨j0, j1, j2, j3, j4, j5, j6, j7, j8, j9⟩ := HXX.out
                  go_wp2_with fail
                  clear k0 k1 k2 k3 k4 k5 k6 k7 k8 k9 j0 j1 j2 j3 j4 j5 j6 j7 j8 j9
                  with_reducible refine (ready_c x A' _ HRX.out).mono ?_
                  rintro e w24 ⟨rfl, hb⟩
                  replace HB := Lib.hid (HB.out.trans (hb.mono HB.out.size))
                  replace HX := Lib.hid (HX.out.below hb)
                  replace HXX := Lib.hid (HXX.out.below hb)
                  replace HR := Lib.hid (HR.out.below hb)
                  replace HRX := Lib.hid (HRX.out.below hb)
                  clear hb
                  rw [HRD2.out]
                  obtain ⟨k0, k1, k2, k3, k4, k5, k6, k7, k8, k9⟩ := HX.out
                  obtain ⟨j0, j1, j2, j3, j4, j5, j6, j7, j8, j9⟩ := HXX.out
                  go_wp2_with fail
                  clear k0 k1 k2 k3 k4 k5 k6 k7 k8 k9 j0 j1 j2 j3 j4 j5 j6 j7 j8 j9
                  with_reducible refine (River_c r A _ HR.out HL.out.1 HL.out.2.1 HL.out.2.2.1 HL.out.2.2.2).mono ?_
                  rintro e w25 ⟨A1, rfl, hr1, -, hb⟩
                  replace HB := Lib.hid (HB.out.trans (hb.mono HB.out.size))
                  replace HX := Lib.hid (HX.out.below hb)
                  replace HXX := Lib.hid (HXX.out.below hb)
                  replace HR := Lib.hid (HR.out.below hb)
                  replace HRX := Lib.hid (HRX.out.below hb)
                  clear hb
                  have HR1 := Lib.hid hr1
                  clear hr1
                  obtain ⟨k0, k1, k2, k3, k4, k5, k6, k7, k8, k9⟩ := HX.out
                  obtain ⟨j0, j1, j2, j3, j4, j5, j6, j7, j8, j9⟩ := HXX.out
                  go_wp2_with fail
                  clear k0 k1 k2 k3 k4 k5 k6 k7 k8 k9 j0 j1 j2 j3 j4 j5 j6 j7 j8 j9
                  with_reducible refine (Leave_c r A1 _ HR1.out HL.out.1 HL.out.2.1 HL.out.2.2.1 HL.out.2.2.2).mono ?_
                  rintro e w26 ⟨sa, sc, rfl, hsl, hb⟩
                  replace HB := Lib.hid (HB.out.trans (hb.mono HB.out.size))
                  replace HX := Lib.hid (HX.out.below hb)
                  replace HXX := Lib.hid (HXX.out.below hb)
                  replace HR := Lib.hid (HR.out.below hb)
                  replace HRX := Lib.hid (HRX.out.below hb)
                  replace HR1 := Lib.hid (HR1.out.below hb)
                  clear hb
                  rw [HLA.out] at hsl ⊢
                  clear hsl
                  obtain ⟨k0, k1, k2, k3, k4, k5, k6, k7, k8, k9⟩ := HX.out
                  obtain ⟨j0, j1, j2, j3, j4, j5, j6, j7, j8, j9⟩ := HXX.out
                  go_wp2_with fail
                  clear k0 k1 k2 k3 k4 k5 k6 k7 k8 k9 j0 j1 j2 j3 j4 j5 j6 j7 j8 j9
                  with_reducible refine (River_c x A' _ HRX.out HLX.out.1 HLX.out.2.1 HLX.out.2.2.1 HLX.out.2.2.2).mono ?_
                  rintro e w27 ⟨A2, rfl, hr1, -, hb⟩
                  replace HB := Lib.hid (HB.out.trans (hb.mono HB.out.size))
                  replace HX := Lib.hid (HX.out.below hb)
                  replace HXX := Lib.hid (HXX.out.below hb)
                  replace HR := Lib.hid (HR.out.below hb)
                  replace HRX := Lib.hid (HRX.out.below hb)
                  replace HR1 := Lib.hid (HR1.out.below hb)
                  clear hb
                  have HR2 := Lib.hid hr1
                  clear hr1
                  obtain ⟨k0, k1, k2, k3, k4, k5, k6, k7, k8, k9⟩ := HX.out
                  obtain ⟨j0, j1, j2, j3, j4, j5, j6, j7, j8, j9⟩ := HXX.out
                  go_wp2_with fail
                  clear k0 k1 k2 k3 k4 k5 k6 k7 k8 k9 j0 j1 j2 j3 j4 j5 j6 j7 j8 j9
                  with_reducible refine (Leave_c x A2 _ HR2.out HLX.out.1 HLX.out.2.1 HLX.out.2.2.1 HLX.out.2.2.2).mono ?_
                  rintro e w28 ⟨sb, sd, rfl, hsl, hb⟩
                  replace HB := Lib.hid (HB.out.trans (hb.mono HB.out.size))
                  replace HX := Lib.hid (HX.out.below hb)
                  replace HXX := Lib.hid (HXX.out.below hb)
                  replace HR := Lib.hid (HR.out.below hb)
                  replace HRX := Lib.hid (HRX.out.below hb)
                  replace HR1 := Lib.hid (HR1.out.below hb)
                  replace HR2 := Lib.hid (HR2.out.below hb)
                  clear hb
                  rw [HLB.out] at hsl ⊢
                  clear hsl
                  have hle1 := HLE.out
                  have hpos := HPO.out
                  have hn1 : ¬ LR.length < LX.length := by omega
                  have hls := HLS.out
                  obtain ⟨k0, k1, k2, k3, k4, k5, k6, k7, k8, k9⟩ := HX.out
                  obtain ⟨j0, j1, j2, j3, j4, j5, j6, j7, j8, j9⟩ := HXX.out
                  go_wp2_with fail
                  clear k0 k1 k2 k3 k4 k5 k6 k7 k8 k9 j0 j1 j2 j3 j4 j5 j6 j7 j8 j9
                  clear hn1 hpos hle1 hls
                  with_reducible refine (Planned_c r A b _ HOK.out.l0 HOK.out.l5 hbb).mono ?_
                  rintro e w29 ⟨v, rfl, hown, hb⟩
                  replace HB := Lib.hid (HB.out.trans (hb.mono HB.out.size))
                  replace HX := Lib.hid (HX.out.below hb)
                  replace HXX := Lib.hid (HXX.out.below hb)
                  replace HR := Lib.hid (HR.out.below hb)
                  replace HRX := Lib.hid (HRX.out.below hb)
                  replace HR1 := Lib.hid (HR1.out.below hb)
                  replace HR2 := Lib.hid (HR2.out.below hb)
                  clear hb
                  rw [HPL.out] at hown
                  obtain ⟨pa, pc, rfl, -, hs⟩ := own_Sl hown
                  clear hown
                  have HSP := Lib.hid hs
                  clear hs
                  obtain ⟨k0, k1, k2, k3, k4, k5, k6, k7, k8, k9⟩ := HX.out
                  obtain ⟨j0, j1, j2, j3, j4, j5, j6, j7, j8, j9⟩ := HXX.out
                  go_wp2_with fail
                  clear k0 k1 k2 k3 k4 k5 k6 k7 k8 k9 j0 j1 j2 j3 j4 j5 j6 j7 j8 j9
                  with_reducible refine (River_c r A _ HR.out HL.out.1 HL.out.2.1 HL.out.2.2.1 HL.out.2.2.2).mono ?_
                  rintro e w30 ⟨A3, rfl, hr1, -, hb⟩
                  replace HB := Lib.hid (HB.out.trans (hb.mono HB.out.size))
                  replace HX := Lib.hid (HX.out.below hb)
                  replace HXX := Lib.hid (HXX.out.below hb)
                  replace HR := Lib.hid (HR.out.below hb)
                  replace HRX := Lib.hid (HRX.out.below hb)
                  replace HR1 := Lib.hid (HR1.out.below hb)
                  replace HR2 := Lib.hid (HR2.out.below hb)
                  replace HSP := Lib.hid (HSP.out.below hb)
                  clear hb
                  have HR3 := Lib.hid hr1
                  clear hr1
                  obtain ⟨k0, k1, k2, k3, k4, k5, k6, k7, k8, k9⟩ := HX.out
                  obtain ⟨j0, j1, j2, j3, j4, j5, j6, j7, j8, j9⟩ := HXX.out
                  go_wp2_with fail
                  clear k0 k1 k2 k3 k4 k5 k6 k7 k8 k9 j0 j1 j2 j3 j4 j5 j6 j7 j8 j9
                  with_reducible refine (list_c pa PL pc _ HSP.out (by omega)).mono ?_
                  rintro e w31 ⟨v, rfl, hown, hb⟩
                  replace HB := Lib.hid (HB.out.trans (hb.mono HB.out.size))
                  replace HX := Lib.hid (HX.out.below hb)
                  replace HXX := Lib.hid (HXX.out.below hb)
                  replace HR := Lib.hid (HR.out.below hb)
                  replace HRX := Lib.hid (HRX.out.below hb)
                  replace HR1 := Lib.hid (HR1.out.below hb)
                  replace HR2 := Lib.hid (HR2.out.below hb)
                  replace HSP := Lib.hid (HSP.out.below hb)
                  replace HR3 := Lib.hid (HR3.out.below hb)
                  clear hb
                  obtain ⟨s3, cs3, rfl, -, hs2⟩ := own_Sl hown
                  clear hown
                  have HS3 := Lib.hid hs2
                  clear hs2
                  obtain ⟨k0, k1, k2, k3, k4, k5, k6, k7, k8, k9⟩ := HX.out
                  obtain ⟨j0, j1, j2, j3, j4, j5, j6, j7, j8, j9⟩ := HXX.out
                  go_wp2_with fail
                  clear k0 k1 k2 k3 k4 k5 k6 k7 k8 k9 j0 j1 j2 j3 j4 j5 j6 j7 j8 j9
                  with_reducible refine (Tank_ok_c r A3 s3 PL cs3 _ HR3.out HL.out HS3.out (by omega) HAR.out).mono ?_
                  rintro e w32 ⟨taa, tac, rfl, hra, hb⟩
                  replace HB := Lib.hid (HB.out.trans (hb.mono HB.out.size))
                  replace HX := Lib.hid (HX.out.below hb)
                  replace HXX := Lib.hid (HXX.out.below hb)
                  replace HR := Lib.hid (HR.out.below hb)
                  replace HRX := Lib.hid (HRX.out.below hb)
                  replace HR1 := Lib.hid (HR1.out.below hb)
                  replace HR2 := Lib.hid (HR2.out.below hb)
                  replace HSP := Lib.hid (HSP.out.below hb)
                  replace HR3 := Lib.hid (HR3.out.below hb)
                  replace HS3 := Lib.hid (HS3.out.below hb)
                  clear hb
                  have Hta := Lib.hid hra
                  clear hra
                  obtain ⟨k0, k1, k2, k3, k4, k5, k6, k7, k8, k9⟩ := HX.out
                  obtain ⟨j0, j1, j2, j3, j4, j5, j6, j7, j8, j9⟩ := HXX.out
                  go_wp2_with fail
                  clear k0 k1 k2 k3 k4 k5 k6 k7 k8 k9 j0 j1 j2 j3 j4 j5 j6 j7 j8 j9
                  with_reducible refine (River_c x A' _ HRX.out HLX.out.1 HLX.out.2.1 HLX.out.2.2.1 HLX.out.2.2.2).mono ?_
                  rintro e w33 ⟨A4, rfl, hr1, -, hb⟩
                  replace HB := Lib.hid (HB.out.trans (hb.mono HB.out.size))
                  replace HX := Lib.hid (HX.out.below hb)
                  replace HXX := Lib.hid (HXX.out.below hb)
                  replace HR := Lib.hid (HR.out.below hb)
                  replace HRX := Lib.hid (HRX.out.below hb)
                  replace HR1 := Lib.hid (HR1.out.below hb)
                  replace HR2 := Lib.hid (HR2.out.below hb)
                  replace HSP := Lib.hid (HSP.out.below hb)
                  replace HR3 := Lib.hid (HR3.out.below hb)
                  replace HS3 := Lib.hid (HS3.out.below hb)
                  replace Hta := Lib.hid (Hta.out.below hb)
                  clear hb
                  have HR4 := Lib.hid hr1
                  clear hr1
                  obtain ⟨k0, k1, k2, k3, k4, k5, k6, k7, k8, k9⟩ := HX.out
                  obtain ⟨j0, j1, j2, j3, j4, j5, j6, j7, j8, j9⟩ := HXX.out
                  go_wp2_with fail
                  clear k0 k1 k2 k3 k4 k5 k6 k7 k8 k9 j0 j1 j2 j3 j4 j5 j6 j7 j8 j9
                  with_reducible refine (list_c pa PL pc _ HSP.out (by omega)).mono ?_
                  rintro e w34 ⟨v, rfl, hown, hb⟩
                  replace HB := Lib.hid (HB.out.trans (hb.mono HB.out.size))
                  replace HX := Lib.hid (HX.out.below hb)
                  replace HXX := Lib.hid (HXX.out.below hb)
                  replace HR := Lib.hid (HR.out.below hb)
                  replace HRX := Lib.hid (HRX.out.below hb)
                  replace HR1 := Lib.hid (HR1.out.below hb)
                  replace HR2 := Lib.hid (HR2.out.below hb)
                  replace HSP := Lib.hid (HSP.out.below hb)
                  replace HR3 := Lib.hid (HR3.out.below hb)
                  replace HS3 := Lib.hid (HS3.out.below hb)
                  replace Hta := Lib.hid (Hta.out.below hb)
                  replace HR4 := Lib.hid (HR4.out.below hb)
                  clear hb
                  obtain ⟨s4, cs4, rfl, -, hs2⟩ := own_Sl hown
                  clear hown
                  have HS4 := Lib.hid hs2
                  clear hs2
                  obtain ⟨k0, k1, k2, k3, k4, k5, k6, k7, k8, k9⟩ := HX.out
                  obtain ⟨j0, j1, j2, j3, j4, j5, j6, j7, j8, j9⟩ := HXX.out
                  go_wp2_with fail
                  clear k0 k1 k2 k3 k4 k5 k6 k7 k8 k9 j0 j1 j2 j3 j4 j5 j6 j7 j8 j9
                  with_reducible refine (Tank_ok_c x A4 s4 PL cs4 _ HR4.out HLX.out HS4.out (by omega) HAX.out).mono ?_
                  rintro e w35 ⟨tba, tbc, rfl, hra, hb⟩
                  replace HB := Lib.hid (HB.out.trans (hb.mono HB.out.size))
                  replace HX := Lib.hid (HX.out.below hb)
                  replace HXX := Lib.hid (HXX.out.below hb)
                  replace HR := Lib.hid (HR.out.below hb)
                  replace HRX := Lib.hid (HRX.out.below hb)
                  replace HR1 := Lib.hid (HR1.out.below hb)
                  replace HR2 := Lib.hid (HR2.out.below hb)
                  replace HSP := Lib.hid (HSP.out.below hb)
                  replace HR3 := Lib.hid (HR3.out.below hb)
                  replace HS3 := Lib.hid (HS3.out.below hb)
                  replace Hta := Lib.hid (Hta.out.below hb)
                  replace HR4 := Lib.hid (HR4.out.below hb)
                  replace HS4 := Lib.hid (HS4.out.below hb)
                  clear hb
                  have Htb := Lib.hid hra
                  clear hra
                  obtain ⟨k0, k1, k2, k3, k4, k5, k6, k7, k8, k9⟩ := HX.out
                  obtain ⟨j0, j1, j2, j3, j4, j5, j6, j7, j8, j9⟩ := HXX.out
                  go_wp2_with fail
                  clear k0 k1 k2 k3 k4 k5 k6 k7 k8 k9 j0 j1 j2 j3 j4 j5 j6 j7 j8 j9
                  with_reducible refine (inside2_c taa tba (tanksL r PL) (tanksL x PL) tac tbc r.use.length x.use.length _ Hta.out Htb.out HTN1.out HTN2.out HTN3.out HTN4.out HIN.out).mono ?_
                  rintro e w36 ⟨rfl, hb⟩
                  replace HB := Lib.hid (HB.out.trans (hb.mono HB.out.size))
                  replace HX := Lib.hid (HX.out.below hb)
                  replace HXX := Lib.hid (HXX.out.below hb)
                  replace HR := Lib.hid (HR.out.below hb)
                  replace HRX := Lib.hid (HRX.out.below hb)
                  replace HR1 := Lib.hid (HR1.out.below hb)
                  replace HR2 := Lib.hid (HR2.out.below hb)
                  replace HSP := Lib.hid (HSP.out.below hb)
                  replace HR3 := Lib.hid (HR3.out.below hb)
                  replace HS3 := Lib.hid (HS3.out.below hb)
                  replace Hta := Lib.hid (Hta.out.below hb)
                  replace HR4 := Lib.hid (HR4.out.below hb)
                  replace HS4 := Lib.hid (HS4.out.below hb)
                  replace Htb := Lib.hid (Htb.out.below hb)
                  clear hb
                  obtain ⟨k0, k1, k2, k3, k4, k5, k6, k7, k8, k9⟩ := HX.out
                  obtain ⟨j0, j1, j2, j3, j4, j5, j6, j7, j8, j9⟩ := HXX.out
                  go_wp2_with fail
                  clear k0 k1 k2 k3 k4 k5 k6 k7 k8 k9 j0 j1 j2 j3 j4 j5 j6 j7 j8 j9
                  with_reducible refine (sure_c x A' pa PL pc _ HRX.out HLX.out.1 HLX.out.2.1 HLX.out.2.2.1 HLX.out.2.2.2 HSP.out (by omega)).mono ?_
                  rintro e w37 ⟨rfl, hb⟩
                  replace HB := Lib.hid (HB.out.trans (hb.mono HB.out.size))
                  replace HX := Lib.hid (HX.out.below hb)
                  replace HXX := Lib.hid (HXX.out.below hb)
                  replace HR := Lib.hid (HR.out.below hb)
                  replace HRX := Lib.hid (HRX.out.below hb)
                  replace HR1 := Lib.hid (HR1.out.below hb)
                  replace HR2 := Lib.hid (HR2.out.below hb)
                  replace HSP := Lib.hid (HSP.out.below hb)
                  replace HR3 := Lib.hid (HR3.out.below hb)
                  replace HS3 := Lib.hid (HS3.out.below hb)
                  replace Hta := Lib.hid (Hta.out.below hb)
                  replace HR4 := Lib.hid (HR4.out.below hb)
                  replace HS4 := Lib.hid (HS4.out.below hb)
                  replace Htb := Lib.hid (Htb.out.below hb)
                  clear hb
                  rw [HSX.out]
                  obtain ⟨k0, k1, k2, k3, k4, k5, k6, k7, k8, k9⟩ := HX.out
                  obtain ⟨j0, j1, j2, j3, j4, j5, j6, j7, j8, j9⟩ := HXX.out
                  go_wp2_with fail
                  clear k0 k1 k2 k3 k4 k5 k6 k7 k8 k9 j0 j1 j2 j3 j4 j5 j6 j7 j8 j9
                  with_reducible refine (sure_c r A pa PL pc _ HR.out HL.out.1 HL.out.2.1 HL.out.2.2.1 HL.out.2.2.2 HSP.out (by omega)).mono ?_
                  rintro e w38 ⟨rfl, hb⟩
                  replace HB := Lib.hid (HB.out.trans (hb.mono HB.out.size))
                  replace HX := Lib.hid (HX.out.below hb)
                  replace HXX := Lib.hid (HXX.out.below hb)
                  replace HR := Lib.hid (HR.out.below hb)
                  replace HRX := Lib.hid (HRX.out.below hb)
                  replace HR1 := Lib.hid (HR1.out.below hb)
                  replace HR2 := Lib.hid (HR2.out.below hb)
                  replace HSP := Lib.hid (HSP.out.below hb)
                  replace HR3 := Lib.hid (HR3.out.below hb)
                  replace HS3 := Lib.hid (HS3.out.below hb)
                  replace Hta := Lib.hid (Hta.out.below hb)
                  replace HR4 := Lib.hid (HR4.out.below hb)
                  replace HS4 := Lib.hid (HS4.out.below hb)
                  replace Htb := Lib.hid (Htb.out.below hb)
                  clear hb
                  rw [HSR.out]
                  obtain ⟨k0, k1, k2, k3, k4, k5, k6, k7, k8, k9⟩ := HX.out
                  obtain ⟨j0, j1, j2, j3, j4, j5, j6, j7, j8, j9⟩ := HXX.out
                  go_wp2_with fail
                  clear k0 k1 k2 k3 k4 k5 k6 k7 k8 k9 j0 j1 j2 j3 j4 j5 j6 j7 j8 j9
                  with_reducible refine (awake_c _).mono ?_
                  rintro e wz ⟨rfl, hbz⟩
                  go_wp2_with fail
                  go_ret
                  exact ⟨rfl, HB.out.trans (hbz.mono HB.out.size)⟩
end Go.Proofs.Ytgglfngkomgadaa
