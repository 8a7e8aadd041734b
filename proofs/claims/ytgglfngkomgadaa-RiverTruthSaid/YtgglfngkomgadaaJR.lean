/- the reference: the tank -/
import Derived.Test.YtgglfngkomgadaaJQ
import Derived.Test.YtgglfngkomgadaaJF
import Derived.Test.YtgglfngkomgadaaJK
/- Walks of the reference: IsPlan; of the laws: fault, asked. -/
namespace Go.Proofs.Ytgglfngkomgadaa
open Go.RowKit Go.Shelf
set_option linter.unusedVariables false
set_option linter.unusedSimpArgs false
set_option maxRecDepth 100000

def PlS (q b o o' : Nat) (x p L : Int) (W : World) : Prop := W.cell? ⟨b, o, none⟩ = some (.int .i64 x) ∧ W.cell? ⟨b, o', none⟩ = some (.int .i64 p) ∧ W.cell? ⟨q, 0, none⟩ = some (.int .i64 L)
theorem isPlan_step {last x p : Int} {xs : List Int} {k : Nat} (h0 : -1 ≤ p) (h5 : p ≤ 5) (hx : xs[k]? = some x) : planFrom last p (xs.drop k) = (inB x (p + 1) last && planFrom last x (xs.drop (k + 1))) := by
  rw [planFrom_drop last xs k x p hx]
  have : wrap64 (p + 1) = p + 1 := by unfold wrap64; omega
  rw [this]
theorem inB_split0 (x last : Int) : inB x (-1 + 1) last = inB x 0 last := rfl
theorem inB_split (x p last : Int) (h0 : 0 ≤ p) : inB x (p + 1) last = (inB x 0 last && !decide (x ≤ p)) := by
  rw [Bool.eq_iff_iff]
  simp [inB]; omega

set_option maxHeartbeats 3000000 in
theorem IsPlan_c (r : Riv) (A : RA) (a : Option Addr) (xs : List Int) (c : Nat) (w : World) (hs : Sl w a (ints xs)) (hlen : xs.length ≤ 1000) (h0 : 0 ≤ r.last) (h5 : r.last ≤ 5) :
    Calls Try.prog 33 #[rivV r A, .slice a xs.length c] w fun e w' => e = .returned (.bool (isPlanB r.last xs)) ∧ Below w.heap.size w w' := by
  obtain ⟨R, hR⟩ : ∃ R, R = planFrom r.last (-1) xs := ⟨_, rfl⟩
  have HR := Lib.hid hR
  rw [show isPlanB r.last xs = R from hR.symm]
  have hbx := box_new w r A
  have hb0 := (Below.refl w.heap.size w).alloc (Nat.le_refl _) (rO26 r A)
  clear hR
  go_enter Try.func33, Try.ntmps33
  go_wp2_with fail
  obtain ⟨wq, hwq⟩ : ∃ wq, w.alloc (rO26 r A) = wq := ⟨_, rfl⟩
  rw [hwq] at hbx hb0 ⊢
  have hz := hb0.size
  have HBX := Lib.hid hbx
  have hsq := hs.below hb0
  clear hwq hbx
  go_loopw [5] (fun i wr => ∃ (k : Nat) (p : Int), k ≤ xs.length ∧ i = .int .i64 k ∧ (k = 0 → p = -1) ∧ (∀ j, k = j + 1 → xs[j]? = some p ∧ 0 ≤ p ∧ p ≤ 5) ∧ Hid (R = planFrom r.last p (xs.drop k)) ∧ Below wq.heap.size wq wr) (fun i _ => xs.length - (intOf i).toNat)
  case atStart => exact ⟨0, -1, Nat.zero_le _, rfl, fun _ => rfl, fun j h => (by omega), HR, Below.refl _ _⟩
  case round =>
    obtain ⟨k, p, hk, rfl, hp0, hpk, HP, hB⟩ := hrel
    have HB := Lib.hid hB
    by_cases hlt : k < xs.length
    · obtain ⟨x, hx⟩ : ∃ x, xs[k]? = some x := ⟨_, List.getElem?_eq_getElem hlt⟩
      have HX := Lib.hid hx
      obtain ⟨b, o, ea, d⟩ := (hsq.below hB).int_at hx
      subst ea
      have cL := (HBX.out.below hB).k0
      have ew : IntKind.i64.wrap ((k : Int) + 1) = (k : Int) + 1 := IntWalk.i64_in _ (by omega)
      clear hx
      by_cases hk0 : k = 0
      · subst hk0
        have hp := hp0 rfl
        have HS : PlS w.heap.size b o o x x r.last wr := ⟨by simpa using d, by simpa using d, cL⟩
        have hst : R = (inB x 0 r.last && planFrom r.last x (xs.drop (0 + 1))) := by rw [HP.out, isPlan_step (by omega) (by omega) HX.out, hp, inB_split0]
        have HST := Lib.hid hst
        clear hp hp0 hpk hst hB d cL
        cases hin : inB x 0 r.last
        · have HIN := Lib.hid hin
          go_wp2_with fail
          refine region_o (S := PlS w.heap.size b o o x x r.last) (.take 0 (.take 1 (.take 2 (.take 3 (.take 4 (.take 5 (.one 6 (.take 7 (.take 8 (.take 9 (.take 10 (.take 11 (.take 12 (.take 13 (.take 14 (.take 15 (.take 16 (.take 17 (.take 18 (.take 19 (.take 20 (.take 21 (.take 22 (.take 23 .nil)))))))))))))))))))))))) (by kernel_rfl) (by kernel_rfl) (fun _ _ d _ _ h => by cases d <;> exact h) (⟨by simpa using HS.1, by simpa using HS.2.1, by simpa using HS.2.2⟩) ?_
          intro W0 hW0 hS0
          have hBW : Below wr.heap.size wr W0 := by subst hW0; exact (Below.refl _ _).drew
          clear hW0
          repeat (first
            | (refine ord_skip rfl ?_ ?_; rfl; simp only [pz])
            | (refine ord_take (v := ?_) rfl ?_ (fun W hW => ?_) ?_; rotate_left; rfl; (obtain ⟨hz0, hz1, hz2⟩ := hW; go_simp; (first | done | with_reducible rfl)); simp only [pz]))
          (refine ord_op rfl ?_ (fun K hK => ?_); rfl; go_simp; refine (In_c _ _ _ _).mono ?_; rintro e w1 ⟨rfl, rfl⟩; rw [HIN.out]; obtain ⟨W1, hWj⟩ : ∃ Q, Q = W0 := ⟨_, rfl⟩; subst hWj; have hS1 := hS0; refine hK _ _ hS1 ?_; clear hK K; try simp only [pz])
          repeat (first
            | (refine ord_skip rfl ?_ ?_; rfl; simp only [pz])
            | (refine ord_take (v := ?_) rfl ?_ (fun W hW => ?_) ?_; rotate_left; rfl; (obtain ⟨hz0, hz1, hz2⟩ := hW; go_simp; (first | done | with_reducible rfl)); simp only [pz]))
          refine ord_nil ?_
          go_wp2_with fail
          go_ret
          exact ⟨ret_bool (by rw [HST.out, HIN.out]; rfl), hb0.trans ((HB.out.trans (hBW.mono HB.out.size)).mono hz)⟩
        · have HIN := Lib.hid hin
          go_wp2_with fail
          refine region_o (S := PlS w.heap.size b o o x x r.last) (.take 0 (.take 1 (.take 2 (.take 3 (.take 4 (.take 5 (.one 6 (.take 7 (.take 8 (.take 9 (.take 10 (.take 11 (.take 12 (.take 13 (.take 14 (.take 15 (.take 16 (.take 17 (.take 18 (.take 19 (.take 20 (.take 21 (.take 22 (.take 23 .nil)))))))))))))))))))))))) (by kernel_rfl) (by kernel_rfl) (fun _ _ d _ _ h => by cases d <;> exact h) (⟨by simpa using HS.1, by simpa using HS.2.1, by simpa using HS.2.2⟩) ?_
          intro W0 hW0 hS0
          have hBW : Below wr.heap.size wr W0 := by subst hW0; exact (Below.refl _ _).drew
          clear hW0
          repeat (first
            | (refine ord_skip rfl ?_ ?_; rfl; simp only [pz])
            | (refine ord_take (v := ?_) rfl ?_ (fun W hW => ?_) ?_; rotate_left; rfl; (obtain ⟨hz0, hz1, hz2⟩ := hW; go_simp; (first | done | with_reducible rfl)); simp only [pz]))
          (refine ord_op rfl ?_ (fun K hK => ?_); rfl; go_simp; refine (In_c _ _ _ _).mono ?_; rintro e w1 ⟨rfl, rfl⟩; rw [HIN.out]; obtain ⟨W1, hWj⟩ : ∃ Q, Q = W0 := ⟨_, rfl⟩; subst hWj; have hS1 := hS0; refine hK _ _ hS1 ?_; clear hK K; try simp only [pz])
          repeat (first
            | (refine ord_skip rfl ?_ ?_; rfl; simp only [pz])
            | (refine ord_take (v := ?_) rfl ?_ (fun W hW => ?_) ?_; rotate_left; rfl; (obtain ⟨hz0, hz1, hz2⟩ := hW; go_simp; (first | done | with_reducible rfl)); simp only [pz]))
          refine ord_nil ?_
          go_wp2_with fail
          go_roundw
          case rel => exact ⟨0 + 1, x, by omega, by go_num, fun h => (by omega), fun j' h => (by
              have hin' := HIN.out
              simp only [inB, decide_eq_true_eq] at hin'
              obtain rfl : j' = 0 := by omega
              exact ⟨HX.out, by omega, by omega⟩), by show R = _; rw [HST.out, HIN.out]; simp, HB.out.trans (hBW.mono HB.out.size)⟩
          case measure => simp [intOf]; omega
      · obtain ⟨j, hj⟩ : ∃ j, k = j + 1 := ⟨k - 1, by omega⟩
        obtain ⟨hpx, hp1, hp2⟩ := hpk j hj
        have hjl : j < xs.length := by omega
        have HJ := Lib.hid hj
        obtain ⟨b', o', ea, d'⟩ := (hsq.below hB).int_at hpx
        cases ea
        have HS : PlS w.heap.size b (o + k) (o + j) x p r.last wr := ⟨d, d', cL⟩
        have hst : R = ((inB x 0 r.last && !decide (x ≤ p)) && planFrom r.last x (xs.drop (k + 1))) := by rw [HP.out, isPlan_step (by omega) (by omega) HX.out, inB_split _ _ _ hp1]
        have HST := Lib.hid hst
        have ekm : IntKind.i64.wrap ((k : Int) - 1) = (j : Int) := by rw [show (k : Int) - 1 = (j : Int) from by omega]; exact IntWalk.i64_in _ (by omega)
        have hkp : 0 < k := by omega
        clear hp0 hpk hst hB d d' cL hpx hj hk0
        cases hin : inB x 0 r.last
        · have HIN := Lib.hid hin
          go_wp2_with fail
          refine region_o (S := PlS w.heap.size b (o + k) (o + j) x p r.last) (.take 0 (.take 1 (.take 2 (.take 3 (.take 4 (.take 5 (.one 6 (.take 7 (.take 8 (.take 9 (.take 10 (.take 11 (.take 12 (.take 13 (.take 14 (.take 15 (.take 16 (.take 17 (.take 18 (.take 19 (.take 20 (.take 21 (.take 22 (.take 23 .nil)))))))))))))))))))))))) (by kernel_rfl) (by kernel_rfl) (fun _ _ d _ _ h => by cases d <;> exact h) (⟨by simpa using HS.1, by simpa using HS.2.1, by simpa using HS.2.2⟩) ?_
          intro W0 hW0 hS0
          have hBW : Below wr.heap.size wr W0 := by subst hW0; exact (Below.refl _ _).drew
          clear hW0
          repeat (first
            | (refine ord_skip rfl ?_ ?_; rfl; simp only [pz])
            | (refine ord_take (v := ?_) rfl ?_ (fun W hW => ?_) ?_; rotate_left; rfl; (obtain ⟨hz0, hz1, hz2⟩ := hW; go_simp; (first | done | with_reducible rfl)); simp only [pz]))
          (refine ord_op rfl ?_ (fun K hK => ?_); rfl; go_simp; refine (In_c _ _ _ _).mono ?_; rintro e w1 ⟨rfl, rfl⟩; rw [HIN.out]; obtain ⟨W1, hWj⟩ : ∃ Q, Q = W0 := ⟨_, rfl⟩; subst hWj; have hS1 := hS0; refine hK _ _ hS1 ?_; clear hK K; try simp only [pz])
          repeat (first
            | (refine ord_skip rfl ?_ ?_; rfl; simp only [pz])
            | (refine ord_take (v := ?_) rfl ?_ (fun W hW => ?_) ?_; rotate_left; rfl; (obtain ⟨hz0, hz1, hz2⟩ := hW; go_simp; (first | done | with_reducible rfl)); simp only [pz]))
          refine ord_nil ?_
          go_wp2_with fail
          go_ret
          exact ⟨ret_bool (by rw [HST.out, HIN.out]; rfl), hb0.trans ((HB.out.trans (hBW.mono HB.out.size)).mono hz)⟩
        · have HIN := Lib.hid hin
          by_cases hxp : x ≤ p
          · have hd : decide (x ≤ p) = true := by simpa using hxp
            have HXP := Lib.hid hxp
            clear hxp
            go_wp2_with fail
            refine region_o (S := PlS w.heap.size b (o + k) (o + j) x p r.last) (.take 0 (.take 1 (.take 2 (.take 3 (.take 4 (.take 5 (.one 6 (.take 7 (.take 8 (.take 9 (.take 10 (.take 11 (.take 12 (.take 13 (.take 14 (.take 15 (.take 16 (.take 17 (.take 18 (.take 19 (.take 20 (.take 21 (.take 22 (.take 23 .nil)))))))))))))))))))))))) (by kernel_rfl) (by kernel_rfl) (fun _ _ d _ _ h => by cases d <;> exact h) (⟨by simpa using HS.1, by simpa using HS.2.1, by simpa using HS.2.2⟩) ?_
            intro W0 hW0 hS0
            have hBW : Below wr.heap.size wr W0 := by subst hW0; exact (Below.refl _ _).drew
            clear hW0
            repeat (first
              | (refine ord_skip rfl ?_ ?_; rfl; simp only [pz])
              | (refine ord_take (v := ?_) rfl ?_ (fun W hW => ?_) ?_; rotate_left; rfl; (obtain ⟨hz0, hz1, hz2⟩ := hW; go_simp; (first | done | with_reducible rfl)); simp only [pz]))
            (refine ord_op rfl ?_ (fun K hK => ?_); rfl; go_simp; refine (In_c _ _ _ _).mono ?_; rintro e w1 ⟨rfl, rfl⟩; rw [HIN.out]; obtain ⟨W1, hWj⟩ : ∃ Q, Q = W0 := ⟨_, rfl⟩; subst hWj; have hS1 := hS0; refine hK _ _ hS1 ?_; clear hK K; try simp only [pz])
            repeat (first
              | (refine ord_skip rfl ?_ ?_; rfl; simp only [pz])
              | (refine ord_take (v := ?_) rfl ?_ (fun W hW => ?_) ?_; rotate_left; rfl; (obtain ⟨hz0, hz1, hz2⟩ := hW; go_simp; (first | done | with_reducible rfl)); simp only [pz]))
            refine ord_nil ?_
            go_wp2_with fail
            go_ret
            exact ⟨ret_bool (by rw [HST.out, HIN.out]; simp [HXP.out]), hb0.trans ((HB.out.trans (hBW.mono HB.out.size)).mono hz)⟩
          · have hd : decide (x ≤ p) = false := by simpa using hxp
            have HXP := Lib.hid hxp
            clear hxp
            go_wp2_with fail
            refine region_o (S := PlS w.heap.size b (o + k) (o + j) x p r.last) (.take 0 (.take 1 (.take 2 (.take 3 (.take 4 (.take 5 (.one 6 (.take 7 (.take 8 (.take 9 (.take 10 (.take 11 (.take 12 (.take 13 (.take 14 (.take 15 (.take 16 (.take 17 (.take 18 (.take 19 (.take 20 (.take 21 (.take 22 (.take 23 .nil)))))))))))))))))))))))) (by kernel_rfl) (by kernel_rfl) (fun _ _ d _ _ h => by cases d <;> exact h) (⟨by simpa using HS.1, by simpa using HS.2.1, by simpa using HS.2.2⟩) ?_
            intro W0 hW0 hS0
            have hBW : Below wr.heap.size wr W0 := by subst hW0; exact (Below.refl _ _).drew
            clear hW0
            repeat (first
              | (refine ord_skip rfl ?_ ?_; rfl; simp only [pz])
              | (refine ord_take (v := ?_) rfl ?_ (fun W hW => ?_) ?_; rotate_left; rfl; (obtain ⟨hz0, hz1, hz2⟩ := hW; go_simp; (first | done | with_reducible rfl)); simp only [pz]))
            (refine ord_op rfl ?_ (fun K hK => ?_); rfl; go_simp; refine (In_c _ _ _ _).mono ?_; rintro e w1 ⟨rfl, rfl⟩; rw [HIN.out]; obtain ⟨W1, hWj⟩ : ∃ Q, Q = W0 := ⟨_, rfl⟩; subst hWj; have hS1 := hS0; refine hK _ _ hS1 ?_; clear hK K; try simp only [pz])
            repeat (first
              | (refine ord_skip rfl ?_ ?_; rfl; simp only [pz])
              | (refine ord_take (v := ?_) rfl ?_ (fun W hW => ?_) ?_; rotate_left; rfl; (obtain ⟨hz0, hz1, hz2⟩ := hW; go_simp; (first | done | with_reducible rfl)); simp only [pz]))
            refine ord_nil ?_
            go_wp2_with fail
            go_roundw
            case rel => exact ⟨k + 1, x, by omega, by go_num, fun h => (by omega), fun j' h => (by
                have hin' := HIN.out
                simp only [inB, decide_eq_true_eq] at hin'
                obtain rfl : j' = k := by omega
                exact ⟨HX.out, by omega, by omega⟩), by show R = _; rw [HST.out, HIN.out]; simp; intro h; have := HXP.out; omega, HB.out.trans (hBW.mono HB.out.size)⟩
            case measure => simp [intOf]; omega
    · have hkk : xs.drop k = [] := List.drop_of_length_le (by omega)
      have HK := Lib.hid hkk
      clear hkk hp0 hpk
      go_wp2_with fail
      go_ret
      exact ⟨ret_bool (by rw [HP.out, HK.out]; rfl), hb0.trans (hB.mono hz)⟩

theorem fault_c (r : Riv) (A : RA) (w : World) (hr : Rd w r A) (hl1 : r.salt.length ≤ 30) (hl2 : r.mud.length ≤ 30) (hl3 : r.use.length ≤ 30) (hl4 : r.gauges.length ≤ 30) :
    Calls Try.prog 32 #[rivV r A] w (RetErr r.faultI w) := by
  go_enter Try.func32, Try.ntmps32
  go_wp2_with fail
  have hb := (Below.refl w.heap.size w).alloc (Nat.le_refl _) (rO26 r A)
  refine (Fault_c r A _ (hr.below hb) hl1 hl2 hl3 hl4).mono ?_
  rintro e w2 ⟨rfl, hb2⟩
  go_wp2_with fail
  go_ret
  exact ⟨rfl, hb.trans (hb2.mono hb.size)⟩

/-- What asking answers in the laws. -/
def askR (r : Riv) (fine : Bool) : Int := if r.faultI ≠ 0 then r.faultI else if !fine then 2 else if (truthsR r).isEmpty then 11 else 0
def RetAsk (r : Riv) (fine : Bool) (w : World) (e : Ending) (w' : World) : Prop := ∃ a c, e = .returned (.tuple #[.slice a (if askR r fine = 0 then (truthsR r).length else 0) c, .int .i64 (askR r fine)]) ∧ (askR r fine = 0 → TL w' a (truthsR r)) ∧ Below w.heap.size w w'
set_option maxHeartbeats 2000000 in
theorem askedR_c (r : Riv) (A : RA) (fine : Bool) (w : World) (hr : Rd w r A) (hl1 : r.salt.length ≤ 30) (hl2 : r.mud.length ≤ 30) (hl3 : r.use.length ≤ 30) (hl4 : r.gauges.length ≤ 30) :
    Calls Try.prog 27 #[rivV r A, .bool fine] w (RetAsk r fine w) := by
  obtain ⟨F, hF⟩ : ∃ F, F = r.faultI := ⟨_, rfl⟩
  obtain ⟨N, hN⟩ : ∃ N, N = askR r fine := ⟨_, rfl⟩
  have HF := Lib.hid hF
  have HN := Lib.hid hN
  have hb := (Below.refl w.heap.size w).alloc (Nat.le_refl _) (rO26 r A)
  have hbx := box_new w r A
  have HRA := Lib.hid (show RetAsk r fine w = fun e w' => ∃ a c, e = .returned (.tuple #[.slice a (if N = 0 then (truthsR r).length else 0) c, .int .i64 N]) ∧ (N = 0 → TL w' a (truthsR r)) ∧ Below w.heap.size w w' from by rw [hN]; rfl)
  clear hN
  by_cases h1 : F = 0
  · have ok := (ok_of_fault (r := r) (by rw [← hF, h1])).1
    have HOK := Lib.hid ok
    have e1 : (F == 0) = true := by simpa using h1
    have H1 := Lib.hid h1
    clear h1 hF ok
    cases fine
    · have hn : N = 2 := by rw [HN.out, askR, if_neg (by rw [← HF.out, H1.out]; simp)]; rfl
      have HNN := Lib.hid hn
      clear hn
      go_enter Try.func27, Try.ntmps27
      go_wp2_with fail
      refine (fault_c r A _ (hr.below hb) hl1 hl2 hl3 hl4).mono ?_
      rintro e w2 ⟨rfl, hb2⟩
      rw [← HF.out, H1.out]
      go_wp2_with fail
      refine bodyPost_ret (v := .tuple #[.slice none 0 0, .int .i64 2]) (by simp [results, Try.results27, go_sem]) rfl ?_
      rw [HRA.out, HNN.out]
      exact ⟨none, 0, rfl, fun h => (by cases h), hb.trans (hb2.mono hb.size)⟩
    · go_enter Try.func27, Try.ntmps27
      go_wp2_with fail
      obtain ⟨wq, hwq⟩ : ∃ wq, w.alloc (rO26 r A) = wq := ⟨_, rfl⟩
      rw [hwq] at hbx hb ⊢
      refine (fault_c r A _ (hr.below hb) hl1 hl2 hl3 hl4).mono ?_
      rintro e w2 ⟨rfl, hb2⟩
      rw [← HF.out, H1.out]
      have hX := hbx.below hb2
      obtain ⟨k0, k1, k2, k3, k4, k5, k6, k7, k8, k9⟩ := hX
      have hb02 := hb.trans (hb2.mono hb.size)
      go_wp2_with fail
      refine (Truths_c r A _ HOK.out (hr.below hb02)).mono ?_
      rintro e w3 ⟨a, c, rfl, htl, hb3⟩
      have HTL := Lib.hid htl
      obtain ⟨T, hT⟩ : ∃ T, T = truthsR r := ⟨_, rfl⟩
      have HT := Lib.hid hT
      rw [← hT]
      clear k0 k1 k2 k3 k4 k5 k6 k7 k8 k9 htl hT
      have hna : N = if T.isEmpty then 11 else 0 := by rw [HN.out, askR, if_neg (by rw [← HF.out, H1.out]; simp), HT.out]; rfl
      have HNA := Lib.hid hna
      clear hna
      cases hTT : T with
      | nil =>
        have HE := Lib.hid hTT
        subst hTT
        go_wp2_with fail
        refine bodyPost_ret (v := .tuple #[.slice none 0 0, .int .i64 11]) (by simp [results, Try.results27, go_sem]) rfl ?_
        have hn : N = 11 := by rw [HNA.out]; rfl
        rw [HRA.out, hn]
        exact ⟨none, 0, rfl, fun h => (by cases h), hb02.trans (hb3.mono hb02.size)⟩
      | cons x l =>
        have HE := Lib.hid hTT
        have ee : (((l.length : Int) + 1) == 0) = false := by rw [beq_eq_false_iff_ne]; omega
        subst hTT
        go_wp2_with fail
        refine bodyPost_ret (v := .tuple #[.slice a (l.length + 1) c, .int .i64 0]) (by simp [results, Try.results27, go_sem]) rfl ?_
        have hn : N = 0 := by rw [HNA.out]; rfl
        rw [HRA.out, hn]
        exact ⟨a, c, by rw [← HT.out]; rfl, fun _ => HTL.out, hb02.trans (hb3.mono hb02.size)⟩
  · have e1 : (F == 0) = false := by simpa using h1
    have H1 := Lib.hid h1
    clear h1 hF
    have hn : N = F := by rw [HN.out, askR, if_pos (by rw [← HF.out]; exact H1.out), HF.out]
    have HNN := Lib.hid hn
    clear hn
    go_enter Try.func27, Try.ntmps27
    go_wp2_with fail
    refine (fault_c r A _ (hr.below hb) hl1 hl2 hl3 hl4).mono ?_
    rintro e w2 ⟨rfl, hb2⟩
    rw [← HF.out]
    go_wp2_with fail
    refine bodyPost_ret (v := .tuple #[.slice none 0 0, .int .i64 F]) (by simp [results, Try.results27, go_sem]) rfl ?_
    rw [HRA.out, HNN.out]
    exact ⟨none, 0, by rw [if_neg H1.out], fun h => absurd h H1.out, hb.trans (hb2.mono hb.size)⟩
end Go.Proofs.Ytgglfngkomgadaa
/- Walks of the reference: Before, After, Lack. -/
namespace Go.Proofs.Ytgglfngkomgadaa
open Go.RowKit Go.Shelf
set_option linter.unusedVariables false
set_option linter.unusedSimpArgs false
set_option maxRecDepth 100000

/-- What is in the tank before a day's Use is taken, from what was in it. -/
def befV (r : Riv) (t : Tr) (plan : List Int) (S T : Int) (D : Nat) (n : Int) : Int :=
  if plan.contains (D : Int) && goodD r t D then min S ((if (D : Int) = T then 0 else n) + r.draw) else if (D : Int) = T then 0 else n
/-- What is in it after so many days. -/
def aftV (r : Riv) (t : Tr) (plan : List Int) (S T : Int) : Nat → Int
  | 0 => r.start
  | D + 1 => max 0 (befV r t plan S T D (aftV r t plan S T D) - r.use.getD D 0)
def befR (r : Riv) (t : Tr) (plan : List Int) (S T : Int) (D : Nat) : Int := befV r t plan S T D (aftV r t plan S T D)
/-- What After reads. -/
structure UsS (q u b o : Nat) (r : Riv) (A : RA) (t : Tr) (B : TA) (us : Value) (x : Int) (W : World) : Prop where
  bx : BxT q u r A t B W
  us : W.cell? ⟨q, 8, none⟩ = some us
  ux : W.cell? ⟨b, o, none⟩ = some (.int .i64 x)
theorem UsS.below {q u b o : Nat} {r : Riv} {A : RA} {t : Tr} {B : TA} {us : Value} {x : Int} {W W' : World} (h : UsS q u b o r A t B us x W) (hb : Below W.heap.size W W') : UsS q u b o r A t B us x W' :=
  have hw : Wr (fun _ => False) W W' := Wr.of_below hb
  ⟨h.bx.below hb, hw.cell (fun e => e) h.us, hw.cell (fun e => e) h.ux⟩
theorem use_bd {r : Riv} (ok : Ok r) (D : Nat) : 0 ≤ r.use.getD D 0 ∧ r.use.getD D 0 ≤ 99 := by
  rw [List.getD_eq_getElem?_getD]
  cases h : r.use[D]? with
  | none => simp
  | some u => simpa using ok.uo u (List.mem_of_getElem? h)
theorem befV_bd {r : Riv} (ok : Ok r) (t : Tr) (plan : List Int) (S T : Int) (hS : 0 ≤ S) (hS9 : S ≤ 99) (D : Nat) (n : Int) (h0 : 0 ≤ n) (h9 : n ≤ 99) : 0 ≤ befV r t plan S T D n ∧ befV r t plan S T D n ≤ 99 := by
  have := ok.dr
  unfold befV
  split <;> split <;> omega
theorem aftV_bd {r : Riv} (ok : Ok r) (t : Tr) (plan : List Int) (S T : Int) (hS : 0 ≤ S) (hS9 : S ≤ 99) : ∀ D, 0 ≤ aftV r t plan S T D ∧ aftV r t plan S T D ≤ 99
  | 0 => by have := ok.st; have := ok.sz; simp only [aftV]; omega
  | D + 1 => by
    have ih := aftV_bd ok t plan S T hS hS9 D
    have h1 := befV_bd ok t plan S T hS hS9 D _ ih.1 ih.2
    have h2 := use_bd ok D
    simp only [aftV]; omega
def AfC (r : Riv) (A : RA) (t : Tr) (B : TA) (a : Option Addr) (xs : List Int) (c : Nat) (S T : Int) (D : Nat) : Prop := ∀ w : World, Rd w r A → RdT w t B → Sl w a (ints xs) →
  Calls Try.prog 49 #[rivV r A, trV t B, .slice a xs.length c, .int .i64 S, .int .i64 T, .int .i64 D] w fun e w' => e = .returned (.int .i64 (aftV r t xs S T (D + 1))) ∧ Below w.heap.size w w'
def BfC (r : Riv) (A : RA) (t : Tr) (B : TA) (a : Option Addr) (xs : List Int) (c : Nat) (S T : Int) (D : Nat) : Prop := ∀ w : World, Rd w r A → RdT w t B → Sl w a (ints xs) →
  Calls Try.prog 104 #[rivV r A, trV t B, .slice a xs.length c, .int .i64 S, .int .i64 T, .int .i64 D] w fun e w' => e = .returned (.int .i64 (befR r t xs S T D)) ∧ Below w.heap.size w w'

set_option maxHeartbeats 6000000 in
theorem Before_of (r : Riv) (A : RA) (t : Tr) (B : TA) (a : Option Addr) (xs : List Int) (c : Nat) (S T : Int) (ok : Ok r) (hS : 0 ≤ S) (hS9 : S ≤ 99) (hlen : xs.length ≤ 1000) (hl1 : (t.salt.length : Int) = r.last + 1) (hl2 : (t.mud.length : Int) = r.last + 1)
    (D : Nat) (hD : (D : Int) ≤ r.last) (hA : ∀ j, D = j + 1 → AfC r A t B a xs c S T j) : BfC r A t B a xs c S T D := by
  intro w hr ht hs
  obtain ⟨N0, hN0⟩ : ∃ n, n = aftV r t xs S T D := ⟨_, rfl⟩
  have hbd := aftV_bd ok t xs S T hS hS9 D
  rw [← hN0] at hbd
  obtain ⟨R, hR⟩ : ∃ R, R = befR r t xs S T D := ⟨_, rfl⟩
  have hR2 : R = befV r t xs S T D N0 := by rw [hR, hN0]; rfl
  have HR := Lib.hid hR2
  have HN0 := Lib.hid hN0
  rw [← hR]
  have HAC := Lib.hid hA
  have hdr := ok.dr
  have hk1 : D < t.salt.length := by omega
  have hk2 : D < t.mud.length := by omega
  have hD5 : D ≤ 5 := by have := ok.l5; omega
  have tb := two_boxes w r A t B
  have TB := Lib.hid tb
  obtain ⟨gd, hgd⟩ : ∃ b, b = goodD r t D := ⟨_, rfl⟩
  have HGD := Lib.hid hgd
  obtain ⟨cd, hcd⟩ : ∃ b, b = xs.contains (D : Int) := ⟨_, rfl⟩
  have HCD := Lib.hid hcd
  clear hR hR2 hN0 hA tb hgd hcd hl1 hl2 ok
  have w1 : IntKind.i64.wrap (N0 + r.draw) = N0 + r.draw := IntWalk.i64_in _ (by omega)
  have w2 : IntKind.i64.wrap (0 + r.draw) = 0 + r.draw := IntWalk.i64_in _ (by omega)
  have w3 : IntKind.i64.wrap r.draw = r.draw := IntWalk.i64_in _ (by omega)
  by_cases hst : (D : Int) = T
  · have est : ((D : Int) == T) = true := by simpa using hst
    have HST := Lib.hid hst
    clear hst
    by_cases hD0 : D = 0
    · have hN : N0 = r.start := by rw [HN0.out, hD0]; rfl
      have HNS := Lib.hid hN
      have hd0 : decide ((0 : Int) < (D : Int)) = false := by simp; omega
      have hdz : ¬ 0 < D := by omega
      clear hN hD0
      go_enter Try.func104, Try.ntmps104
      go_wp2_with fail
      obtain ⟨wv, hwv⟩ : ∃ wv, (w.alloc (rO26 r A)).alloc (tO64 t B) = wv := ⟨_, rfl⟩
      rw [hwv] at TB ⊢
      rw [← HNS.out]
      have HXv := Lib.hid (show BxT w.heap.size (w.heap.size + 1) r A t B wv from ⟨TB.out.1, by rw [cell_blk TB.out.2.1]; rfl, by rw [cell_blk TB.out.2.1]; rfl⟩)
      have hBv := Lib.hid TB.out.2.2
      clear hwv
      obtain ⟨⟨k0, k1, k2, k3, k4, k5, k6, k7, k8, k9⟩, t0, t1⟩ := HXv.out
      have hsv := hs.below hBv.out
      cases cd
      · go_wp2_with (go_at_call 60; refine (Has_c a xs c (D : Int) _ hsv hlen).mono ?_; rintro e w' ⟨rfl, rfl⟩; rw [← HCD.out])
        go_ret
        refine ⟨ret_int ?_, hBv.out⟩
        rw [HR.out, befV, ← HCD.out]
        simp [HST.out]
      · go_wp2_with (go_at_call 60; refine (Has_c a xs c (D : Int) _ hsv hlen).mono ?_; rintro e w' ⟨rfl, rfl⟩; rw [← HCD.out])
        refine (IsGood_c r A t B D _ (ht.below hBv.out) hk1 hk2).mono ?_
        rintro e wg ⟨rfl, hbg⟩
        rw [← HGD.out]
        have HBG := Lib.hid (hBv.out.trans (hbg.mono hBv.out.size))
        have HXG := Lib.hid (HXv.out.below hbg)
        clear k0 k1 k2 k3 k4 k5 k6 k7 k8 k9 t0 t1 hsv hbg
        obtain ⟨⟨k0, k1, k2, k3, k4, k5, k6, k7, k8, k9⟩, t0, t1⟩ := HXG.out
        cases gd
        · go_wp2_with fail
          go_ret
          refine ⟨ret_int ?_, HBG.out⟩
          rw [HR.out, befV, ← HCD.out, ← HGD.out]
          simp [HST.out]
        · go_wp2_with fail
          go_ret
          refine ⟨ret_int ?_, HBG.out⟩
          rw [HR.out, befV, ← HCD.out, ← HGD.out]
          simp [HST.out]
    · obtain ⟨j, hj⟩ : ∃ j, D = j + 1 := ⟨D - 1, by omega⟩
      have HJ := Lib.hid hj
      have hdp : 0 < D := by omega
      have ekm : IntKind.i64.wrap ((D : Int) - 1) = (j : Int) := by rw [show (D : Int) - 1 = (j : Int) from by omega]; exact IntWalk.i64_in _ (by omega)
      clear hj hD0
      go_enter Try.func104, Try.ntmps104
      go_wp2_with fail
      obtain ⟨wq, hwq⟩ : ∃ wq, (w.alloc (rO26 r A)).alloc (tO64 t B) = wq := ⟨_, rfl⟩
      rw [hwq] at TB ⊢
      clear hwq
      refine (HAC.out j HJ.out _ (hr.below TB.out.2.2) (ht.below TB.out.2.2) (hs.below TB.out.2.2)).mono ?_
      rintro e wv ⟨rfl, hbv⟩
      rw [show aftV r t xs S T (j + 1) = N0 from by rw [HN0.out, HJ.out]]
      have HXv := Lib.hid ((show BxT w.heap.size (w.heap.size + 1) r A t B wq from ⟨TB.out.1, by rw [cell_blk TB.out.2.1]; rfl, by rw [cell_blk TB.out.2.1]; rfl⟩).below hbv)
      have hBv := Lib.hid (TB.out.2.2.trans (hbv.mono TB.out.2.2.size))
      clear hbv
      obtain ⟨⟨k0, k1, k2, k3, k4, k5, k6, k7, k8, k9⟩, t0, t1⟩ := HXv.out
      have hsv := hs.below hBv.out
      cases cd
      · go_wp2_with (go_at_call 60; refine (Has_c a xs c (D : Int) _ hsv hlen).mono ?_; rintro e w' ⟨rfl, rfl⟩; rw [← HCD.out])
        go_ret
        refine ⟨ret_int ?_, hBv.out⟩
        rw [HR.out, befV, ← HCD.out]
        simp [HST.out]
      · go_wp2_with (go_at_call 60; refine (Has_c a xs c (D : Int) _ hsv hlen).mono ?_; rintro e w' ⟨rfl, rfl⟩; rw [← HCD.out])
        refine (IsGood_c r A t B D _ (ht.below hBv.out) hk1 hk2).mono ?_
        rintro e wg ⟨rfl, hbg⟩
        rw [← HGD.out]
        have HBG := Lib.hid (hBv.out.trans (hbg.mono hBv.out.size))
        have HXG := Lib.hid (HXv.out.below hbg)
        clear k0 k1 k2 k3 k4 k5 k6 k7 k8 k9 t0 t1 hsv hbg
        obtain ⟨⟨k0, k1, k2, k3, k4, k5, k6, k7, k8, k9⟩, t0, t1⟩ := HXG.out
        cases gd
        · go_wp2_with fail
          go_ret
          refine ⟨ret_int ?_, HBG.out⟩
          rw [HR.out, befV, ← HCD.out, ← HGD.out]
          simp [HST.out]
        · go_wp2_with fail
          go_ret
          refine ⟨ret_int ?_, HBG.out⟩
          rw [HR.out, befV, ← HCD.out, ← HGD.out]
          simp [HST.out]
  · have est : ((D : Int) == T) = false := by simpa using hst
    have HST := Lib.hid hst
    clear hst
    by_cases hD0 : D = 0
    · have hN : N0 = r.start := by rw [HN0.out, hD0]; rfl
      have HNS := Lib.hid hN
      have hd0 : decide ((0 : Int) < (D : Int)) = false := by simp; omega
      have hdz : ¬ 0 < D := by omega
      clear hN hD0
      go_enter Try.func104, Try.ntmps104
      go_wp2_with fail
      obtain ⟨wv, hwv⟩ : ∃ wv, (w.alloc (rO26 r A)).alloc (tO64 t B) = wv := ⟨_, rfl⟩
      rw [hwv] at TB ⊢
      rw [← HNS.out]
      have HXv := Lib.hid (show BxT w.heap.size (w.heap.size + 1) r A t B wv from ⟨TB.out.1, by rw [cell_blk TB.out.2.1]; rfl, by rw [cell_blk TB.out.2.1]; rfl⟩)
      have hBv := Lib.hid TB.out.2.2
      clear hwv
      obtain ⟨⟨k0, k1, k2, k3, k4, k5, k6, k7, k8, k9⟩, t0, t1⟩ := HXv.out
      have hsv := hs.below hBv.out
      cases cd
      · go_wp2_with (go_at_call 60; refine (Has_c a xs c (D : Int) _ hsv hlen).mono ?_; rintro e w' ⟨rfl, rfl⟩; rw [← HCD.out])
        go_ret
        refine ⟨ret_int ?_, hBv.out⟩
        rw [HR.out, befV, ← HCD.out]
        simp [HST.out]
      · go_wp2_with (go_at_call 60; refine (Has_c a xs c (D : Int) _ hsv hlen).mono ?_; rintro e w' ⟨rfl, rfl⟩; rw [← HCD.out])
        refine (IsGood_c r A t B D _ (ht.below hBv.out) hk1 hk2).mono ?_
        rintro e wg ⟨rfl, hbg⟩
        rw [← HGD.out]
        have HBG := Lib.hid (hBv.out.trans (hbg.mono hBv.out.size))
        have HXG := Lib.hid (HXv.out.below hbg)
        clear k0 k1 k2 k3 k4 k5 k6 k7 k8 k9 t0 t1 hsv hbg
        obtain ⟨⟨k0, k1, k2, k3, k4, k5, k6, k7, k8, k9⟩, t0, t1⟩ := HXG.out
        cases gd
        · go_wp2_with fail
          go_ret
          refine ⟨ret_int ?_, HBG.out⟩
          rw [HR.out, befV, ← HCD.out, ← HGD.out]
          simp [HST.out]
        · go_wp2_with fail
          go_ret
          refine ⟨ret_int ?_, HBG.out⟩
          rw [HR.out, befV, ← HCD.out, ← HGD.out]
          simp [HST.out]
    · obtain ⟨j, hj⟩ : ∃ j, D = j + 1 := ⟨D - 1, by omega⟩
      have HJ := Lib.hid hj
      have hdp : 0 < D := by omega
      have ekm : IntKind.i64.wrap ((D : Int) - 1) = (j : Int) := by rw [show (D : Int) - 1 = (j : Int) from by omega]; exact IntWalk.i64_in _ (by omega)
      clear hj hD0
      go_enter Try.func104, Try.ntmps104
      go_wp2_with fail
      obtain ⟨wq, hwq⟩ : ∃ wq, (w.alloc (rO26 r A)).alloc (tO64 t B) = wq := ⟨_, rfl⟩
      rw [hwq] at TB ⊢
      clear hwq
      refine (HAC.out j HJ.out _ (hr.below TB.out.2.2) (ht.below TB.out.2.2) (hs.below TB.out.2.2)).mono ?_
      rintro e wv ⟨rfl, hbv⟩
      rw [show aftV r t xs S T (j + 1) = N0 from by rw [HN0.out, HJ.out]]
      have HXv := Lib.hid ((show BxT w.heap.size (w.heap.size + 1) r A t B wq from ⟨TB.out.1, by rw [cell_blk TB.out.2.1]; rfl, by rw [cell_blk TB.out.2.1]; rfl⟩).below hbv)
      have hBv := Lib.hid (TB.out.2.2.trans (hbv.mono TB.out.2.2.size))
      clear hbv
      obtain ⟨⟨k0, k1, k2, k3, k4, k5, k6, k7, k8, k9⟩, t0, t1⟩ := HXv.out
      have hsv := hs.below hBv.out
      cases cd
      · go_wp2_with (go_at_call 60; refine (Has_c a xs c (D : Int) _ hsv hlen).mono ?_; rintro e w' ⟨rfl, rfl⟩; rw [← HCD.out])
        go_ret
        refine ⟨ret_int ?_, hBv.out⟩
        rw [HR.out, befV, ← HCD.out]
        simp [HST.out]
      · go_wp2_with (go_at_call 60; refine (Has_c a xs c (D : Int) _ hsv hlen).mono ?_; rintro e w' ⟨rfl, rfl⟩; rw [← HCD.out])
        refine (IsGood_c r A t B D _ (ht.below hBv.out) hk1 hk2).mono ?_
        rintro e wg ⟨rfl, hbg⟩
        rw [← HGD.out]
        have HBG := Lib.hid (hBv.out.trans (hbg.mono hBv.out.size))
        have HXG := Lib.hid (HXv.out.below hbg)
        clear k0 k1 k2 k3 k4 k5 k6 k7 k8 k9 t0 t1 hsv hbg
        obtain ⟨⟨k0, k1, k2, k3, k4, k5, k6, k7, k8, k9⟩, t0, t1⟩ := HXG.out
        cases gd
        · go_wp2_with fail
          go_ret
          refine ⟨ret_int ?_, HBG.out⟩
          rw [HR.out, befV, ← HCD.out, ← HGD.out]
          simp [HST.out]
        · go_wp2_with fail
          go_ret
          refine ⟨ret_int ?_, HBG.out⟩
          rw [HR.out, befV, ← HCD.out, ← HGD.out]
          simp [HST.out]

set_option maxHeartbeats 4000000 in
theorem After_of (r : Riv) (A : RA) (t : Tr) (B : TA) (a : Option Addr) (xs : List Int) (c : Nat) (S T : Int) (ok : Ok r) (hS : 0 ≤ S) (hS9 : S ≤ 99) (hl3 : (r.use.length : Int) = r.last + 1)
    (D : Nat) (hD : (D : Int) ≤ r.last) (hB : BfC r A t B a xs c S T D) : AfC r A t B a xs c S T D := by
  obtain ⟨sa, sc, ma, mc, ua, uc, ga, gc⟩ := A
  intro w hr ht hs
  obtain ⟨N0, hN0⟩ : ∃ n, n = befR r t xs S T D := ⟨_, rfl⟩
  have hbd0 := aftV_bd ok t xs S T hS hS9 D
  have hbd := befV_bd ok t xs S T hS hS9 D _ hbd0.1 hbd0.2
  rw [show befV r t xs S T D (aftV r t xs S T D) = N0 from hN0.symm] at hbd
  have hDu : D < r.use.length := by omega
  obtain ⟨u, hu⟩ : ∃ u, r.use[D]? = some u := ⟨_, List.getElem?_eq_getElem hDu⟩
  have hub := ok.uo u (List.mem_of_getElem? hu)
  obtain ⟨R, hR⟩ : ∃ R, R = aftV r t xs S T (D + 1) := ⟨_, rfl⟩
  have hR2 : R = max 0 (N0 - u) := by rw [hR, aftV, show befV r t xs S T D (aftV r t xs S T D) = N0 from hN0.symm]; simp [List.getD, hu]
  have HR := Lib.hid hR2
  have HN0 := Lib.hid hN0
  rw [← hR]
  have HBC := Lib.hid hB
  have tb := two_boxes w r ⟨sa, sc, ma, mc, ua, uc, ga, gc⟩ t B
  have TB := Lib.hid tb
  obtain ⟨b, o, ea, d⟩ := (hr.u.below tb.2.2).int_at hu
  obtain rfl : ua = some ⟨b, o, none⟩ := ea
  have hw1 : IntKind.i64.wrap (N0 - u) = N0 - u := IntWalk.i64_in _ (by omega)
  have HU : UsS w.heap.size (w.heap.size + 1) b (o + D) r ⟨sa, sc, ma, mc, some ⟨b, o, none⟩, uc, ga, gc⟩ t B (.slice (some ⟨b, o, none⟩) r.use.length uc) u ((w.alloc (rO26 r ⟨sa, sc, ma, mc, some ⟨b, o, none⟩, uc, ga, gc⟩)).alloc (tO64 t B)) :=
    ⟨⟨tb.1, by rw [cell_blk tb.2.1]; rfl, by rw [cell_blk tb.2.1]; rfl⟩, tb.1.k8, d⟩
  have HUS := Lib.hid HU
  clear hR hR2 hN0 hB tb hl3 hu d HU ok hbd0
  go_enter Try.func49, Try.ntmps49
  go_wp2_with fail
  obtain ⟨wq, hwq⟩ : ∃ wq, (w.alloc (rO26 r ⟨sa, sc, ma, mc, some ⟨b, o, none⟩, uc, ga, gc⟩)).alloc (tO64 t B) = wq := ⟨_, rfl⟩
  rw [hwq] at TB HUS ⊢
  have hz := TB.out.2.2.size
  clear hwq
  refine region_o (S := UsS w.heap.size (w.heap.size + 1) b (o + D) r ⟨sa, sc, ma, mc, some ⟨b, o, none⟩, uc, ga, gc⟩ t B (.slice (some ⟨b, o, none⟩) r.use.length uc) u) (.take 0 (.take 1 (.take 2 (.take 3 (.take 4 (.take 5 (.take 7 (.take 8 (.take 9 (.take 10 (.take 11 (.one 6 (.take 12 (.take 13 (.take 14 .nil))))))))))))))) (by kernel_rfl) (by kernel_rfl) (fun _ _ d _ _ h => by cases d <;> exact h) (HUS.out.below (Below.refl _ _).drew) ?_
  intro W0 hW0 hS0
  have hBW : Below wq.heap.size wq W0 := by subst hW0; exact (Below.refl _ _).drew
  clear hW0
  repeat (first
    | (refine ord_skip rfl ?_ ?_; rfl; simp only [pz])
    | (refine ord_take (v := ?_) rfl ?_ (fun W hW => ?_) ?_; rotate_left; rfl; (obtain ⟨⟨⟨k0, k1, k2, k3, k4, k5, k6, k7, k8, k9⟩, t0, t1⟩, u0, u1⟩ := hW; go_simp; (first | done | with_reducible rfl)); simp only [pz]))
  (refine ord_op rfl ?_ (fun K hK => ?_); rfl; go_simp; refine (HBC.out _ (hr.below (TB.out.2.2.trans (hBW.mono hz))) (ht.below (TB.out.2.2.trans (hBW.mono hz))) (hs.below (TB.out.2.2.trans (hBW.mono hz)))).mono ?_; rintro e W1 ⟨rfl, hb1⟩; rw [← HN0.out]; have hS1 := UsS.below hS0 hb1; have hBc := hBW.trans (hb1.mono hBW.size); refine hK _ _ hS1 ?_; clear hK K; try simp only [pz])
  repeat (first
    | (refine ord_skip rfl ?_ ?_; rfl; simp only [pz])
    | (refine ord_take (v := ?_) rfl ?_ (fun W hW => ?_) ?_; rotate_left; rfl; (obtain ⟨⟨⟨k0, k1, k2, k3, k4, k5, k6, k7, k8, k9⟩, t0, t1⟩, u0, u1⟩ := hW; go_simp; (first | done | with_reducible rfl)); simp only [pz]))
  refine ord_nil ?_
  go_wp2_with fail
  go_ret
  exact ⟨ret_int (by rw [HR.out]), TB.out.2.2.trans (hBc.mono hz)⟩
theorem BA_c (r : Riv) (A : RA) (t : Tr) (B : TA) (a : Option Addr) (xs : List Int) (c : Nat) (S T : Int) (ok : Ok r) (hS : 0 ≤ S) (hS9 : S ≤ 99) (hlen : xs.length ≤ 1000) (hl1 : (t.salt.length : Int) = r.last + 1) (hl2 : (t.mud.length : Int) = r.last + 1) :
    ∀ D : Nat, (D : Int) ≤ r.last → BfC r A t B a xs c S T D ∧ AfC r A t B a xs c S T D
  | 0, hD => by
    have h := Before_of r A t B a xs c S T ok hS hS9 hlen hl1 hl2 0 hD (fun j h => by omega)
    exact ⟨h, After_of r A t B a xs c S T ok hS hS9 ok.nu 0 hD h⟩
  | D + 1, hD => by
    have ih := BA_c r A t B a xs c S T ok hS hS9 hlen hl1 hl2 D (by omega)
    have h := Before_of r A t B a xs c S T ok hS hS9 hlen hl1 hl2 (D + 1) hD (fun j h => by obtain rfl : D = j := (by omega); exact ih.2)
    exact ⟨h, After_of r A t B a xs c S T ok hS hS9 ok.nu (D + 1) hD h⟩
end Go.Proofs.Ytgglfngkomgadaa
/- Walks of the reference: Lack, Lacks. -/
namespace Go.Proofs.Ytgglfngkomgadaa
open Go.RowKit Go.Shelf
set_option linter.unusedVariables false
set_option linter.unusedSimpArgs false
set_option maxRecDepth 100000

def lackR (r : Riv) (t : Tr) (plan : List Int) (S T : Int) : Int :=
  match (List.range r.use.length).find? (fun D => decide (befR r t plan S T D < r.use.getD D 0)) with
  | some D => D
  | none => r.last + 1
def lackO (r : Riv) : Option Nat → Int
  | some D => D
  | none => r.last + 1
theorem lackR_eq (r : Riv) (t : Tr) (plan : List Int) (S T : Int) : lackR r t plan S T = lackO r ((List.range' 0 (r.use.length - 0)).find? (fun D => decide (befR r t plan S T D < r.use.getD D 0))) := by
  unfold lackR
  rw [List.range_eq_range', Nat.sub_zero]
  cases (List.range' 0 r.use.length).find? (fun D => decide (befR r t plan S T D < r.use.getD D 0)) <;> rfl
theorem lackR_bd {r : Riv} (ok : Ok r) (t : Tr) (plan : List Int) (S T : Int) : 0 ≤ lackR r t plan S T ∧ lackR r t plan S T ≤ r.last + 1 := by
  unfold lackR
  have := ok.nu
  have := ok.l0
  split
  · rename_i D h
    have := List.mem_of_find?_eq_some h
    rw [List.mem_range] at this
    omega
  · omega

set_option maxHeartbeats 4000000 in
theorem Lack_c (r : Riv) (A : RA) (t : Tr) (B : TA) (a : Option Addr) (xs : List Int) (c : Nat) (S T : Int) (ok : Ok r) (hS : 0 ≤ S) (hS9 : S ≤ 99) (hlen : xs.length ≤ 1000) (hl1 : (t.salt.length : Int) = r.last + 1) (hl2 : (t.mud.length : Int) = r.last + 1)
    (w : World) (hr : Rd w r A) (ht : RdT w t B) (hs : Sl w a (ints xs)) :
    Calls Try.prog 87 #[rivV r A, trV t B, .slice a xs.length c, .int .i64 S, .int .i64 T] w fun e w' => e = .returned (.int .i64 (lackR r t xs S T)) ∧ Below w.heap.size w w' := by
  have HBA := Lib.hid (BA_c r A t B a xs c S T ok hS hS9 hlen hl1 hl2)
  obtain ⟨sa, sc, ma, mc, ua, uc, ga, gc⟩ := A
  obtain ⟨R, hR⟩ : ∃ R, R = lackR r t xs S T := ⟨_, rfl⟩
  have hR2 := hR
  rw [lackR_eq] at hR2
  have HR := Lib.hid hR2
  rw [← hR]
  have hl5 := ok.l5
  have hl0 := ok.l0
  have HNU := Lib.hid ok.nu
  have hu6 : r.use.length ≤ 6 := by have := ok.nu; omega
  have hu1 : 0 < r.use.length := by have := ok.nu; omega
  obtain ⟨u0, hu0⟩ : ∃ u, r.use[0]? = some u := ⟨_, List.getElem?_eq_getElem hu1⟩
  obtain ⟨b, o, ea, -⟩ := hr.u.int_at hu0
  obtain rfl : ua = some ⟨b, o, none⟩ := ea
  have tb := two_boxes w r ⟨sa, sc, ma, mc, some ⟨b, o, none⟩, uc, ga, gc⟩ t B
  have TB := Lib.hid tb
  have ewl : IntKind.i64.wrap (r.last + 1) = r.last + 1 := IntWalk.i64_in _ (by omega)
  clear hR hR2 tb ok hu0 hl1 hl2
  go_enter Try.func87, Try.ntmps87
  go_wp2_with fail
  obtain ⟨wq, hwq⟩ : ∃ wq, (w.alloc (rO26 r ⟨sa, sc, ma, mc, some ⟨b, o, none⟩, uc, ga, gc⟩)).alloc (tO64 t B) = wq := ⟨_, rfl⟩
  rw [hwq] at TB ⊢
  have hz := TB.out.2.2.size
  have HX0 := Lib.hid (show BxT w.heap.size (w.heap.size + 1) r ⟨sa, sc, ma, mc, some ⟨b, o, none⟩, uc, ga, gc⟩ t B wq from ⟨TB.out.1, by rw [cell_blk TB.out.2.1]; rfl, by rw [cell_blk TB.out.2.1]; rfl⟩)
  clear hwq
  go_loopw [11] (fun i wr => ∃ (k : Nat), k ≤ r.use.length ∧ i = .int .i64 k ∧ Hid (R = lackO r ((List.range' k (r.use.length - k)).find? (fun D => decide (befR r t xs S T D < r.use.getD D 0)))) ∧ Below wq.heap.size wq wr) (fun i _ => 100 - (intOf i).toNat)
  case atStart => exact ⟨0, Nat.zero_le _, rfl, HR, Below.refl _ _⟩
  case round =>
    obtain ⟨k, hk, rfl, HP, hB⟩ := hrel
    have HB := Lib.hid hB
    have hBw := TB.out.2.2.trans (hB.mono hz)
    have HXr := Lib.hid (HX0.out.below hB)
    obtain ⟨⟨k0, k1, k2, k3, k4, k5, k6, k7, k8, k9⟩, t0, t1⟩ := HXr.out
    by_cases hlt : k < r.use.length
    · have hle : (k : Int) ≤ r.last := by have := HNU.out; omega
      obtain ⟨u, hu⟩ : ∃ u, r.use[k]? = some u := ⟨_, List.getElem?_eq_getElem hlt⟩
      obtain ⟨b2, o2, ea2, d⟩ := (hr.u.below hBw).int_at hu
      cases ea2
      have HU := Lib.hid (show r.use.getD k 0 = u from by simp [List.getD, hu])
      obtain ⟨N0, hN0⟩ : ∃ n, n = befR r t xs S T k := ⟨_, rfl⟩
      have HN0 := Lib.hid hN0
      have HS : UsS w.heap.size (w.heap.size + 1) b (o + k) r ⟨sa, sc, ma, mc, some ⟨b, o, none⟩, uc, ga, gc⟩ t B (.slice (some ⟨b, o, none⟩) r.use.length uc) u wr := ⟨HXr.out, k8, d⟩
      have HSS := Lib.hid HS
      have hst := findr_step (p := fun D => decide (befR r t xs S T D < r.use.getD D 0)) r.use.length k hlt
      have HST := Lib.hid hst
      have ew : IntKind.i64.wrap ((k : Int) + 1) = (k : Int) + 1 := IntWalk.i64_in _ (by omega)
      clear hu hN0 hst d HS hB
      go_wp2_with fail
      refine region_o (S := UsS w.heap.size (w.heap.size + 1) b (o + k) r ⟨sa, sc, ma, mc, some ⟨b, o, none⟩, uc, ga, gc⟩ t B (.slice (some ⟨b, o, none⟩) r.use.length uc) u) (.take 0 (.take 1 (.take 2 (.take 3 (.take 4 (.take 5 (.take 7 (.take 8 (.take 9 (.take 10 (.take 11 (.one 6 (.take 12 .nil))))))))))))) (by kernel_rfl) (by kernel_rfl) (fun _ _ d _ _ h => by cases d <;> exact h) (HSS.out.below (Below.refl _ _).drew) ?_
      intro W0 hW0 hS0
      have hBW : Below wr.heap.size wr W0 := by subst hW0; exact (Below.refl _ _).drew
      clear hW0
      repeat (first
        | (refine ord_skip rfl ?_ ?_; rfl; simp only [pz])
        | (refine ord_take (v := ?_) rfl ?_ (fun W hW => ?_) ?_; rotate_left; rfl; (obtain ⟨⟨⟨k0, k1, k2, k3, k4, k5, k6, k7, k8, k9⟩, t0, t1⟩, u0, u1⟩ := hW; go_simp; (first | done | with_reducible rfl)); simp only [pz]))
      (refine ord_op rfl ?_ (fun K hK => ?_); rfl; go_simp; refine ((HBA.out k hle).1 _ (hr.below (hBw.trans (hBW.mono hBw.size))) (ht.below (hBw.trans (hBW.mono hBw.size))) (hs.below (hBw.trans (hBW.mono hBw.size)))).mono ?_; rintro e W1 ⟨rfl, hb1⟩; rw [← HN0.out]; have hS1 := UsS.below hS0 hb1; have hBc := hBW.trans (hb1.mono hBW.size); refine hK _ _ hS1 ?_; clear hK K; try simp only [pz])
      repeat (first
        | (refine ord_skip rfl ?_ ?_; rfl; simp only [pz])
        | (refine ord_take (v := ?_) rfl ?_ (fun W hW => ?_) ?_; rotate_left; rfl; (obtain ⟨⟨⟨k0, k1, k2, k3, k4, k5, k6, k7, k8, k9⟩, t0, t1⟩, u0, u1⟩ := hW; go_simp; (first | done | with_reducible rfl)); simp only [pz]))
      refine ord_nil ?_
      by_cases hlk : N0 < u
      · have hd : decide (N0 < u) = true := by simpa using hlk
        have HLK := Lib.hid hlk
        rw [hd]
        clear hlk hd
        go_wp2_with fail
        go_ret
        refine ⟨ret_int ?_, hBw.trans (hBc.mono hBw.size)⟩
        rw [HP.out, HST.out, if_pos (by rw [HU.out, ← HN0.out]; simpa using HLK.out)]; rfl
      · have hd : decide (N0 < u) = false := by simpa using hlk
        have HLK := Lib.hid hlk
        rw [hd]
        clear hlk hd
        go_wp2_with fail
        go_roundw
        case rel => exact ⟨k + 1, by omega, by go_num, by show R = _; rw [HP.out, HST.out, if_neg (by rw [HU.out, ← HN0.out]; simpa using HLK.out)], HB.out.trans (hBc.mono HB.out.size)⟩
        case measure => simp [intOf]; omega
    · have hkk : k = r.use.length := by omega
      have hle : ¬ (k : Int) ≤ r.last := by have := HNU.out; omega
      have HK := Lib.hid hkk
      clear hkk
      go_wp2_with fail
      go_ret
      have e0 : r.use.length - k = 0 := by omega
      exact ⟨ret_int (by rw [HP.out, e0]; rfl), hBw⟩

def lacksR (r : Riv) (ts : List Tr) (plan : List Int) (S T : Int) : Int := ts.foldl (fun n t => min n (lackR r t plan S T)) (r.last + 1)
theorem lacksR_snoc (r : Riv) (ts : List Tr) (t : Tr) (plan : List Int) (S T : Int) : lacksR r (ts ++ [t]) plan S T = min (lacksR r ts plan S T) (lackR r t plan S T) := by simp [lacksR]
def Fits (r : Riv) (ts : List Tr) : Prop := ∀ t ∈ ts, (t.salt.length : Int) = r.last + 1 ∧ (t.mud.length : Int) = r.last + 1
/-- What is read of a truth of a list. -/
structure LtS (q b o : Nat) (r : Riv) (A : RA) (t : Tr) (B : TA) (W : World) : Prop where
  bx : BoxR q r A W
  t0 : W.cell? ⟨b, o, none⟩ = some (.slice B.sa t.salt.length B.sc)
  t1 : W.cell? ⟨b, o + 1, none⟩ = some (.slice B.ma t.mud.length B.mc)
theorem LtS.below {q b o : Nat} {r : Riv} {A : RA} {t : Tr} {B : TA} {W W' : World} (h : LtS q b o r A t B W) (hb : Below W.heap.size W W') : LtS q b o r A t B W' :=
  have hw : Wr (fun _ => False) W W' := Wr.of_below hb
  ⟨h.bx.below hb, hw.cell (fun e => e) h.t0, hw.cell (fun e => e) h.t1⟩

set_option maxHeartbeats 4000000 in
theorem Lacks_c (r : Riv) (A : RA) (l : Option Addr) (ts : List Tr) (lc : Nat) (a : Option Addr) (xs : List Int) (c : Nat) (S T : Int) (ok : Ok r) (hS : 0 ≤ S) (hS9 : S ≤ 99) (hlen : xs.length ≤ 1000) (hf : Fits r ts) (hlt : ts.length ≤ 5000)
    (w : World) (hr : Rd w r A) (ht : TL w l ts) (hs : Sl w a (ints xs)) :
    Calls Try.prog 41 #[rivV r A, .slice l ts.length lc, .slice a xs.length c, .int .i64 S, .int .i64 T] w fun e w' => e = .returned (.int .i64 (lacksR r ts xs S T)) ∧ Below w.heap.size w w' := by
  obtain ⟨R, hR⟩ : ∃ R, R = lacksR r ts xs S T := ⟨_, rfl⟩
  have HR := Lib.hid hR
  rw [← hR]
  have HOK := Lib.hid ok
  have hl5 := ok.l5
  have hl0 := ok.l0
  have HTL := Lib.hid ht
  have hbx := box_new w r A
  have hb0 := (Below.refl w.heap.size w).alloc (Nat.le_refl _) (rO26 r A)
  have ewl : IntKind.i64.wrap (r.last + 1) = r.last + 1 := IntWalk.i64_in _ (by omega)
  clear hR ok ht
  go_enter Try.func41, Try.ntmps41
  go_wp2_with fail
  obtain ⟨wq, hwq⟩ : ∃ wq, w.alloc (rO26 r A) = wq := ⟨_, rfl⟩
  rw [hwq] at hbx hb0 ⊢
  have hz := hb0.size
  have HBX := Lib.hid hbx
  clear hwq hbx
  go_loopw [11, 12] (fun n i wr => ∃ (k : Nat), k ≤ ts.length ∧ i = .int .i64 k ∧ n = .int .i64 (lacksR r (ts.take k) xs S T) ∧ Below wq.heap.size wq wr) (fun _ i _ => ts.length - (intOf i).toNat)
  case atStart => exact ⟨0, Nat.zero_le _, rfl, rfl, Below.refl _ _⟩
  case round =>
    obtain ⟨k, hk, rfl, rfl, hB⟩ := hrel
    have HB := Lib.hid hB
    have hBw := hb0.trans (hB.mono hz)
    have hX := HBX.out.below hB
    obtain ⟨N, hN⟩ : ∃ n, n = lacksR r (ts.take k) xs S T := ⟨_, rfl⟩
    have HN := Lib.hid hN
    rw [← hN]
    clear hN
    by_cases hlt2 : k < ts.length
    · obtain ⟨t, htk⟩ : ∃ t, ts[k]? = some t := ⟨_, List.getElem?_eq_getElem hlt2⟩
      have HT := Lib.hid htk
      obtain ⟨hf1, hf2⟩ := hf t (List.mem_of_getElem? htk)
      obtain ⟨b, o, B, rfl, d1, d2, hrt⟩ := (HTL.out.below hBw).at htk
      have HSS := Lib.hid (show LtS w.heap.size b (o + k * 2) r A t B wr from ⟨hX, d1, d2⟩)
      have ew : IntKind.i64.wrap ((k : Int) + 1) = (k : Int) + 1 := IntWalk.i64_in _ (by omega)
      clear htk d1 d2 hX hB
      go_wp2_with fail
      refine region_o (S := LtS w.heap.size b (o + k * 2) r A t B) (.take 0 (.take 1 (.take 2 (.take 3 (.take 4 (.take 5 (.take 6 (.take 7 (.take 8 (.one 9 (.take 10 (.take 11 .nil)))))))))))) (by kernel_rfl) (by kernel_rfl) (fun _ _ d _ _ h => by cases d <;> exact h) (HSS.out.below (Below.refl _ _).drew) ?_
      intro W0 hW0 hS0
      have hBW : Below wr.heap.size wr W0 := by subst hW0; exact (Below.refl _ _).drew
      clear hW0
      repeat (first
        | (refine ord_skip rfl ?_ ?_; rfl; simp only [pz])
        | (refine ord_take (v := ?_) rfl ?_ (fun W hW => ?_) ?_; rotate_left; rfl; (obtain ⟨⟨k0, k1, k2, k3, k4, k5, k6, k7, k8, k9⟩, t0, t1⟩ := hW; go_simp; (first | done | with_reducible rfl)); simp only [pz]))
      (refine ord_op rfl ?_ (fun K hK => ?_); rfl; go_simp; refine (Lack_c r A t B a xs c S T HOK.out hS hS9 hlen hf1 hf2 _ (hr.below (hBw.trans (hBW.mono hBw.size))) (hrt.below hBW) (hs.below (hBw.trans (hBW.mono hBw.size)))).mono ?_; rintro e W1 ⟨rfl, hb1⟩; obtain ⟨L, hL⟩ : ∃ n, n = lackR r t xs S T := ⟨_, rfl⟩; have HL := Lib.hid hL; rw [← hL]; clear hL; have hS1 := LtS.below hS0 hb1; have hBc := hBW.trans (hb1.mono hBW.size); refine hK _ _ hS1 ?_; clear hK K; try simp only [pz])
      repeat (first
        | (refine ord_skip rfl ?_ ?_; rfl; simp only [pz])
        | (refine ord_take (v := ?_) rfl ?_ (fun W hW => ?_) ?_; rotate_left; rfl; (obtain ⟨⟨k0, k1, k2, k3, k4, k5, k6, k7, k8, k9⟩, t0, t1⟩ := hW; go_simp; (first | done | with_reducible rfl)); simp only [pz]))
      refine ord_nil ?_
      go_wp2_with fail
      go_roundw
      case rel => exact ⟨k + 1, by omega, by go_num, by rw [List.take_add_one, HT.out, Option.toList_some, lacksR_snoc, ← HN.out, ← HL.out], HB.out.trans (hBc.mono HB.out.size)⟩
      case measure => simp [intOf]; omega
    · have hkk : k = ts.length := by omega
      have HK := Lib.hid hkk
      clear hkk hX
      go_wp2_with fail
      go_ret
      exact ⟨ret_int (by rw [HR.out, HN.out, HK.out, List.take_length]), hBw⟩
end Go.Proofs.Ytgglfngkomgadaa
