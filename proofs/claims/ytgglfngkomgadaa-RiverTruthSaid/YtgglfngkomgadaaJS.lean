/- the reference: verdicts, bounds -/
import Derived.Test.YtgglfngkomgadaaJR
import Derived.Test.YtgglfngkomgadaaJG
/- Walks of the reference: Good, Lasts, Tank. -/
namespace Go.Proofs.Ytgglfngkomgadaa
open Go.RowKit Go.Shelf
set_option linter.unusedVariables false
set_option linter.unusedSimpArgs false
set_option maxRecDepth 100000

def vI (y m : Nat) : Int := if y = m then 1 else if y = 0 then 2 else 3
theorem vI_eq (y m : Nat) : (if (y : Int) = (m : Int) then (1 : Int) else if (y : Int) = 0 then 2 else 3) = vI y m := by
  unfold vI
  by_cases h1 : y = m
  · rw [if_pos (by omega), if_pos h1]
  · rw [if_neg (by omega), if_neg h1]
    by_cases h2 : y = 0
    · rw [if_pos (by omega), if_pos h2]
    · rw [if_neg (by omega), if_neg h2]
def cntP {α : Type} (p : α → Bool) (ts : List α) : Nat := (ts.filter p).length
theorem cntP_succ {α : Type} (p : α → Bool) (xs : List α) (k : Nat) (x : α) (h : xs[k]? = some x) : cntP p (xs.take (k + 1)) = cntP p (xs.take k) + (if p x then 1 else 0) := take_filter_succ p xs k x h
theorem cntP_le {α : Type} (p : α → Bool) (xs : List α) (k : Nat) : cntP p (xs.take k) ≤ k := by
  have := List.length_filter_le p (xs.take k)
  have h2 := List.length_take_le k xs
  unfold cntP; omega

def goodRf (r : Riv) (ts : List Tr) (D : Nat) : Int := vI (cntP (fun t => goodD r t D) ts) ts.length
set_option maxHeartbeats 4000000 in
theorem GoodR_c (r : Riv) (A : RA) (l : Option Addr) (ts : List Tr) (lc : Nat) (D : Nat) (hD : (D : Int) ≤ r.last) (ok : Ok r) (hf : Fits r ts) (hlt : ts.length ≤ 5000)
    (w : World) (hr : Rd w r A) (ht : TL w l ts) :
    Calls Try.prog 29 #[rivV r A, .slice l ts.length lc, .int .i64 D] w fun e w' => e = .returned (.int .i64 (goodRf r ts D)) ∧ Below w.heap.size w w' := by
  obtain ⟨R, hR⟩ : ∃ R, R = goodRf r ts D := ⟨_, rfl⟩
  have HR := Lib.hid hR
  rw [← hR]
  have HOK := Lib.hid ok
  have hl5 := ok.l5
  have hl0 := ok.l0
  have HTL := Lib.hid ht
  have hbx := box_new w r A
  have hb0 := (Below.refl w.heap.size w).alloc (Nat.le_refl _) (rO26 r A)
  clear hR ok ht
  go_enter Try.func29, Try.ntmps29
  go_wp2_with fail
  obtain ⟨wq, hwq⟩ : ∃ wq, w.alloc (rO26 r A) = wq := ⟨_, rfl⟩
  rw [hwq] at hbx hb0 ⊢
  have hz := hb0.size
  have HBX := Lib.hid hbx
  clear hwq hbx
  go_loopw [7, 8] (fun n i wr => ∃ (k : Nat), k ≤ ts.length ∧ i = .int .i64 k ∧ n = .int .i64 (cntP (fun t => goodD r t D) (ts.take k)) ∧ Below wq.heap.size wq wr) (fun _ i _ => ts.length - (intOf i).toNat)
  case atStart => exact ⟨0, Nat.zero_le _, rfl, rfl, Below.refl _ _⟩
  case round =>
    obtain ⟨k, hk, rfl, rfl, hB⟩ := hrel
    have HB := Lib.hid hB
    have hBw := hb0.trans (hB.mono hz)
    have hX := HBX.out.below hB
    have hcl := cntP_le (fun t => goodD r t D) ts k
    obtain ⟨N, hN⟩ : ∃ n, n = cntP (fun t => goodD r t D) (ts.take k) := ⟨_, rfl⟩
    have HN := Lib.hid hN
    rw [← hN] at hcl ⊢
    clear hN
    by_cases hlt2 : k < ts.length
    · obtain ⟨t, htk⟩ : ∃ t, ts[k]? = some t := ⟨_, List.getElem?_eq_getElem hlt2⟩
      have HT := Lib.hid htk
      obtain ⟨hf1, hf2⟩ := hf t (List.mem_of_getElem? htk)
      obtain ⟨b, o, B, rfl, d1, d2, hrt⟩ := (HTL.out.below hBw).at htk
      have HSS := Lib.hid (show LtS w.heap.size b (o + k * 2) r A t B wr from ⟨hX, d1, d2⟩)
      have HST := Lib.hid (cntP_succ (fun t => goodD r t D) ts k t htk)
      have ew : IntKind.i64.wrap ((k : Int) + 1) = (k : Int) + 1 := IntWalk.i64_in _ (by omega)
      have ewn : IntKind.i64.wrap ((N : Int) + 1) = (N : Int) + 1 := IntWalk.i64_in _ (by omega)
      obtain ⟨pv, hpv⟩ : ∃ b, b = (fun t => goodD r t D) t := ⟨_, rfl⟩
      have HPV := Lib.hid hpv
      clear htk d1 d2 hX hB hpv
      go_wp2_with fail
      refine region_o (S := LtS w.heap.size b (o + k * 2) r A t B) (.take 0 (.take 1 (.take 2 (.take 3 (.take 4 (.take 5 (.one 6 .nil))))))) (by kernel_rfl) (by kernel_rfl) (fun _ _ d _ _ h => by cases d <;> exact h) (HSS.out.below (Below.refl _ _).drew) ?_
      intro W0 hW0 hS0
      have hBW : Below wr.heap.size wr W0 := by subst hW0; exact (Below.refl _ _).drew
      clear hW0
      repeat (first
        | (refine ord_skip rfl ?_ ?_; rfl; simp only [pz])
        | (refine ord_take (v := ?_) rfl ?_ (fun W hW => ?_) ?_; rotate_left; rfl; (obtain ⟨⟨k0, k1, k2, k3, k4, k5, k6, k7, k8, k9⟩, t0, t1⟩ := hW; go_simp; (first | done | with_reducible rfl)); simp only [pz]))
      (refine ord_op rfl ?_ (fun K hK => ?_); rfl; go_simp; refine (IsGood_c r A t B D _ (hrt.below hBW) (by omega) (by omega)).mono ?_; rintro e W1 ⟨rfl, hb1⟩; rw [show goodD r t D = pv from HPV.out.symm]; have hS1 := LtS.below hS0 hb1; have hBc := hBW.trans (hb1.mono hBW.size); refine hK _ _ hS1 ?_; clear hK K; try simp only [pz])
      refine ord_nil ?_
      cases pv
      · go_wp2_with fail
        go_roundw
        case rel => exact ⟨k + 1, by omega, by go_num, by rw [HST.out, ← HN.out, ← HPV.out]; rfl, HB.out.trans (hBc.mono HB.out.size)⟩
        case measure => simp [intOf]; omega
      · go_wp2_with fail
        go_roundw
        case rel => exact ⟨k + 1, by omega, by go_num, by rw [HST.out, ← HN.out, ← HPV.out]; rfl, HB.out.trans (hBc.mono HB.out.size)⟩
        case measure => simp [intOf]; omega
    · have hkk : k = ts.length := by omega
      have HK := Lib.hid hkk
      clear hkk hX
      go_wp2_with fail
      refine (Verdict_c _ _ _).mono ?_
      rintro e w' ⟨rfl, hw'⟩
      subst hw'
      have hfin : (if (N : Int) = (ts.length : Int) then (1 : Int) else if (N : Int) = 0 then 2 else 3) = R := by
        rw [vI_eq, HN.out, HK.out, List.take_length, HR.out]; rfl
      rw [hfin]
      clear hfin
      go_wp2_with fail
      go_ret
      exact ⟨rfl, hBw⟩


def lastsRf (r : Riv) (ts : List Tr) (xs : List Int) : Int := vI (cntP (fun t => decide (r.last < lackR r t xs r.size (-1))) ts) ts.length
set_option maxHeartbeats 4000000 in
theorem LastsR_c (r : Riv) (A : RA) (l : Option Addr) (ts : List Tr) (lc : Nat) (a : Option Addr) (xs : List Int) (c : Nat) (hlen : xs.length ≤ 1000) (ok : Ok r) (hf : Fits r ts) (hlt : ts.length ≤ 5000)
    (w : World) (hr : Rd w r A) (ht : TL w l ts) (hs : Sl w a (ints xs)) :
    Calls Try.prog 70 #[rivV r A, .slice l ts.length lc, .slice a xs.length c] w fun e w' => e = .returned (.int .i64 (lastsRf r ts xs)) ∧ Below w.heap.size w w' := by
  obtain ⟨R, hR⟩ : ∃ R, R = lastsRf r ts xs := ⟨_, rfl⟩
  have HR := Lib.hid hR
  rw [← hR]
  have HOK := Lib.hid ok
  have hl5 := ok.l5
  have hl0 := ok.l0
  have HTL := Lib.hid ht
  have hbx := box_new w r A
  have hb0 := (Below.refl w.heap.size w).alloc (Nat.le_refl _) (rO26 r A)
  clear hR ok ht
  go_enter Try.func70, Try.ntmps70
  go_wp2_with fail
  obtain ⟨wq, hwq⟩ : ∃ wq, w.alloc (rO26 r A) = wq := ⟨_, rfl⟩
  rw [hwq] at hbx hb0 ⊢
  have hz := hb0.size
  have HBX := Lib.hid hbx
  clear hwq hbx
  go_loopw [7, 8] (fun n i wr => ∃ (k : Nat), k ≤ ts.length ∧ i = .int .i64 k ∧ n = .int .i64 (cntP (fun t => decide (r.last < lackR r t xs r.size (-1))) (ts.take k)) ∧ Below wq.heap.size wq wr) (fun _ i _ => ts.length - (intOf i).toNat)
  case atStart => exact ⟨0, Nat.zero_le _, rfl, rfl, Below.refl _ _⟩
  case round =>
    obtain ⟨k, hk, rfl, rfl, hB⟩ := hrel
    have HB := Lib.hid hB
    have hBw := hb0.trans (hB.mono hz)
    have hX := HBX.out.below hB
    have hcl := cntP_le (fun t => decide (r.last < lackR r t xs r.size (-1))) ts k
    obtain ⟨N, hN⟩ : ∃ n, n = cntP (fun t => decide (r.last < lackR r t xs r.size (-1))) (ts.take k) := ⟨_, rfl⟩
    have HN := Lib.hid hN
    rw [← hN] at hcl ⊢
    clear hN
    by_cases hlt2 : k < ts.length
    · obtain ⟨t, htk⟩ : ∃ t, ts[k]? = some t := ⟨_, List.getElem?_eq_getElem hlt2⟩
      have HT := Lib.hid htk
      obtain ⟨hf1, hf2⟩ := hf t (List.mem_of_getElem? htk)
      obtain ⟨b, o, B, rfl, d1, d2, hrt⟩ := (HTL.out.below hBw).at htk
      have HSS := Lib.hid (show LtS w.heap.size b (o + k * 2) r A t B wr from ⟨hX, d1, d2⟩)
      have HST := Lib.hid (cntP_succ (fun t => decide (r.last < lackR r t xs r.size (-1))) ts k t htk)
      have ew : IntKind.i64.wrap ((k : Int) + 1) = (k : Int) + 1 := IntWalk.i64_in _ (by omega)
      have ewn : IntKind.i64.wrap ((N : Int) + 1) = (N : Int) + 1 := IntWalk.i64_in _ (by omega)
      obtain ⟨pv, hpv⟩ : ∃ b, b = (fun t => decide (r.last < lackR r t xs r.size (-1))) t := ⟨_, rfl⟩
      have HPV := Lib.hid hpv
      clear htk d1 d2 hX hB hpv
      go_wp2_with fail
      refine region_o (S := LtS w.heap.size b (o + k * 2) r A t B) (.take 0 (.take 1 (.take 2 (.take 3 (.take 4 (.take 5 (.take 6 (.take 7 (.take 9 (.take 10 (.one 8 (.take 11 .nil)))))))))))) (by kernel_rfl) (by kernel_rfl) (fun _ _ d _ _ h => by cases d <;> exact h) (HSS.out.below (Below.refl _ _).drew) ?_
      intro W0 hW0 hS0
      have hBW : Below wr.heap.size wr W0 := by subst hW0; exact (Below.refl _ _).drew
      clear hW0
      repeat (first
        | (refine ord_skip rfl ?_ ?_; rfl; simp only [pz])
        | (refine ord_take (v := ?_) rfl ?_ (fun W hW => ?_) ?_; rotate_left; rfl; (obtain ⟨⟨k0, k1, k2, k3, k4, k5, k6, k7, k8, k9⟩, t0, t1⟩ := hW; go_simp; (first | done | with_reducible rfl)); simp only [pz]))
      (refine ord_op rfl ?_ (fun K hK => ?_); rfl; go_simp; refine (Lack_c r A t B a xs c r.size (-1) HOK.out HOK.out.sz.1 HOK.out.sz.2 hlen hf1 hf2 _ (hr.below (hBw.trans (hBW.mono hBw.size))) (hrt.below hBW) (hs.below (hBw.trans (hBW.mono hBw.size)))).mono ?_; rintro e W1 ⟨rfl, hb1⟩; obtain ⟨L, hL⟩ : ∃ n, n = lackR r t xs r.size (-1) := ⟨_, rfl⟩; have HL := Lib.hid hL; rw [← hL]; clear hL; have hS1 := LtS.below hS0 hb1; have hBc := hBW.trans (hb1.mono hBW.size); refine hK _ _ hS1 ?_; clear hK K; try simp only [pz])
      repeat (first
        | (refine ord_skip rfl ?_ ?_; rfl; simp only [pz])
        | (refine ord_take (v := ?_) rfl ?_ (fun W hW => ?_) ?_; rotate_left; rfl; (obtain ⟨⟨k0, k1, k2, k3, k4, k5, k6, k7, k8, k9⟩, t0, t1⟩ := hW; go_simp; (first | done | with_reducible rfl)); simp only [pz]))
      refine ord_nil ?_
      cases pv
      · have hd : decide (r.last < L) = false := by rw [HL.out]; exact HPV.out.symm
        rw [hd]
        clear hd
        go_wp2_with fail
        go_roundw
        case rel => exact ⟨k + 1, by omega, by go_num, by rw [HST.out, ← HN.out, ← HPV.out]; rfl, HB.out.trans (hBc.mono HB.out.size)⟩
        case measure => simp [intOf]; omega
      · have hd : decide (r.last < L) = true := by rw [HL.out]; exact HPV.out.symm
        rw [hd]
        clear hd
        go_wp2_with fail
        go_roundw
        case rel => exact ⟨k + 1, by omega, by go_num, by rw [HST.out, ← HN.out, ← HPV.out]; rfl, HB.out.trans (hBc.mono HB.out.size)⟩
        case measure => simp [intOf]; omega
    · have hkk : k = ts.length := by omega
      have HK := Lib.hid hkk
      clear hkk hX
      go_wp2_with fail
      refine (Verdict_c _ _ _).mono ?_
      rintro e w' ⟨rfl, hw'⟩
      subst hw'
      have hfin : (if (N : Int) = (ts.length : Int) then (1 : Int) else if (N : Int) = 0 then 2 else 3) = R := by
        rw [vI_eq, HN.out, HK.out, List.take_length, HR.out]; rfl
      rw [hfin]
      clear hfin
      go_wp2_with fail
      go_ret
      exact ⟨rfl, hBw⟩

def tankRf (r : Riv) (ts : List Tr) (plan : List Int) (D : Nat) : Rg := bndF (ts.map fun t => aftV r t plan r.size (-1) (D + 1))
end Go.Proofs.Ytgglfngkomgadaa
/- Walks of the reference: Tank. -/
namespace Go.Proofs.Ytgglfngkomgadaa
open Go.RowKit Go.Shelf
set_option linter.unusedVariables false
set_option linter.unusedSimpArgs false
set_option maxRecDepth 100000

set_option maxHeartbeats 6000000 in
theorem TankR_c (r : Riv) (A : RA) (l : Option Addr) (ts : List Tr) (lc : Nat) (a : Option Addr) (xs : List Int) (c : Nat) (D : Nat) (hD : (D : Int) ≤ r.last) (ok : Ok r) (hlen : xs.length ≤ 1000) (hf : Fits r ts) (hlt : ts.length ≤ 5000) (h1 : 0 < ts.length)
    (w : World) (hr : Rd w r A) (ht : TL w l ts) (hs : Sl w a (ints xs)) :
    Calls Try.prog 35 #[rivV r A, .slice l ts.length lc, .slice a xs.length c, .int .i64 D] w fun e w' => e = .returned (.agg #[.int .i64 (tankRf r ts xs D).lo, .int .i64 (tankRf r ts xs D).hi]) ∧ Below w.heap.size w w' := by
  obtain ⟨R, hR⟩ : ∃ R, R = tankRf r ts xs D := ⟨_, rfl⟩
  have HR := Lib.hid hR
  rw [← hR]
  have HOK := Lib.hid ok
  have HTL := Lib.hid ht
  obtain ⟨t0, ht0⟩ : ∃ t, ts[0]? = some t := ⟨_, List.getElem?_eq_getElem h1⟩
  have HT0 := Lib.hid ht0
  obtain ⟨hf1, hf2⟩ := hf t0 (List.mem_of_getElem? ht0)
  have hb0 := ((Below.refl w.heap.size w).alloc (Nat.le_refl _) (rO26 r A)).alloc (by simp) (.cells #[.int .i64 0, .int .i64 0] 51)
  have hbx : BoxR w.heap.size r A ((w.alloc (rO26 r A)).alloc (.cells #[.int .i64 0, .int .i64 0] 51)) := (box_new w r A).below ((Below.refl _ _).alloc (Nat.le_refl _) _)
  have hrs : ((w.alloc (rO26 r A)).alloc (.cells #[.int .i64 0, .int .i64 0] 51)).heap[w.heap.size + 1]? = some (.cells #[.int .i64 0, .int .i64 0] 51 (0, 0)) := by
    have h2 := heap_alloc_new (w.alloc (rO26 r A)) (.cells #[.int .i64 0, .int .i64 0] 51)
    simpa using h2
  clear hR ok ht
  go_enter Try.func35, Try.ntmps35
  go_wp2_with fail
  obtain ⟨wq, hwq⟩ : ∃ wq, (w.alloc (rO26 r A)).alloc (.cells #[.int .i64 0, .int .i64 0] 51) = wq := ⟨_, rfl⟩
  rw [hwq] at hbx hb0 hrs ⊢
  have hz := hb0.size
  have hzr := (Array.getElem?_eq_some_iff.1 hrs).1
  have HBX := Lib.hid hbx
  have HRS := Lib.hid hrs
  obtain ⟨b, o, B, rfl, d1, d2, hrt⟩ := (HTL.out.below hb0).at ht0
  have HSS := Lib.hid (show LtS w.heap.size b o r A t0 B wq from ⟨hbx, by simpa using d1, by simpa using d2⟩)
  clear hwq hbx hrs ht0 d1 d2
  go_wp2_with fail
  refine region_o (S := LtS w.heap.size b o r A t0 B) (.take 0 (.take 1 (.take 2 (.take 3 (.take 4 (.take 5 (.take 6 (.take 7 (.one 8 (.take 9 .nil)))))))))) (by kernel_rfl) (by kernel_rfl) (fun _ _ d _ _ h => by cases d <;> exact h) (HSS.out.below (Below.refl _ _).drew) ?_
  intro W0 hW0 hS0
  have hBW : Below wq.heap.size wq W0 := by subst hW0; exact (Below.refl _ _).drew
  clear hW0
  repeat (first
    | (refine ord_skip rfl ?_ ?_; rfl; simp only [pz])
    | (refine ord_take (v := ?_) rfl ?_ (fun W hW => ?_) ?_; rotate_left; rfl; (obtain ⟨⟨k0, k1, k2, k3, k4, k5, k6, k7, k8, k9⟩, t0, t1⟩ := hW; go_simp; (first | done | with_reducible rfl)); simp only [pz]))
  (refine ord_op rfl ?_ (fun K hK => ?_); rfl; go_simp; refine ((BA_c r A t0 B a xs c r.size (-1) HOK.out HOK.out.sz.1 HOK.out.sz.2 hlen hf1 hf2 D hD).2 _ (hr.below (hb0.trans (hBW.mono hz))) (hrt.below hBW) (hs.below (hb0.trans (hBW.mono hz)))).mono ?_; rintro e W1 ⟨rfl, hb1⟩; obtain ⟨N0, hN0⟩ : ∃ n, n = aftV r t0 xs r.size (-1) (D + 1) := ⟨_, rfl⟩; have HN0 := Lib.hid hN0; rw [← hN0]; clear hN0; have hS1 := LtS.below hS0 hb1; have hBc := hBW.trans (hb1.mono hBW.size); refine hK _ _ hS1 ?_; clear hK K; try simp only [pz])
  repeat (first
    | (refine ord_skip rfl ?_ ?_; rfl; simp only [pz])
    | (refine ord_take (v := ?_) rfl ?_ (fun W hW => ?_) ?_; rotate_left; rfl; (obtain ⟨⟨k0, k1, k2, k3, k4, k5, k6, k7, k8, k9⟩, t0, t1⟩ := hW; go_simp; (first | done | with_reducible rfl)); simp only [pz]))
  refine ord_nil ?_
  obtain ⟨w1, hw1⟩ : ∃ Q, Q = W1 := ⟨_, rfl⟩
  subst hw1
  go_wp2_with fail
  obtain ⟨w2, hw2⟩ : ∃ Q, Q = w1.alloc (.cells #[.int .i64 N0, .int .i64 N0] 51) := ⟨_, rfl⟩
  have hb2 : Below w1.heap.size w1 w2 := by rw [hw2]; exact (Below.refl _ _).alloc (Nat.le_refl _) _
  have hX : w2.heap[w1.heap.size]? = some (.cells #[.int .i64 N0, .int .i64 N0] 51 (0, 0)) := by rw [hw2]; exact heap_alloc_new _ _
  obtain ⟨xb, hxb⟩ : ∃ n, n = w1.heap.size := ⟨_, rfl⟩
  have hxq : wq.heap.size ≤ xb := by rw [hxb]; exact hBc.size
  have hB2 := Lib.hid (hBc.trans (hb2.mono hBc.size))
  have HBX2 := Lib.hid (HBX.out.below (hB2.out))
  have HRS2 := Lib.hid ((hB2.out.block _ hzr).trans HRS.out)
  rw [← hw2]
  rw [← hxb] at hX ⊢
  have HX := Lib.hid hX
  have hxz : xb < w2.heap.size := (Array.getElem?_eq_some_iff.1 hX).1
  have HI0 := Lib.hid (show bndF ((ts.take 1).map fun t => aftV r t xs r.size (-1) (D + 1)) = ⟨N0, N0⟩ from by
    have e1 : ts.take 1 = [t0] := by
      have := List.take_add_one (l := ts) (i := 0)
      rw [this, HT0.out]; rfl
    rw [e1, HN0.out]; rfl)
  clear hw2 hb2 hX hxb hBc hBW hS1 hrt
  go_loopw [9, 11] (fun _ i wr => ∃ k : Nat, 1 ≤ k ∧ k ≤ ts.length ∧ i = .int .i64 k ∧ wr.heap[xb]? = some (.cells #[.int .i64 (bndF ((ts.take k).map fun t => aftV r t xs r.size (-1) (D + 1))).lo, .int .i64 (bndF ((ts.take k).map fun t => aftV r t xs r.size (-1) (D + 1))).hi] 51 (0, 0)) ∧ Wr (fun q => q = xb) w2 wr) (fun _ i _ => ts.length - (intOf i).toNat)
  case atStart => exact ⟨1, Nat.le_refl _, by omega, rfl, by rw [HI0.out]; exact HX.out, Wr.refl _ _⟩
  case round =>
    obtain ⟨k, hk1, hk, rfl, hxr, hw⟩ := hrel
    have hn0 : ¬ (w.heap.size = xb) := by omega
    have hn1 : ¬ (w.heap.size + 1 = xb) := by omega
    have HW := Lib.hid hw
    have hBr := Lib.hid ((hb0.trans (hB2.out.mono hz)).trans (hw.below (by have := hB2.out.size; omega) (fun q e => by have : q = xb := e; omega)))
    have hXr : BoxR w.heap.size r A wr := HBX2.out.wr hw hn0
    obtain ⟨bd, hbd⟩ : ∃ x, x = bndF ((ts.take k).map fun t => aftV r t xs r.size (-1) (D + 1)) := ⟨_, rfl⟩
    have HBD := Lib.hid hbd
    rw [← hbd] at hxr
    have HXR := Lib.hid hxr
    have hxl := (Array.getElem?_eq_some_iff.1 hxr).1
    have hrr := Lib.hid (hw.blk (k := w.heap.size + 1) hn1 HRS2.out)
    have ew : IntKind.i64.wrap ((k : Int) + 1) = (k : Int) + 1 := IntWalk.i64_in _ (by omega)
    clear hbd hxr hw
    by_cases hlt2 : k < ts.length
    · obtain ⟨t, htk⟩ : ∃ t, ts[k]? = some t := ⟨_, List.getElem?_eq_getElem hlt2⟩
      have HT := Lib.hid htk
      obtain ⟨hg1, hg2⟩ := hf t (List.mem_of_getElem? htk)
      obtain ⟨b', o', B', eb, d1, d2, hrt⟩ := (HTL.out.below hBr.out).at htk
      cases eb
      have HS2 := Lib.hid (show LtS w.heap.size b (o + k * 2) r A t B' wr from ⟨hXr, d1, d2⟩)
      clear htk d1 d2 hXr
      go_wp2_with fail
      refine region_o (S := LtS w.heap.size b (o + k * 2) r A t B') (.take 0 (.take 1 (.take 2 (.take 3 (.take 4 (.take 5 (.take 6 (.take 7 (.take 8 (.one 9 (.take 10 .nil))))))))))) (by kernel_rfl) (by kernel_rfl) (fun _ _ d _ _ h => by cases d <;> exact h) (HS2.out.below (Below.refl _ _).drew) ?_
      intro W0 hW0 hS0
      have hBW : Below wr.heap.size wr W0 := by subst hW0; exact (Below.refl _ _).drew
      clear hW0
      repeat (first
        | (refine ord_skip rfl ?_ ?_; rfl; simp only [pz])
        | (refine ord_take (v := ?_) rfl ?_ (fun W hW => ?_) ?_; rotate_left; rfl; (obtain ⟨⟨k0, k1, k2, k3, k4, k5, k6, k7, k8, k9⟩, t0, t1⟩ := hW; go_simp; (first | done | with_reducible rfl)); simp only [pz]))
      (refine ord_op rfl ?_ (fun K hK => ?_); rfl; go_simp; refine ((BA_c r A t B' a xs c r.size (-1) HOK.out HOK.out.sz.1 HOK.out.sz.2 hlen hg1 hg2 D hD).2 _ (hr.below (hBr.out.trans (hBW.mono hBr.out.size))) (hrt.below hBW) (hs.below (hBr.out.trans (hBW.mono hBr.out.size)))).mono ?_; rintro e W1 ⟨rfl, hb1⟩; obtain ⟨N1, hN1⟩ : ∃ n, n = aftV r t xs r.size (-1) (D + 1) := ⟨_, rfl⟩; have HN1 := Lib.hid hN1; rw [← hN1]; clear hN1; have hS1 := LtS.below hS0 hb1; have hBc := hBW.trans (hb1.mono hBW.size); refine hK _ _ hS1 ?_; clear hK K; try simp only [pz])
      repeat (first
        | (refine ord_skip rfl ?_ ?_; rfl; simp only [pz])
        | (refine ord_take (v := ?_) rfl ?_ (fun W hW => ?_) ?_; rotate_left; rfl; (obtain ⟨⟨k0, k1, k2, k3, k4, k5, k6, k7, k8, k9⟩, t0, t1⟩ := hW; go_simp; (first | done | with_reducible rfl)); simp only [pz]))
      refine ord_nil ?_
      obtain ⟨w5, hw5⟩ : ∃ Q, Q = W1 := ⟨_, rfl⟩
      subst hw5
      have HX5 := Lib.hid ((hBc.block _ hxl).trans HXR.out)
      have x0 := cell_blk (k := 0) HX5.out
      have x1 := cell_blk (k := 1) HX5.out
      have xf := fun j => frozen_blk (k := j) HX5.out
      have hnext : bndF ((ts.take (k + 1)).map fun t => aftV r t xs r.size (-1) (D + 1)) = ⟨min bd.lo N1, max bd.hi N1⟩ := by
        rw [List.take_add_one, HT.out, Option.toList_some, List.map_append, List.map_cons, List.map_nil, bndF_snoc, ← HBD.out, ← HN1.out]
        have hne : ((ts.take k).map fun t => aftV r t xs r.size (-1) (D + 1)).isEmpty = false := by
          cases hh : (ts.take k).map fun t => aftV r t xs r.size (-1) (D + 1) with
          | nil => have h5 := congrArg List.length hh; rw [List.length_map, List.length_take, List.length_nil] at h5; omega
          | cons p q => rfl
        rw [hne]; simp
      have HNX := Lib.hid hnext
      have hst := store2 HX5.out (.int .i64 (min bd.lo N1)) (.int .i64 (max bd.hi N1))
      have HSTT := Lib.hid hst
      have HWc := Lib.hid (HW.out.trans (Wr.of_below hBc))
      clear hnext hst
      go_wp2_with fail
      go_roundw
      case rel =>
        refine ⟨k + 1, by omega, by omega, by go_num, ?_, HWc.out.trans HSTT.out.2⟩
        rw [HNX.out]
        exact HSTT.out.1
      case measure => simp [intOf]; omega
    · have hkk : k = ts.length := by omega
      have HK := Lib.hid hkk
      have x0 := cell_blk (k := 0) HXR.out
      have x1 := cell_blk (k := 1) HXR.out
      have g0 := cell_blk (k := 0) hrr.out
      have g1 := cell_blk (k := 1) hrr.out
      have gf := fun j => frozen_blk (k := j) hrr.out
      have hst := store2 hrr.out (.int .i64 bd.lo) (.int .i64 bd.hi)
      have HSTT := Lib.hid hst
      clear hst hkk hXr
      go_wp2_with fail
      obtain ⟨hR2, hwr⟩ := HSTT.out
      have q0 := cell_blk (k := 0) hR2
      have q1 := cell_blk (k := 1) hR2
      have hRb : R = bd := by rw [HR.out, tankRf, HBD.out, HK.out, List.take_length]
      rw [hRb]
      refine bodyPost_ret (v := .agg #[.int .i64 bd.lo, .int .i64 bd.hi]) (by simp [results, Try.results35, go_sem, q0, q1]) rfl ⟨rfl, hBr.out.trans (hwr.below hBr.out.size (fun q e => by have : q = w.heap.size + 1 := e; omega))⟩
end Go.Proofs.Ytgglfngkomgadaa
