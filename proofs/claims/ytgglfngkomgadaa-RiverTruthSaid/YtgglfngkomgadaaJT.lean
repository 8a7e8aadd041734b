/- the reference: the fewest -/
import Derived.Test.YtgglfngkomgadaaJO
import Derived.Test.YtgglfngkomgadaaJK
import Derived.Test.YtgglfngkomgadaaJQ
import Derived.Test.YtgglfngkomgadaaJS
/- Walks of the reference: Bits, Sooner, Shorter. -/
namespace Go.Proofs.Ytgglfngkomgadaa
open Go.RowKit Go.Shelf
set_option linter.unusedVariables false
set_option linter.unusedSimpArgs false
set_option maxRecDepth 100000

/-- The numbers of bits. -/
def bitsK (m k : Nat) : List Nat := (List.range k).filter fun p => m.testBit p
def bitsL (m : Nat) : List Int := (bitsK m 6).map Int.ofNat
theorem bits_facts : ∀ m : Nat, m < 64 → ∀ k : Nat, k ≤ 6 → ((m / 2 ^ k = 0) → bitsK m k = bitsK m 6) ∧ ((m / 2 ^ k) % 2 = if m.testBit k then 1 else 0) ∧ (k = 6 → m / 2 ^ k = 0) := by decide +kernel
theorem bitsK_succ (m k : Nat) : bitsK m (k + 1) = bitsK m k ++ (if m.testBit k then [k] else []) := by
  unfold bitsK
  rw [List.range_succ, List.filter_append]
  cases h : m.testBit k <;> simp [h]
theorem bitsK_len (m k : Nat) : (bitsK m k).length ≤ k := by
  have := List.length_filter_le (fun p => m.testBit p) (List.range k)
  unfold bitsK
  simpa using this
set_option maxHeartbeats 2000000 in
theorem Bits_c (m : Nat) (w : World) (hm : m < 64) :
    Calls Try.prog 40 #[.int .i64 m] w fun e w' => RetOwn 3 1 (bitsL m).length (ints (bitsL m)) w e w' := by
  obtain ⟨L, hL⟩ : ∃ L, L = bitsL m := ⟨_, rfl⟩
  have HL := Lib.hid hL
  rw [← hL]
  clear hL
  go_enter Try.func40, Try.ntmps40
  go_wp2_with fail
  go_loopw [3, 4] (fun v i wr => ∃ k : Nat, k ≤ 6 ∧ i = .int .i64 k ∧ wr.ownsRow w.heap.size 3 1 v (bitsK m k).length (ints ((bitsK m k).map Int.ofNat)) ∧ Below w.heap.size w wr) (fun _ i _ => 6 - (intOf i).toNat)
  case atStart => exact ⟨0, by omega, rfl, World.ownsRow_nil _ _ _ _, Below.refl _ _⟩
  case round =>
    obtain ⟨k, hk, rfl, hown, hB⟩ := hrel
    obtain ⟨av, cv, rfl, -, -⟩ := own_Sl hown
    have HOW := Lib.hid hown
    have HB := Lib.hid hB
    have hbf := bits_facts m hm k hk
    have HBF := Lib.hid hbf
    have hlen := bitsK_len m k
    have hcast : (m : Int) / 2 ^ k = ((m / 2 ^ k : Nat) : Int) := by simp
    have ew : IntKind.i64.wrap ((k : Int) + 1) = (k : Int) + 1 := IntWalk.i64_in _ (by omega)
    have HC := Lib.hid hcast
    by_cases hz : m / 2 ^ k = 0
    · have d1 : decide ((0 : Int) < (m : Int) / 2 ^ k) = false := by rw [hcast, hz]; rfl
      have HZ := Lib.hid hz
      clear hown hB hbf hcast hz
      go_wp2_with fail
      go_ret
      refine ⟨_, rfl, ?_, HB.out⟩
      have e := HBF.out.1 HZ.out
      rw [HL.out, bitsL, List.length_map, ← e]
      exact HOW.out
    · have d1 : decide ((0 : Int) < (m : Int) / 2 ^ k) = true := by rw [hcast, decide_eq_true_eq]; exact Int.natCast_pos.2 (Nat.pos_of_ne_zero hz)
      have hk6 : k < 6 := by
        rcases Nat.lt_or_ge k 6 with h | h
        · exact h
        · exact absurd (hbf.2.2 (by omega)) hz
      cases hb : m.testBit k
      · have hm2 : m / 2 ^ k % 2 = 0 := by rw [hbf.2.1, hb]; rfl
        have d2 : ((m : Int) / 2 ^ k % 2 == 1) = false := by
          rw [hcast, show ((m / 2 ^ k : Nat) : Int) % 2 = ((m / 2 ^ k % 2 : Nat) : Int) from rfl, hm2]; rfl
        have d3 : (((m : Int) / 2 ^ k).tmod 2 == 1) = false := by
          rw [hcast, show ((m / 2 ^ k : Nat) : Int).tmod 2 = ((m / 2 ^ k % 2 : Nat) : Int) from rfl, hm2]; rfl
        have HBB := Lib.hid hb
        clear hown hB hbf hcast hz hm2 hb
        go_wp2_with fail
        go_roundw
        case rel =>
          refine ⟨k + 1, by omega, by go_num, ?_, HB.out⟩
          rw [bitsK_succ, HBB.out]
          simpa using HOW.out
        case measure => simp [intOf]; omega
      · have hm2 : m / 2 ^ k % 2 = 1 := by rw [hbf.2.1, hb]; rfl
        have d2 : ((m : Int) / 2 ^ k % 2 == 1) = true := by
          rw [hcast, show ((m / 2 ^ k : Nat) : Int) % 2 = ((m / 2 ^ k % 2 : Nat) : Int) from rfl, hm2]; rfl
        have d3 : (((m : Int) / 2 ^ k).tmod 2 == 1) = true := by
          rw [hcast, show ((m / 2 ^ k : Nat) : Int).tmod 2 = ((m / 2 ^ k % 2 : Nat) : Int) from rfl, hm2]; rfl
        have HBB := Lib.hid hb
        clear hown hB hbf hcast hz hm2 hb
        go_wp2_with (at_builtin; refine wpList_app elInt rfl _ _ rfl rfl rfl (HOW.out.alloc _) (Sl_new wr [.int .i64 k] 3) rfl (by intro u hu; simp at hu; subst hu; rfl) (by omega) (by omega) (by have := HB.out.size; simp; omega) ?_; intro v7 w6 hown7 hg7 hor7)
        go_roundw
        case rel =>
          refine ⟨k + 1, by omega, by go_num, ?_, (HB.out.alloc HB.out.size _).grown hg7 (by have := HB.out.size; simp; omega) (fun q e => (HOW.out.lt q e).1)⟩
          have e1 : bitsK m (k + 1) = bitsK m k ++ [k] := by rw [bitsK_succ, HBB.out]; rfl
          rw [e1, List.length_append, List.map_append, ints_append]
          exact hown7
        case measure => simp [intOf]; omega

/-! ### The order of lists -/
def soonB : List Int → List Int → Bool
  | x :: l, y :: l2 => if x = y then soonB l l2 else decide (x < y)
  | [], _ :: _ => true
  | _, [] => false
def shortB (xs ys : List Int) : Bool := decide (xs.length < ys.length) || (decide (xs.length = ys.length) && soonB xs ys)
theorem soonB_drop (xs ys : List Int) (k : Nat) (x y : Int) (hx : xs[k]? = some x) (hy : ys[k]? = some y) : soonB (xs.drop k) (ys.drop k) = if x = y then soonB (xs.drop (k + 1)) (ys.drop (k + 1)) else decide (x < y) := by
  obtain ⟨h1, e1⟩ := List.getElem?_eq_some_iff.1 hx
  obtain ⟨h2, e2⟩ := List.getElem?_eq_some_iff.1 hy
  rw [List.drop_eq_getElem_cons h1, List.drop_eq_getElem_cons h2, e1, e2, soonB]
theorem soonB_end (xs ys : List Int) (k : Nat) (h : ¬ (k < xs.length ∧ k < ys.length)) (h1 : k ≤ xs.length) (h2 : k ≤ ys.length) : soonB (xs.drop k) (ys.drop k) = decide (xs.length < ys.length) := by
  rcases Nat.lt_or_ge k xs.length with h3 | h3
  · have h4 : ys.drop k = [] := List.drop_of_length_le (by omega)
    rw [h4, List.drop_eq_getElem_cons h3, soonB]
    simp; omega
  · have h4 : xs.drop k = [] := List.drop_of_length_le (by omega)
    rw [h4]
    rcases Nat.lt_or_ge k ys.length with h5 | h5
    · rw [List.drop_eq_getElem_cons h5, soonB]; simp; omega
    · have h6 : ys.drop k = [] := List.drop_of_length_le (by omega)
      rw [h6, soonB]; simp; omega
end Go.Proofs.Ytgglfngkomgadaa
/- Walks of the reference: Sooner, Shorter. -/
namespace Go.Proofs.Ytgglfngkomgadaa
open Go.RowKit Go.Shelf
set_option linter.unusedVariables false
set_option linter.unusedSimpArgs false
set_option maxRecDepth 100000

set_option maxHeartbeats 3000000 in
theorem Sooner_c (a a' : Option Addr) (xs ys : List Int) (c c' : Nat) (w : World) (h : Sl w a (ints xs)) (h' : Sl w a' (ints ys)) (hl1 : xs.length ≤ 1000) (hl2 : ys.length ≤ 1000) :
    Calls Try.prog 111 #[.slice a xs.length c, .slice a' ys.length c'] w fun e w' => e = .returned (.bool (soonB xs ys)) ∧ Below w.heap.size w w' := by
  obtain ⟨R, hR⟩ : ∃ R, R = soonB (xs.drop 0) (ys.drop 0) := ⟨_, rfl⟩
  have HR := Lib.hid hR
  rw [show soonB xs ys = R from hR.symm]
  clear hR
  go_enter Try.func111, Try.ntmps111
  go_wp2_with fail
  go_loopw [5] (fun i wr => ∃ k : Nat, k ≤ xs.length ∧ k ≤ ys.length ∧ i = .int .i64 k ∧ Hid (R = soonB (xs.drop k) (ys.drop k)) ∧ Below w.heap.size w wr) (fun i _ => xs.length - (intOf i).toNat)
  case atStart => exact ⟨0, Nat.zero_le _, Nat.zero_le _, rfl, HR, Below.refl _ _⟩
  case round =>
    obtain ⟨k, hk, hk', rfl, HT, hB⟩ := hrel
    have HBB := Lib.hid hB
    by_cases hlt : k < xs.length
    · by_cases hky : k < ys.length
      · obtain ⟨x, hx⟩ : ∃ x, xs[k]? = some x := ⟨_, List.getElem?_eq_getElem hlt⟩
        obtain ⟨y, hy⟩ : ∃ y, ys[k]? = some y := ⟨_, List.getElem?_eq_getElem hky⟩
        have HP := Lib.hid (soonB_drop xs ys k x y hx hy)
        obtain ⟨b, o, rfl, d⟩ := (h.below hB).int_at hx
        obtain ⟨b', o', rfl, d'⟩ := (h'.below hB).int_at hy
        have HS := Lib.hid (show TwS b (o + k) b' (o' + k) x y wr from ⟨d, d'⟩)
        have ew : IntKind.i64.wrap ((k : Int) + 1) = (k : Int) + 1 := IntWalk.i64_in _ (by omega)
        clear hx hy d d' hB
        go_wp2_with fail
        refine region_o (S := TwS b (o + k) b' (o' + k) x y) (.take 0 (.take 1 (.take 2 (.take 3 (.take 4 (.take 5 (.take 6 (.take 7 (.take 8 .nil))))))))) (by kernel_rfl) (by kernel_rfl) (fun _ _ d _ _ h => by cases d <;> exact h) (⟨by simpa using HS.out.1, by simpa using HS.out.2⟩) ?_
        intro W0 hW0 hS0
        have hBW : Below wr.heap.size wr W0 := by subst hW0; exact (Below.refl _ _).drew
        clear hW0
        repeat (first
          | (refine ord_skip rfl ?_ ?_; rfl; simp only [pz])
          | (refine ord_take (v := ?_) rfl ?_ (fun W hW => ?_) ?_; rotate_left; rfl; (obtain ⟨hz0, hz1⟩ := hW; go_simp; (first | done | with_reducible rfl)); simp only [pz]))
        refine ord_nil ?_
        have HS1 := Lib.hid hS0
        obtain ⟨wm, hwm⟩ : ∃ Q, Q = W0 := ⟨_, rfl⟩
        subst hwm
        by_cases hxy : x = y
        · have exy : (x != y) = false := by simpa using hxy
          have HXY := Lib.hid hxy
          rw [exy]
          clear hxy exy
          go_wp2_with fail
          go_roundw
          case rel => exact ⟨k + 1, by omega, by omega, by go_num, by show R = _; rw [HT.out, HP.out, if_pos HXY.out], HBB.out.trans (hBW.mono HBB.out.size)⟩
          case measure => simp [intOf]; omega
        · have exy : (x != y) = true := by simpa using hxy
          have HXY := Lib.hid hxy
          rw [exy]
          clear hxy exy
          have hBX0 := hBW
          clear hBW
          go_wp2_with fail
          refine region_o (S := TwS b (o + k) b' (o' + k) x y) (.take 0 (.take 1 (.take 2 (.take 3 (.take 4 (.take 5 (.take 6 (.take 7 (.take 8 (.take 9 .nil)))))))))) (by kernel_rfl) (by kernel_rfl) (fun _ _ d _ _ h => by cases d <;> exact h) (⟨by simpa using HS1.out.1, by simpa using HS1.out.2⟩) ?_
          intro W9 hW9 hS9
          have hBV : Below wm.heap.size wm W9 := by subst hW9; exact (Below.refl _ _).drew
          clear hW9
          repeat (first
            | (refine ord_skip rfl ?_ ?_; rfl; simp only [pz])
            | (refine ord_take (v := ?_) rfl ?_ (fun W hW => ?_) ?_; rotate_left; rfl; (obtain ⟨hz0, hz1⟩ := hW; go_simp; (first | done | with_reducible rfl)); simp only [pz]))
          refine ord_nil ?_
          go_wp2_with fail
          go_ret
          refine ⟨ret_bool ?_, HBB.out.trans ((hBX0.trans (hBV.mono hBX0.size)).mono HBB.out.size)⟩
          rw [HT.out, HP.out, if_neg HXY.out]
      · have he := soonB_end xs ys k (by omega) hk hk'
        have HE := Lib.hid he
        clear he
        go_wp2_with fail
        go_ret
        refine ⟨ret_bool ?_, hB⟩
        rw [HT.out, HE.out]
    · have he := soonB_end xs ys k (by omega) hk hk'
      have HE := Lib.hid he
      clear he
      go_wp2_with fail
      go_ret
      refine ⟨ret_bool ?_, hB⟩
      rw [HT.out, HE.out]

set_option maxHeartbeats 2000000 in
theorem Shorter_c (a a' : Option Addr) (xs ys : List Int) (c c' : Nat) (w : World) (h : Sl w a (ints xs)) (h' : Sl w a' (ints ys)) (hl1 : xs.length ≤ 1000) (hl2 : ys.length ≤ 1000) :
    Calls Try.prog 66 #[.slice a xs.length c, .slice a' ys.length c'] w fun e w' => e = .returned (.bool (shortB xs ys)) ∧ Below w.heap.size w w' := by
  obtain ⟨R, hR⟩ : ∃ R, R = shortB xs ys := ⟨_, rfl⟩
  have HR := Lib.hid hR
  rw [← hR]
  clear hR
  by_cases h1 : xs.length < ys.length
  · have d1 : decide ((xs.length : Int) < (ys.length : Int)) = true := by simp; omega
    have HH := Lib.hid h1
    go_enter Try.func66, Try.ntmps66
    go_wp2_with fail
    go_ret
    exact ⟨ret_bool (by rw [HR.out, shortB]; simp [HH.out]), Below.refl _ _⟩
  · have d1 : decide ((xs.length : Int) < (ys.length : Int)) = false := by simp; omega
    have H1 := Lib.hid h1
    by_cases h2 : xs.length = ys.length
    · have d2 : ((xs.length : Int) == (ys.length : Int)) = true := by simp; omega
      have H2 := Lib.hid h2
      clear h2
      go_enter Try.func66, Try.ntmps66
      go_wp2_with fail
      refine (Sooner_c a a' xs ys c c' _ h h' hl1 hl2).mono ?_
      rintro e w2 ⟨rfl, hb⟩
      go_wp2_with fail
      go_ret
      exact ⟨ret_bool (by rw [HR.out, shortB]; simp [H2.out]), hb⟩
    · have d2 : ((xs.length : Int) == (ys.length : Int)) = false := by simp; omega
      have H2 := Lib.hid h2
      clear h2
      go_enter Try.func66, Try.ntmps66
      go_wp2_with fail
      go_ret
      exact ⟨ret_bool (by rw [HR.out, shortB]; have := H1.out; simp [H2.out]; omega), Below.refl _ _⟩
end Go.Proofs.Ytgglfngkomgadaa
/- Walks of the reference: First, Leave. -/
namespace Go.Proofs.Ytgglfngkomgadaa
open Go.RowKit Go.Shelf
set_option linter.unusedVariables false
set_option linter.unusedSimpArgs false
set_option maxRecDepth 100000

def firstO : Option Nat → Int
  | some n => n
  | none => -1
def firstRf (r : Riv) (xs : List Nat) : Int := firstO ((List.range r.gauges.length).find? fun n => !canF xs (2 ^ (n + 1) - 1))
theorem two_shl : ∀ k : Nat, k < 5 → wrap64 (wrap64 (2 * 2 ^ k) - 1) = ((2 ^ (k + 1) - 1 : Nat) : Int) ∧ 2 ^ (k + 1) - 1 < 64 := by
  intro k hk
  have : k = 0 ∨ k = 1 ∨ k = 2 ∨ k = 3 ∨ k = 4 := by omega
  rcases this with rfl | rfl | rfl | rfl | rfl <;> decide +kernel
set_option maxHeartbeats 2000000 in
theorem FirstR_c (r : Riv) (A : RA) (a : Option Addr) (xs : List Nat) (c : Nat) (w : World) (hg : r.gauges.length ≤ 5) (h : Sl w a (ints (natI xs))) (hlen : xs.length ≤ 100000) (hx : ∀ x ∈ xs, x < 64) :
    Calls Try.prog 54 #[rivV r A, .slice a xs.length c] w fun e w' => e = .returned (.int .i64 (firstRf r xs)) ∧ Below w.heap.size w w' := by
  obtain ⟨R, hR⟩ : ∃ R, R = firstRf r xs := ⟨_, rfl⟩
  have hR2 : R = firstO ((List.range' 0 (r.gauges.length - 0)).find? fun n => !canF xs (2 ^ (n + 1) - 1)) := by rw [hR, firstRf, List.range_eq_range']; rfl
  have HR := Lib.hid hR2
  rw [← hR]
  have hbx := box_new w r A
  have hb0 := (Below.refl w.heap.size w).alloc (Nat.le_refl _) (rO26 r A)
  clear hR hR2
  go_enter Try.func54, Try.ntmps54
  go_wp2_with fail
  obtain ⟨wq, hwq⟩ : ∃ wq, w.alloc (rO26 r A) = wq := ⟨_, rfl⟩
  rw [hwq] at hbx hb0 ⊢
  have k9 := hbx.k9
  have hsq := h.below hb0
  clear hwq hbx
  go_loop [5] (fun i => ∃ k : Nat, k ≤ r.gauges.length ∧ i = .int .i64 k ∧ Hid (R = firstO ((List.range' k (r.gauges.length - k)).find? fun n => !canF xs (2 ^ (n + 1) - 1)))) (fun i => r.gauges.length - (intOf i).toNat)
  case atStart => exact ⟨0, Nat.zero_le _, rfl, HR⟩
  case round =>
    obtain ⟨k, hk, rfl, HP⟩ := hrel
    have ew : IntKind.i64.wrap ((k : Int) + 1) = (k : Int) + 1 := IntWalk.i64_in _ (by omega)
    by_cases hlt : k < r.gauges.length
    · have hst := findr_step (p := fun n => !canF xs (2 ^ (n + 1) - 1)) r.gauges.length k hlt
      have HST := Lib.hid hst
      clear hst
      go_wp2_with fail
      rw [(two_shl k (by omega)).1]
      refine (Can_c a xs c (2 ^ (k + 1) - 1) _ hsq hlen (two_shl k (by omega)).2 hx).mono ?_
      rintro e w' ⟨rfl, hw'⟩
      subst hw'
      obtain ⟨cv, hcv⟩ : ∃ b, b = canF xs (2 ^ (k + 1) - 1) := ⟨_, rfl⟩
      have HCV := Lib.hid hcv
      rw [← hcv]
      clear hcv
      cases cv
      · go_wp2_with fail
        go_ret
        exact ⟨ret_int (by rw [HP.out, HST.out, ← HCV.out]; rfl), hb0⟩
      · go_wp2_with fail
        go_round
        case rel => exact ⟨k + 1, by omega, by go_num, by show R = _; rw [HP.out, HST.out, ← HCV.out]; rfl⟩
        case measure => simp [intOf]; omega
    · have e0 : r.gauges.length - k = 0 := by omega
      have HE := Lib.hid e0
      clear e0
      go_wp2_with fail
      go_ret
      exact ⟨ret_int (by rw [HP.out, HE.out]; rfl), hb0⟩

/-- A step of the search for the smallest set. -/
def lvStep (r : Riv) (xs : List Nat) (best : List Int) (m : Nat) : List Int := if shortB (bitsL m) best && canF xs (fullR r ^^^ (fullR r &&& m)) then bitsL m else best
def lvFold (r : Riv) (xs : List Nat) (k : Nat) : List Int := (List.range k).foldl (lvStep r xs) (bitsL (fullR r))
def leaveRf (r : Riv) (xs : List Nat) : List Int := lvFold r xs (fullR r + 1)
theorem lvFold_succ (r : Riv) (xs : List Nat) (k : Nat) : lvFold r xs (k + 1) = lvStep r xs (lvFold r xs k) k := by
  unfold lvFold
  rw [List.range_succ, List.foldl_append]; rfl
theorem bitsL_len (m : Nat) : (bitsL m).length ≤ 6 := by
  unfold bitsL; rw [List.length_map]; exact bitsK_len m 6
theorem lvFold_len (r : Riv) (xs : List Nat) : ∀ k, (lvFold r xs k).length ≤ 6
  | 0 => bitsL_len _
  | k + 1 => by
    rw [lvFold_succ]; unfold lvStep
    split
    · exact bitsL_len _
    · exact lvFold_len r xs k
theorem andnot_small : ∀ P : Nat, P < 64 → ∀ Q : Nat, Q < 64 → Go.bits BinOp.andNot IntKind.i64 (P : Int) (Q : Int) = ((P ^^^ (P &&& Q) : Nat) : Int) ∧ P ^^^ (P &&& Q) < 64 := by decide +kernel
set_option maxHeartbeats 3000000 in
theorem LeaveR_c (r : Riv) (A : RA) (a : Option Addr) (xs : List Nat) (c : Nat) (w : World) (hg : r.gauges.length ≤ 5) (h : Sl w a (ints (natI xs))) (hlen : xs.length ≤ 100000) (hx : ∀ x ∈ xs, x < 64) :
    Calls Try.prog 53 #[rivV r A, .slice a xs.length c] w fun e w' => ∃ b d, e = .returned (.slice b (leaveRf r xs).length d) ∧ Sl w' b (ints (leaveRf r xs)) ∧ Below w.heap.size w w' := by
  obtain ⟨R, hR⟩ : ∃ R, R = leaveRf r xs := ⟨_, rfl⟩
  have HR := Lib.hid hR
  rw [← hR]
  have hbx := box_new w r A
  have hb0 := (Below.refl w.heap.size w).alloc (Nat.le_refl _) (rO26 r A)
  obtain ⟨F, hF⟩ : ∃ F, F = fullR r := ⟨_, rfl⟩
  have HF := Lib.hid hF
  have hF6 : F < 32 := by
    rw [hF]; unfold fullR
    have : 2 ^ r.gauges.length ≤ 2 ^ 5 := Nat.pow_le_pow_right (by omega) hg
    omega
  clear hR hF
  go_enter Try.func53, Try.ntmps53
  go_wp2_with fail
  obtain ⟨wq, hwq⟩ : ∃ wq, w.alloc (rO26 r A) = wq := ⟨_, rfl⟩
  rw [hwq] at hbx hb0 ⊢
  have hz := hb0.size
  clear hwq
  refine (Full_c r A _ hg).mono ?_
  rintro e w1 ⟨rfl, hb1⟩
  rw [← HF.out]
  have hX1 := Lib.hid (hbx.below hb1)
  have hB1 := Lib.hid (hb0.trans (hb1.mono hz))
  clear hb1 hbx hb0
  go_wp2_with fail
  refine (Bits_c F _ (by omega)).mono ?_
  rintro e w2 ⟨v2, rfl, hown2, hb2⟩
  obtain ⟨a2, c2, rfl, -, hs2⟩ := own_Sl hown2
  have hX2 := Lib.hid (hX1.out.below hb2)
  have hB2 := Lib.hid (hB1.out.trans (hb2.mono hB1.out.size))
  have hS2 := Lib.hid hs2
  clear hown2 hs2 hb2
  go_wp2_with fail
  go_loopw [5, 6, 7] (fun v i _ wr => ∃ (k : Nat) (b : Option Addr) (d : Nat), k ≤ F + 1 ∧ i = .int .i64 k ∧ v = .slice b (lvFold r xs k).length d ∧ Sl wr b (ints (lvFold r xs k)) ∧ Below w2.heap.size w2 wr) (fun _ i _ _ => F + 1 - (intOf i).toNat)
  case atStart => exact ⟨0, a2, c2, by omega, rfl, by rw [show lvFold r xs 0 = bitsL F from by rw [HF.out]; rfl], by rw [show lvFold r xs 0 = bitsL F from by rw [HF.out]; rfl]; exact hS2.out, Below.refl _ _⟩
  case round =>
    obtain ⟨k, b, d, hk, rfl, rfl, hsl, hB⟩ := hrel
    obtain ⟨Lk, hLk⟩ : ∃ l, l = lvFold r xs k := ⟨_, rfl⟩
    have hLl : Lk.length ≤ 6 := by rw [hLk]; exact lvFold_len r xs k
    have HLK := Lib.hid hLk
    rw [← hLk] at hsl ⊢
    have HSL := Lib.hid hsl
    have HB := Lib.hid (hB2.out.trans (hB.mono hB2.out.size))
    have hXr := Lib.hid (hX2.out.below hB)
    have HBr := Lib.hid hB
    have ew : IntKind.i64.wrap ((k : Int) + 1) = (k : Int) + 1 := IntWalk.i64_in _ (by omega)
    obtain ⟨k0, k1, k2, k3, k4, k5, k6, k7, k8, k9⟩ := hXr.out
    clear hLk hsl hB
    go_wp2_with fail
    refine (Full_c r A _ hg).mono ?_
    rintro e w3 ⟨rfl, hb3⟩
    rw [← HF.out]
    have HX3 := Lib.hid (hXr.out.below hb3)
    have HB3 := Lib.hid (HB.out.trans (hb3.mono HB.out.size))
    have HS3 := Lib.hid (HSL.out.below hb3)
    have HB23 := Lib.hid (HBr.out.trans (hb3.mono HBr.out.size))
    clear k0 k1 k2 k3 k4 k5 k6 k7 k8 k9 hb3
    by_cases hlt : k ≤ F
    · have hle : decide ((k : Int) ≤ (F : Int)) = true := by simp; omega
      go_wp2_with fail
      refine (Bits_c k _ (by omega)).mono ?_
      rintro e w4 ⟨v4, rfl, hown4, hb4⟩
      obtain ⟨a4, c4, rfl, -, hs4⟩ := own_Sl hown4
      have HX4 := Lib.hid (HX3.out.below hb4)
      have HB4 := Lib.hid (HB3.out.trans (hb4.mono HB3.out.size))
      have HS4 := Lib.hid (HS3.out.below hb4)
      have HB24 := Lib.hid (HB23.out.trans (hb4.mono HB23.out.size))
      have HT4 := Lib.hid hs4
      have hbl := bitsL_len k
      clear hown4 hs4 hb4
      go_wp2_with fail
      refine (Shorter_c a4 b (bitsL k) Lk c4 d _ HT4.out HS4.out (by omega) (by omega)).mono ?_
      rintro e w5 ⟨rfl, hb5⟩
      have HX5 := Lib.hid (HX4.out.below hb5)
      have HB5 := Lib.hid (HB4.out.trans (hb5.mono HB4.out.size))
      have HS5 := Lib.hid (HS4.out.below hb5)
      have HT5 := Lib.hid (HT4.out.below hb5)
      have HB25 := Lib.hid (HB24.out.trans (hb5.mono HB24.out.size))
      clear hb5
      obtain ⟨sv, hsv⟩ : ∃ b, b = shortB (bitsL k) Lk := ⟨_, rfl⟩
      have HSV := Lib.hid hsv
      rw [← hsv]
      obtain ⟨k0, k1, k2, k3, k4, k5, k6, k7, k8, k9⟩ := HX5.out
      clear hsv
      cases sv
      · go_wp2_with fail
        go_roundw
        case rel =>
          have e1 : lvFold r xs (k + 1) = Lk := by rw [lvFold_succ, ← HLK.out, lvStep, ← HSV.out]; rfl
          exact ⟨k + 1, b, d, by omega, by go_num, by rw [e1], by rw [e1]; exact HS5.out, HB25.out⟩
        case measure => simp [intOf]; omega
      · go_wp2_with fail
        refine (Full_c r A _ hg).mono ?_
        rintro e w6 ⟨rfl, hb6⟩
        rw [← HF.out]
        have HB6 := Lib.hid (HB5.out.trans (hb6.mono HB5.out.size))
        have HS6 := Lib.hid (HS5.out.below hb6)
        have HT6 := Lib.hid (HT5.out.below hb6)
        have HB26 := Lib.hid (HB25.out.trans (hb6.mono HB25.out.size))
        clear k0 k1 k2 k3 k4 k5 k6 k7 k8 k9 hb6
        go_wp2_with fail
        have han := andnot_small F (by omega) k (by omega)
        rw [han.1]
        refine (Can_c a xs c (F ^^^ (F &&& k)) _ (h.below HB6.out) hlen han.2 hx).mono ?_
        rintro e w' ⟨rfl, hw'⟩
        subst hw'
        obtain ⟨cv, hcv⟩ : ∃ b, b = canF xs (F ^^^ (F &&& k)) := ⟨_, rfl⟩
        have HCV := Lib.hid hcv
        rw [← hcv]
        clear hcv han
        cases cv
        · go_wp2_with fail
          go_roundw
          case rel =>
            have e1 : lvFold r xs (k + 1) = Lk := by rw [lvFold_succ, ← HLK.out, lvStep, ← HSV.out, ← HF.out, ← HCV.out]; rfl
            exact ⟨k + 1, b, d, by omega, by go_num, by rw [e1], by rw [e1]; exact HS6.out, HB26.out⟩
          case measure => simp [intOf]; omega
        · go_wp2_with fail
          go_roundw
          case rel =>
            have e1 : lvFold r xs (k + 1) = bitsL k := by rw [lvFold_succ, ← HLK.out, lvStep, ← HSV.out, ← HF.out, ← HCV.out]; rfl
            exact ⟨k + 1, a4, c4, by omega, by go_num, by rw [e1], by rw [e1]; exact HT6.out, HB26.out⟩
          case measure => simp [intOf]; omega
    · have hkk : k = F + 1 := by omega
      have hle : decide ((k : Int) ≤ (F : Int)) = false := by simp; omega
      have HK := Lib.hid hkk
      clear hkk
      go_wp2_with fail
      go_ret
      have e1 : R = Lk := by rw [HR.out, leaveRf, ← HF.out, HLK.out, HK.out]
      rw [e1]
      exact ⟨b, d, rfl, HS3.out, HB3.out⟩
end Go.Proofs.Ytgglfngkomgadaa
/- Walks of the reference: Fewest. -/
namespace Go.Proofs.Ytgglfngkomgadaa
open Go.RowKit Go.Shelf
set_option linter.unusedVariables false
set_option linter.unusedSimpArgs false
set_option maxRecDepth 100000

def sureR (r : Riv) (ts : List Tr) (S T : Int) (xs : List Int) : Bool := decide (r.last < lacksR r ts xs S T)
/-- A step of the search for the fewest days. -/
def fwStep (r : Riv) (ts : List Tr) (S T : Int) (best : Option (List Int)) (m : Nat) : Option (List Int) :=
  match best with
  | none => if sureR r ts S T (bitsL m) then some (bitsL m) else none
  | some b => if shortB (bitsL m) b && sureR r ts S T (bitsL m) then some (bitsL m) else some b
def fwFold (r : Riv) (ts : List Tr) (S T : Int) (k : Nat) : Option (List Int) := (List.range k).foldl (fwStep r ts S T) none
def fewRf (r : Riv) (ts : List Tr) (S T : Int) : Option (List Int) := fwFold r ts S T (2 * 2 ^ r.last.toNat)
theorem fwFold_succ (r : Riv) (ts : List Tr) (S T : Int) (k : Nat) : fwFold r ts S T (k + 1) = fwStep r ts S T (fwFold r ts S T k) k := by
  unfold fwFold
  rw [List.range_succ, List.foldl_append]; rfl
theorem fwFold_len (r : Riv) (ts : List Tr) (S T : Int) : ∀ k b, fwFold r ts S T k = some b → b.length ≤ 6
  | 0, b, h => by simp [fwFold] at h
  | k + 1, b, h => by
    rw [fwFold_succ] at h
    have ih := fwFold_len r ts S T k
    cases hf : fwFold r ts S T k with
    | none =>
      rw [hf] at h
      simp only [fwStep] at h
      split at h
      · cases h; exact bitsL_len k
      · cases h
    | some b' =>
      rw [hf] at h
      simp only [fwStep] at h
      split at h
      · cases h; exact bitsL_len k
      · cases h; exact ih _ hf
theorem shl2 : ∀ L : Nat, L ≤ 5 → wrap64 (2 * 2 ^ L) = ((2 * 2 ^ L : Nat) : Int) ∧ 2 * 2 ^ L ≤ 64 := by
  intro L hL
  have : L = 0 ∨ L = 1 ∨ L = 2 ∨ L = 3 ∨ L = 4 ∨ L = 5 := by omega
  rcases this with rfl | rfl | rfl | rfl | rfl | rfl <;> decide +kernel
/-- How the best list lies in memory. -/
def Best (o : Option (List Int)) (v f : Value) (w : World) : Prop :=
  match o with
  | none => v = .slice none 0 0 ∧ f = .bool false
  | some b => ∃ a c, v = .slice a b.length c ∧ f = .bool true ∧ Sl w a (ints b)
theorem Best.below {o : Option (List Int)} {v f : Value} {w W : World} (h : Best o v f w) (hb : Below w.heap.size w W) : Best o v f W := by
  cases o with
  | none => exact h
  | some b => obtain ⟨a, c, h1, h2, h3⟩ := h; exact ⟨a, c, h1, h2, h3.below hb⟩
def RetBest (o : Option (List Int)) (w : World) (e : Ending) (w' : World) : Prop := ∃ v f, e = .returned (.tuple #[v, f]) ∧ Best o v f w' ∧ Below w.heap.size w w'

set_option maxHeartbeats 6000000 in
theorem FewestR_c (r : Riv) (A : RA) (l : Option Addr) (ts : List Tr) (lc : Nat) (S T : Int) (ok : Ok r) (hS : 0 ≤ S) (hS9 : S ≤ 99) (hf : Fits r ts) (hlt : ts.length ≤ 5000)
    (w : World) (hr : Rd w r A) (ht : TL w l ts) :
    Calls Try.prog 37 #[rivV r A, .slice l ts.length lc, .int .i64 S, .int .i64 T] w (RetBest (fewRf r ts S T) w) := by
  obtain ⟨R, hR⟩ : ∃ R, R = fewRf r ts S T := ⟨_, rfl⟩
  have HR := Lib.hid hR
  rw [← hR]
  have HOK := Lib.hid ok
  obtain ⟨L, hL⟩ : ∃ L : Nat, r.last = L := ⟨r.last.toNat, by have := ok.l0; omega⟩
  have hL5 : L ≤ 5 := by have := ok.l5; omega
  have HL := Lib.hid hL
  have hTT := ht
  have HTL := Lib.hid ht
  have hbx := box_new w r A
  have hb0 := (Below.refl w.heap.size w).alloc (Nat.le_refl _) (rO26 r A)
  obtain ⟨E, hE⟩ : ∃ E, E = 2 * 2 ^ L := ⟨_, rfl⟩
  have hE6 : E ≤ 64 := by rw [hE]; exact (shl2 L hL5).2
  have hsh : wrap64 (2 * 2 ^ L) = (E : Int) := by rw [hE]; exact (shl2 L hL5).1
  have HE := Lib.hid hE
  clear hR ok ht hTT hL hE
  go_enter Try.func37, Try.ntmps37
  go_wp2_with fail
  obtain ⟨wq, hwq⟩ : ∃ wq, w.alloc (rO26 r A) = wq := ⟨_, rfl⟩
  rw [hwq] at hbx hb0 ⊢
  have hz := hb0.size
  have HBX := Lib.hid hbx
  clear hwq hbx
  go_loopw [10, 11, 12, 13] (fun v f i _ wr => ∃ (k : Nat), k ≤ E ∧ i = .int .i64 k ∧ Best (fwFold r ts S T k) v f wr ∧ Below wq.heap.size wq wr) (fun _ _ i _ _ => E - (intOf i).toNat)
  case atStart => exact ⟨0, Nat.zero_le _, rfl, ⟨rfl, rfl⟩, Below.refl _ _⟩
  case round =>
    obtain ⟨k, hk, rfl, hbe, hB⟩ := hrel
    have HBE := Lib.hid hbe
    have HB := Lib.hid hB
    have hX := HBX.out.below hB
    have HX := Lib.hid hX
    have ew : IntKind.i64.wrap ((k : Int) + 1) = (k : Int) + 1 := IntWalk.i64_in _ (by omega)
    have k0 := hX.k0
    rw [HL.out] at k0
    have hbl := bitsL_len k
    clear hbe hB hX
    by_cases hlt2 : k < E
    · obtain ⟨o, ho⟩ : ∃ o, o = fwFold r ts S T k := ⟨_, rfl⟩
      have HO := Lib.hid ho
      have hol : ∀ b, o = some b → b.length ≤ 6 := fun b e => fwFold_len r ts S T k b (by rw [← ho]; exact e)
      have hfs := fwFold_succ r ts S T k
      rw [← ho] at hfs HBE
      have HFS := Lib.hid hfs
      clear ho hfs
      cases o with
      | none =>
        obtain ⟨rfl, rfl⟩ := HBE.out
        go_wp2_with fail
        refine (Bits_c k _ (by omega)).mono ?_
        rintro e w4 ⟨v4, rfl, hown4, hb4⟩
        obtain ⟨a4, c4, rfl, -, hs4⟩ := own_Sl hown4
        have HX4 := Lib.hid (HX.out.below hb4)
        have HB4 := Lib.hid (HB.out.trans (hb4.mono HB.out.size))
        have HB24 := Lib.hid hb4
        have HT4 := Lib.hid hs4
        have hB0 := hb0.trans (HB4.out.mono hz)
        clear hown4 hs4 hb4 k0
        go_wp2_with fail
        refine region_o (S := BoxR w.heap.size r A) (.take 0 (.take 1 (.take 2 (.take 3 (.take 4 (.one 5 (.take 6 (.take 7 (.take 8 (.take 9 (.take 10 (.take 11 (.take 12 (.take 14 (.take 15 (.one 13 (.take 16 (.take 17 .nil)))))))))))))))))) (by kernel_rfl) (by kernel_rfl) (fun _ _ d _ _ h => by cases d <;> exact h) (HX4.out.below (Below.refl _ _).drew) ?_
        intro W0 hW0 hS0
        have hBW : Below w4.heap.size w4 W0 := by subst hW0; exact (Below.refl _ _).drew
        clear hW0
        have hBc := hBW
        repeat (first
          | (refine ord_skip rfl ?_ ?_; rfl; simp only [pz])
          | (refine ord_take (v := ?_) rfl ?_ (fun W hW => ?_) ?_; rotate_left; rfl; (obtain ⟨k0, k1, k2, k3, k4, k5, k6, k7, k8, k9⟩ := hW; go_simp; (first | done | with_reducible rfl)); simp only [pz]))
        first
          | (refine ord_pass rfl ?_ hS0 ?_; rfl; simp only [pz]; have W1 := W0; have hS1 := hS0)
          | (refine ord_op rfl ?_ (fun K hK => ?_); rfl; go_simp; refine (Shorter_c a4 ab (bitsL k) bst c4 cb _ (HT4.out.below hBc) (HSB.out.below (HB24.out.trans (hBc.mono HB24.out.size))) (by omega) (by omega)).mono ?_; rintro e W1 ⟨rfl, hb1⟩; rw [← HSV.out]; have hS1 := BoxR.below hS0 hb1; replace hBc := hBc.trans (hb1.mono hBc.size); refine hK _ _ hS1 ?_; clear hK K; try simp only [pz])
        repeat (first
          | (refine ord_skip rfl ?_ ?_; rfl; simp only [pz])
          | (refine ord_take (v := ?_) rfl ?_ (fun W hW => ?_) ?_; rotate_left; rfl; (obtain ⟨k0, k1, k2, k3, k4, k5, k6, k7, k8, k9⟩ := hW; go_simp; (first | done | with_reducible rfl)); simp only [pz]))
        first
          | (refine ord_pass rfl ?_ hS1 ?_; rfl; simp only [pz]; have W2 := W1; have hS2 := hS1)
          | (refine ord_op rfl ?_ (fun K hK => ?_); rfl; go_simp; refine (Lacks_c r A l ts lc a4 (bitsL k) c4 S T HOK.out hS hS9 (by omega) hf hlt _ (hr.below (hB0.trans (hBc.mono hB0.size))) (HTL.out.below (hB0.trans (hBc.mono hB0.size))) (HT4.out.below hBc)).mono ?_; rintro e W2 ⟨rfl, hb2⟩; obtain ⟨Lv, hLv⟩ : ∃ n, n = lacksR r ts (bitsL k) S T := ⟨_, rfl⟩; have HLV := Lib.hid hLv; rw [← hLv]; clear hLv; have hS2 := BoxR.below hS1 hb2; replace hBc := hBc.trans (hb2.mono hBc.size); refine hK _ _ hS2 ?_; clear hK K; try simp only [pz])
        repeat (first
          | (refine ord_skip rfl ?_ ?_; rfl; simp only [pz])
          | (refine ord_take (v := ?_) rfl ?_ (fun W hW => ?_) ?_; rotate_left; rfl; (obtain ⟨k0, k1, k2, k3, k4, k5, k6, k7, k8, k9⟩ := hW; go_simp; (first | done | with_reducible rfl)); simp only [pz]))
        refine ord_nil ?_
        have HBc := Lib.hid (HB4.out.trans (hBc.mono HB4.out.size))
        by_cases hlc : r.last < Lv
        · have hd : decide (r.last < Lv) = true := by simpa using hlc
          have HLC := Lib.hid hlc
          rw [hd]
          clear hlc hd
          go_wp2_with fail
          go_roundw
          case rel =>
            have e1 : fwFold r ts S T (k + 1) = some (bitsL k) := by rw [HFS.out, fwStep, if_pos (by rw [sureR, ← HLV.out]; simpa using HLC.out)]
            refine ⟨k + 1, by omega, by go_num, ?_, HBc.out⟩
            rw [e1]
            exact ⟨a4, c4, rfl, rfl, HT4.out.below hBc⟩
          case measure => simp [intOf]; omega
        · have hd : decide (r.last < Lv) = false := by simpa using hlc
          have HLC := Lib.hid hlc
          rw [hd]
          clear hlc hd
          go_wp2_with fail
          go_roundw
          case rel =>
            have e1 : fwFold r ts S T (k + 1) = none := by rw [HFS.out, fwStep, if_neg (by rw [sureR, ← HLV.out]; simpa using HLC.out)]
            refine ⟨k + 1, by omega, by go_num, ?_, HBc.out⟩
            rw [e1]
            exact ⟨rfl, rfl⟩
          case measure => simp [intOf]; omega
      | some bst =>
        obtain ⟨ab, cb, rfl, rfl, hsb⟩ := HBE.out
        have hbl2 := hol bst rfl
        have HSB := Lib.hid hsb
        clear hol hsb
        go_wp2_with fail
        refine (Bits_c k _ (by omega)).mono ?_
        rintro e w4 ⟨v4, rfl, hown4, hb4⟩
        obtain ⟨a4, c4, rfl, -, hs4⟩ := own_Sl hown4
        have HX4 := Lib.hid (HX.out.below hb4)
        have HB4 := Lib.hid (HB.out.trans (hb4.mono HB.out.size))
        have HB24 := Lib.hid hb4
        have HT4 := Lib.hid hs4
        have hB0 := hb0.trans (HB4.out.mono hz)
        clear hown4 hs4 hb4 k0
        go_wp2_with fail
        obtain ⟨sv, hsv⟩ : ∃ b, b = shortB (bitsL k) bst := ⟨_, rfl⟩
        have HSV := Lib.hid hsv
        clear hsv
        cases sv
        · skip
          refine region_o (S := BoxR w.heap.size r A) (.take 0 (.take 1 (.take 2 (.take 3 (.take 4 (.one 5 (.take 6 (.take 7 (.take 8 (.take 9 (.take 10 (.take 11 (.take 12 (.take 14 (.take 15 (.one 13 (.take 16 (.take 17 .nil)))))))))))))))))) (by kernel_rfl) (by kernel_rfl) (fun _ _ d _ _ h => by cases d <;> exact h) (HX4.out.below (Below.refl _ _).drew) ?_
          intro W0 hW0 hS0
          have hBW : Below w4.heap.size w4 W0 := by subst hW0; exact (Below.refl _ _).drew
          clear hW0
          have hBc := hBW
          repeat (first
            | (refine ord_skip rfl ?_ ?_; rfl; simp only [pz])
            | (refine ord_take (v := ?_) rfl ?_ (fun W hW => ?_) ?_; rotate_left; rfl; (obtain ⟨k0, k1, k2, k3, k4, k5, k6, k7, k8, k9⟩ := hW; go_simp; (first | done | with_reducible rfl)); simp only [pz]))
          first
            | (refine ord_pass rfl ?_ hS0 ?_; rfl; simp only [pz]; have W1 := W0; have hS1 := hS0)
            | (refine ord_op rfl ?_ (fun K hK => ?_); rfl; go_simp; refine (Shorter_c a4 ab (bitsL k) bst c4 cb _ (HT4.out.below hBc) (HSB.out.below (HB24.out.trans (hBc.mono HB24.out.size))) (by omega) (by omega)).mono ?_; rintro e W1 ⟨rfl, hb1⟩; rw [← HSV.out]; have hS1 := BoxR.below hS0 hb1; replace hBc := hBc.trans (hb1.mono hBc.size); refine hK _ _ hS1 ?_; clear hK K; try simp only [pz])
          repeat (first
            | (refine ord_skip rfl ?_ ?_; rfl; simp only [pz])
            | (refine ord_take (v := ?_) rfl ?_ (fun W hW => ?_) ?_; rotate_left; rfl; (obtain ⟨k0, k1, k2, k3, k4, k5, k6, k7, k8, k9⟩ := hW; go_simp; (first | done | with_reducible rfl)); simp only [pz]))
          first
            | (refine ord_pass rfl ?_ hS1 ?_; rfl; simp only [pz]; have W2 := W1; have hS2 := hS1)
            | (refine ord_op rfl ?_ (fun K hK => ?_); rfl; go_simp; refine (Lacks_c r A l ts lc a4 (bitsL k) c4 S T HOK.out hS hS9 (by omega) hf hlt _ (hr.below (hB0.trans (hBc.mono hB0.size))) (HTL.out.below (hB0.trans (hBc.mono hB0.size))) (HT4.out.below hBc)).mono ?_; rintro e W2 ⟨rfl, hb2⟩; obtain ⟨Lv, hLv⟩ : ∃ n, n = lacksR r ts (bitsL k) S T := ⟨_, rfl⟩; have HLV := Lib.hid hLv; rw [← hLv]; clear hLv; have hS2 := BoxR.below hS1 hb2; replace hBc := hBc.trans (hb2.mono hBc.size); refine hK _ _ hS2 ?_; clear hK K; try simp only [pz])
          repeat (first
            | (refine ord_skip rfl ?_ ?_; rfl; simp only [pz])
            | (refine ord_take (v := ?_) rfl ?_ (fun W hW => ?_) ?_; rotate_left; rfl; (obtain ⟨k0, k1, k2, k3, k4, k5, k6, k7, k8, k9⟩ := hW; go_simp; (first | done | with_reducible rfl)); simp only [pz]))
          refine ord_nil ?_
          have HBc := Lib.hid (HB4.out.trans (hBc.mono HB4.out.size))
          go_wp2_with fail
          go_roundw
          case rel =>
            have e1 : fwFold r ts S T (k + 1) = some bst := by rw [HFS.out, fwStep, ← HSV.out]; rfl
            refine ⟨k + 1, by omega, by go_num, ?_, HBc.out⟩
            rw [e1]
            exact ⟨ab, cb, rfl, rfl, HSB.out.below (HB24.out.trans (hBc.mono HB24.out.size))⟩
          case measure => simp [intOf]; omega
        · skip
          refine region_o (S := BoxR w.heap.size r A) (.take 0 (.take 1 (.take 2 (.take 3 (.take 4 (.one 5 (.take 6 (.take 7 (.take 8 (.take 9 (.take 10 (.take 11 (.take 12 (.take 14 (.take 15 (.one 13 (.take 16 (.take 17 .nil)))))))))))))))))) (by kernel_rfl) (by kernel_rfl) (fun _ _ d _ _ h => by cases d <;> exact h) (HX4.out.below (Below.refl _ _).drew) ?_
          intro W0 hW0 hS0
          have hBW : Below w4.heap.size w4 W0 := by subst hW0; exact (Below.refl _ _).drew
          clear hW0
          have hBc := hBW
          repeat (first
            | (refine ord_skip rfl ?_ ?_; rfl; simp only [pz])
            | (refine ord_take (v := ?_) rfl ?_ (fun W hW => ?_) ?_; rotate_left; rfl; (obtain ⟨k0, k1, k2, k3, k4, k5, k6, k7, k8, k9⟩ := hW; go_simp; (first | done | with_reducible rfl)); simp only [pz]))
          first
            | (refine ord_pass rfl ?_ hS0 ?_; rfl; simp only [pz]; have W1 := W0; have hS1 := hS0)
            | (refine ord_op rfl ?_ (fun K hK => ?_); rfl; go_simp; refine (Shorter_c a4 ab (bitsL k) bst c4 cb _ (HT4.out.below hBc) (HSB.out.below (HB24.out.trans (hBc.mono HB24.out.size))) (by omega) (by omega)).mono ?_; rintro e W1 ⟨rfl, hb1⟩; rw [← HSV.out]; have hS1 := BoxR.below hS0 hb1; replace hBc := hBc.trans (hb1.mono hBc.size); refine hK _ _ hS1 ?_; clear hK K; try simp only [pz])
          repeat (first
            | (refine ord_skip rfl ?_ ?_; rfl; simp only [pz])
            | (refine ord_take (v := ?_) rfl ?_ (fun W hW => ?_) ?_; rotate_left; rfl; (obtain ⟨k0, k1, k2, k3, k4, k5, k6, k7, k8, k9⟩ := hW; go_simp; (first | done | with_reducible rfl)); simp only [pz]))
          first
            | (refine ord_pass rfl ?_ hS1 ?_; rfl; simp only [pz]; have W2 := W1; have hS2 := hS1)
            | (refine ord_op rfl ?_ (fun K hK => ?_); rfl; go_simp; refine (Lacks_c r A l ts lc a4 (bitsL k) c4 S T HOK.out hS hS9 (by omega) hf hlt _ (hr.below (hB0.trans (hBc.mono hB0.size))) (HTL.out.below (hB0.trans (hBc.mono hB0.size))) (HT4.out.below hBc)).mono ?_; rintro e W2 ⟨rfl, hb2⟩; obtain ⟨Lv, hLv⟩ : ∃ n, n = lacksR r ts (bitsL k) S T := ⟨_, rfl⟩; have HLV := Lib.hid hLv; rw [← hLv]; clear hLv; have hS2 := BoxR.below hS1 hb2; replace hBc := hBc.trans (hb2.mono hBc.size); refine hK _ _ hS2 ?_; clear hK K; try simp only [pz])
          repeat (first
            | (refine ord_skip rfl ?_ ?_; rfl; simp only [pz])
            | (refine ord_take (v := ?_) rfl ?_ (fun W hW => ?_) ?_; rotate_left; rfl; (obtain ⟨k0, k1, k2, k3, k4, k5, k6, k7, k8, k9⟩ := hW; go_simp; (first | done | with_reducible rfl)); simp only [pz]))
          refine ord_nil ?_
          have HBc := Lib.hid (HB4.out.trans (hBc.mono HB4.out.size))
          by_cases hlc : r.last < Lv
          · have hd : decide (r.last < Lv) = true := by simpa using hlc
            have HLC := Lib.hid hlc
            rw [hd]
            clear hlc hd
            go_wp2_with fail
            go_roundw
            case rel =>
              have e1 : fwFold r ts S T (k + 1) = some (bitsL k) := by rw [HFS.out, fwStep, ← HSV.out, if_pos (by rw [sureR, ← HLV.out]; simpa using HLC.out)]
              refine ⟨k + 1, by omega, by go_num, ?_, HBc.out⟩
              rw [e1]
              exact ⟨a4, c4, rfl, rfl, HT4.out.below hBc⟩
            case measure => simp [intOf]; omega
          · have hd : decide (r.last < Lv) = false := by simpa using hlc
            have HLC := Lib.hid hlc
            rw [hd]
            clear hlc hd
            go_wp2_with fail
            go_roundw
            case rel =>
              have e1 : fwFold r ts S T (k + 1) = some bst := by rw [HFS.out, fwStep, ← HSV.out, if_neg (by rw [sureR, ← HLV.out]; simpa using HLC.out)]
              refine ⟨k + 1, by omega, by go_num, ?_, HBc.out⟩
              rw [e1]
              exact ⟨ab, cb, rfl, rfl, HSB.out.below (HB24.out.trans (hBc.mono HB24.out.size))⟩
            case measure => simp [intOf]; omega
    · have hkk : k = E := by omega
      have HK := Lib.hid hkk
      clear hkk
      go_wp2_with fail
      refine bodyPost_ret (v := .tuple #[u10, u11]) (by simp [results, Try.results37, go_sem]) rfl ⟨_, _, rfl, ?_, hb0.trans (HB.out.mono hz)⟩
      have e1 : R = fwFold r ts S T k := by rw [HR.out, fewRf, HK.out, HE.out, HL.out]; rfl
      rw [e1]
      exact HBE.out
end Go.Proofs.Ytgglfngkomgadaa
