/- the reference: errors -/
import Derived.Test.YtgglfngkomgadaaJK
import Derived.Test.YtgglfngkomgadaaJA
/- Walks of the reference: its small functions. -/
namespace Go.Proofs.Ytgglfngkomgadaa
open Go.RowKit Go.Shelf
set_option linter.unusedVariables false
set_option linter.unusedSimpArgs false
set_option maxRecDepth 100000

theorem In_c (n a b : Int) (w : World) :
    Calls Try.prog 28 #[.int .i64 n, .int .i64 a, .int .i64 b] w fun e w' => e = .returned (.bool (inB n a b)) ∧ w = w' := by
  by_cases h1 : a ≤ n
  · have hd : decide (n ≥ a) = true := by simpa using h1
    go_enter Try.func28, Try.ntmps28
    go_wp2
    go_ret
    simp [inB, h1]
  · have hd : decide (n ≥ a) = false := by simpa using h1
    go_enter Try.func28, Try.ntmps28
    go_wp2
    go_ret
    simp [inB]; omega
theorem Is_c (n : Int) (r : Rg) (w : World) :
    Calls Try.prog 103 #[.int .i64 n, .agg #[.int .i64 r.lo, .int .i64 r.hi]] w fun e w' => e = .returned (.bool (r.has n)) ∧ Below w.heap.size w w' := by
  go_enter Try.func103, Try.ntmps103
  go_wp2_with (go_at_call 28; refine (In_c _ _ _ _).mono ?_; rintro e w' ⟨rfl, rfl⟩)
  go_ret
  exact ⟨rfl, (Below.refl _ _).alloc (Nat.le_refl _) _⟩
theorem Size_c (r : Rg) (w : World) (h1 : -1000 ≤ r.lo) (h2 : r.hi ≤ 1000) (h3 : r.lo ≤ r.hi + 1):
    Calls Try.prog 110 #[.agg #[.int .i64 r.lo, .int .i64 r.hi]] w fun e w' => e = .returned (.int .i64 r.size) ∧ Below w.heap.size w w' := by
  have hs : r.size = r.hi - r.lo + 1 := rfl
  rw [hs]
  clear hs
  go_enter Try.func110, Try.ntmps110
  go_wp2
  go_ret
  exact ⟨rfl, (Below.refl _ _).alloc (Nat.le_refl _) _⟩
theorem Inside_c (r : Rg) (n : Int) (w : World) :
    Calls Try.prog 120 #[.agg #[.int .i64 r.lo, .int .i64 r.hi], .int .i64 n] w fun e w' => e = .returned (.bool (r.upTo n)) ∧ Below w.heap.size w w' := by
  by_cases h1 : 0 ≤ r.lo
  · by_cases h2 : r.lo ≤ r.hi
    · go_enter Try.func120, Try.ntmps120
      go_wp2
      go_ret
      exact ⟨by simp [Rg.upTo, h1, h2], (Below.refl _ _).alloc (Nat.le_refl _) _⟩
    · have hd : decide (r.lo ≤ r.hi) = false := by simpa using h2
      go_enter Try.func120, Try.ntmps120
      go_wp2
      go_ret
      exact ⟨by simp [Rg.upTo]; omega, (Below.refl _ _).alloc (Nat.le_refl _) _⟩
  · have hd : decide (0 ≤ r.lo) = false := by simpa using h1
    go_enter Try.func120, Try.ntmps120
    go_wp2
    go_ret
    exact ⟨by simp [Rg.upTo]; omega, (Below.refl _ _).alloc (Nat.le_refl _) _⟩
theorem Verdict_c (y m : Int) (w : World) :
    Calls Try.prog 80 #[.int .i64 y, .int .i64 m] w fun e w' => e = .returned (.int .i64 (if y = m then 1 else if y = 0 then 2 else 3)) ∧ w = w' := by
  obtain ⟨R, hR⟩ : ∃ R, R = (if y = m then (1 : Int) else if y = 0 then 2 else 3) := ⟨_, rfl⟩
  have HR := Lib.hid hR
  rw [← hR]
  clear hR
  by_cases h1 : y = m
  · have e1 : (y == m) = true := by simpa using h1
    have hr : R = 1 := by rw [HR.out, if_pos h1]
    have HRR := Lib.hid hr
    clear h1 hr
    go_enter Try.func80, Try.ntmps80
    go_wp2_with fail
    go_ret
    exact ⟨ret_int HRR.out.symm, rfl⟩
  · have e1 : (y == m) = false := by simpa using h1
    by_cases h2 : y = 0
    · have e2 : (y == 0) = true := by simpa using h2
      have hr : R = 2 := by rw [HR.out, if_neg h1, if_pos h2]
      have HRR := Lib.hid hr
      clear h1 h2 hr
      go_enter Try.func80, Try.ntmps80
      go_wp2_with fail
      go_ret
      exact ⟨ret_int HRR.out.symm, rfl⟩
    · have e2 : (y == 0) = false := by simpa using h2
      have hr : R = 3 := by rw [HR.out, if_neg h1, if_neg h2]
      have HRR := Lib.hid hr
      clear h1 h2 hr
      go_enter Try.func80, Try.ntmps80
      go_wp2_with fail
      go_ret
      exact ⟨ret_int HRR.out.symm, rfl⟩
theorem Has_c (a : Option Addr) (xs : List Int) (c : Nat) (n : Int) (w : World) (h : Sl w a (ints xs)) (hlen : xs.length ≤ 1000) :
    Calls Try.prog 60 #[.slice a xs.length c, .int .i64 n] w fun e w' => e = .returned (.bool (xs.contains n)) ∧ w = w' := by
  obtain ⟨R, hR⟩ : ∃ R, R = xs.contains n := ⟨_, rfl⟩
  have HR := Lib.hid hR
  rw [← hR]
  clear hR
  go_enter Try.func60, Try.ntmps60
  go_wp2_with fail
  go_loop [5] (fun i => ∃ k : Nat, k ≤ xs.length ∧ i = .int .i64 k ∧ Hid ((xs.take k).contains n = false)) (fun i => xs.length - (intOf i).toNat)
  case atStart => exact ⟨0, Nat.zero_le _, rfl, by show _ = _; simp⟩
  case round =>
    obtain ⟨k, hk, rfl, HT⟩ := hrel
    by_cases hlt : k < xs.length
    · obtain ⟨x, hx⟩ : ∃ x, xs[k]? = some x := ⟨_, List.getElem?_eq_getElem hlt⟩
      have HX := Lib.hid hx
      obtain ⟨b, o, rfl, d⟩ := h.int_at hx
      have ew : IntKind.i64.wrap ((k : Int) + 1) = (k : Int) + 1 := IntWalk.i64_in _ (by omega)
      clear hx
      by_cases hxy : x = n
      · have exy : (x == n) = true := by simpa using hxy
        have HXY := Lib.hid hxy
        clear hxy
        go_wp2_with fail
        go_ret
        refine ⟨ret_bool ?_, rfl⟩
        rw [HR.out, ← HXY.out, eq_comm, List.contains_iff_mem]
        exact List.mem_of_getElem? HX.out
      · have exy : (x == n) = false := by simpa using hxy
        have HXY := Lib.hid hxy
        clear hxy
        go_wp2_with fail
        go_round
        case rel =>
          refine ⟨k + 1, by omega, by go_num, ?_⟩
          show _ = _
          have h1 := HT.out
          have h2 := HXY.out
          rw [List.take_add_one, HX.out]
          simp only [List.contains_eq_mem, decide_eq_false_iff_not] at h1 ⊢
          simp only [Option.toList_some, List.mem_append, List.mem_singleton, not_or]
          exact ⟨h1, fun e => h2 e.symm⟩
        case measure => simp [intOf]; omega
    · have hkl : k = xs.length := by omega
      have HK := Lib.hid hkl
      clear hkl
      go_wp2_with fail
      go_ret
      have h1 := HT.out
      rw [HK.out, List.take_length] at h1
      exact ⟨ret_bool (by rw [HR.out, h1]), rfl⟩
end Go.Proofs.Ytgglfngkomgadaa
/- Walks of the reference: Many, Fault. -/
namespace Go.Proofs.Ytgglfngkomgadaa
open Go.RowKit Go.Shelf
set_option linter.unusedVariables false
set_option linter.unusedSimpArgs false
set_option maxRecDepth 100000

abbrev rO26 (r : Riv) (A : RA) : Obj := .cells #[.int .i64 r.last, .slice A.sa r.salt.length A.sc, .slice A.ma r.mud.length A.mc, .int .i64 r.sweet, .int .i64 r.clear, .int .i64 r.size, .int .i64 r.start, .int .i64 r.draw, .slice A.ua r.use.length A.uc, .slice A.ga r.gauges.length A.gc] 26
/-- A river in a box. -/
structure BoxR (q : Nat) (r : Riv) (A : RA) (W : World) : Prop where
  k0 : W.cell? ⟨q, 0, none⟩ = some (.int .i64 r.last)
  k1 : W.cell? ⟨q, 1, none⟩ = some (.slice A.sa r.salt.length A.sc)
  k2 : W.cell? ⟨q, 2, none⟩ = some (.slice A.ma r.mud.length A.mc)
  k3 : W.cell? ⟨q, 3, none⟩ = some (.int .i64 r.sweet)
  k4 : W.cell? ⟨q, 4, none⟩ = some (.int .i64 r.clear)
  k5 : W.cell? ⟨q, 5, none⟩ = some (.int .i64 r.size)
  k6 : W.cell? ⟨q, 6, none⟩ = some (.int .i64 r.start)
  k7 : W.cell? ⟨q, 7, none⟩ = some (.int .i64 r.draw)
  k8 : W.cell? ⟨q, 8, none⟩ = some (.slice A.ua r.use.length A.uc)
  k9 : W.cell? ⟨q, 9, none⟩ = some (.slice A.ga r.gauges.length A.gc)
theorem BoxR.wr {q : Nat} {r : Riv} {A : RA} {W W' : World} {C : Nat → Prop} (h : BoxR q r A W) (hw : Wr C W W') (h1 : ¬ C q) : BoxR q r A W' :=
  ⟨hw.cell h1 h.k0, hw.cell h1 h.k1, hw.cell h1 h.k2, hw.cell h1 h.k3, hw.cell h1 h.k4, hw.cell h1 h.k5, hw.cell h1 h.k6, hw.cell h1 h.k7, hw.cell h1 h.k8, hw.cell h1 h.k9⟩
theorem BoxR.below {q : Nat} {r : Riv} {A : RA} {W W' : World} (h : BoxR q r A W) (hb : Below W.heap.size W W') : BoxR q r A W' := h.wr (Wr.of_below (S := fun _ => False) hb) (fun e => e)
theorem box_new (w : World) (r : Riv) (A : RA) : BoxR w.heap.size r A (w.alloc (rO26 r A)) :=
  ⟨by rw [cell_blk (heap_alloc_new _ _)]; rfl, by rw [cell_blk (heap_alloc_new _ _)]; rfl, by rw [cell_blk (heap_alloc_new _ _)]; rfl, by rw [cell_blk (heap_alloc_new _ _)]; rfl, by rw [cell_blk (heap_alloc_new _ _)]; rfl, by rw [cell_blk (heap_alloc_new _ _)]; rfl, by rw [cell_blk (heap_alloc_new _ _)]; rfl, by rw [cell_blk (heap_alloc_new _ _)]; rfl, by rw [cell_blk (heap_alloc_new _ _)]; rfl, by rw [cell_blk (heap_alloc_new _ _)]; rfl⟩

/-- The sizes, multiplied, as the reference reckons them. -/
def manyF : Int → List Rg → List Rg → Int
  | n, a :: l, b :: l2 => manyF (min 3000 (n * a.size * b.size)) l l2
  | n, _, _ => n
def manyI (r : Riv) : Int := manyF 1 r.salt r.mud
theorem manyF_drop (n : Int) (la lb : List Rg) (k : Nat) (x y : Rg) (hx : la[k]? = some x) (hy : lb[k]? = some y) : manyF n (la.drop k) (lb.drop k) = manyF (min 3000 (n * x.size * y.size)) (la.drop (k + 1)) (lb.drop (k + 1)) := by
  obtain ⟨h1, e1⟩ := List.getElem?_eq_some_iff.1 hx
  obtain ⟨h2, e2⟩ := List.getElem?_eq_some_iff.1 hy
  rw [List.drop_eq_getElem_cons h1, List.drop_eq_getElem_cons h2, e1, e2, manyF]
def GoodRg (x : Rg) : Prop := 0 ≤ x.lo ∧ x.lo ≤ x.hi ∧ x.hi ≤ 9
/-- What the reads of two ranges see. -/
def TwR (q b o b' o' : Nat) (s1 s2 : Value) (x y : Rg) (W : World) : Prop := W.cell? ⟨q, 1, none⟩ = some s1 ∧ W.cell? ⟨q, 2, none⟩ = some s2 ∧ W.cell? ⟨b, o, none⟩ = some (.int .i64 x.lo) ∧ W.cell? ⟨b, o + 1, none⟩ = some (.int .i64 x.hi) ∧ W.cell? ⟨b', o', none⟩ = some (.int .i64 y.lo) ∧ W.cell? ⟨b', o' + 1, none⟩ = some (.int .i64 y.hi)
theorem TwR.below {q b o b' o' : Nat} {s1 s2 : Value} {x y : Rg} {W W' : World} (h : TwR q b o b' o' s1 s2 x y W) (hb : Below W.heap.size W W') : TwR q b o b' o' s1 s2 x y W' :=
  have hw : Wr (fun _ => False) W W' := Wr.of_below hb
  ⟨hw.cell (fun e => e) h.1, hw.cell (fun e => e) h.2.1, hw.cell (fun e => e) h.2.2.1, hw.cell (fun e => e) h.2.2.2.1, hw.cell (fun e => e) h.2.2.2.2.1, hw.cell (fun e => e) h.2.2.2.2.2⟩
theorem mul_bd {n a b : Int} (hn0 : 0 ≤ n) (hn : n ≤ 3000) (ha0 : 1 ≤ a) (ha : a ≤ 10) (hb0 : 1 ≤ b) (hb : b ≤ 10) : 0 ≤ n * a ∧ n * a ≤ 30000 ∧ 0 ≤ n * a * b ∧ n * a * b ≤ 300000 := by
  have h1 : 0 ≤ n * a := Int.mul_nonneg hn0 (by omega)
  have h2 : n * a ≤ 3000 * 10 := Int.mul_le_mul hn ha (by omega) (by omega)
  have h3 : 0 ≤ n * a * b := Int.mul_nonneg h1 (by omega)
  have h4 : n * a * b ≤ 30000 * 10 := Int.mul_le_mul (by omega) hb (by omega) (by omega)
  exact ⟨h1, by omega, h3, by omega⟩

set_option maxHeartbeats 2000000 in
theorem Many_c (r : Riv) (A : RA) (w : World) (hr : Rd w r A) (hn : r.mud.length = r.salt.length) (hl : r.salt.length ≤ 30) (hs : ∀ x ∈ r.salt, GoodRg x) (hm : ∀ x ∈ r.mud, GoodRg x) :
    Calls Try.prog 62 #[rivV r A] w fun e w' => e = .returned (.int .i64 (manyI r)) ∧ Below w.heap.size w w' := by
  obtain ⟨R, hR⟩ : ∃ R, R = manyF 1 r.salt r.mud := ⟨_, rfl⟩
  have HR := Lib.hid hR
  rw [show manyI r = R from hR.symm]
  have hbx := Lib.hid (box_new w r A)
  have hb0 := Lib.hid ((Below.refl w.heap.size w).alloc (Nat.le_refl _) (rO26 r A))
  have HN := Lib.hid hn
  clear hR hn
  go_enter Try.func62, Try.ntmps62
  go_wp2_with fail
  obtain ⟨wq, hwq⟩ : ∃ wq, w.alloc (rO26 r A) = wq := ⟨_, rfl⟩
  rw [hwq] at hbx hb0 ⊢
  have hz := hb0.out.size
  clear hwq
  go_loopw [3, 4] (fun n i wr => ∃ (k : Nat) (m : Int), k ≤ r.salt.length ∧ i = .int .i64 k ∧ n = .int .i64 m ∧ 0 ≤ m ∧ m ≤ 3000 ∧ Hid (R = manyF m (r.salt.drop k) (r.mud.drop k)) ∧ Below wq.heap.size wq wr) (fun _ i _ => r.salt.length - (intOf i).toNat)
  case atStart => exact ⟨0, 1, Nat.zero_le _, rfl, rfl, by omega, by omega, HR, Below.refl _ _⟩
  case round =>
    obtain ⟨k, m, hk, rfl, rfl, hm0, hm3, HM, hB⟩ := hrel
    have HX := Lib.hid (hbx.out.below hB)
    have HBB := Lib.hid hB
    by_cases hlt : k < r.salt.length
    · obtain ⟨x, hx⟩ : ∃ x, r.salt[k]? = some x := ⟨_, List.getElem?_eq_getElem hlt⟩
      obtain ⟨y, hy⟩ : ∃ y, r.mud[k]? = some y := ⟨_, List.getElem?_eq_getElem (by rw [HN.out]; exact hlt)⟩
      have hky : k < r.mud.length := by rw [HN.out]; exact hlt
      have hgx := hs x (List.mem_of_getElem? hx)
      have hgy := hm y (List.mem_of_getElem? hy)
      have hBw := hb0.out.trans (hB.mono hz)
      obtain ⟨b, o, ea, d1, d2⟩ := (hr.s.below hBw).rg_at hx
      obtain ⟨b', o', ea', d1', d2'⟩ := (hr.m.below hBw).rg_at hy
      have c1 := HX.out.k1
      have c2 := HX.out.k2
      rw [ea] at c1
      rw [ea'] at c2
      have hst := manyF_drop m r.salt r.mud k x y hx hy
      have HST := Lib.hid hst
      have HS : TwR w.heap.size b (o + k * 2) b' (o' + k * 2) (.slice (some ⟨b, o, none⟩) r.salt.length A.sc) (.slice (some ⟨b', o', none⟩) r.mud.length A.mc) x y wr := ⟨c1, c2, d1, d2, d1', d2'⟩
      have hxz : x.size = x.hi - x.lo + 1 := rfl
      have hyz : y.size = y.hi - y.lo + 1 := rfl
      obtain ⟨g1, g2, g3⟩ := hgx
      obtain ⟨g1', g2', g3'⟩ := hgy
      obtain ⟨sx, hsx⟩ : ∃ sx, sx = x.size := ⟨_, rfl⟩
      obtain ⟨sy, hsy⟩ : ∃ sy, sy = y.size := ⟨_, rfl⟩
      have hmb := mul_bd hm0 hm3 (a := sx) (b := sy) (by omega) (by omega) (by omega) (by omega)
      have ew : IntKind.i64.wrap ((k : Int) + 1) = (k : Int) + 1 := IntWalk.i64_in _ (by omega)
      have em1 : IntKind.i64.wrap (m * sx) = m * sx := IntWalk.i64_in _ (by omega)
      have em2 : IntKind.i64.wrap (m * sx * sy) = m * sx * sy := IntWalk.i64_in _ (by omega)
      have HSX := Lib.hid hsx
      have HSY := Lib.hid hsy
      have HK1 := Lib.hid c1
      clear ea ea' d1 d2 d1' d2' c2 hx hy hst hxz hyz hsx hsy hB
      have c1 := HK1.out
      go_wp2_with fail
      refine region_o (S := TwR w.heap.size b (o + k * 2) b' (o' + k * 2) (.slice (some ⟨b, o, none⟩) r.salt.length A.sc) (.slice (some ⟨b', o', none⟩) r.mud.length A.mc) x y) (.take 0 (.take 1 (.take 2 (.take 3 (.take 4 (.take 5 (.take 8 (.take 9 (.take 10 (.take 11 (.take 12 (.one 6 (.take 7 (.one 13 (.take 14 (.take 15 (.take 16 .nil))))))))))))))))) (by kernel_rfl) (by kernel_rfl) (fun _ _ d _ _ h => by cases d <;> exact h) (HS.below (Below.refl _ _).drew) ?_
      intro W0 hW0 hS0
      have hBW : Below wr.heap.size wr W0 := by subst hW0; exact (Below.refl _ _).drew
      clear hW0
      have hBc := hBW
      repeat (first
        | (refine ord_skip rfl ?_ ?_; rfl; simp only [pz])
        | (refine ord_take (v := ?_) rfl ?_ (fun W hW => ?_) ?_; rotate_left; rfl; (obtain ⟨hz0, hz1, hz2, hz3, hz4, hz5⟩ := hW; go_simp; (first | done | with_reducible rfl)); simp only [pz]))
      (refine ord_op rfl ?_ (fun K hK => ?_); rfl; go_simp; refine (Size_c x _ (by omega) (by omega) (by omega)).mono ?_; rintro e W1 ⟨rfl, hb1⟩; rw [← HSX.out]; replace hBc := hBc.trans (hb1.mono hBc.size); have hS1 := TwR.below hS0 hb1; refine hK _ _ hS1 ?_; clear hK K; try simp only [pz])
      repeat (first
        | (refine ord_skip rfl ?_ ?_; rfl; simp only [pz])
        | (refine ord_take (v := ?_) rfl ?_ (fun W hW => ?_) ?_; rotate_left; rfl; (obtain ⟨hz0, hz1, hz2, hz3, hz4, hz5⟩ := hW; go_simp; (first | done | with_reducible rfl)); simp only [pz]))
      (refine ord_op rfl ?_ (fun K hK => ?_); rfl; go_simp; refine (Size_c y _ (by omega) (by omega) (by omega)).mono ?_; rintro e W2 ⟨rfl, hb2⟩; rw [← HSY.out]; replace hBc := hBc.trans (hb2.mono hBc.size); have hS2 := TwR.below hS1 hb2; refine hK _ _ hS2 ?_; clear hK K; try simp only [pz])
      repeat (first
        | (refine ord_skip rfl ?_ ?_; rfl; simp only [pz])
        | (refine ord_take (v := ?_) rfl ?_ (fun W hW => ?_) ?_; rotate_left; rfl; (obtain ⟨hz0, hz1, hz2, hz3, hz4, hz5⟩ := hW; go_simp; (first | done | with_reducible rfl)); simp only [pz]))
      refine ord_nil ?_
      go_wp2_with fail
      go_roundw
      case rel => exact ⟨k + 1, min 3000 (m * sx * sy), by omega, by go_num, rfl, by omega, by omega, by show R = _; rw [HM.out, HST.out, HSX.out, HSY.out], HBB.out.trans (hBc.mono HBB.out.size)⟩
      case measure => simp [intOf]; omega
    · have e0 : r.salt.drop k = [] := List.drop_of_length_le (by omega)
      have HE := Lib.hid e0
      have c1 := HX.out.k1
      clear e0
      go_wp2_with fail
      go_ret
      refine ⟨ret_int ?_, hb0.out.trans (hB.mono hz)⟩
      rw [HM.out, HE.out, manyF]
      intro a l b l2 h
      cases h
end Go.Proofs.Ytgglfngkomgadaa
/- The plain words, on: sizes multiplied. -/
namespace Go.Proofs.Ytgglfngkomgadaa

theorem min_mul {c x y : Int} (hc : 0 ≤ c) (_ : 0 ≤ x) (hy : 1 ≤ y) : min c (min c x * y) = min c (x * y) := by
  by_cases h : x ≤ c
  · rw [show min c x = x from by omega]
  · rw [show min c x = c from by omega]
    have h1 : c ≤ c * y := by
      have := Int.mul_le_mul_of_nonneg_left hy hc
      omega
    have h2 : c * y ≤ x * y := Int.mul_le_mul_of_nonneg_right (by omega) (by omega)
    omega
theorem prodS_pos : ∀ rs : List Rg, (∀ x ∈ rs, 1 ≤ x.size) → 1 ≤ prodS rs
  | [], _ => by simp [prodS]
  | x :: rs, h => by
    have h1 := h x List.mem_cons_self
    have h2 := prodS_pos rs (fun y hy => h y (List.mem_cons_of_mem _ hy))
    have := Int.mul_le_mul h1 h2 (by omega) (by omega)
    simp only [prodS]; omega
theorem prodS_append (xs ys : List Rg) : prodS (xs ++ ys) = prodS xs * prodS ys := by
  induction xs with
  | nil => simp [prodS]
  | cons x xs ih => simp only [List.cons_append, prodS, ih, Int.mul_assoc]
theorem capS_fold : ∀ (rs : List Rg) (m : Int), 0 ≤ m → m ≤ 2001 → (∀ x ∈ rs, 1 ≤ x.size) → rs.foldl (fun m r => min (m * r.size) 2001) m = min 2001 (m * prodS rs)
  | [], m, _, h1, _ => by simp [prodS]; omega
  | x :: rs, m, h0, h1, h => by
    have hx := h x List.mem_cons_self
    have hp := prodS_pos rs (fun y hy => h y (List.mem_cons_of_mem _ hy))
    have hm : 0 ≤ m * x.size := Int.mul_nonneg h0 (by omega)
    rw [List.foldl_cons, capS_fold rs _ (by omega) (by omega) (fun y hy => h y (List.mem_cons_of_mem _ hy))]
    rw [show min (m * x.size) 2001 = min 2001 (m * x.size) from by omega, min_mul (by omega) hm hp]
    simp only [prodS, Int.mul_assoc]
theorem capS_eq (rs : List Rg) (h : ∀ x ∈ rs, 1 ≤ x.size) : capS rs = min 2001 (prodS rs) := by
  unfold capS
  rw [capS_fold rs 1 (by omega) (by omega) h]
  simp
theorem manyF_eq : ∀ (xs ys : List Rg) (n : Int), xs.length = ys.length → 0 ≤ n → n ≤ 3000 → (∀ x ∈ xs, 1 ≤ x.size) → (∀ x ∈ ys, 1 ≤ x.size) → manyF n xs ys = min 3000 (n * (prodS xs * prodS ys))
  | [], [], n, _, h0, h1, _, _ => by simp [manyF, prodS]; omega
  | [], _ :: _, _, h, _, _, _, _ => by simp at h
  | _ :: _, [], _, h, _, _, _, _ => by simp at h
  | x :: xs, y :: ys, n, h, h0, h1, hx, hy => by
    have h2 := hx x List.mem_cons_self
    have h3 := hy y List.mem_cons_self
    have hp := prodS_pos xs (fun z hz => hx z (List.mem_cons_of_mem _ hz))
    have hq := prodS_pos ys (fun z hz => hy z (List.mem_cons_of_mem _ hz))
    have hm : 0 ≤ n * x.size * y.size := Int.mul_nonneg (Int.mul_nonneg h0 (by omega)) (by omega)
    have hpq : 1 ≤ prodS xs * prodS ys := by have := Int.mul_le_mul hp hq (by omega) (by omega); omega
    rw [manyF, manyF_eq xs ys _ (by simpa using h) (by omega) (by omega) (fun z hz => hx z (List.mem_cons_of_mem _ hz)) (fun z hz => hy z (List.mem_cons_of_mem _ hz)), min_mul (by omega) hm hpq]
    congr 1
    simp only [prodS]
    ac_rfl
theorem many_cap {r : Riv} (hn : r.salt.length = r.mud.length) (hs : ∀ x ∈ r.salt, 1 ≤ x.size) (hm : ∀ x ∈ r.mud, 1 ≤ x.size) : manyI r = min 3000 (prodS (r.salt ++ r.mud)) ∧ capS (r.salt ++ r.mud) = min 2001 (prodS (r.salt ++ r.mud)) := by
  constructor
  · rw [manyI, manyF_eq _ _ 1 hn (by omega) (by omega) hs hm, prodS_append]; simp
  · exact capS_eq _ (fun x hx => by rcases List.mem_append.1 hx with h | h; exact hs x h; exact hm x h)
theorem fault_mid {r : Riv} (h1 : r.last ≤ 5) (h2 : r.gauges.length ≤ 5) (h3 : 0 ≤ r.last) (h4 : (r.salt.length : Int) = r.last + 1) (h5 : (r.mud.length : Int) = r.last + 1) (h6 : (r.use.length : Int) = r.last + 1) (h7 : r.validB = true) :
    r.faultI = if r.salt.all (·.upTo 9) = false ∨ r.mud.all (·.upTo 9) = false ∨ r.use.all (fun u => inB u 0 99) = false ∨ r.gauges.all r.gaugeB = false then 1 else if capS (r.salt ++ r.mud) > 2000 then 3 else 0 := by
  unfold Riv.faultI
  rw [if_neg (by omega), if_neg]
  simp [h4, h5, h6, h7]; omega
end Go.Proofs.Ytgglfngkomgadaa
/- Walks of the reference: Fault. -/
namespace Go.Proofs.Ytgglfngkomgadaa
open Go.RowKit Go.Shelf
set_option linter.unusedVariables false
set_option linter.unusedSimpArgs false
set_option maxRecDepth 100000

theorem fault_l5 (r : Riv) (A : RA) (w : World) (hr : Rd w r A) (hl1 : r.salt.length ≤ 30) (hl2 : r.mud.length ≤ 30) (hl3 : r.use.length ≤ 30) (hl4 : r.gauges.length ≤ 30)  (h : 5 < r.last) :
    Calls Try.prog 84 #[rivV r A] w (RetErr 3 w) := by
  have dd : decide (5 < r.last) = true := by simp; omega
  go_enter Try.func84, Try.ntmps84
  go_wp2_with (go_at_call 28; refine (In_c _ _ _ _).mono ?_; rintro e w' ⟨rfl, rfl⟩)
  go_ret
  exact ⟨rfl, (Below.refl w.heap.size w).alloc (Nat.le_refl _) _⟩

theorem fault_g5 (r : Riv) (A : RA) (w : World) (hr : Rd w r A) (hl1 : r.salt.length ≤ 30) (hl2 : r.mud.length ≤ 30) (hl3 : r.use.length ≤ 30) (hl4 : r.gauges.length ≤ 30) (h0 : r.last ≤ 5) (h : 5 < r.gauges.length) :
    Calls Try.prog 84 #[rivV r A] w (RetErr 3 w) := by
  have dd : decide ((5 : Int) < (r.gauges.length : Int)) = true := by simp; omega
  have d0 : decide (5 < r.last) = false := by simp; omega
  go_enter Try.func84, Try.ntmps84
  go_wp2_with (go_at_call 28; refine (In_c _ _ _ _).mono ?_; rintro e w' ⟨rfl, rfl⟩)
  go_ret
  exact ⟨rfl, (Below.refl w.heap.size w).alloc (Nat.le_refl _) _⟩

theorem fault_l0 (r : Riv) (A : RA) (w : World) (hr : Rd w r A) (hl1 : r.salt.length ≤ 30) (hl2 : r.mud.length ≤ 30) (hl3 : r.use.length ≤ 30) (hl4 : r.gauges.length ≤ 30) (h0 : r.last ≤ 5) (h1 : r.gauges.length ≤ 5) (h : r.last < 0) :
    Calls Try.prog 84 #[rivV r A] w (RetErr 1 w) := by
  have dd : decide (r.last < 0) = true := by simp; omega
  have d0 : decide (5 < r.last) = false := by simp; omega
  have d1 : decide ((5 : Int) < (r.gauges.length : Int)) = false := by simp; omega
  go_enter Try.func84, Try.ntmps84
  go_wp2_with (go_at_call 28; refine (In_c _ _ _ _).mono ?_; rintro e w' ⟨rfl, rfl⟩)
  go_ret
  exact ⟨rfl, (Below.refl w.heap.size w).alloc (Nat.le_refl _) _⟩

theorem fault_ns (r : Riv) (A : RA) (w : World) (hr : Rd w r A) (hl1 : r.salt.length ≤ 30) (hl2 : r.mud.length ≤ 30) (hl3 : r.use.length ≤ 30) (hl4 : r.gauges.length ≤ 30) (h0 : r.last ≤ 5) (h1 : r.gauges.length ≤ 5) (h2 : 0 ≤ r.last) (h : (r.salt.length : Int) ≠ r.last + 1) :
    Calls Try.prog 84 #[rivV r A] w (RetErr 1 w) := by
  have ew : IntKind.i64.wrap (r.last + 1) = r.last + 1 := IntWalk.i64_in _ (by omega)
  have dd : ((r.salt.length : Int) != r.last + 1) = true := by simpa using h
  have d0 : decide (5 < r.last) = false := by simp; omega
  have d1 : decide ((5 : Int) < (r.gauges.length : Int)) = false := by simp; omega
  have d2 : decide (r.last < 0) = false := by simp; omega
  go_enter Try.func84, Try.ntmps84
  go_wp2_with (go_at_call 28; refine (In_c _ _ _ _).mono ?_; rintro e w' ⟨rfl, rfl⟩)
  go_ret
  exact ⟨rfl, (Below.refl w.heap.size w).alloc (Nat.le_refl _) _⟩

theorem fault_nm (r : Riv) (A : RA) (w : World) (hr : Rd w r A) (hl1 : r.salt.length ≤ 30) (hl2 : r.mud.length ≤ 30) (hl3 : r.use.length ≤ 30) (hl4 : r.gauges.length ≤ 30) (h0 : r.last ≤ 5) (h1 : r.gauges.length ≤ 5) (h2 : 0 ≤ r.last) (h3 : (r.salt.length : Int) = r.last + 1) (h : (r.mud.length : Int) ≠ r.last + 1) :
    Calls Try.prog 84 #[rivV r A] w (RetErr 1 w) := by
  have ew : IntKind.i64.wrap (r.last + 1) = r.last + 1 := IntWalk.i64_in _ (by omega)
  have dd : ((r.mud.length : Int) != r.last + 1) = true := by simpa using h
  have d0 : decide (5 < r.last) = false := by simp; omega
  have d1 : decide ((5 : Int) < (r.gauges.length : Int)) = false := by simp; omega
  have d2 : decide (r.last < 0) = false := by simp; omega
  have d3 : ((r.salt.length : Int) != r.last + 1) = false := by simpa using h3
  have H3 := Lib.hid h3
  clear h3
  go_enter Try.func84, Try.ntmps84
  go_wp2_with (go_at_call 28; refine (In_c _ _ _ _).mono ?_; rintro e w' ⟨rfl, rfl⟩)
  go_ret
  exact ⟨rfl, (Below.refl w.heap.size w).alloc (Nat.le_refl _) _⟩

theorem fault_nu (r : Riv) (A : RA) (w : World) (hr : Rd w r A) (hl1 : r.salt.length ≤ 30) (hl2 : r.mud.length ≤ 30) (hl3 : r.use.length ≤ 30) (hl4 : r.gauges.length ≤ 30) (h0 : r.last ≤ 5) (h1 : r.gauges.length ≤ 5) (h2 : 0 ≤ r.last) (h3 : (r.salt.length : Int) = r.last + 1) (h4 : (r.mud.length : Int) = r.last + 1) (h : (r.use.length : Int) ≠ r.last + 1) :
    Calls Try.prog 84 #[rivV r A] w (RetErr 1 w) := by
  have ew : IntKind.i64.wrap (r.last + 1) = r.last + 1 := IntWalk.i64_in _ (by omega)
  have dd : ((r.use.length : Int) != r.last + 1) = true := by simpa using h
  have d0 : decide (5 < r.last) = false := by simp; omega
  have d1 : decide ((5 : Int) < (r.gauges.length : Int)) = false := by simp; omega
  have d2 : decide (r.last < 0) = false := by simp; omega
  have d3 : ((r.salt.length : Int) != r.last + 1) = false := by simpa using h3
  have d4 : ((r.mud.length : Int) != r.last + 1) = false := by simpa using h4
  have H3 := Lib.hid h3
  have H4 := Lib.hid h4
  clear h3 h4
  go_enter Try.func84, Try.ntmps84
  go_wp2_with (go_at_call 28; refine (In_c _ _ _ _).mono ?_; rintro e w' ⟨rfl, rfl⟩)
  go_ret
  exact ⟨rfl, (Below.refl w.heap.size w).alloc (Nat.le_refl _) _⟩

theorem fault_sw (r : Riv) (A : RA) (w : World) (hr : Rd w r A) (hl1 : r.salt.length ≤ 30) (hl2 : r.mud.length ≤ 30) (hl3 : r.use.length ≤ 30) (hl4 : r.gauges.length ≤ 30) (h0 : r.last ≤ 5) (h1 : r.gauges.length ≤ 5) (h2 : 0 ≤ r.last) (h3 : (r.salt.length : Int) = r.last + 1) (h4 : (r.mud.length : Int) = r.last + 1) (h5 : (r.use.length : Int) = r.last + 1) (h : inB r.sweet 0 9 = false) :
    Calls Try.prog 84 #[rivV r A] w (RetErr 1 w) := by
  have ew : IntKind.i64.wrap (r.last + 1) = r.last + 1 := IntWalk.i64_in _ (by omega)
  have d0 : decide (5 < r.last) = false := by simp; omega
  have d1 : decide ((5 : Int) < (r.gauges.length : Int)) = false := by simp; omega
  have d2 : decide (r.last < 0) = false := by simp; omega
  have d3 : ((r.salt.length : Int) != r.last + 1) = false := by simpa using h3
  have d4 : ((r.mud.length : Int) != r.last + 1) = false := by simpa using h4
  have d5 : ((r.use.length : Int) != r.last + 1) = false := by simpa using h5
  have H3 := Lib.hid h3
  have H4 := Lib.hid h4
  have H5 := Lib.hid h5
  clear h3 h4 h5
  go_enter Try.func84, Try.ntmps84
  go_wp2_with (go_at_call 28; refine (In_c _ _ _ _).mono ?_; rintro e w' ⟨rfl, rfl⟩)
  go_ret
  exact ⟨rfl, (Below.refl w.heap.size w).alloc (Nat.le_refl _) _⟩

theorem fault_cl (r : Riv) (A : RA) (w : World) (hr : Rd w r A) (hl1 : r.salt.length ≤ 30) (hl2 : r.mud.length ≤ 30) (hl3 : r.use.length ≤ 30) (hl4 : r.gauges.length ≤ 30) (h0 : r.last ≤ 5) (h1 : r.gauges.length ≤ 5) (h2 : 0 ≤ r.last) (h3 : (r.salt.length : Int) = r.last + 1) (h4 : (r.mud.length : Int) = r.last + 1) (h5 : (r.use.length : Int) = r.last + 1) (h6 : inB r.sweet 0 9 = true) (h : inB r.clear 0 9 = false) :
    Calls Try.prog 84 #[rivV r A] w (RetErr 1 w) := by
  have ew : IntKind.i64.wrap (r.last + 1) = r.last + 1 := IntWalk.i64_in _ (by omega)
  have d0 : decide (5 < r.last) = false := by simp; omega
  have d1 : decide ((5 : Int) < (r.gauges.length : Int)) = false := by simp; omega
  have d2 : decide (r.last < 0) = false := by simp; omega
  have d3 : ((r.salt.length : Int) != r.last + 1) = false := by simpa using h3
  have d4 : ((r.mud.length : Int) != r.last + 1) = false := by simpa using h4
  have d5 : ((r.use.length : Int) != r.last + 1) = false := by simpa using h5
  have H3 := Lib.hid h3
  have H4 := Lib.hid h4
  have H5 := Lib.hid h5
  clear h3 h4 h5
  go_enter Try.func84, Try.ntmps84
  go_wp2_with (go_at_call 28; refine (In_c _ _ _ _).mono ?_; rintro e w' ⟨rfl, rfl⟩)
  go_ret
  exact ⟨rfl, (Below.refl w.heap.size w).alloc (Nat.le_refl _) _⟩

theorem fault_sz (r : Riv) (A : RA) (w : World) (hr : Rd w r A) (hl1 : r.salt.length ≤ 30) (hl2 : r.mud.length ≤ 30) (hl3 : r.use.length ≤ 30) (hl4 : r.gauges.length ≤ 30) (h0 : r.last ≤ 5) (h1 : r.gauges.length ≤ 5) (h2 : 0 ≤ r.last) (h3 : (r.salt.length : Int) = r.last + 1) (h4 : (r.mud.length : Int) = r.last + 1) (h5 : (r.use.length : Int) = r.last + 1) (h6 : inB r.sweet 0 9 = true) (h7 : inB r.clear 0 9 = true) (h : inB r.size 0 99 = false) :
    Calls Try.prog 84 #[rivV r A] w (RetErr 1 w) := by
  have ew : IntKind.i64.wrap (r.last + 1) = r.last + 1 := IntWalk.i64_in _ (by omega)
  have d0 : decide (5 < r.last) = false := by simp; omega
  have d1 : decide ((5 : Int) < (r.gauges.length : Int)) = false := by simp; omega
  have d2 : decide (r.last < 0) = false := by simp; omega
  have d3 : ((r.salt.length : Int) != r.last + 1) = false := by simpa using h3
  have d4 : ((r.mud.length : Int) != r.last + 1) = false := by simpa using h4
  have d5 : ((r.use.length : Int) != r.last + 1) = false := by simpa using h5
  have H3 := Lib.hid h3
  have H4 := Lib.hid h4
  have H5 := Lib.hid h5
  clear h3 h4 h5
  go_enter Try.func84, Try.ntmps84
  go_wp2_with (go_at_call 28; refine (In_c _ _ _ _).mono ?_; rintro e w' ⟨rfl, rfl⟩)
  go_ret
  exact ⟨rfl, (Below.refl w.heap.size w).alloc (Nat.le_refl _) _⟩

theorem fault_st (r : Riv) (A : RA) (w : World) (hr : Rd w r A) (hl1 : r.salt.length ≤ 30) (hl2 : r.mud.length ≤ 30) (hl3 : r.use.length ≤ 30) (hl4 : r.gauges.length ≤ 30) (h0 : r.last ≤ 5) (h1 : r.gauges.length ≤ 5) (h2 : 0 ≤ r.last) (h3 : (r.salt.length : Int) = r.last + 1) (h4 : (r.mud.length : Int) = r.last + 1) (h5 : (r.use.length : Int) = r.last + 1) (h6 : inB r.sweet 0 9 = true) (h7 : inB r.clear 0 9 = true) (h8 : inB r.size 0 99 = true) (h : inB r.start 0 r.size = false) :
    Calls Try.prog 84 #[rivV r A] w (RetErr 1 w) := by
  have ew : IntKind.i64.wrap (r.last + 1) = r.last + 1 := IntWalk.i64_in _ (by omega)
  have d0 : decide (5 < r.last) = false := by simp; omega
  have d1 : decide ((5 : Int) < (r.gauges.length : Int)) = false := by simp; omega
  have d2 : decide (r.last < 0) = false := by simp; omega
  have d3 : ((r.salt.length : Int) != r.last + 1) = false := by simpa using h3
  have d4 : ((r.mud.length : Int) != r.last + 1) = false := by simpa using h4
  have d5 : ((r.use.length : Int) != r.last + 1) = false := by simpa using h5
  have H3 := Lib.hid h3
  have H4 := Lib.hid h4
  have H5 := Lib.hid h5
  clear h3 h4 h5
  go_enter Try.func84, Try.ntmps84
  go_wp2_with (go_at_call 28; refine (In_c _ _ _ _).mono ?_; rintro e w' ⟨rfl, rfl⟩)
  go_ret
  exact ⟨rfl, (Below.refl w.heap.size w).alloc (Nat.le_refl _) _⟩

theorem fault_dr (r : Riv) (A : RA) (w : World) (hr : Rd w r A) (hl1 : r.salt.length ≤ 30) (hl2 : r.mud.length ≤ 30) (hl3 : r.use.length ≤ 30) (hl4 : r.gauges.length ≤ 30) (h0 : r.last ≤ 5) (h1 : r.gauges.length ≤ 5) (h2 : 0 ≤ r.last) (h3 : (r.salt.length : Int) = r.last + 1) (h4 : (r.mud.length : Int) = r.last + 1) (h5 : (r.use.length : Int) = r.last + 1) (h6 : inB r.sweet 0 9 = true) (h7 : inB r.clear 0 9 = true) (h8 : inB r.size 0 99 = true) (h9 : inB r.start 0 r.size = true) (h : inB r.draw 0 99 = false) :
    Calls Try.prog 84 #[rivV r A] w (RetErr 1 w) := by
  have ew : IntKind.i64.wrap (r.last + 1) = r.last + 1 := IntWalk.i64_in _ (by omega)
  have d0 : decide (5 < r.last) = false := by simp; omega
  have d1 : decide ((5 : Int) < (r.gauges.length : Int)) = false := by simp; omega
  have d2 : decide (r.last < 0) = false := by simp; omega
  have d3 : ((r.salt.length : Int) != r.last + 1) = false := by simpa using h3
  have d4 : ((r.mud.length : Int) != r.last + 1) = false := by simpa using h4
  have d5 : ((r.use.length : Int) != r.last + 1) = false := by simpa using h5
  have H3 := Lib.hid h3
  have H4 := Lib.hid h4
  have H5 := Lib.hid h5
  clear h3 h4 h5
  go_enter Try.func84, Try.ntmps84
  go_wp2_with (go_at_call 28; refine (In_c _ _ _ _).mono ?_; rintro e w' ⟨rfl, rfl⟩)
  go_ret
  exact ⟨rfl, (Below.refl w.heap.size w).alloc (Nat.le_refl _) _⟩

theorem all_take_succ {α : Type} (p : α → Bool) (xs : List α) (k : Nat) (x : α) (h : xs[k]? = some x) : (xs.take (k + 1)).all p = ((xs.take k).all p && p x) := by
  rw [List.take_add_one, h]; simp
theorem all_bad {α : Type} (p : α → Bool) {xs : List α} {k : Nat} {x : α} (h : xs[k]? = some x) (hp : p x = false) : xs.all p = false := by
  rw [List.all_eq_false]; exact ⟨x, List.mem_of_getElem? h, by simp [hp]⟩
def midI (r : Riv) : Int := if r.salt.all (·.upTo 9) = false ∨ r.mud.all (·.upTo 9) = false ∨ r.use.all (fun u => inB u 0 99) = false ∨ r.gauges.all r.gaugeB = false then 1 else if capS (r.salt ++ r.mud) > 2000 then 3 else 0
theorem goodRg_of {rs : List Rg} (h : rs.all (·.upTo 9) = true) : ∀ x ∈ rs, GoodRg x := fun x hx => by
  have := List.all_eq_true.1 h x hx
  simpa [GoodRg, Rg.upTo] using this

set_option maxHeartbeats 4000000 in
theorem fault_main (r : Riv) (A : RA) (w : World) (hr : Rd w r A) (hl1 : r.salt.length ≤ 30) (hl2 : r.mud.length ≤ 30) (hl3 : r.use.length ≤ 30) (hl4 : r.gauges.length ≤ 30) (h0 : r.last ≤ 5) (h1 : r.gauges.length ≤ 5) (h2 : 0 ≤ r.last) (h3 : (r.salt.length : Int) = r.last + 1) (h4 : (r.mud.length : Int) = r.last + 1) (h5 : (r.use.length : Int) = r.last + 1) (h6 : inB r.sweet 0 9 = true) (h7 : inB r.clear 0 9 = true) (h8 : inB r.size 0 99 = true) (h9 : inB r.start 0 r.size = true) (h10 : inB r.draw 0 99 = true) :
    Calls Try.prog 84 #[rivV r A] w (RetErr (midI r) w) := by
  obtain ⟨R, hR⟩ : ∃ R, R = midI r := ⟨_, rfl⟩
  have HR := Lib.hid hR
  rw [← hR]
  have N0 := Lib.hid h3
  have N1 := Lib.hid h4
  have N2 := Lib.hid h5
  have ew : IntKind.i64.wrap (r.last + 1) = r.last + 1 := IntWalk.i64_in _ (by omega)
  have hbx := Lib.hid (box_new w r A)
  have hb0 := Lib.hid ((Below.refl w.heap.size w).alloc (Nat.le_refl _) (rO26 r A))
  clear hR
  have d0 : decide (5 < r.last) = false := by simp; omega
  have d1 : decide ((5 : Int) < (r.gauges.length : Int)) = false := by simp; omega
  have d2 : decide (r.last < 0) = false := by simp; omega
  have d3 : ((r.salt.length : Int) != r.last + 1) = false := by simpa using h3
  have d4 : ((r.mud.length : Int) != r.last + 1) = false := by simpa using h4
  have d5 : ((r.use.length : Int) != r.last + 1) = false := by simpa using h5
  have H3 := Lib.hid h3
  have H4 := Lib.hid h4
  have H5 := Lib.hid h5
  clear h3 h4 h5
  go_enter Try.func84, Try.ntmps84
  go_wp2_with (go_at_call 28; refine (In_c _ _ _ _).mono ?_; rintro e w' ⟨rfl, rfl⟩)
  obtain ⟨wq, hwq⟩ : ∃ wq, w.alloc (rO26 r A) = wq := ⟨_, rfl⟩
  rw [hwq] at hbx hb0 ⊢
  have hz := hb0.out.size
  clear hwq d0 d1 d2 d3 d4 d5 h6 h7 h8 h9 h10
  go_loopw [3] (fun i wr => ∃ k : Nat, (k : Int) ≤ r.last + 1 ∧ i = .int .i64 k ∧ Hid ((r.salt.take k).all (·.upTo 9) = true) ∧ Hid ((r.mud.take k).all (·.upTo 9) = true) ∧ Hid ((r.use.take k).all (fun u => inB u 0 99) = true) ∧ Below wq.heap.size wq wr) (fun i _ => 100 - (intOf i).toNat)
  case atStart => exact ⟨0, by omega, rfl, rfl, rfl, rfl, Below.refl _ _⟩
  case round =>
    obtain ⟨k, hk, rfl, T1, T2, T3, hB⟩ := hrel
    have HBB := Lib.hid hB
    have HX := Lib.hid (hbx.out.below hB)
    have c0 := HX.out.k0
    by_cases hlt : (k : Int) ≤ r.last
    · have hk1 : k < r.salt.length := by have := N0.out; omega
      have hk2 : k < r.mud.length := by have := N1.out; omega
      have hk3 : k < r.use.length := by have := N2.out; omega
      obtain ⟨x, hx⟩ : ∃ x, r.salt[k]? = some x := ⟨_, List.getElem?_eq_getElem hk1⟩
      obtain ⟨y, hy⟩ : ∃ x, r.mud[k]? = some x := ⟨_, List.getElem?_eq_getElem hk2⟩
      obtain ⟨u, hu⟩ : ∃ x, r.use[k]? = some x := ⟨_, List.getElem?_eq_getElem hk3⟩
      have HXX := Lib.hid hx
      have HYY := Lib.hid hy
      have HUU := Lib.hid hu
      have hBw := Lib.hid (hb0.out.trans (hB.mono hz))
      obtain ⟨b, o, ea, d1, d2⟩ := (hr.s.below hBw.out).rg_at hx
      have c1 := HX.out.k1
      rw [ea] at c1
      have ekw : IntKind.i64.wrap ((k : Int) + 1) = (k : Int) + 1 := IntWalk.i64_in _ (by omega)
      clear ea hx hy hu hB
      go_wp2_with fail
      refine (Inside_c x 9 _).mono ?_
      rintro e w1 ⟨rfl, hb1⟩
      have hB1 := Lib.hid (HBB.out.trans (hb1.mono HBB.out.size))
      have HX1 := Lib.hid (HX.out.below hb1)
      clear c0 c1 d1 d2 hb1
      cases hpx : x.upTo 9
      · have HP := Lib.hid hpx
        clear hpx
        go_wp2_with fail
        go_ret
        refine ⟨ret_int ?_, hb0.out.trans (hB1.out.mono hz)⟩
        rw [HR.out, midI, if_pos (.inl (all_bad _ HXX.out HP.out))]
      · have HP := Lib.hid hpx
        clear hpx
        obtain ⟨b', o', ea, d1, d2⟩ := (hr.m.below (hb0.out.trans (hB1.out.mono hz))).rg_at HYY.out
        have c2 := HX1.out.k2
        rw [ea] at c2
        clear ea
        go_wp2_with fail
        refine (Inside_c y 9 _).mono ?_
        rintro e w2 ⟨rfl, hb2⟩
        have hB2 := Lib.hid (hB1.out.trans (hb2.mono hB1.out.size))
        have HX2 := Lib.hid (HX1.out.below hb2)
        clear c2 d1 d2 hb2
        cases hpy : y.upTo 9
        · have HQ := Lib.hid hpy
          clear hpy
          go_wp2_with fail
          go_ret
          refine ⟨ret_int ?_, hb0.out.trans (hB2.out.mono hz)⟩
          rw [HR.out, midI, if_pos (.inr (.inl (all_bad _ HYY.out HQ.out)))]
        · have HQ := Lib.hid hpy
          clear hpy
          obtain ⟨b2, o2, ea, d1⟩ := (hr.u.below (hb0.out.trans (hB2.out.mono hz))).int_at HUU.out
          have c8 := HX2.out.k8
          rw [ea] at c8
          clear ea
          cases hpu : inB u 0 99
          · have HU := Lib.hid hpu
            go_wp2_with (go_at_call 28; refine (In_c _ _ _ _).mono ?_; rintro e w' ⟨rfl, rfl⟩)
            go_ret
            refine ⟨ret_int ?_, hb0.out.trans (hB2.out.mono hz)⟩
            rw [HR.out, midI, if_pos (.inr (.inr (.inl (all_bad _ HUU.out HU.out))))]
          · have HU := Lib.hid hpu
            go_wp2_with (go_at_call 28; refine (In_c _ _ _ _).mono ?_; rintro e w' ⟨rfl, rfl⟩)
            go_roundw
            case rel => exact ⟨k + 1, by omega, by go_num, by show _ = _; rw [all_take_succ _ _ _ _ HXX.out, T1.out, HP.out]; rfl, by show _ = _; rw [all_take_succ _ _ _ _ HYY.out, T2.out, HQ.out]; rfl, by show _ = _; rw [all_take_succ _ _ _ _ HUU.out, T3.out, HU.out]; rfl, hB2.out⟩
            case measure => simp [intOf]; omega
    · have hf1 : r.salt.all (·.upTo 9) = true := by have := T1.out; rwa [List.take_of_length_le (by have := N0.out; omega)] at this
      have hf2 : r.mud.all (·.upTo 9) = true := by have := T2.out; rwa [List.take_of_length_le (by have := N1.out; omega)] at this
      have hf3 : r.use.all (fun u => inB u 0 99) = true := by have := T3.out; rwa [List.take_of_length_le (by have := N2.out; omega)] at this
      have F1 := Lib.hid hf1
      have F2 := Lib.hid hf2
      have F3 := Lib.hid hf3
      have hHB := Lib.hid hB
      have HXr := Lib.hid (hbx.out.below hB)
      clear hf1 hf2 hf3 T1 T2 T3 hB
      obtain ⟨wa, hwa⟩ : ∃ Q, Q = wr := ⟨_, rfl⟩
      subst hwa
      go_wp2_with fail
      go_loopw [4, 5] (fun i _ wr => ∃ k2 : Nat, k2 ≤ r.gauges.length ∧ i = .int .i64 k2 ∧ Hid ((r.gauges.take k2).all r.gaugeB = true) ∧ Below wa.heap.size wa wr) (fun i _ _ => r.gauges.length - (intOf i).toNat)
      case atStart => exact ⟨0, Nat.zero_le _, rfl, rfl, Below.refl _ _⟩
      case round =>
        obtain ⟨k2, hk2, rfl, T4, hB⟩ := hrel
        have HX2 := Lib.hid (HXr.out.below hB)
        have hBq := Lib.hid (hHB.out.trans (hB.mono hHB.out.size))
        have hBB := Lib.hid hB
        have c9 := HX2.out.k9
        have hlw := cell_lt c9
        by_cases hlt2 : k2 < r.gauges.length
        · obtain ⟨g, hg⟩ : ∃ x, r.gauges[k2]? = some x := ⟨_, List.getElem?_eq_getElem hlt2⟩
          have HG := Lib.hid hg
          obtain ⟨b, o, ea, d1, d2, d3, d4⟩ := (hr.g.below (hb0.out.trans (hBq.out.mono hz))).gg_at hg
          rw [ea] at c9
          have c0 := HX2.out.k0
          have ekw : IntKind.i64.wrap ((k2 : Int) + 1) = (k2 : Int) + 1 := IntWalk.i64_in _ (by omega)
          clear ea hg hB
          cases hpd : inB g.day 0 r.last
          · have HD := Lib.hid hpd
            go_wp2_with (go_at_call 28; refine (In_c _ _ _ _).mono ?_; rintro e w' ⟨rfl, rfl⟩)
            go_ret
            refine ⟨ret_int ?_, (hb0.out.trans (hBq.out.mono hz)).alloc (by have := hBq.out.size; omega) _⟩
            rw [HR.out, midI, if_pos (.inr (.inr (.inr (all_bad _ HG.out (by simp [Riv.gaugeB, HD.out])))))]
          · have HD := Lib.hid hpd
            go_wp2_with (go_at_call 28; refine (In_c _ _ _ _).mono ?_; rintro e w' ⟨rfl, rfl⟩)
            refine (Inside_c g.rd 9 _).mono ?_
            rintro e w3 ⟨rfl, hb3⟩
            have hb23 : Below wr.heap.size wr w3 := ((Below.refl _ _).alloc (Nat.le_refl _) _).trans (hb3.mono (by simp))
            have HB3 := Lib.hid hb23
            clear hb3 hb23 c9 c0 d1 d2 d3 d4
            cases hpr : g.rd.upTo 9
            · have HE := Lib.hid hpr
              clear hpr
              go_wp2_with fail
              go_ret
              refine ⟨ret_int ?_, (hb0.out.trans (hBq.out.mono hz)).trans (HB3.out.mono (by have := hBq.out.size; omega))⟩
              rw [HR.out, midI, if_pos (.inr (.inr (.inr (all_bad _ HG.out (by simp [Riv.gaugeB, HE.out])))))]
            · have HE := Lib.hid hpr
              clear hpr
              go_wp2_with fail
              go_roundw
              case rel => exact ⟨k2 + 1, by omega, by go_num, by show _ = _; rw [all_take_succ _ _ _ _ HG.out, T4.out]; simp [Riv.gaugeB, HD.out, HE.out], hBB.out.trans (HB3.out.mono hBB.out.size)⟩
              case measure => simp [intOf]; omega
        · have hf4 : r.gauges.all r.gaugeB = true := by have := T4.out; rwa [List.take_of_length_le (by omega)] at this
          have F4 := Lib.hid hf4
          have g1 := goodRg_of F1.out
          have g2 := goodRg_of F2.out
          obtain ⟨k0, k1, k2', k3, k4, k5, k6, k7, k8, k9⟩ := HX2.out
          have hbw := Lib.hid (hb0.out.trans (hBq.out.mono hz))
          have hmc := Lib.hid (many_cap (r := r) (by have := N0.out; have := N1.out; omega) (fun x hx => by have := g1 x hx; unfold GoodRg at this; unfold Rg.size; omega) (fun x hx => by have := g2 x hx; unfold GoodRg at this; unfold Rg.size; omega))
          clear hf4 T4 hB
          go_wp2_with fail
          refine (Many_c r A _ (hr.below hbw.out) (by have := N0.out; have := N1.out; omega) hl1 g1 g2).mono ?_
          rintro e w4 ⟨rfl, hb4⟩
          have hRR : R = if capS (r.salt ++ r.mud) > 2000 then 3 else 0 := by
            rw [HR.out, midI, if_neg]
            rw [F1.out, F2.out, F3.out, F4.out]; simp
          have HRR := Lib.hid hRR
          obtain ⟨M, hM⟩ : ∃ M, M = manyI r := ⟨_, rfl⟩
          have HM := Lib.hid hM
          rw [← hM]
          clear hRR hM
          by_cases hm : 2000 < M
          · have hd : decide (2000 < M) = true := by simpa using hm
            have HMM := Lib.hid hm
            go_wp2_with fail
            go_ret
            refine ⟨ret_int ?_, hbw.out.trans (hb4.mono hbw.out.size)⟩
            have := HMM.out; have := HM.out; have := hmc.out.1; have := hmc.out.2
            rw [HRR.out, if_pos (by omega)]
          · have hd : decide (2000 < M) = false := by simpa using hm
            have HMM := Lib.hid hm
            go_wp2_with fail
            go_ret
            refine ⟨ret_int ?_, hbw.out.trans (hb4.mono hbw.out.size)⟩
            have := HMM.out; have := HM.out; have := hmc.out.1; have := hmc.out.2
            rw [HRR.out, if_neg (by omega)]

theorem Fault_c (r : Riv) (A : RA) (w : World) (hr : Rd w r A) (hl1 : r.salt.length ≤ 30) (hl2 : r.mud.length ≤ 30) (hl3 : r.use.length ≤ 30) (hl4 : r.gauges.length ≤ 30) :
    Calls Try.prog 84 #[rivV r A] w (RetErr r.faultI w) := by
  by_cases h0 : r.last ≤ 5
  rotate_left
  · rw [show r.faultI = 3 from by unfold Riv.faultI; rw [if_pos (by omega)]]; exact fault_l5 r A w hr hl1 hl2 hl3 hl4  (by omega)
  by_cases h1 : r.gauges.length ≤ 5
  rotate_left
  · rw [show r.faultI = 3 from by unfold Riv.faultI; rw [if_pos (by omega)]]; exact fault_g5 r A w hr hl1 hl2 hl3 hl4 h0 (by omega)
  by_cases h2 : 0 ≤ r.last
  rotate_left
  · rw [show r.faultI = 1 from by unfold Riv.faultI; rw [if_neg (by omega), if_pos (by omega)]]; exact fault_l0 r A w hr hl1 hl2 hl3 hl4 h0 h1 (by omega)
  by_cases h3 : (r.salt.length : Int) = r.last + 1
  rotate_left
  · rw [show r.faultI = 1 from by unfold Riv.faultI; rw [if_neg (by omega), if_pos (by omega)]]; exact fault_ns r A w hr hl1 hl2 hl3 hl4 h0 h1 h2 (by omega)
  by_cases h4 : (r.mud.length : Int) = r.last + 1
  rotate_left
  · rw [show r.faultI = 1 from by unfold Riv.faultI; rw [if_neg (by omega), if_pos (by omega)]]; exact fault_nm r A w hr hl1 hl2 hl3 hl4 h0 h1 h2 h3 (by omega)
  by_cases h5 : (r.use.length : Int) = r.last + 1
  rotate_left
  · rw [show r.faultI = 1 from by unfold Riv.faultI; rw [if_neg (by omega), if_pos (by omega)]]; exact fault_nu r A w hr hl1 hl2 hl3 hl4 h0 h1 h2 h3 h4 (by omega)
  by_cases h6 : inB r.sweet 0 9 = true
  rotate_left
  · have hf : inB r.sweet 0 9 = false := by simpa using h6
    rw [show r.faultI = 1 from by unfold Riv.faultI; rw [if_neg (by omega), if_pos (.inr (.inr (.inr (.inr (by simp [Riv.validB, hf])))))]]; exact fault_sw r A w hr hl1 hl2 hl3 hl4 h0 h1 h2 h3 h4 h5 hf
  by_cases h7 : inB r.clear 0 9 = true
  rotate_left
  · have hf : inB r.clear 0 9 = false := by simpa using h7
    rw [show r.faultI = 1 from by unfold Riv.faultI; rw [if_neg (by omega), if_pos (.inr (.inr (.inr (.inr (by simp [Riv.validB, hf])))))]]; exact fault_cl r A w hr hl1 hl2 hl3 hl4 h0 h1 h2 h3 h4 h5 h6 hf
  by_cases h8 : inB r.size 0 99 = true
  rotate_left
  · have hf : inB r.size 0 99 = false := by simpa using h8
    rw [show r.faultI = 1 from by unfold Riv.faultI; rw [if_neg (by omega), if_pos (.inr (.inr (.inr (.inr (by simp [Riv.validB, hf])))))]]; exact fault_sz r A w hr hl1 hl2 hl3 hl4 h0 h1 h2 h3 h4 h5 h6 h7 hf
  by_cases h9 : inB r.start 0 r.size = true
  rotate_left
  · have hf : inB r.start 0 r.size = false := by simpa using h9
    rw [show r.faultI = 1 from by unfold Riv.faultI; rw [if_neg (by omega), if_pos (.inr (.inr (.inr (.inr (by simp [Riv.validB, hf])))))]]; exact fault_st r A w hr hl1 hl2 hl3 hl4 h0 h1 h2 h3 h4 h5 h6 h7 h8 hf
  by_cases h10 : inB r.draw 0 99 = true
  rotate_left
  · have hf : inB r.draw 0 99 = false := by simpa using h10
    rw [show r.faultI = 1 from by unfold Riv.faultI; rw [if_neg (by omega), if_pos (.inr (.inr (.inr (.inr (by simp [Riv.validB, hf])))))]]; exact fault_dr r A w hr hl1 hl2 hl3 hl4 h0 h1 h2 h3 h4 h5 h6 h7 h8 h9 hf
  rw [show r.faultI = midI r from fault_mid h0 h1 h2 h3 h4 h5 (by simp [Riv.validB, h6, h7, h8, h9, h10])]
  exact fault_main r A w hr hl1 hl2 hl3 hl4 h0 h1 h2 h3 h4 h5 h6 h7 h8 h9 h10
end Go.Proofs.Ytgglfngkomgadaa
