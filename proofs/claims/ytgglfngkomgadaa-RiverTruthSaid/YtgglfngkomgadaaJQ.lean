/- the reference: truths -/
import Derived.Test.YtgglfngkomgadaaJO
import Derived.Test.YtgglfngkomgadaaJP
/- Walks of the reference: Full, Right. -/
namespace Go.Proofs.Ytgglfngkomgadaa
open Go.RowKit Go.Shelf
set_option linter.unusedVariables false
set_option linter.unusedSimpArgs false
set_option maxRecDepth 100000

def fullR (r : Riv) : Nat := 2 ^ r.gauges.length - 1
theorem full_eval : ∀ L : Nat, L ≤ 5 → wrap64 (wrap64 (2 ^ L) - 1) = ((2 ^ L - 1 : Nat) : Int) ∧ 2 ^ L - 1 < 64 := by
  intro L hL
  have : L = 0 ∨ L = 1 ∨ L = 2 ∨ L = 3 ∨ L = 4 ∨ L = 5 := by omega
  rcases this with rfl | rfl | rfl | rfl | rfl | rfl <;> decide +kernel
theorem Full_c (r : Riv) (A : RA) (w : World) (hg : r.gauges.length ≤ 5) :
    Calls Try.prog 65 #[rivV r A] w fun e w' => e = .returned (.int .i64 (fullR r)) ∧ Below w.heap.size w w' := by
  obtain ⟨R, hR⟩ : ∃ R, R = fullR r := ⟨_, rfl⟩
  have HR := Lib.hid hR
  rw [← hR]
  clear hR
  go_enter Try.func65, Try.ntmps65
  go_wp2_with fail
  go_ret
  exact ⟨ret_int (by rw [HR.out, (full_eval _ hg).1]; rfl), (Below.refl _ _).alloc (Nat.le_refl _) _⟩

def gval (t : Tr) (g : Gg) : Int := if g.mud then t.mud.getD g.day.toNat 0 else t.salt.getD g.day.toNat 0
/-- Which of the first gauges are right, by bits. -/
def rightN (t : Tr) (gs : List Gg) : Nat → Nat
  | 0 => 0
  | k + 1 => if (gs.getD k default).rd.has (gval t (gs.getD k default)) then rightN t gs k ||| 2 ^ k else rightN t gs k
def rightR (r : Riv) (t : Tr) : Nat := rightN t r.gauges r.gauges.length
theorem rightN_lt (t : Tr) (gs : List Gg) : ∀ k, k ≤ 5 → rightN t gs k < 2 ^ k
  | 0, _ => by simp [rightN]
  | k + 1, h => by
    have ih := rightN_lt t gs k (by omega)
    simp only [rightN]
    split
    · exact Nat.or_lt_two_pow (Nat.lt_trans ih (Nat.pow_lt_pow_right (by omega) (by omega))) (Nat.pow_lt_pow_right (by omega) (by omega))
    · exact Nat.lt_trans ih (Nat.pow_lt_pow_right (by omega) (by omega))
abbrev tO64 (t : Tr) (B : TA) : Obj := .cells #[.slice B.sa t.salt.length B.sc, .slice B.ma t.mud.length B.mc] 64

set_option maxHeartbeats 4000000 in
theorem Right_c (r : Riv) (A : RA) (t : Tr) (B : TA) (w : World) (ok : Ok r) (hr : Rd w r A) (ht : RdT w t B) (hl1 : (t.salt.length : Int) = r.last + 1) (hl2 : (t.mud.length : Int) = r.last + 1) :
    Calls Try.prog 102 #[rivV r A, trV t B] w fun e w' => e = .returned (.int .i64 (rightR r t)) ∧ Below w.heap.size w w' := by
  obtain ⟨R, hR⟩ : ∃ R, R = rightR r t := ⟨_, rfl⟩
  have HR := Lib.hid hR
  rw [← hR]
  have HOK := Lib.hid ok
  have ng := ok.ng
  have HL1 := Lib.hid hl1
  have HL2 := Lib.hid hl2
  clear hR ok hl1 hl2
  go_enter Try.func102, Try.ntmps102
  go_wp2_with fail
  obtain ⟨wq, hwq⟩ : ∃ wq, (w.alloc (rO26 r A)).alloc (tO64 t B) = wq := ⟨_, rfl⟩
  have hbx : BoxR w.heap.size r A wq := by rw [← hwq]; exact (box_new w r A).below ((Below.refl _ _).alloc (Nat.le_refl _) _)
  have hq1 : wq.heap[w.heap.size + 1]? = some (.cells #[.slice B.sa t.salt.length B.sc, .slice B.ma t.mud.length B.mc] 64 (0, 0)) := by
    rw [← hwq]
    have h2 := heap_alloc_new (w.alloc (rO26 r A)) (tO64 t B)
    simpa using h2
  have hb0 : Below w.heap.size w wq := by rw [← hwq]; exact ((Below.refl _ w).alloc (Nat.le_refl _) _).alloc (by simp) _
  have HBX := Lib.hid hbx
  have HQ1 := Lib.hid hq1
  have HB0 := Lib.hid hb0
  have hz := hb0.size
  rw [hwq]
  clear hwq hbx hq1 hb0
  go_loopw [5, 6, 7, 8] (fun bv i _ _ wr => ∃ (k : Nat), k ≤ r.gauges.length ∧ i = .int .i64 k ∧ bv = .int .i64 (rightN t r.gauges k) ∧ Below wq.heap.size wq wr) (fun _ i _ _ _ => r.gauges.length - (intOf i).toNat)
  case atStart => exact ⟨0, Nat.zero_le _, rfl, rfl, Below.refl _ _⟩
  case round =>
    obtain ⟨k, hk, rfl, rfl, hB⟩ := hrel
    have HB := Lib.hid hB
    have hX := HBX.out.below hB
    have c9 := hX.k9
    have hlw := cell_lt c9
    obtain ⟨bv, hbv⟩ : ∃ n, n = rightN t r.gauges k := ⟨_, rfl⟩
    have HBV := Lib.hid hbv
    have hbl : bv < 2 ^ k := by rw [hbv]; exact rightN_lt t r.gauges k (by omega)
    rw [← hbv]
    by_cases hlt : k < r.gauges.length
    · obtain ⟨g, hg⟩ : ∃ x, r.gauges[k]? = some x := ⟨_, List.getElem?_eq_getElem hlt⟩
      have HG := Lib.hid hg
      have hgd : r.gauges.getD k default = g := by simp [List.getD, hg]
      have HGD := Lib.hid hgd
      obtain ⟨⟨hd0, hdl⟩, hrd⟩ := HOK.out.go g (List.mem_of_getElem? hg)
      obtain ⟨D, hD⟩ := Int.eq_ofNat_of_zero_le hd0
      have hBw := HB0.out.trans (hB.mono hz)
      obtain ⟨b, o, ea, d1, d2, d3, d4⟩ := (hr.g.below hBw).gg_at hg
      rw [ea] at c9
      rw [hD] at d1
      have hD1 : D < t.salt.length := by have := HL1.out; omega
      have hD2 : D < t.mud.length := by have := HL2.out; omega
      obtain ⟨x, hx⟩ : ∃ x, t.salt[D]? = some x := ⟨_, List.getElem?_eq_getElem hD1⟩
      obtain ⟨y, hy⟩ : ∃ x, t.mud[D]? = some x := ⟨_, List.getElem?_eq_getElem hD2⟩
      obtain ⟨b1, o1, ea1, x1⟩ := (ht.s.below hBw).int_at hx
      obtain ⟨b2, o2, ea2, y1⟩ := (ht.m.below hBw).int_at hy
      have hq1 := (hB.block _ (Array.getElem?_eq_some_iff.1 HQ1.out).1).trans HQ1.out
      have s0 : wr.cell? ⟨w.heap.size + 1, 0, none⟩ = some (.slice (some ⟨b1, o1, none⟩) t.salt.length B.sc) := by rw [cell_blk hq1, ← ea1]; rfl
      have s1 : wr.cell? ⟨w.heap.size + 1, 1, none⟩ = some (.slice (some ⟨b2, o2, none⟩) t.mud.length B.mc) := by rw [cell_blk hq1, ← ea2]; rfl
      have ls0 := cell_lt s0
      have lx := cell_lt x1
      have ly := cell_lt y1
      have ew : IntKind.i64.wrap ((k : Int) + 1) = (k : Int) + 1 := IntWalk.i64_in _ (by omega)
      have hval : gval t g = if g.mud then y else x := by
        have e : g.day.toNat = D := by omega
        simp [gval, e, List.getD, hx, hy]
      have HV := Lib.hid hval
      have hor := or_small bv (Nat.lt_of_lt_of_le hbl (Nat.le_trans (Nat.pow_le_pow_right (by omega) (show k ≤ 5 from by omega)) (by omega))) k (by omega)
      have HOR := Lib.hid hor
      clear ea ea1 ea2 hg hx hy hB hD hd0 hq1 hgd hval hbv hX hor
      cases hmu : g.mud
      · have HMU := Lib.hid hmu
        go_wp2_with fail
        refine (Is_c x g.rd _).mono ?_
        rintro e w3 ⟨rfl, hb3⟩
        have HB3 := Lib.hid (HB.out.trans (((Below.refl wr.heap.size wr).alloc (Nat.le_refl _) _).trans (hb3.mono (by simp)) |>.mono HB.out.size))
        clear hb3 c9 d1 d2 d3 d4 x1 y1 s0 s1
        cases hp : g.rd.has x
        · have HP := Lib.hid hp
          clear hp
          go_wp2_with fail
          go_roundw
          case rel => exact ⟨k + 1, by omega, by go_num, by rw [rightN, HGD.out, HV.out, HMU.out]; simp [HP.out, ← HBV.out], HB3.out⟩
          case measure => simp [intOf]; omega
        · have HP := Lib.hid hp
          clear hp
          go_wp2_with fail
          go_roundw
          case rel =>
            refine ⟨k + 1, by omega, by go_num, ?_, HB3.out⟩
            rw [rightN, HGD.out, HV.out, HMU.out]
            simp only [Bool.false_eq_true, if_false, HP.out, if_true, ← HBV.out]
            rw [HOR.out.1]
          case measure => simp [intOf]; omega
      · have HMU := Lib.hid hmu
        go_wp2_with fail
        refine (Is_c y g.rd _).mono ?_
        rintro e w3 ⟨rfl, hb3⟩
        have HB3 := Lib.hid (HB.out.trans (((Below.refl wr.heap.size wr).alloc (Nat.le_refl _) _).trans (hb3.mono (by simp)) |>.mono HB.out.size))
        clear hb3 c9 d1 d2 d3 d4 x1 y1 s0 s1
        cases hp : g.rd.has y
        · have HP := Lib.hid hp
          clear hp
          go_wp2_with fail
          go_roundw
          case rel => exact ⟨k + 1, by omega, by go_num, by rw [rightN, HGD.out, HV.out, HMU.out]; simp [HP.out, ← HBV.out], HB3.out⟩
          case measure => simp [intOf]; omega
        · have HP := Lib.hid hp
          clear hp
          go_wp2_with fail
          go_roundw
          case rel =>
            refine ⟨k + 1, by omega, by go_num, ?_, HB3.out⟩
            rw [rightN, HGD.out, HV.out, HMU.out]
            simp only [HP.out, if_true, ← HBV.out]
            rw [HOR.out.1]
          case measure => simp [intOf]; omega
    · have hkk : k = r.gauges.length := by omega
      have HK := Lib.hid hkk
      clear hkk
      go_wp2_with fail
      go_ret
      exact ⟨ret_int (by rw [HR.out, HBV.out, HK.out]; rfl), HB0.out.trans (hB.mono hz)⟩
end Go.Proofs.Ytgglfngkomgadaa
/- Walks of the reference: IsGood, IsListed, IsTruth. -/
namespace Go.Proofs.Ytgglfngkomgadaa
open Go.RowKit Go.Shelf
set_option linter.unusedVariables false
set_option linter.unusedSimpArgs false
set_option maxRecDepth 100000

def goodD (r : Riv) (t : Tr) (D : Nat) : Bool := decide (t.salt.getD D 0 ≤ r.sweet) && decide (t.mud.getD D 0 ≤ r.clear)
/-- What is read of a truth in a box, on a day, and of a river. -/
def GdS (q : Nat) (b1 o1 b2 o2 : Nat) (s1 s2 : Value) (x y sw cl : Int) (W : World) : Prop := W.cell? ⟨q + 1, 0, none⟩ = some s1 ∧ W.cell? ⟨q + 1, 1, none⟩ = some s2 ∧ W.cell? ⟨b1, o1, none⟩ = some (.int .i64 x) ∧ W.cell? ⟨b2, o2, none⟩ = some (.int .i64 y) ∧ W.cell? ⟨q, 3, none⟩ = some (.int .i64 sw) ∧ W.cell? ⟨q, 4, none⟩ = some (.int .i64 cl)
theorem two_boxes (w : World) (r : Riv) (A : RA) (t : Tr) (B : TA) : BoxR w.heap.size r A ((w.alloc (rO26 r A)).alloc (tO64 t B)) ∧ ((w.alloc (rO26 r A)).alloc (tO64 t B)).heap[w.heap.size + 1]? = some (.cells #[.slice B.sa t.salt.length B.sc, .slice B.ma t.mud.length B.mc] 64 (0, 0)) ∧ Below w.heap.size w ((w.alloc (rO26 r A)).alloc (tO64 t B)) := by
  refine ⟨(box_new w r A).below ((Below.refl _ _).alloc (Nat.le_refl _) _), ?_, ((Below.refl _ w).alloc (Nat.le_refl _) _).alloc (by simp) _⟩
  have h2 := heap_alloc_new (w.alloc (rO26 r A)) (tO64 t B)
  simpa using h2

set_option maxHeartbeats 2000000 in
theorem IsGood_c (r : Riv) (A : RA) (t : Tr) (B : TA) (D : Nat) (w : World) (ht : RdT w t B) (h1 : D < t.salt.length) (h2 : D < t.mud.length) :
    Calls Try.prog 59 #[rivV r A, trV t B, .int .i64 D] w fun e w' => e = .returned (.bool (goodD r t D)) ∧ Below w.heap.size w w' := by
  obtain ⟨x, hx⟩ : ∃ x, t.salt[D]? = some x := ⟨_, List.getElem?_eq_getElem h1⟩
  obtain ⟨y, hy⟩ : ∃ x, t.mud[D]? = some x := ⟨_, List.getElem?_eq_getElem h2⟩
  obtain ⟨R, hR⟩ : ∃ R, R = goodD r t D := ⟨_, rfl⟩
  have hR2 : R = (decide (x ≤ r.sweet) && decide (y ≤ r.clear)) := by rw [hR, goodD]; simp [List.getD, hx, hy]
  have HR := Lib.hid hR2
  rw [← hR]
  have tb := two_boxes w r A t B
  have TB := Lib.hid tb
  obtain ⟨b1, o1, ea1, x1⟩ := (ht.s.below tb.2.2).int_at hx
  obtain ⟨b2, o2, ea2, y1⟩ := (ht.m.below tb.2.2).int_at hy
  have hS0 : GdS w.heap.size b1 (o1 + D) b2 (o2 + D) (.slice (some ⟨b1, o1, none⟩) t.salt.length B.sc) (.slice (some ⟨b2, o2, none⟩) t.mud.length B.mc) x y r.sweet r.clear ((w.alloc (rO26 r A)).alloc (tO64 t B)) :=
    ⟨by rw [cell_blk tb.2.1, ← ea1]; rfl, by rw [cell_blk tb.2.1, ← ea2]; rfl, x1, y1, tb.1.k3, tb.1.k4⟩
  have HS0 := Lib.hid hS0
  clear hR hR2 hx hy ea1 ea2 x1 y1 tb hS0
  by_cases hc : x ≤ r.sweet
  · have hd : decide (x ≤ r.sweet) = true := by simpa using hc
    have HC := Lib.hid hc
    clear hc
    go_enter Try.func59, Try.ntmps59
    go_wp2_with fail
    refine region_o (S := GdS w.heap.size b1 (o1 + D) b2 (o2 + D) (.slice (some ⟨b1, o1, none⟩) t.salt.length B.sc) (.slice (some ⟨b2, o2, none⟩) t.mud.length B.mc) x y r.sweet r.clear) (.take 0 (.take 1 (.take 2 (.take 3 (.take 4 (.take 5 (.take 6 (.take 7 (.take 8 (.take 9 (.take 10 (.take 11 (.take 12 (.take 13 (.take 14 (.take 15 (.take 16 (.take 17 (.take 18 .nil))))))))))))))))))) (by kernel_rfl) (by kernel_rfl) (fun _ _ d _ _ h => by cases d <;> exact h) (HS0.out) ?_
    intro W0 hW0 hS0
    have hBW : Below ((w.alloc (rO26 r A)).alloc (tO64 t B)).heap.size ((w.alloc (rO26 r A)).alloc (tO64 t B)) W0 := by subst hW0; exact (Below.refl _ _).drew
    clear hW0
    repeat (first
      | (refine ord_skip rfl ?_ ?_; rfl; simp only [pz])
      | (refine ord_take (v := ?_) rfl ?_ (fun W hW => ?_) ?_; rotate_left; rfl; (obtain ⟨hz0, hz1, hz2, hz3, hz4, hz5⟩ := hW; go_simp; (first | done | with_reducible rfl)); simp only [pz]))
    refine ord_nil ?_
    go_wp2_with fail
    go_ret
    exact ⟨ret_bool (by rw [HR.out]; have := HC.out; simp [HC.out]; try omega), TB.out.2.2.trans (hBW.mono TB.out.2.2.size)⟩
  · have hd : decide (x ≤ r.sweet) = false := by simpa using hc
    have HC := Lib.hid hc
    clear hc
    go_enter Try.func59, Try.ntmps59
    go_wp2_with fail
    refine region_o (S := GdS w.heap.size b1 (o1 + D) b2 (o2 + D) (.slice (some ⟨b1, o1, none⟩) t.salt.length B.sc) (.slice (some ⟨b2, o2, none⟩) t.mud.length B.mc) x y r.sweet r.clear) (.take 0 (.take 1 (.take 2 (.take 3 (.take 4 (.take 5 (.take 6 (.take 7 (.take 8 (.take 9 (.take 10 (.take 11 (.take 12 (.take 13 (.take 14 (.take 15 (.take 16 (.take 17 (.take 18 .nil))))))))))))))))))) (by kernel_rfl) (by kernel_rfl) (fun _ _ d _ _ h => by cases d <;> exact h) (HS0.out) ?_
    intro W0 hW0 hS0
    have hBW : Below ((w.alloc (rO26 r A)).alloc (tO64 t B)).heap.size ((w.alloc (rO26 r A)).alloc (tO64 t B)) W0 := by subst hW0; exact (Below.refl _ _).drew
    clear hW0
    repeat (first
      | (refine ord_skip rfl ?_ ?_; rfl; simp only [pz])
      | (refine ord_take (v := ?_) rfl ?_ (fun W hW => ?_) ?_; rotate_left; rfl; (obtain ⟨hz0, hz1, hz2, hz3, hz4, hz5⟩ := hW; go_simp; (first | done | with_reducible rfl)); simp only [pz]))
    refine ord_nil ?_
    go_wp2_with fail
    go_ret
    exact ⟨ret_bool (by rw [HR.out]; have := HC.out; simp [HC.out]; try omega), TB.out.2.2.trans (hBW.mono TB.out.2.2.size)⟩

/-- Is an argument a truth, whatever the gauges are? -/
def listedR (r : Riv) (t : Tr) : Bool := decide (t.salt.length = r.salt.length) && (decide (t.mud.length = r.mud.length) && (List.range t.salt.length).all fun i => (r.salt.getD i default).has (t.salt.getD i 0) && (r.mud.getD i default).has (t.mud.getD i 0))
structure LsS (q : Nat) (b1 o1 b2 o2 b3 o3 b4 o4 : Nat) (s1 s2 s3 s4 : Value) (x y : Int) (u v : Rg) (W : World) : Prop where
  a1 : W.cell? ⟨q + 1, 0, none⟩ = some s1
  a2 : W.cell? ⟨q + 1, 1, none⟩ = some s2
  a3 : W.cell? ⟨q, 1, none⟩ = some s3
  a4 : W.cell? ⟨q, 2, none⟩ = some s4
  c1 : W.cell? ⟨b1, o1, none⟩ = some (.int .i64 x)
  c2 : W.cell? ⟨b2, o2, none⟩ = some (.int .i64 y)
  c3 : W.cell? ⟨b3, o3, none⟩ = some (.int .i64 u.lo)
  c4 : W.cell? ⟨b3, o3 + 1, none⟩ = some (.int .i64 u.hi)
  c5 : W.cell? ⟨b4, o4, none⟩ = some (.int .i64 v.lo)
  c6 : W.cell? ⟨b4, o4 + 1, none⟩ = some (.int .i64 v.hi)
theorem LsS.below {q b1 o1 b2 o2 b3 o3 b4 o4 : Nat} {s1 s2 s3 s4 : Value} {x y : Int} {u v : Rg} {W W' : World} (h : LsS q b1 o1 b2 o2 b3 o3 b4 o4 s1 s2 s3 s4 x y u v W) (hb : Below W.heap.size W W') : LsS q b1 o1 b2 o2 b3 o3 b4 o4 s1 s2 s3 s4 x y u v W' :=
  have hw : Wr (fun _ => False) W W' := Wr.of_below hb
  ⟨hw.cell (fun e => e) h.a1, hw.cell (fun e => e) h.a2, hw.cell (fun e => e) h.a3, hw.cell (fun e => e) h.a4, hw.cell (fun e => e) h.c1, hw.cell (fun e => e) h.c2, hw.cell (fun e => e) h.c3, hw.cell (fun e => e) h.c4, hw.cell (fun e => e) h.c5, hw.cell (fun e => e) h.c6⟩

set_option maxHeartbeats 3000000 in
theorem IsListed_no (r : Riv) (A : RA) (t : Tr) (B : TA) (w : World) (h : ¬ (t.salt.length = r.salt.length ∧ t.mud.length = r.mud.length)) :
    Calls Try.prog 48 #[rivV r A, trV t B] w fun e w' => e = .returned (.bool false) ∧ Below w.heap.size w w' := by
  by_cases h1 : t.salt.length = r.salt.length
  · have h2 : t.mud.length ≠ r.mud.length := fun e => h ⟨h1, e⟩
    have g1 : ((t.salt.length : Int) != (r.salt.length : Int)) = false := by simp; omega
    have g2 : ((t.mud.length : Int) != (r.mud.length : Int)) = true := by simp; omega
    clear h1 h
    go_enter Try.func48, Try.ntmps48
    go_wp2_with fail
    go_ret
    exact ⟨rfl, ((Below.refl _ w).alloc (Nat.le_refl _) _).alloc (by simp) _⟩
  · have g1 : ((t.salt.length : Int) != (r.salt.length : Int)) = true := by simp; omega
    clear h
    go_enter Try.func48, Try.ntmps48
    go_wp2_with fail
    go_ret
    exact ⟨rfl, ((Below.refl _ w).alloc (Nat.le_refl _) _).alloc (by simp) _⟩

set_option maxHeartbeats 3000000 in
theorem IsListed_c (r : Riv) (A : RA) (t : Tr) (B : TA) (w : World) (hr : Rd w r A) (ht : RdT w t B) (hn : r.mud.length = r.salt.length) (hl : r.salt.length ≤ 30) :
    Calls Try.prog 48 #[rivV r A, trV t B] w fun e w' => e = .returned (.bool (listedR r t)) ∧ Below w.heap.size w w' := by
  by_cases hlen : t.salt.length = r.salt.length ∧ t.mud.length = r.mud.length
  rotate_left
  · have e : listedR r t = false := by
      unfold listedR
      by_cases h1 : t.salt.length = r.salt.length
      · have h2 : ¬ t.mud.length = r.mud.length := fun e => hlen ⟨h1, e⟩
        simp [h2]
      · simp [h1]
    rw [e]
    exact IsListed_no r A t B w hlen
  obtain ⟨h1, h2⟩ := hlen
  obtain ⟨R, hR⟩ : ∃ R, R = listedR r t := ⟨_, rfl⟩
  have hR2 : R = (List.range t.salt.length).all fun i => (r.salt.getD i default).has (t.salt.getD i 0) && (r.mud.getD i default).has (t.mud.getD i 0) := by rw [hR, listedR, h1, h2]; simp
  have HR := Lib.hid hR2
  rw [← hR]
  have g1 : ((t.salt.length : Int) != (r.salt.length : Int)) = false := by simp; omega
  have g2 : ((t.mud.length : Int) != (r.mud.length : Int)) = false := by simp; omega
  have H1 := Lib.hid h1
  have H2 := Lib.hid h2
  have HN := Lib.hid hn
  have hl2 : t.salt.length ≤ 30 := by omega
  have tb := two_boxes w r A t B
  have TB := Lib.hid tb
  clear h1 h2 hn hR hR2 tb
  go_enter Try.func48, Try.ntmps48
  go_wp2_with fail
  obtain ⟨wq, hwq⟩ : ∃ wq, (w.alloc (rO26 r A)).alloc (tO64 t B) = wq := ⟨_, rfl⟩
  rw [hwq] at TB ⊢
  have hz := TB.out.2.2.size
  clear hwq g1 g2
  go_loopw [5] (fun i wr => ∃ (k : Nat), k ≤ t.salt.length ∧ i = .int .i64 k ∧ Hid ((List.range k).all (fun i => (r.salt.getD i default).has (t.salt.getD i 0) && (r.mud.getD i default).has (t.mud.getD i 0)) = true) ∧ Below wq.heap.size wq wr) (fun i _ => t.salt.length - (intOf i).toNat)
  case atStart => exact ⟨0, Nat.zero_le _, rfl, rfl, Below.refl _ _⟩
  case round =>
    obtain ⟨k, hk, rfl, HT, hB⟩ := hrel
    have HB := Lib.hid hB
    have hX := TB.out.1.below hB
    have hq1 := (hB.block _ (Array.getElem?_eq_some_iff.1 TB.out.2.1).1).trans TB.out.2.1
    have hBw := TB.out.2.2.trans (hB.mono hz)
    by_cases hlt : k < t.salt.length
    · obtain ⟨x, hx⟩ : ∃ x, t.salt[k]? = some x := ⟨_, List.getElem?_eq_getElem hlt⟩
      obtain ⟨y, hy⟩ : ∃ x, t.mud[k]? = some x := ⟨_, List.getElem?_eq_getElem (by have := H1.out; have := H2.out; have := HN.out; omega)⟩
      obtain ⟨u, hu⟩ : ∃ x, r.salt[k]? = some x := ⟨_, List.getElem?_eq_getElem (by have := H1.out; omega)⟩
      obtain ⟨v, hv⟩ : ∃ x, r.mud[k]? = some x := ⟨_, List.getElem?_eq_getElem (by have := H1.out; have := HN.out; omega)⟩
      have hku : k < r.salt.length := by have := H1.out; omega
      have hkv : k < r.mud.length := by have := H1.out; have := HN.out; omega
      have hky : k < t.mud.length := by have := H1.out; have := H2.out; have := HN.out; omega
      obtain ⟨b1, o1, e1, d1⟩ := (ht.s.below hBw).int_at hx
      obtain ⟨b2, o2, e2, d2⟩ := (ht.m.below hBw).int_at hy
      obtain ⟨b3, o3, e3, d3, d4⟩ := (hr.s.below hBw).rg_at hu
      obtain ⟨b4, o4, e4, d5, d6⟩ := (hr.m.below hBw).rg_at hv
      have hS : LsS w.heap.size b1 (o1 + k) b2 (o2 + k) b3 (o3 + k * 2) b4 (o4 + k * 2) (.slice (some ⟨b1, o1, none⟩) t.salt.length B.sc) (.slice (some ⟨b2, o2, none⟩) t.mud.length B.mc) (.slice (some ⟨b3, o3, none⟩) r.salt.length A.sc) (.slice (some ⟨b4, o4, none⟩) r.mud.length A.mc) x y u v wr :=
        ⟨by rw [cell_blk hq1, ← e1]; rfl, by rw [cell_blk hq1, ← e2]; rfl, by rw [hX.k1, e3], by rw [hX.k2, e4], d1, d2, d3, d4, d5, d6⟩
      have HS := Lib.hid hS
      have z0 := hS.a1
      have ew : IntKind.i64.wrap ((k : Int) + 1) = (k : Int) + 1 := IntWalk.i64_in _ (by omega)
      have hst : ((r.salt.getD k default).has (t.salt.getD k 0) && (r.mud.getD k default).has (t.mud.getD k 0)) = (u.has x && v.has y) := by simp [List.getD, hx, hy, hu, hv]
      have HST := Lib.hid hst
      clear hx hy hu hv e1 e2 e3 e4 d1 d2 d3 d4 d5 d6 hS hst hX hq1 hB
      cases hp : u.has x
      · have HP := Lib.hid hp
        go_wp2_with fail
        refine region_o (S := LsS w.heap.size b1 (o1 + k) b2 (o2 + k) b3 (o3 + k * 2) b4 (o4 + k * 2) (.slice (some ⟨b1, o1, none⟩) t.salt.length B.sc) (.slice (some ⟨b2, o2, none⟩) t.mud.length B.mc) (.slice (some ⟨b3, o3, none⟩) r.salt.length A.sc) (.slice (some ⟨b4, o4, none⟩) r.mud.length A.mc) x y u v) (.take 0 (.take 1 (.take 2 (.take 3 (.take 4 (.take 5 (.take 6 (.take 7 (.take 8 (.take 9 (.one 10 (.take 11 (.take 12 (.take 13 (.take 14 (.take 15 (.take 16 (.take 17 (.take 18 (.take 19 (.take 20 (.take 21 (.take 22 (.one 23 (.take 24 (.take 25 .nil)))))))))))))))))))))))))) (by kernel_rfl) (by kernel_rfl) (fun _ _ d _ _ h => by cases d <;> exact h) (HS.out.below (Below.refl _ _).drew) ?_
        intro W0 hW0 hS0
        have hBW : Below wr.heap.size wr W0 := by subst hW0; exact (Below.refl _ _).drew
        clear hW0
        have hBc := hBW
        repeat (first
          | (refine ord_skip rfl ?_ ?_; rfl; simp only [pz])
          | (refine ord_take (v := ?_) rfl ?_ (fun W hW => ?_) ?_; rotate_left; rfl; (obtain ⟨hz0, hz1, hz2, hz3, hz4, hz5, hz6, hz7, hz8, hz9⟩ := hW; go_simp; (first | done | with_reducible rfl)); simp only [pz]))
        (refine ord_op rfl ?_ (fun K hK => ?_); rfl; go_simp; refine (Is_c x u _).mono ?_; rintro e W1 ⟨rfl, hb1⟩; rw [HP.out]; have hS1 := LsS.below hS0 hb1; replace hBc := hBc.trans (hb1.mono hBc.size); refine hK _ _ hS1 ?_; clear hK K; try simp only [pz])
        repeat (first
          | (refine ord_skip rfl ?_ ?_; rfl; simp only [pz])
          | (refine ord_take (v := ?_) rfl ?_ (fun W hW => ?_) ?_; rotate_left; rfl; (obtain ⟨hz0, hz1, hz2, hz3, hz4, hz5, hz6, hz7, hz8, hz9⟩ := hW; go_simp; (first | done | with_reducible rfl)); simp only [pz]))
        first
          | (refine ord_pass rfl ?_ hS1 ?_; rfl; simp only [pz]; have W2 := W1; have hS2 := hS1)
          | (refine ord_op rfl ?_ (fun K hK => ?_); rfl; go_simp; refine (Is_c y v _).mono ?_; rintro e W2 ⟨rfl, hb2⟩; rw [HP.out]; have hS2 := LsS.below hS1 hb2; replace hBc := hBc.trans (hb2.mono hBc.size); refine hK _ _ hS2 ?_; clear hK K; try simp only [pz])
        repeat (first
          | (refine ord_skip rfl ?_ ?_; rfl; simp only [pz])
          | (refine ord_take (v := ?_) rfl ?_ (fun W hW => ?_) ?_; rotate_left; rfl; (obtain ⟨hz0, hz1, hz2, hz3, hz4, hz5, hz6, hz7, hz8, hz9⟩ := hW; go_simp; (first | done | with_reducible rfl)); simp only [pz]))
        refine ord_nil ?_
        go_wp2_with fail
        go_ret
        refine ⟨ret_bool ?_, hBw.trans (hBc.mono hBw.size)⟩
        rw [HR.out]
        exact (all_range_false (k := k) (by rw [HST.out]; simp [HP.out]) hlt).symm
      · have HP := Lib.hid hp
        go_wp2_with fail
        cases hq : v.has y
        · have HQ := Lib.hid hq
          refine region_o (S := LsS w.heap.size b1 (o1 + k) b2 (o2 + k) b3 (o3 + k * 2) b4 (o4 + k * 2) (.slice (some ⟨b1, o1, none⟩) t.salt.length B.sc) (.slice (some ⟨b2, o2, none⟩) t.mud.length B.mc) (.slice (some ⟨b3, o3, none⟩) r.salt.length A.sc) (.slice (some ⟨b4, o4, none⟩) r.mud.length A.mc) x y u v) (.take 0 (.take 1 (.take 2 (.take 3 (.take 4 (.take 5 (.take 6 (.take 7 (.take 8 (.take 9 (.one 10 (.take 11 (.take 12 (.take 13 (.take 14 (.take 15 (.take 16 (.take 17 (.take 18 (.take 19 (.take 20 (.take 21 (.take 22 (.one 23 (.take 24 (.take 25 .nil)))))))))))))))))))))))))) (by kernel_rfl) (by kernel_rfl) (fun _ _ d _ _ h => by cases d <;> exact h) (HS.out.below (Below.refl _ _).drew) ?_
          intro W0 hW0 hS0
          have hBW : Below wr.heap.size wr W0 := by subst hW0; exact (Below.refl _ _).drew
          clear hW0
          have hBc := hBW
          repeat (first
            | (refine ord_skip rfl ?_ ?_; rfl; simp only [pz])
            | (refine ord_take (v := ?_) rfl ?_ (fun W hW => ?_) ?_; rotate_left; rfl; (obtain ⟨hz0, hz1, hz2, hz3, hz4, hz5, hz6, hz7, hz8, hz9⟩ := hW; go_simp; (first | done | with_reducible rfl)); simp only [pz]))
          (refine ord_op rfl ?_ (fun K hK => ?_); rfl; go_simp; refine (Is_c x u _).mono ?_; rintro e W1 ⟨rfl, hb1⟩; rw [HP.out]; have hS1 := LsS.below hS0 hb1; replace hBc := hBc.trans (hb1.mono hBc.size); refine hK _ _ hS1 ?_; clear hK K; try simp only [pz])
          repeat (first
            | (refine ord_skip rfl ?_ ?_; rfl; simp only [pz])
            | (refine ord_take (v := ?_) rfl ?_ (fun W hW => ?_) ?_; rotate_left; rfl; (obtain ⟨hz0, hz1, hz2, hz3, hz4, hz5, hz6, hz7, hz8, hz9⟩ := hW; go_simp; (first | done | with_reducible rfl)); simp only [pz]))
          first
            | (refine ord_pass rfl ?_ hS1 ?_; rfl; simp only [pz]; have W2 := W1; have hS2 := hS1)
            | (refine ord_op rfl ?_ (fun K hK => ?_); rfl; go_simp; refine (Is_c y v _).mono ?_; rintro e W2 ⟨rfl, hb2⟩; rw [HQ.out]; have hS2 := LsS.below hS1 hb2; replace hBc := hBc.trans (hb2.mono hBc.size); refine hK _ _ hS2 ?_; clear hK K; try simp only [pz])
          repeat (first
            | (refine ord_skip rfl ?_ ?_; rfl; simp only [pz])
            | (refine ord_take (v := ?_) rfl ?_ (fun W hW => ?_) ?_; rotate_left; rfl; (obtain ⟨hz0, hz1, hz2, hz3, hz4, hz5, hz6, hz7, hz8, hz9⟩ := hW; go_simp; (first | done | with_reducible rfl)); simp only [pz]))
          refine ord_nil ?_
          go_wp2_with fail
          go_ret
          refine ⟨ret_bool ?_, hBw.trans (hBc.mono hBw.size)⟩
          rw [HR.out]
          exact (all_range_false (k := k) (by rw [HST.out]; simp [HQ.out]) hlt).symm
        · have HQ := Lib.hid hq
          refine region_o (S := LsS w.heap.size b1 (o1 + k) b2 (o2 + k) b3 (o3 + k * 2) b4 (o4 + k * 2) (.slice (some ⟨b1, o1, none⟩) t.salt.length B.sc) (.slice (some ⟨b2, o2, none⟩) t.mud.length B.mc) (.slice (some ⟨b3, o3, none⟩) r.salt.length A.sc) (.slice (some ⟨b4, o4, none⟩) r.mud.length A.mc) x y u v) (.take 0 (.take 1 (.take 2 (.take 3 (.take 4 (.take 5 (.take 6 (.take 7 (.take 8 (.take 9 (.one 10 (.take 11 (.take 12 (.take 13 (.take 14 (.take 15 (.take 16 (.take 17 (.take 18 (.take 19 (.take 20 (.take 21 (.take 22 (.one 23 (.take 24 (.take 25 .nil)))))))))))))))))))))))))) (by kernel_rfl) (by kernel_rfl) (fun _ _ d _ _ h => by cases d <;> exact h) (HS.out.below (Below.refl _ _).drew) ?_
          intro W0 hW0 hS0
          have hBW : Below wr.heap.size wr W0 := by subst hW0; exact (Below.refl _ _).drew
          clear hW0
          have hBc := hBW
          repeat (first
            | (refine ord_skip rfl ?_ ?_; rfl; simp only [pz])
            | (refine ord_take (v := ?_) rfl ?_ (fun W hW => ?_) ?_; rotate_left; rfl; (obtain ⟨hz0, hz1, hz2, hz3, hz4, hz5, hz6, hz7, hz8, hz9⟩ := hW; go_simp; (first | done | with_reducible rfl)); simp only [pz]))
          (refine ord_op rfl ?_ (fun K hK => ?_); rfl; go_simp; refine (Is_c x u _).mono ?_; rintro e W1 ⟨rfl, hb1⟩; rw [HP.out]; have hS1 := LsS.below hS0 hb1; replace hBc := hBc.trans (hb1.mono hBc.size); refine hK _ _ hS1 ?_; clear hK K; try simp only [pz])
          repeat (first
            | (refine ord_skip rfl ?_ ?_; rfl; simp only [pz])
            | (refine ord_take (v := ?_) rfl ?_ (fun W hW => ?_) ?_; rotate_left; rfl; (obtain ⟨hz0, hz1, hz2, hz3, hz4, hz5, hz6, hz7, hz8, hz9⟩ := hW; go_simp; (first | done | with_reducible rfl)); simp only [pz]))
          first
            | (refine ord_pass rfl ?_ hS1 ?_; rfl; simp only [pz]; have W2 := W1; have hS2 := hS1)
            | (refine ord_op rfl ?_ (fun K hK => ?_); rfl; go_simp; refine (Is_c y v _).mono ?_; rintro e W2 ⟨rfl, hb2⟩; rw [HQ.out]; have hS2 := LsS.below hS1 hb2; replace hBc := hBc.trans (hb2.mono hBc.size); refine hK _ _ hS2 ?_; clear hK K; try simp only [pz])
          repeat (first
            | (refine ord_skip rfl ?_ ?_; rfl; simp only [pz])
            | (refine ord_take (v := ?_) rfl ?_ (fun W hW => ?_) ?_; rotate_left; rfl; (obtain ⟨hz0, hz1, hz2, hz3, hz4, hz5, hz6, hz7, hz8, hz9⟩ := hW; go_simp; (first | done | with_reducible rfl)); simp only [pz]))
          refine ord_nil ?_
          go_wp2_with fail
          go_roundw
          case rel => exact ⟨k + 1, by omega, by go_num, by show _ = _; rw [all_range_succ, HT.out, HST.out, HP.out, HQ.out]; rfl, HB.out.trans (hBc.mono HB.out.size)⟩
          case measure => simp [intOf]; omega
    · have hkk : k = t.salt.length := by omega
      have HK := Lib.hid hkk
      have z0 : wr.cell? ⟨w.heap.size + 1, 0, none⟩ = some (.slice B.sa t.salt.length B.sc) := by rw [cell_blk hq1]; rfl
      clear hkk hX hq1
      go_wp2_with fail
      go_ret
      exact ⟨ret_bool (by rw [HR.out, ← HK.out, HT.out]), hBw⟩
end Go.Proofs.Ytgglfngkomgadaa
/- Walks of the reference: IsTruth, Can, All. -/
namespace Go.Proofs.Ytgglfngkomgadaa
open Go.RowKit Go.Shelf
set_option linter.unusedVariables false
set_option linter.unusedSimpArgs false
set_option maxRecDepth 100000

structure BxT (q u : Nat) (r : Riv) (A : RA) (t : Tr) (B : TA) (W : World) : Prop where
  bx : BoxR q r A W
  t0 : W.cell? ⟨u, 0, none⟩ = some (.slice B.sa t.salt.length B.sc)
  t1 : W.cell? ⟨u, 1, none⟩ = some (.slice B.ma t.mud.length B.mc)
theorem BxT.below {q u : Nat} {r : Riv} {A : RA} {t : Tr} {B : TA} {W W' : World} (h : BxT q u r A t B W) (hb : Below W.heap.size W W') : BxT q u r A t B W' :=
  have hw : Wr (fun _ => False) W W' := Wr.of_below hb
  ⟨h.bx.below hb, hw.cell (fun e => e) h.t0, hw.cell (fun e => e) h.t1⟩

def isTruthR (r : Riv) (t : Tr) : Bool := listedR r t && decide (rightR r t = fullR r)
theorem listedR_len {r : Riv} {t : Tr} (h : listedR r t = true) : t.salt.length = r.salt.length ∧ t.mud.length = r.mud.length := by
  simp only [listedR, Bool.and_eq_true, decide_eq_true_eq] at h
  exact ⟨h.1, h.2.1⟩
set_option maxHeartbeats 2000000 in
theorem IsTruth_c (r : Riv) (A : RA) (t : Tr) (B : TA) (w : World) (ok : Ok r) (hr : Rd w r A) (ht : RdT w t B) :
    Calls Try.prog 47 #[rivV r A, trV t B] w fun e w' => e = .returned (.bool (isTruthR r t)) ∧ Below w.heap.size w w' := by
  obtain ⟨R, hR⟩ : ∃ R, R = isTruthR r t := ⟨_, rfl⟩
  have HR := Lib.hid hR
  rw [← hR]
  have HOK := Lib.hid ok
  have tb := two_boxes w r A t B
  have TB := Lib.hid tb
  clear hR ok tb
  go_enter Try.func47, Try.ntmps47
  go_wp2_with fail
  obtain ⟨wq, hwq⟩ : ∃ wq, (w.alloc (rO26 r A)).alloc (tO64 t B) = wq := ⟨_, rfl⟩
  rw [hwq] at TB ⊢
  have hS0 : BxT w.heap.size (w.heap.size + 1) r A t B wq := ⟨TB.out.1, by rw [cell_blk TB.out.2.1]; rfl, by rw [cell_blk TB.out.2.1]; rfl⟩
  have HS0 := Lib.hid hS0
  have hz := TB.out.2.2.size
  clear hwq hS0
  cases hli : listedR r t
  · have HLI := Lib.hid hli
    refine region_o (S := BxT w.heap.size (w.heap.size + 1) r A t B) (.take 0 (.take 1 (.one 2 (.take 3 (.take 4 (.take 5 (.take 7 (.one 6 (.one 8 (.take 9 (.take 10 (.take 11 .nil)))))))))))) (by kernel_rfl) (by kernel_rfl) (fun _ _ d _ _ h => by cases d <;> exact h) (HS0.out.below (Below.refl _ _).drew) ?_
    intro W0 hW0 hS0
    have hBW : Below wq.heap.size wq W0 := by subst hW0; exact (Below.refl _ _).drew
    clear hW0
    have hBc := hBW
    repeat (first
      | (refine ord_skip rfl ?_ ?_; rfl; simp only [pz])
      | (refine ord_take (v := ?_) rfl ?_ (fun W hW => ?_) ?_; rotate_left; rfl; (obtain ⟨⟨k0, k1, k2, k3, k4, k5, k6, k7, k8, k9⟩, t0, t1⟩ := hW; go_simp; (first | done | with_reducible rfl)); simp only [pz]))
    (refine ord_op rfl ?_ (fun K hK => ?_); rfl; go_simp; refine (IsListed_c r A t B _ (hr.below (TB.out.2.2.trans (hBc.mono hz))) (ht.below (TB.out.2.2.trans (hBc.mono hz))) (by have := HOK.out.ns; have := HOK.out.nm; omega) (by have := HOK.out.ns; have := HOK.out.l5; omega)).mono ?_; rintro e W1 ⟨rfl, hb1⟩; rw [HLI.out]; have hS1 := BxT.below hS0 hb1; replace hBc := hBc.trans (hb1.mono hBc.size); refine hK _ _ hS1 ?_; clear hK K; try simp only [pz])
    repeat (first
      | (refine ord_skip rfl ?_ ?_; rfl; simp only [pz])
      | (refine ord_take (v := ?_) rfl ?_ (fun W hW => ?_) ?_; rotate_left; rfl; (obtain ⟨⟨k0, k1, k2, k3, k4, k5, k6, k7, k8, k9⟩, t0, t1⟩ := hW; go_simp; (first | done | with_reducible rfl)); simp only [pz]))
    first
      | (refine ord_pass rfl ?_ hS1 ?_; rfl; simp only [pz]; have W2 := W1; have hS2 := hS1)
      | (refine ord_op rfl ?_ (fun K hK => ?_); rfl; go_simp; refine (Right_c r A t B _ HOK.out (hr.below (TB.out.2.2.trans (hBc.mono hz))) (ht.below (TB.out.2.2.trans (hBc.mono hz))) (by have := (listedR_len HLI.out).1; have := HOK.out.ns; omega) (by have := (listedR_len HLI.out).2; have := HOK.out.nm; omega)).mono ?_; rintro e W2 ⟨rfl, hb2⟩; have hS2 := BxT.below hS1 hb2; replace hBc := hBc.trans (hb2.mono hBc.size); refine hK _ _ hS2 ?_; clear hK K; try simp only [pz])
    first
      | (refine ord_pass rfl ?_ hS2 ?_; rfl; simp only [pz]; have W3 := W2; have hS3 := hS2)
      | (refine ord_op rfl ?_ (fun K hK => ?_); rfl; go_simp; refine (Full_c r A _ HOK.out.ng).mono ?_; rintro e W3 ⟨rfl, hb3⟩; have hS3 := BxT.below hS2 hb3; replace hBc := hBc.trans (hb3.mono hBc.size); refine hK _ _ hS3 ?_; clear hK K; try simp only [pz])
    repeat (first
      | (refine ord_skip rfl ?_ ?_; rfl; simp only [pz])
      | (refine ord_take (v := ?_) rfl ?_ (fun W hW => ?_) ?_; rotate_left; rfl; (obtain ⟨⟨k0, k1, k2, k3, k4, k5, k6, k7, k8, k9⟩, t0, t1⟩ := hW; go_simp; (first | done | with_reducible rfl)); simp only [pz]))
    refine ord_nil ?_
    go_wp2_with fail
    go_ret
    exact ⟨ret_bool (by rw [HR.out, isTruthR, HLI.out]; rfl), TB.out.2.2.trans (hBc.mono hz)⟩
  · have HLI := Lib.hid hli
    refine region_o (S := BxT w.heap.size (w.heap.size + 1) r A t B) (.take 0 (.take 1 (.one 2 (.take 3 (.take 4 (.take 5 (.take 7 (.one 6 (.one 8 (.take 9 (.take 10 (.take 11 .nil)))))))))))) (by kernel_rfl) (by kernel_rfl) (fun _ _ d _ _ h => by cases d <;> exact h) (HS0.out.below (Below.refl _ _).drew) ?_
    intro W0 hW0 hS0
    have hBW : Below wq.heap.size wq W0 := by subst hW0; exact (Below.refl _ _).drew
    clear hW0
    have hBc := hBW
    repeat (first
      | (refine ord_skip rfl ?_ ?_; rfl; simp only [pz])
      | (refine ord_take (v := ?_) rfl ?_ (fun W hW => ?_) ?_; rotate_left; rfl; (obtain ⟨⟨k0, k1, k2, k3, k4, k5, k6, k7, k8, k9⟩, t0, t1⟩ := hW; go_simp; (first | done | with_reducible rfl)); simp only [pz]))
    (refine ord_op rfl ?_ (fun K hK => ?_); rfl; go_simp; refine (IsListed_c r A t B _ (hr.below (TB.out.2.2.trans (hBc.mono hz))) (ht.below (TB.out.2.2.trans (hBc.mono hz))) (by have := HOK.out.ns; have := HOK.out.nm; omega) (by have := HOK.out.ns; have := HOK.out.l5; omega)).mono ?_; rintro e W1 ⟨rfl, hb1⟩; rw [HLI.out]; have hS1 := BxT.below hS0 hb1; replace hBc := hBc.trans (hb1.mono hBc.size); refine hK _ _ hS1 ?_; clear hK K; try simp only [pz])
    repeat (first
      | (refine ord_skip rfl ?_ ?_; rfl; simp only [pz])
      | (refine ord_take (v := ?_) rfl ?_ (fun W hW => ?_) ?_; rotate_left; rfl; (obtain ⟨⟨k0, k1, k2, k3, k4, k5, k6, k7, k8, k9⟩, t0, t1⟩ := hW; go_simp; (first | done | with_reducible rfl)); simp only [pz]))
    first
      | (refine ord_pass rfl ?_ hS1 ?_; rfl; simp only [pz]; have W2 := W1; have hS2 := hS1)
      | (refine ord_op rfl ?_ (fun K hK => ?_); rfl; go_simp; refine (Right_c r A t B _ HOK.out (hr.below (TB.out.2.2.trans (hBc.mono hz))) (ht.below (TB.out.2.2.trans (hBc.mono hz))) (by have := (listedR_len HLI.out).1; have := HOK.out.ns; omega) (by have := (listedR_len HLI.out).2; have := HOK.out.nm; omega)).mono ?_; rintro e W2 ⟨rfl, hb2⟩; have hS2 := BxT.below hS1 hb2; replace hBc := hBc.trans (hb2.mono hBc.size); refine hK _ _ hS2 ?_; clear hK K; try simp only [pz])
    first
      | (refine ord_pass rfl ?_ hS2 ?_; rfl; simp only [pz]; have W3 := W2; have hS3 := hS2)
      | (refine ord_op rfl ?_ (fun K hK => ?_); rfl; go_simp; refine (Full_c r A _ HOK.out.ng).mono ?_; rintro e W3 ⟨rfl, hb3⟩; have hS3 := BxT.below hS2 hb3; replace hBc := hBc.trans (hb3.mono hBc.size); refine hK _ _ hS3 ?_; clear hK K; try simp only [pz])
    repeat (first
      | (refine ord_skip rfl ?_ ?_; rfl; simp only [pz])
      | (refine ord_take (v := ?_) rfl ?_ (fun W hW => ?_) ?_; rotate_left; rfl; (obtain ⟨⟨k0, k1, k2, k3, k4, k5, k6, k7, k8, k9⟩, t0, t1⟩ := hW; go_simp; (first | done | with_reducible rfl)); simp only [pz]))
    refine ord_nil ?_
    go_wp2_with fail
    go_ret
    exact ⟨ret_bool (by rw [HR.out, isTruthR, HLI.out]; rw [Bool.true_and, Bool.eq_iff_iff]; simp only [beq_iff_eq, decide_eq_true_eq]; omega), TB.out.2.2.trans (hBc.mono hz)⟩

/-- Are some gauges right together in some truth? -/
def canF (xs : List Nat) (m : Nat) : Bool := xs.any fun x => (x &&& m) == m
def natI (xs : List Nat) : List Int := xs.map Int.ofNat
theorem and_sm2 : ∀ P : Nat, P < 64 → ∀ Q : Nat, Q < 64 → Go.bits BinOp.and IntKind.i64 (P : Int) (Q : Int) = ((P &&& Q : Nat) : Int) := by decide +kernel
theorem Can_c (a : Option Addr) (xs : List Nat) (c m : Nat) (w : World) (h : Sl w a (ints (natI xs))) (hlen : xs.length ≤ 100000) (hm : m < 64) (hx : ∀ x ∈ xs, x < 64) :
    Calls Try.prog 108 #[.slice a xs.length c, .int .i64 m] w fun e w' => e = .returned (.bool (canF xs m)) ∧ w = w' := by
  obtain ⟨R, hR⟩ : ∃ R, R = canF xs m := ⟨_, rfl⟩
  have HR := Lib.hid hR
  rw [← hR]
  clear hR
  go_enter Try.func108, Try.ntmps108
  go_wp2_with fail
  go_loop [5] (fun i => ∃ k : Nat, k ≤ xs.length ∧ i = .int .i64 k ∧ Hid ((xs.take k).any (fun x => (x &&& m) == m) = false)) (fun i => xs.length - (intOf i).toNat)
  case atStart => exact ⟨0, Nat.zero_le _, rfl, by show _ = _; simp⟩
  case round =>
    obtain ⟨k, hk, rfl, HT⟩ := hrel
    by_cases hlt : k < xs.length
    · obtain ⟨x, hxk⟩ : ∃ x, xs[k]? = some x := ⟨_, List.getElem?_eq_getElem hlt⟩
      have HX := Lib.hid hxk
      have hx6 := hx x (List.mem_of_getElem? hxk)
      obtain ⟨b, o, rfl, d⟩ := h.int_at (k := k) (x := (x : Int)) (by simp [natI, hxk])
      have hand := and_sm2 x hx6 m hm
      have ew : IntKind.i64.wrap ((k : Int) + 1) = (k : Int) + 1 := IntWalk.i64_in _ (by omega)
      clear hxk
      obtain ⟨q, hq⟩ : ∃ q, q = x &&& m := ⟨_, rfl⟩
      have HQ := Lib.hid hq
      rw [← hq] at hand
      clear hq
      by_cases hxy : q = m
      · have exy : ((q : Int) == (m : Int)) = true := by simp; omega
        have HXY := Lib.hid hxy
        clear hxy
        go_wp2_with fail
        go_ret
        refine ⟨ret_bool ?_, rfl⟩
        rw [HR.out]
        symm
        exact List.any_eq_true.2 ⟨x, List.mem_of_getElem? HX.out, by rw [← HQ.out, HXY.out]; simp⟩
      · have exy : ((q : Int) == (m : Int)) = false := by simp; omega
        have HXY := Lib.hid hxy
        clear hxy
        go_wp2_with fail
        go_round
        case rel =>
          refine ⟨k + 1, by omega, by go_num, ?_⟩
          show _ = _
          rw [take_any_succ _ _ _ _ HX.out, HT.out, ← HQ.out]
          simpa using HXY.out
        case measure => simp [intOf]; omega
    · have hkl : k = xs.length := by omega
      have HK := Lib.hid hkl
      clear hkl
      go_wp2_with fail
      go_ret
      have h1 := HT.out
      rw [HK.out, List.take_length] at h1
      exact ⟨ret_bool (by rw [HR.out, canF, h1]), rfl⟩
end Go.Proofs.Ytgglfngkomgadaa
/- Walks of the reference: All, Truths. -/
namespace Go.Proofs.Ytgglfngkomgadaa
open Go.RowKit Go.Shelf
set_option linter.unusedVariables false
set_option linter.unusedSimpArgs false
set_option maxRecDepth 100000

theorem many_bd {r : Riv} (ok : Ok r) : 1 ≤ manyI r ∧ manyI r ≤ 3000 := by
  have h1 : ∀ x ∈ r.salt, 1 ≤ x.size := fun x hx => by have := ok.so x hx; unfold Rg.size; omega
  have h2 : ∀ x ∈ r.mud, 1 ≤ x.size := fun x hx => by have := ok.mo x hx; unfold Rg.size; omega
  have := (many_cap (r := r) (by have := ok.ns; have := ok.nm; omega) h1 h2).1
  have hp := prodS_pos (r.salt ++ r.mud) (fun x hx => by rcases List.mem_append.1 hx with h | h; exact h1 x h; exact h2 x h)
  omega
theorem nthF_len : ∀ (n : Nat) (la lb : List Rg), la.length = lb.length → (nthF n la lb).1.length = la.length ∧ (nthF n la lb).2.length = lb.length
  | _, [], [], _ => by simp [nthF]
  | _, [], _ :: _, h => by simp at h
  | _, _ :: _, [], h => by simp at h
  | n, a :: la, b :: lb, h => by
    have ih := nthF_len (n / a.size.toNat / b.size.toNat) la lb (by simpa using h)
    simp [nthF, ih]
theorem nthT_len {r : Riv} (ok : Ok r) (n : Nat) : ((nthT r n).salt.length : Int) = r.last + 1 ∧ ((nthT r n).mud.length : Int) = r.last + 1 := by
  have h := nthF_len n r.salt r.mud (by have := ok.ns; have := ok.nm; omega)
  have := ok.ns
  have := ok.nm
  show (((nthF n r.salt r.mud).1.length : Nat) : Int) = _ ∧ (((nthF n r.salt r.mud).2.length : Nat) : Int) = _
  omega
def allF (r : Riv) : List Nat := (List.range (manyI r).toNat).map fun n => rightR r (nthT r n)

set_option maxHeartbeats 3000000 in
theorem All_c (r : Riv) (A : RA) (w : World) (ok : Ok r) (hr : Rd w r A) :
    Calls Try.prog 52 #[rivV r A] w (RetOwn 3 1 (allF r).length (ints (natI (allF r))) w) := by
  have HOK := Lib.hid ok
  have hgs : ∀ x ∈ r.salt, GoodRg x := fun x hx => ok.so x hx
  have hgm : ∀ x ∈ r.mud, GoodRg x := fun x hx => ok.mo x hx
  have hnm : r.mud.length = r.salt.length := by have := ok.ns; have := ok.nm; omega
  have hns : r.salt.length ≤ 30 := by have := ok.ns; have := ok.l5; omega
  have hmb := many_bd ok
  obtain ⟨N, hN⟩ : ∃ N : Nat, manyI r = N := ⟨(manyI r).toNat, by omega⟩
  have HN := Lib.hid hN
  have hN3 : N ≤ 3000 := by omega
  have hbx := box_new w r A
  have HNM := Lib.hid hnm
  have hb0 := (Below.refl w.heap.size w).alloc (Nat.le_refl _) (rO26 r A)
  obtain ⟨L, hL⟩ : ∃ L, L = allF r := ⟨_, rfl⟩
  have hL2 : L = (List.range N).map fun n => rightR r (nthT r n) := by rw [hL, allF, hN]; rfl
  have HL := Lib.hid hL2
  rw [← hL]
  clear ok hmb hnm hL hL2 hN
  go_enter Try.func52, Try.ntmps52
  go_wp2_with fail
  obtain ⟨wq, hwq⟩ : ∃ wq, w.alloc (rO26 r A) = wq := ⟨_, rfl⟩
  rw [hwq] at hbx hb0 ⊢
  have hz := hb0.size
  have HBX := Lib.hid hbx
  have hlq := cell_lt hbx.k0
  clear hwq hbx
  go_loopw [3, 4] (fun v i wr => ∃ (k : Nat), k ≤ N ∧ i = .int .i64 k ∧ wr.ownsRow wq.heap.size 3 1 v k (ints (natI ((List.range k).map fun n => rightR r (nthT r n)))) ∧ Below wq.heap.size wq wr) (fun _ i _ => N - (intOf i).toNat)
  case atStart => exact ⟨0, Nat.zero_le _, rfl, World.ownsRow_nil _ _ _ _, Below.refl _ _⟩
  case round =>
    obtain ⟨k, hk, rfl, hown, hB⟩ := hrel
    obtain ⟨av, cv, rfl, -, -⟩ := own_Sl hown
    have HB := Lib.hid hB
    have HOW := Lib.hid hown
    have hX := HBX.out.below hB
    have HX := Lib.hid hX
    obtain ⟨k0, k1, k2, k3, k4, k5, k6, k7, k8, k9⟩ := hX
    have hBw := hb0.trans (hB.mono hz)
    clear hown hB
    go_wp2_with fail
    refine (Many_c r A _ (hr.below hBw) HNM.out hns hgs hgm).mono ?_
    rintro e w1 ⟨rfl, hb1⟩
    rw [HN.out]
    have HB1 := Lib.hid (HB.out.trans (hb1.mono HB.out.size))
    have HO1 := Lib.hid (own_below HOW.out hb1)
    have HX1 := Lib.hid (HX.out.below hb1)
    clear k0 k1 k2 k3 k4 k5 k6 k7 k8 k9 hBw hb1
    have ew : IntKind.i64.wrap ((k : Int) + 1) = (k : Int) + 1 := IntWalk.i64_in _ (by omega)
    by_cases hlt : k < N
    · have htl := Lib.hid (nthT_len HOK.out k)
      have hB0 := hb0.trans (HB1.out.mono hz)
      go_wp2_with fail
      refine region_o (S := BoxR w.heap.size r A) (.take 0 (.take 1 (.take 2 (.take 3 (.one 4 (.one 5 (.one 6 (.one 7 (.take 8 .nil))))))))) (by kernel_rfl) (by kernel_rfl) (fun _ _ d _ _ h => by cases d <;> exact h) (HX1.out.below (Below.refl _ _).drew) ?_
      intro W0 hW0 hS0
      have hBW : Below w1.heap.size w1 W0 := by subst hW0; exact (Below.refl _ _).drew
      clear hW0
      have hBc := hBW
      repeat (first
        | (refine ord_skip rfl ?_ ?_; rfl; simp only [pz])
        | (refine ord_take (v := ?_) rfl ?_ (fun W hW => ?_) ?_; rotate_left; rfl; (obtain ⟨k0, k1, k2, k3, k4, k5, k6, k7, k8, k9⟩ := hW; go_simp; (first | done | with_reducible rfl)); simp only [pz]))
      (refine ord_op rfl ?_ (fun K hK => ?_); rfl; go_simp; refine (Nth_c r A k _ (hr.below (hB0.trans (hBc.mono hB0.size))) (by omega) HNM.out hns hgs hgm).mono ?_; rintro e W1 ⟨B9, rfl, hrt, hb1, -⟩; have hS1 := BoxR.below hS0 hb1; replace hBc := hBc.trans (hb1.mono hBc.size); refine hK _ _ hS1 ?_; clear hK K; try simp only [pz])
      (refine ord_op rfl ?_ (fun K hK => ?_); rfl; go_simp; refine (Right_c r A (nthT r k) B9 _ HOK.out (hr.below (hB0.trans (hBc.mono hB0.size))) hrt htl.out.1 htl.out.2).mono ?_; rintro e W2 ⟨rfl, hb2⟩; have hS2 := BoxR.below hS1 hb2; replace hBc := hBc.trans (hb2.mono hBc.size); obtain ⟨rv, hrv⟩ : ∃ n, n = rightR r (nthT r k) := ⟨_, rfl⟩; have HRV := Lib.hid hrv; rw [← hrv]; clear hrv hrt; refine hK _ _ hS2 ?_; clear hK K; try simp only [pz])
      refine ord_op rfl ?_ (fun K hK => ?_)
      rfl
      go_simp
      obtain ⟨bx, hbx⟩ : ∃ n, n = (W2).heap.size := ⟨_, rfl⟩
      obtain ⟨W3, hW3⟩ : ∃ Q, Q = (W2).alloc (.cells #[.int .i64 rv] 3) := ⟨_, rfl⟩
      have hbb : Below (W2).heap.size (W2) W3 := by rw [hW3]; exact (Below.refl _ _).alloc (Nat.le_refl _) _
      have hsl : Sl W3 (some ⟨bx, 0, none⟩) [.int .i64 rv] := by rw [hW3, hbx]; exact Sl_new _ _ _
      replace hBc := hBc.trans (hbb.mono hBc.size)
      have hS3 := BoxR.below hS2 hbb
      rw [← hW3, ← hbx]
      clear hW3 hbx hbb
      refine hK _ _ hS3 ?_
      clear hK K
      try simp only [pz]
      refine ord_op rfl ?_ (fun K hK => ?_)
      rfl
      skip
      have hoc := own_below HO1.out hBc
      
      refine wp_app elInt _ _ rfl rfl rfl hoc hsl rfl (by intro u hu; simp at hu; subst hu; rfl) (by omega) (by omega) (by have := HB1.out.size; have := hBc.size; omega) ?_
      intro v7 W4 hown7 hg7 hor7
      have hS4 := BoxR.wr hS3 (wr_grown hg7) (fun e => by have h1 := (hoc.lt _ e).1; have h2 := hlq; omega)
      have hBg := (HB1.out.trans (hBc.mono HB1.out.size)).grown hg7 (by have := HB1.out.size; have := hBc.size; omega) (fun k e => (hoc.lt k e).1)
      refine hK _ _ hS4 ?_
      clear hK K
      try simp only [pz]
      repeat (first
        | (refine ord_skip rfl ?_ ?_; rfl; simp only [pz])
        | (refine ord_take (v := ?_) rfl ?_ (fun W hW => ?_) ?_; rotate_left; rfl; (obtain ⟨k0, k1, k2, k3, k4, k5, k6, k7, k8, k9⟩ := hW; go_simp; (first | done | with_reducible rfl)); simp only [pz]))
      refine ord_nil ?_
      go_wp2_with fail
      go_roundw
      case rel =>
        refine ⟨k + 1, by omega, by go_num, ?_, hBg⟩
        have e1 : ints (natI ((List.range (k + 1)).map fun n => rightR r (nthT r n))) = ints (natI ((List.range k).map fun n => rightR r (nthT r n))) ++ [.int .i64 rv] := by
          rw [List.range_succ]; simp [ints, natI, HRV.out]
        rw [e1]
        exact hown7
      case measure => simp [intOf, ew]; omega
    · have hkk : k = N := by omega
      have HK := Lib.hid hkk
      clear hkk
      go_wp2_with fail
      go_ret
      refine ⟨_, rfl, ?_, hb0.trans (HB1.out.mono hz)⟩
      have h1 := own_mono HO1.out hz
      rw [HL.out, ← HK.out]
      simpa using h1

/-- Truths in memory: their lists' headers. -/
def trsV (xs : List (Tr × TA)) : List Value := xs.flatMap fun x => [.slice x.2.sa x.1.salt.length x.2.sc, .slice x.2.ma x.1.mud.length x.2.mc]
theorem len_trsV (xs : List (Tr × TA)) : (trsV xs).length = xs.length * 2 := len_flat (fun x : Tr × TA => [Value.slice x.2.sa x.1.salt.length x.2.sc, .slice x.2.ma x.1.mud.length x.2.mc]) 2 (fun _ => rfl) xs
theorem ones_trsV (xs : List (Tr × TA)) : Ones (trsV xs) := by
  intro u hu; simp [trsV] at hu; obtain ⟨a, b, _, rfl | rfl⟩ := hu <;> rfl
theorem trsV_append (xs ys : List (Tr × TA)) : trsV (xs ++ ys) = trsV xs ++ trsV ys := by simp [trsV]
/-- A list of truths in memory. -/
def TL (w : World) (a : Option Addr) (ts : List Tr) : Prop := ∃ xs : List (Tr × TA), xs.map Prod.fst = ts ∧ Sl w a (trsV xs) ∧ ∀ x ∈ xs, RdT w x.1 x.2
theorem TL.below {w W : World} {a : Option Addr} {ts : List Tr} (h : TL w a ts) (hb : Below w.heap.size w W) : TL W a ts := by
  obtain ⟨xs, h1, h2, h3⟩ := h
  exact ⟨xs, h1, h2.below hb, fun x hx => (h3 x hx).below hb⟩
theorem TL.at {w : World} {a : Option Addr} {ts : List Tr} (h : TL w a ts) {k : Nat} {t : Tr} (hk : ts[k]? = some t) :
    ∃ b o B, a = some ⟨b, o, none⟩ ∧ w.cell? ⟨b, o + k * 2, none⟩ = some (.slice B.sa t.salt.length B.sc) ∧ w.cell? ⟨b, o + k * 2 + 1, none⟩ = some (.slice B.ma t.mud.length B.mc) ∧ RdT w t B := by
  obtain ⟨xs, rfl, h2, h3⟩ := h
  rw [List.getElem?_map] at hk
  obtain ⟨⟨t', B⟩, hx, rfl⟩ := Option.map_eq_some_iff.1 hk
  have f := flat_at (fun x : Tr × TA => [Value.slice x.2.sa x.1.salt.length x.2.sc, .slice x.2.ma x.1.mud.length x.2.mc]) 2 (fun _ => rfl) xs k (t', B)
  rcases h2 with h | ⟨b, o, ha, hA⟩
  · have := f 0 hx (by omega); unfold trsV at h; rw [h] at this; simp at this
  · refine ⟨b, o, B, ha, hA (k * 2) _ (by simpa [trsV] using f 0 hx (by omega)), ?_, h3 _ (List.mem_of_getElem? hx)⟩
    have := hA (k * 2 + 1) _ (by simpa [trsV] using f 1 hx (by omega))
    simpa [Nat.add_assoc] using this
end Go.Proofs.Ytgglfngkomgadaa
/- Walks of the reference: Truths. -/
namespace Go.Proofs.Ytgglfngkomgadaa
open Go.RowKit Go.Shelf
set_option linter.unusedVariables false
set_option linter.unusedSimpArgs false
set_option maxRecDepth 100000

def fitB (r : Riv) (n : Nat) : Bool := decide (rightR r (nthT r n) = fullR r)
/-- The truths of a river, as the reference numbers them. -/
def truthsK (r : Riv) (k : Nat) : List Tr := ((List.range k).filter (fitB r)).map (nthT r)
def truthsR (r : Riv) : List Tr := truthsK r (manyI r).toNat
theorem truthsK_succ (r : Riv) (k : Nat) : truthsK r (k + 1) = truthsK r k ++ (if fitB r k then [nthT r k] else []) := by
  unfold truthsK
  rw [List.range_succ, List.filter_append, List.map_append]
  cases h : fitB r k <;> simp [h]
/-- Truths in a row of the call's own. -/
structure TrI (base : Nat) (ov : Value) (xs : List (Tr × TA)) (W : World) : Prop where
  own : W.ownsRow base 64 2 ov xs.length (trsV xs)
  rd : ∀ x ∈ xs, RdT W x.1 x.2
  sep : ∀ x ∈ xs, ∀ ad, (x.2.sa = some ad ∨ x.2.ma = some ad) → ov.ownBlock ≠ some ad.block ∧ ad.block < W.heap.size
theorem TrI.below {base : Nat} {ov : Value} {xs : List (Tr × TA)} {W W' : World} (h : TrI base ov xs W) (hb : Below W.heap.size W W') : TrI base ov xs W' :=
  ⟨own_below h.own hb, fun x hx => (h.rd x hx).below hb, fun x hx ad e => ⟨(h.sep x hx ad e).1, Nat.lt_of_lt_of_le (h.sep x hx ad e).2 hb.size⟩⟩
theorem TrI.push {base : Nat} {ov v7 : Value} {xs : List (Tr × TA)} {W W2 : World} {t : Tr} {B : TA} (h : TrI base ov xs W) (hg : W.grownBy W2 ov.ownBlock) (hown : W2.ownsRow base 64 2 v7 (xs.length + 1) (trsV xs ++ [.slice B.sa t.salt.length B.sc, .slice B.ma t.mud.length B.mc]))
    (hor : v7.ownBlock = ov.ownBlock ∨ v7.ownBlock = some W.heap.size) (ht : RdT W t B) (hs : ∀ ad, (B.sa = some ad ∨ B.ma = some ad) → ov.ownBlock ≠ some ad.block ∧ ad.block < W.heap.size) : TrI base v7 (xs ++ [(t, B)]) W2 := by
  have hw := wr_grown hg
  have hall : ∀ x ∈ xs ++ [(t, B)], RdT W x.1 x.2 ∧ ∀ ad, (x.2.sa = some ad ∨ x.2.ma = some ad) → ov.ownBlock ≠ some ad.block ∧ ad.block < W.heap.size := by
    intro x hx
    rcases List.mem_append.1 hx with hx | hx
    · exact ⟨h.rd x hx, h.sep x hx⟩
    · simp at hx; subst hx; exact ⟨ht, hs⟩
  refine ⟨by rw [List.length_append, trsV_append]; exact hown, fun x hx => ?_, fun x hx ad e => ?_⟩
  · obtain ⟨h1, h2⟩ := hall x hx
    exact ⟨h1.s.wr hw (fun ad e k => (h2 ad (.inl e)).1 k), h1.m.wr hw (fun ad e k => (h2 ad (.inr e)).1 k)⟩
  · obtain ⟨h1, h2⟩ := hall x hx
    have h3 := h2 ad e
    refine ⟨fun k => ?_, Nat.lt_of_lt_of_le h3.2 hg.size⟩
    rcases hor with e2 | e2
    · exact h3.1 (e2 ▸ k)
    · rw [e2] at k
      have := Option.some.inj k
      omega
def RetTL (ts : List Tr) (w : World) (e : Ending) (w' : World) : Prop := ∃ a c, e = .returned (.slice a ts.length c) ∧ TL w' a ts ∧ Below w.heap.size w w'

set_option maxHeartbeats 4000000 in
theorem Truths_c (r : Riv) (A : RA) (w : World) (ok : Ok r) (hr : Rd w r A) :
    Calls Try.prog 71 #[rivV r A] w (RetTL (truthsR r) w) := by
  have HOK := Lib.hid ok
  have hgs : ∀ x ∈ r.salt, GoodRg x := fun x hx => ok.so x hx
  have hgm : ∀ x ∈ r.mud, GoodRg x := fun x hx => ok.mo x hx
  have hnm : r.mud.length = r.salt.length := by have := ok.ns; have := ok.nm; omega
  have hns : r.salt.length ≤ 30 := by have := ok.ns; have := ok.l5; omega
  have hmb := many_bd ok
  obtain ⟨N, hN⟩ : ∃ N : Nat, manyI r = N := ⟨(manyI r).toNat, by omega⟩
  have HN := Lib.hid hN
  have hN3 : N ≤ 3000 := by omega
  have hbx := box_new w r A
  have HNM := Lib.hid hnm
  have hb0 := (Below.refl w.heap.size w).alloc (Nat.le_refl _) (rO26 r A)
  have hl0 := ok.l0
  obtain ⟨L, hL⟩ : ∃ L, L = truthsR r := ⟨_, rfl⟩
  have hL2 : L = truthsK r N := by rw [hL, truthsR, hN]; rfl
  have HL := Lib.hid hL2
  rw [← hL]
  clear ok hmb hnm hL hL2 hN
  go_enter Try.func71, Try.ntmps71
  go_wp2_with fail
  obtain ⟨wq, hwq⟩ : ∃ wq, w.alloc (rO26 r A) = wq := ⟨_, rfl⟩
  rw [hwq] at hbx hb0 ⊢
  have hz := hb0.size
  have HBX := Lib.hid hbx
  have hlq := cell_lt hbx.k0
  clear hwq hbx
  go_loopw [3, 4, 5] (fun v i _ wr => ∃ (k : Nat) (xs : List (Tr × TA)), k ≤ N ∧ i = .int .i64 k ∧ xs.length ≤ k ∧ TrI wq.heap.size v xs wr ∧ Hid (xs.map Prod.fst = truthsK r k) ∧ Below wq.heap.size wq wr) (fun _ i _ _ => N - (intOf i).toNat)
  case atStart => exact ⟨0, [], Nat.zero_le _, rfl, Nat.le_refl _, ⟨World.ownsRow_nil _ _ _ _, fun x hx => (by cases hx), fun x hx => (by cases hx)⟩, rfl, Below.refl _ _⟩
  case round =>
    obtain ⟨k, xs, hk, rfl, hxk, hI, HT, hB⟩ := hrel
    obtain ⟨av, cv, rfl, -, -⟩ := own_Sl hI.own
    have HB := Lib.hid hB
    have HI := Lib.hid hI
    have HX3 := Lib.hid (show xs.length ≤ 3000 ∧ xs.length ≤ k from ⟨by omega, hxk⟩)
    have hX := HBX.out.below hB
    have HX := Lib.hid hX
    obtain ⟨k0, k1, k2, k3, k4, k5, k6, k7, k8, k9⟩ := hX
    have hBw := hb0.trans (hB.mono hz)
    clear hI hB
    go_wp2_with fail
    refine (Many_c r A _ (hr.below hBw) HNM.out hns hgs hgm).mono ?_
    rintro e w1 ⟨rfl, hb1⟩
    rw [HN.out]
    have HB1 := Lib.hid (HB.out.trans (hb1.mono HB.out.size))
    have HI1 := Lib.hid (HI.out.below hb1)
    have HX1 := Lib.hid (HX.out.below hb1)
    clear k0 k1 k2 k3 k4 k5 k6 k7 k8 k9 hBw hb1
    have ew : IntKind.i64.wrap ((k : Int) + 1) = (k : Int) + 1 := IntWalk.i64_in _ (by omega)
    by_cases hlt : k < N
    · have htl := Lib.hid (nthT_len HOK.out k)
      have hB0 := hb0.trans (HB1.out.mono hz)
      obtain ⟨k0, k1, k2, k3, k4, k5, k6, k7, k8, k9⟩ := HX1.out
      go_wp2_with fail
      refine (Nth_c r A k _ (hr.below hB0) (by omega) HNM.out hns hgs hgm).mono ?_
      rintro e w2 ⟨B9, rfl, hrt, hb2, hnew⟩
      have HB2 := Lib.hid (HB1.out.trans (hb2.mono HB1.out.size))
      have HI2 := Lib.hid (HI1.out.below hb2)
      have HX2 := Lib.hid (HX1.out.below hb2)
      have hz12 := hb2.size
      clear k0 k1 k2 k3 k4 k5 k6 k7 k8 k9 hB0 hb2
      go_wp2_with fail
      obtain ⟨w3, hw3⟩ : ∃ Q, Q = w2.alloc (.cells #[.slice B9.sa (nthT r k).salt.length B9.sc, .slice B9.ma (nthT r k).mud.length B9.mc] 64) := ⟨_, rfl⟩
      have hb3 : Below w2.heap.size w2 w3 := by rw [hw3]; exact (Below.refl _ _).alloc (Nat.le_refl _) _
      have ht3 : w3.heap[w2.heap.size]? = some (.cells #[.slice B9.sa (nthT r k).salt.length B9.sc, .slice B9.ma (nthT r k).mud.length B9.mc] 64 (0, 0)) := by rw [hw3]; exact heap_alloc_new _ _
      have hS0 : BxT w.heap.size w2.heap.size r A (nthT r k) B9 w3 := ⟨HX2.out.below hb3, by rw [cell_blk ht3]; rfl, by rw [cell_blk ht3]; rfl⟩
      have HS0 := Lib.hid hS0
      have HB3 := Lib.hid (HB2.out.trans (hb3.mono HB2.out.size))
      have HI3 := Lib.hid (HI2.out.below hb3)
      have HR3 := Lib.hid (hrt.below hb3)
      have hz23 := hb3.size
      have hNew := Lib.hid hnew
      rw [← hw3]
      clear hw3 hb3 ht3 hS0 hrt hnew
      have hB0 := hb0.trans (HB3.out.mono hz)
      refine region_o (S := BxT w.heap.size w2.heap.size r A (nthT r k) B9) (.take 0 (.take 1 (.take 3 (.one 2 (.one 4 (.take 5 .nil)))))) (by kernel_rfl) (by kernel_rfl) (fun _ _ d _ _ h => by cases d <;> exact h) (HS0.out.below (Below.refl _ _).drew) ?_
      intro W0 hW0 hS0
      have hBW : Below w3.heap.size w3 W0 := by subst hW0; exact (Below.refl _ _).drew
      clear hW0
      have hBc := hBW
      repeat (first
        | (refine ord_skip rfl ?_ ?_; rfl; simp only [pz])
        | (refine ord_take (v := ?_) rfl ?_ (fun W hW => ?_) ?_; rotate_left; rfl; (obtain ⟨⟨k0, k1, k2, k3, k4, k5, k6, k7, k8, k9⟩, t0, t1⟩ := hW; go_simp; (first | done | with_reducible rfl)); simp only [pz]))
      (refine ord_op rfl ?_ (fun K hK => ?_); rfl; go_simp; refine (Right_c r A (nthT r k) B9 _ HOK.out (hr.below (hB0.trans (hBc.mono hB0.size))) (HR3.out.below hBc) htl.out.1 htl.out.2).mono ?_; rintro e W1 ⟨rfl, hb1⟩; have hS1 := BxT.below hS0 hb1; replace hBc := hBc.trans (hb1.mono hBc.size); refine hK _ _ hS1 ?_; clear hK K; try simp only [pz])
      (refine ord_op rfl ?_ (fun K hK => ?_); rfl; go_simp; refine (Full_c r A _ HOK.out.ng).mono ?_; rintro e W2 ⟨rfl, hb2⟩; have hS2 := BxT.below hS1 hb2; replace hBc := hBc.trans (hb2.mono hBc.size); refine hK _ _ hS2 ?_; clear hK K; try simp only [pz])
      repeat (first
        | (refine ord_skip rfl ?_ ?_; rfl; simp only [pz])
        | (refine ord_take (v := ?_) rfl ?_ (fun W hW => ?_) ?_; rotate_left; rfl; (obtain ⟨⟨k0, k1, k2, k3, k4, k5, k6, k7, k8, k9⟩, t0, t1⟩ := hW; go_simp; (first | done | with_reducible rfl)); simp only [pz]))
      refine ord_nil ?_
      have HSL := Lib.hid hS2
      have HBC := Lib.hid (HB3.out.trans (hBc.mono HB3.out.size))
      have HIC := Lib.hid (HI3.out.below hBc)
      have HRC := Lib.hid (HR3.out.below hBc)
      have hzc := hBc.size
      have t0 := hS2.t0
      have t1 := hS2.t1
      obtain ⟨w5, hw5⟩ : ∃ Q, Q = W2 := ⟨_, rfl⟩
      subst hw5
      clear hBc hBW
      obtain ⟨rv, hrv⟩ : ∃ n, n = rightR r (nthT r k) := ⟨_, rfl⟩
      obtain ⟨fv, hfv⟩ : ∃ n, n = fullR r := ⟨_, rfl⟩
      have HRV := Lib.hid hrv
      have HFV := Lib.hid hfv
      rw [← hrv, ← hfv]
      clear hrv hfv
      by_cases hfit : rv = fv
      · have hq : ((rv : Int) == (fv : Int)) = true := by simp; omega
        have HFT := Lib.hid hfit
        rw [hq]
        clear hfit hq
        go_wp2_with (at_builtin; refine wpList_app elTr rfl _ _ rfl rfl rfl (HIC.out.own.alloc _) (Sl_new w5 [.slice B9.sa (nthT r k).salt.length B9.sc, .slice B9.ma (nthT r k).mud.length B9.mc] 64) rfl (by intro u hu; simp at hu; rcases hu with rfl | rfl <;> rfl) (by have := HX3.out; omega) (by omega) (by have := HBC.out.size; simp; omega) ?_; intro v7 w6 hown7 hg7 hor7)
        go_roundw
        case rel =>
          refine ⟨k + 1, xs ++ [(nthT r k, B9)], by omega, by go_num, by have := HX3.out; simp; omega, ?_, ?_, ?_⟩
          · have hal : Below w5.heap.size w5 (w5.alloc (.cells #[.slice B9.sa (nthT r k).salt.length B9.sc, .slice B9.ma (nthT r k).mud.length B9.mc] 64)) := (Below.refl _ _).alloc (Nat.le_refl _) _
            refine (HIC.out.below hal).push hg7 hown7 hor7 (HRC.out.below hal) (fun ad e => ⟨fun q => ?_, ?_⟩)
            · have h1 := (HI1.out.own.lt _ q).2
              have h2 := hNew.out ad e
              omega
            · have hl0' := htl.out
              have hlt5 : ad.block < w5.heap.size := by
                rcases e with e | e
                · obtain ⟨x0, hx0⟩ : ∃ x, (nthT r k).salt[0]? = some x := ⟨_, List.getElem?_eq_getElem (by omega)⟩
                  obtain ⟨b, o, ea, d⟩ := HRC.out.s.int_at hx0
                  rw [ea] at e; cases e; exact cell_lt d
                · obtain ⟨x0, hx0⟩ : ∃ x, (nthT r k).mud[0]? = some x := ⟨_, List.getElem?_eq_getElem (by omega)⟩
                  obtain ⟨b, o, ea, d⟩ := HRC.out.m.int_at hx0
                  rw [ea] at e; cases e; exact cell_lt d
              have := hal.size
              omega
          · show _ = _
            rw [truthsK_succ, List.map_append, HT.out]
            have hf : fitB r k = true := by unfold fitB; rw [← HRV.out, ← HFV.out, HFT.out]; simp
            rw [hf]; rfl
          · exact (HBC.out.alloc HBC.out.size _).grown hg7 (by have := HBC.out.size; simp; omega) (fun q e => (HI1.out.own.lt q e).1)
        case measure => simp [intOf]; omega
      · have hq : ((rv : Int) == (fv : Int)) = false := by simp; omega
        have HFT := Lib.hid hfit
        rw [hq]
        clear hfit hq
        go_wp2_with fail
        go_roundw
        case rel =>
          refine ⟨k + 1, xs, by omega, by go_num, by have := HX3.out; omega, HIC.out, ?_, HBC.out⟩
          show _ = _
          rw [truthsK_succ, HT.out]
          have hf : fitB r k = false := by unfold fitB; rw [← HRV.out, ← HFV.out]; simpa using HFT.out
          rw [hf]; simp
        case measure => simp [intOf]; omega
    · have hkk : k = N := by omega
      have HK := Lib.hid hkk
      clear hkk
      go_wp2_with fail
      go_ret
      have hln : L.length = xs.length := by rw [HL.out, ← HK.out, ← HT.out, List.length_map]
      obtain ⟨_, _, hev, -, hsl⟩ := own_Sl HI1.out.own
      cases hev
      exact ⟨av, cv, by rw [hln]; rfl, ⟨xs, by rw [HT.out, HL.out, HK.out], hsl, HI1.out.rd⟩, hb0.trans (HB1.out.mono hz)⟩
end Go.Proofs.Ytgglfngkomgadaa
