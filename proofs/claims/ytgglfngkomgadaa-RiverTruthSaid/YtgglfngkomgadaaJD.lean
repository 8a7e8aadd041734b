/- the error of a river; gauges -/
import Derived.Test.YtgglfngkomgadaaJC
import Derived.Test.YtgglfngkomgadaaJA
/- Walks: CheckRiver. -/
namespace Go.Proofs.Ytgglfngkomgadaa
open Go.RowKit
set_option linter.unusedVariables false
set_option linter.unusedSimpArgs false
set_option maxRecDepth 100000

/-- It returns this error; nothing that was there has turned. -/
abbrev RetErr (n : Int) (w : World) (e : Ending) (w' : World) : Prop := e = .returned (.int .i64 n) ∧ Below w.heap.size w w'

theorem capS_take (rs : List Rg) (k : Nat) (x : Rg) (h : rs[k]? = some x) : capS (rs.take (k + 1)) = min (capS (rs.take k) * x.size) 2001 := by
  rw [List.take_add_one, h]; simp [capS, List.foldl_append]

set_option maxHeartbeats 1000000 in
theorem check_last5 (r : Riv) (A : RA) (w : World) (hr : Rd w r A) (hl1 : r.salt.length ≤ 30) (hl2 : r.mud.length ≤ 30) (hl3 : r.use.length ≤ 30) (hl4 : r.gauges.length ≤ 30)  (h : 5 < r.last) :
    Calls Try.prog 46 #[rivV r A] w (RetErr 3 w) := by
  have hB0 := (Below.refl w.heap.size w).alloc (Nat.le_refl _) (rivO r A)
  go_enter Try.func46, Try.ntmps46
  go_wp2_with fail
  go_ret
  exact ⟨rfl, hB0⟩

set_option maxHeartbeats 1000000 in
theorem check_gauges5 (r : Riv) (A : RA) (w : World) (hr : Rd w r A) (hl1 : r.salt.length ≤ 30) (hl2 : r.mud.length ≤ 30) (hl3 : r.use.length ≤ 30) (hl4 : r.gauges.length ≤ 30) (h1 : r.last ≤ 5) (h : 5 < r.gauges.length) :
    Calls Try.prog 46 #[rivV r A] w (RetErr 3 w) := by
  have g1 : decide (5 < r.last) = false := by simp; omega
  have hB0 := (Below.refl w.heap.size w).alloc (Nat.le_refl _) (rivO r A)
  go_enter Try.func46, Try.ntmps46
  go_wp2_with fail
  go_ret
  exact ⟨rfl, hB0⟩

set_option maxHeartbeats 1000000 in
theorem check_last0 (r : Riv) (A : RA) (w : World) (hr : Rd w r A) (hl1 : r.salt.length ≤ 30) (hl2 : r.mud.length ≤ 30) (hl3 : r.use.length ≤ 30) (hl4 : r.gauges.length ≤ 30) (h1 : r.last ≤ 5) (h2 : r.gauges.length ≤ 5) (h : r.last < 0) :
    Calls Try.prog 46 #[rivV r A] w (RetErr 1 w) := by
  have g1 : decide (5 < r.last) = false := by simp; omega
  have g2 : decide ((5 : Int) < (r.gauges.length : Int)) = false := by simp; omega
  have hB0 := (Below.refl w.heap.size w).alloc (Nat.le_refl _) (rivO r A)
  go_enter Try.func46, Try.ntmps46
  go_wp2_with fail
  go_ret
  exact ⟨rfl, hB0⟩

set_option maxHeartbeats 1000000 in
theorem check_nsalt (r : Riv) (A : RA) (w : World) (hr : Rd w r A) (hl1 : r.salt.length ≤ 30) (hl2 : r.mud.length ≤ 30) (hl3 : r.use.length ≤ 30) (hl4 : r.gauges.length ≤ 30) (h1 : r.last ≤ 5) (h2 : r.gauges.length ≤ 5) (h3 : 0 ≤ r.last) (h : (r.salt.length : Int) ≠ r.last + 1) :
    Calls Try.prog 46 #[rivV r A] w (RetErr 1 w) := by
  have g1 : decide (5 < r.last) = false := by simp; omega
  have g2 : decide ((5 : Int) < (r.gauges.length : Int)) = false := by simp; omega
  have g3 : decide (r.last < 0) = false := by simp; omega
  have g4 : ((r.salt.length : Int) != r.last + 1) = true := by simpa using h
  have hB0 := (Below.refl w.heap.size w).alloc (Nat.le_refl _) (rivO r A)
  go_enter Try.func46, Try.ntmps46
  go_wp2_with fail
  go_ret
  exact ⟨rfl, hB0⟩

set_option maxHeartbeats 1000000 in
theorem check_nmud (r : Riv) (A : RA) (w : World) (hr : Rd w r A) (hl1 : r.salt.length ≤ 30) (hl2 : r.mud.length ≤ 30) (hl3 : r.use.length ≤ 30) (hl4 : r.gauges.length ≤ 30) (h1 : r.last ≤ 5) (h2 : r.gauges.length ≤ 5) (h3 : 0 ≤ r.last) (h4 : (r.salt.length : Int) = r.last + 1) (h : (r.mud.length : Int) ≠ r.last + 1) :
    Calls Try.prog 46 #[rivV r A] w (RetErr 1 w) := by
  have g1 : decide (5 < r.last) = false := by simp; omega
  have g2 : decide ((5 : Int) < (r.gauges.length : Int)) = false := by simp; omega
  have g3 : decide (r.last < 0) = false := by simp; omega
  have g4 : ((r.salt.length : Int) != r.last + 1) = false := by simpa using h4
  have g5 : ((r.mud.length : Int) != r.last + 1) = true := by simpa using h
  have hB0 := (Below.refl w.heap.size w).alloc (Nat.le_refl _) (rivO r A)
  have Hh4 := Lib.hid h4
  clear h4
  go_enter Try.func46, Try.ntmps46
  go_wp2_with fail
  go_ret
  exact ⟨rfl, hB0⟩

set_option maxHeartbeats 1000000 in
theorem check_nuse (r : Riv) (A : RA) (w : World) (hr : Rd w r A) (hl1 : r.salt.length ≤ 30) (hl2 : r.mud.length ≤ 30) (hl3 : r.use.length ≤ 30) (hl4 : r.gauges.length ≤ 30) (h1 : r.last ≤ 5) (h2 : r.gauges.length ≤ 5) (h3 : 0 ≤ r.last) (h4 : (r.salt.length : Int) = r.last + 1) (h5 : (r.mud.length : Int) = r.last + 1) (h : (r.use.length : Int) ≠ r.last + 1) :
    Calls Try.prog 46 #[rivV r A] w (RetErr 1 w) := by
  have g1 : decide (5 < r.last) = false := by simp; omega
  have g2 : decide ((5 : Int) < (r.gauges.length : Int)) = false := by simp; omega
  have g3 : decide (r.last < 0) = false := by simp; omega
  have g4 : ((r.salt.length : Int) != r.last + 1) = false := by simpa using h4
  have g5 : ((r.mud.length : Int) != r.last + 1) = false := by simpa using h5
  have g6 : ((r.use.length : Int) != r.last + 1) = true := by simpa using h
  have hB0 := (Below.refl w.heap.size w).alloc (Nat.le_refl _) (rivO r A)
  have Hh4 := Lib.hid h4
  have Hh5 := Lib.hid h5
  clear h4 h5
  go_enter Try.func46, Try.ntmps46
  go_wp2_with fail
  go_ret
  exact ⟨rfl, hB0⟩

set_option maxHeartbeats 1000000 in
theorem check_valid (r : Riv) (A : RA) (w : World) (hr : Rd w r A) (hl1 : r.salt.length ≤ 30) (hl2 : r.mud.length ≤ 30) (hl3 : r.use.length ≤ 30) (hl4 : r.gauges.length ≤ 30) (h1 : r.last ≤ 5) (h2 : r.gauges.length ≤ 5) (h3 : 0 ≤ r.last) (h4 : (r.salt.length : Int) = r.last + 1) (h5 : (r.mud.length : Int) = r.last + 1) (h6 : (r.use.length : Int) = r.last + 1) (h : r.validB = false) :
    Calls Try.prog 46 #[rivV r A] w (RetErr 1 w) := by
  have g1 : decide (5 < r.last) = false := by simp; omega
  have g2 : decide ((5 : Int) < (r.gauges.length : Int)) = false := by simp; omega
  have g3 : decide (r.last < 0) = false := by simp; omega
  have g4 : ((r.salt.length : Int) != r.last + 1) = false := by simpa using h4
  have g5 : ((r.mud.length : Int) != r.last + 1) = false := by simpa using h5
  have g6 : ((r.use.length : Int) != r.last + 1) = false := by simpa using h6
  have hB0 := (Below.refl w.heap.size w).alloc (Nat.le_refl _) (rivO r A)
  have Hh4 := Lib.hid h4
  have Hh5 := Lib.hid h5
  have Hh6 := Lib.hid h6
  clear h4 h5 h6
  go_enter Try.func46, Try.ntmps46
  go_wp2_with fail
  refine (valid_c r A _).mono ?_; rintro e w1 ⟨rfl, hb1⟩
  have hB1 := hB0.trans (hb1.mono hB0.size)
  have hz1 : w.heap.size < w1.heap.size := by have := hb1.size; simp at this; omega
  have hc1 : ∀ o, w1.cell? ⟨w.heap.size, o, none⟩ = (w.alloc (rivO r A)).cell? ⟨w.heap.size, o, none⟩ := fun o => hb1.cell (p := ⟨w.heap.size, o, none⟩) (by simp)
  go_wp2_with fail
  go_ret
  exact ⟨rfl, hB1⟩

set_option maxHeartbeats 1000000 in
theorem check_salts (r : Riv) (A : RA) (w : World) (hr : Rd w r A) (hl1 : r.salt.length ≤ 30) (hl2 : r.mud.length ≤ 30) (hl3 : r.use.length ≤ 30) (hl4 : r.gauges.length ≤ 30) (h1 : r.last ≤ 5) (h2 : r.gauges.length ≤ 5) (h3 : 0 ≤ r.last) (h4 : (r.salt.length : Int) = r.last + 1) (h5 : (r.mud.length : Int) = r.last + 1) (h6 : (r.use.length : Int) = r.last + 1) (h7 : r.validB = true) (h : r.salt.all (fun x => x.upTo 9) = false) :
    Calls Try.prog 46 #[rivV r A] w (RetErr 1 w) := by
  have g1 : decide (5 < r.last) = false := by simp; omega
  have g2 : decide ((5 : Int) < (r.gauges.length : Int)) = false := by simp; omega
  have g3 : decide (r.last < 0) = false := by simp; omega
  have g4 : ((r.salt.length : Int) != r.last + 1) = false := by simpa using h4
  have g5 : ((r.mud.length : Int) != r.last + 1) = false := by simpa using h5
  have g6 : ((r.use.length : Int) != r.last + 1) = false := by simpa using h6
  have hB0 := (Below.refl w.heap.size w).alloc (Nat.le_refl _) (rivO r A)
  have Hh4 := Lib.hid h4
  have Hh5 := Lib.hid h5
  have Hh6 := Lib.hid h6
  clear h4 h5 h6
  go_enter Try.func46, Try.ntmps46
  go_wp2_with fail
  refine (valid_c r A _).mono ?_; rintro e w1 ⟨rfl, hb1⟩
  have hB1 := hB0.trans (hb1.mono hB0.size)
  have hz1 : w.heap.size < w1.heap.size := by have := hb1.size; simp at this; omega
  have hc1 : ∀ o, w1.cell? ⟨w.heap.size, o, none⟩ = (w.alloc (rivO r A)).cell? ⟨w.heap.size, o, none⟩ := fun o => hb1.cell (p := ⟨w.heap.size, o, none⟩) (by simp)
  go_wp2_with fail
  refine (allSalt_c A.sa r.salt A.sc _ (hr.s.below hB1) (by omega)).mono ?_; rintro e w2 ⟨rfl, hb2⟩
  have hB2 := hB1.trans (hb2.mono hB1.size)
  have hz2 : w.heap.size < w2.heap.size := Nat.lt_of_lt_of_le hz1 hb2.size
  have hc2 : ∀ o, w2.cell? ⟨w.heap.size, o, none⟩ = (w.alloc (rivO r A)).cell? ⟨w.heap.size, o, none⟩ := fun o => (hb2.cell (p := ⟨w.heap.size, o, none⟩) hz1).trans (hc1 o)
  clear hc1
  go_wp2_with fail
  go_ret
  exact ⟨rfl, hB2⟩

set_option maxHeartbeats 1000000 in
theorem check_muds (r : Riv) (A : RA) (w : World) (hr : Rd w r A) (hl1 : r.salt.length ≤ 30) (hl2 : r.mud.length ≤ 30) (hl3 : r.use.length ≤ 30) (hl4 : r.gauges.length ≤ 30) (h1 : r.last ≤ 5) (h2 : r.gauges.length ≤ 5) (h3 : 0 ≤ r.last) (h4 : (r.salt.length : Int) = r.last + 1) (h5 : (r.mud.length : Int) = r.last + 1) (h6 : (r.use.length : Int) = r.last + 1) (h7 : r.validB = true) (h8 : r.salt.all (fun x => x.upTo 9) = true) (h : r.mud.all (fun x => x.upTo 9) = false) :
    Calls Try.prog 46 #[rivV r A] w (RetErr 1 w) := by
  have g1 : decide (5 < r.last) = false := by simp; omega
  have g2 : decide ((5 : Int) < (r.gauges.length : Int)) = false := by simp; omega
  have g3 : decide (r.last < 0) = false := by simp; omega
  have g4 : ((r.salt.length : Int) != r.last + 1) = false := by simpa using h4
  have g5 : ((r.mud.length : Int) != r.last + 1) = false := by simpa using h5
  have g6 : ((r.use.length : Int) != r.last + 1) = false := by simpa using h6
  have hB0 := (Below.refl w.heap.size w).alloc (Nat.le_refl _) (rivO r A)
  have Hh4 := Lib.hid h4
  have Hh5 := Lib.hid h5
  have Hh6 := Lib.hid h6
  clear h4 h5 h6
  go_enter Try.func46, Try.ntmps46
  go_wp2_with fail
  refine (valid_c r A _).mono ?_; rintro e w1 ⟨rfl, hb1⟩
  have hB1 := hB0.trans (hb1.mono hB0.size)
  have hz1 : w.heap.size < w1.heap.size := by have := hb1.size; simp at this; omega
  have hc1 : ∀ o, w1.cell? ⟨w.heap.size, o, none⟩ = (w.alloc (rivO r A)).cell? ⟨w.heap.size, o, none⟩ := fun o => hb1.cell (p := ⟨w.heap.size, o, none⟩) (by simp)
  go_wp2_with fail
  refine (allSalt_c A.sa r.salt A.sc _ (hr.s.below hB1) (by omega)).mono ?_; rintro e w2 ⟨rfl, hb2⟩
  have hB2 := hB1.trans (hb2.mono hB1.size)
  have hz2 : w.heap.size < w2.heap.size := Nat.lt_of_lt_of_le hz1 hb2.size
  have hc2 : ∀ o, w2.cell? ⟨w.heap.size, o, none⟩ = (w.alloc (rivO r A)).cell? ⟨w.heap.size, o, none⟩ := fun o => (hb2.cell (p := ⟨w.heap.size, o, none⟩) hz1).trans (hc1 o)
  clear hc1
  go_wp2_with fail
  refine (allSalt_c A.ma r.mud A.mc _ (hr.m.below hB2) (by omega)).mono ?_; rintro e w3 ⟨rfl, hb3⟩
  have hB3 := hB2.trans (hb3.mono hB2.size)
  have hz3 : w.heap.size < w3.heap.size := Nat.lt_of_lt_of_le hz2 hb3.size
  have hc3 : ∀ o, w3.cell? ⟨w.heap.size, o, none⟩ = (w.alloc (rivO r A)).cell? ⟨w.heap.size, o, none⟩ := fun o => (hb3.cell (p := ⟨w.heap.size, o, none⟩) hz2).trans (hc2 o)
  clear hc2
  go_wp2_with fail
  go_ret
  exact ⟨rfl, hB3⟩

set_option maxHeartbeats 1000000 in
theorem check_uses (r : Riv) (A : RA) (w : World) (hr : Rd w r A) (hl1 : r.salt.length ≤ 30) (hl2 : r.mud.length ≤ 30) (hl3 : r.use.length ≤ 30) (hl4 : r.gauges.length ≤ 30) (h1 : r.last ≤ 5) (h2 : r.gauges.length ≤ 5) (h3 : 0 ≤ r.last) (h4 : (r.salt.length : Int) = r.last + 1) (h5 : (r.mud.length : Int) = r.last + 1) (h6 : (r.use.length : Int) = r.last + 1) (h7 : r.validB = true) (h8 : r.salt.all (fun x => x.upTo 9) = true) (h9 : r.mud.all (fun x => x.upTo 9) = true) (h : r.use.all (fun u => inB u 0 99) = false) :
    Calls Try.prog 46 #[rivV r A] w (RetErr 1 w) := by
  have g1 : decide (5 < r.last) = false := by simp; omega
  have g2 : decide ((5 : Int) < (r.gauges.length : Int)) = false := by simp; omega
  have g3 : decide (r.last < 0) = false := by simp; omega
  have g4 : ((r.salt.length : Int) != r.last + 1) = false := by simpa using h4
  have g5 : ((r.mud.length : Int) != r.last + 1) = false := by simpa using h5
  have g6 : ((r.use.length : Int) != r.last + 1) = false := by simpa using h6
  have hB0 := (Below.refl w.heap.size w).alloc (Nat.le_refl _) (rivO r A)
  have Hh4 := Lib.hid h4
  have Hh5 := Lib.hid h5
  have Hh6 := Lib.hid h6
  clear h4 h5 h6
  go_enter Try.func46, Try.ntmps46
  go_wp2_with fail
  refine (valid_c r A _).mono ?_; rintro e w1 ⟨rfl, hb1⟩
  have hB1 := hB0.trans (hb1.mono hB0.size)
  have hz1 : w.heap.size < w1.heap.size := by have := hb1.size; simp at this; omega
  have hc1 : ∀ o, w1.cell? ⟨w.heap.size, o, none⟩ = (w.alloc (rivO r A)).cell? ⟨w.heap.size, o, none⟩ := fun o => hb1.cell (p := ⟨w.heap.size, o, none⟩) (by simp)
  go_wp2_with fail
  refine (allSalt_c A.sa r.salt A.sc _ (hr.s.below hB1) (by omega)).mono ?_; rintro e w2 ⟨rfl, hb2⟩
  have hB2 := hB1.trans (hb2.mono hB1.size)
  have hz2 : w.heap.size < w2.heap.size := Nat.lt_of_lt_of_le hz1 hb2.size
  have hc2 : ∀ o, w2.cell? ⟨w.heap.size, o, none⟩ = (w.alloc (rivO r A)).cell? ⟨w.heap.size, o, none⟩ := fun o => (hb2.cell (p := ⟨w.heap.size, o, none⟩) hz1).trans (hc1 o)
  clear hc1
  go_wp2_with fail
  refine (allSalt_c A.ma r.mud A.mc _ (hr.m.below hB2) (by omega)).mono ?_; rintro e w3 ⟨rfl, hb3⟩
  have hB3 := hB2.trans (hb3.mono hB2.size)
  have hz3 : w.heap.size < w3.heap.size := Nat.lt_of_lt_of_le hz2 hb3.size
  have hc3 : ∀ o, w3.cell? ⟨w.heap.size, o, none⟩ = (w.alloc (rivO r A)).cell? ⟨w.heap.size, o, none⟩ := fun o => (hb3.cell (p := ⟨w.heap.size, o, none⟩) hz2).trans (hc2 o)
  clear hc2
  go_wp2_with fail
  refine (allAmount_c A.ua r.use A.uc _ (hr.u.below hB3) (by omega)).mono ?_; rintro e w4 ⟨rfl, hb4⟩
  have hB4 := hB3.trans (hb4.mono hB3.size)
  have hz4 : w.heap.size < w4.heap.size := Nat.lt_of_lt_of_le hz3 hb4.size
  have hc4 : ∀ o, w4.cell? ⟨w.heap.size, o, none⟩ = (w.alloc (rivO r A)).cell? ⟨w.heap.size, o, none⟩ := fun o => (hb4.cell (p := ⟨w.heap.size, o, none⟩) hz3).trans (hc3 o)
  clear hc3
  go_wp2_with fail
  go_ret
  exact ⟨rfl, hB4⟩

set_option maxHeartbeats 1000000 in
theorem check_gaugesOk (r : Riv) (A : RA) (w : World) (hr : Rd w r A) (hl1 : r.salt.length ≤ 30) (hl2 : r.mud.length ≤ 30) (hl3 : r.use.length ≤ 30) (hl4 : r.gauges.length ≤ 30) (h1 : r.last ≤ 5) (h2 : r.gauges.length ≤ 5) (h3 : 0 ≤ r.last) (h4 : (r.salt.length : Int) = r.last + 1) (h5 : (r.mud.length : Int) = r.last + 1) (h6 : (r.use.length : Int) = r.last + 1) (h7 : r.validB = true) (h8 : r.salt.all (fun x => x.upTo 9) = true) (h9 : r.mud.all (fun x => x.upTo 9) = true) (h10 : r.use.all (fun u => inB u 0 99) = true) (h : r.gauges.all (fun g => r.gaugeB g) = false) :
    Calls Try.prog 46 #[rivV r A] w (RetErr 1 w) := by
  have g1 : decide (5 < r.last) = false := by simp; omega
  have g2 : decide ((5 : Int) < (r.gauges.length : Int)) = false := by simp; omega
  have g3 : decide (r.last < 0) = false := by simp; omega
  have g4 : ((r.salt.length : Int) != r.last + 1) = false := by simpa using h4
  have g5 : ((r.mud.length : Int) != r.last + 1) = false := by simpa using h5
  have g6 : ((r.use.length : Int) != r.last + 1) = false := by simpa using h6
  have hB0 := (Below.refl w.heap.size w).alloc (Nat.le_refl _) (rivO r A)
  have Hh4 := Lib.hid h4
  have Hh5 := Lib.hid h5
  have Hh6 := Lib.hid h6
  clear h4 h5 h6
  go_enter Try.func46, Try.ntmps46
  go_wp2_with fail
  refine (valid_c r A _).mono ?_; rintro e w1 ⟨rfl, hb1⟩
  have hB1 := hB0.trans (hb1.mono hB0.size)
  have hz1 : w.heap.size < w1.heap.size := by have := hb1.size; simp at this; omega
  have hc1 : ∀ o, w1.cell? ⟨w.heap.size, o, none⟩ = (w.alloc (rivO r A)).cell? ⟨w.heap.size, o, none⟩ := fun o => hb1.cell (p := ⟨w.heap.size, o, none⟩) (by simp)
  go_wp2_with fail
  refine (allSalt_c A.sa r.salt A.sc _ (hr.s.below hB1) (by omega)).mono ?_; rintro e w2 ⟨rfl, hb2⟩
  have hB2 := hB1.trans (hb2.mono hB1.size)
  have hz2 : w.heap.size < w2.heap.size := Nat.lt_of_lt_of_le hz1 hb2.size
  have hc2 : ∀ o, w2.cell? ⟨w.heap.size, o, none⟩ = (w.alloc (rivO r A)).cell? ⟨w.heap.size, o, none⟩ := fun o => (hb2.cell (p := ⟨w.heap.size, o, none⟩) hz1).trans (hc1 o)
  clear hc1
  go_wp2_with fail
  refine (allSalt_c A.ma r.mud A.mc _ (hr.m.below hB2) (by omega)).mono ?_; rintro e w3 ⟨rfl, hb3⟩
  have hB3 := hB2.trans (hb3.mono hB2.size)
  have hz3 : w.heap.size < w3.heap.size := Nat.lt_of_lt_of_le hz2 hb3.size
  have hc3 : ∀ o, w3.cell? ⟨w.heap.size, o, none⟩ = (w.alloc (rivO r A)).cell? ⟨w.heap.size, o, none⟩ := fun o => (hb3.cell (p := ⟨w.heap.size, o, none⟩) hz2).trans (hc2 o)
  clear hc2
  go_wp2_with fail
  refine (allAmount_c A.ua r.use A.uc _ (hr.u.below hB3) (by omega)).mono ?_; rintro e w4 ⟨rfl, hb4⟩
  have hB4 := hB3.trans (hb4.mono hB3.size)
  have hz4 : w.heap.size < w4.heap.size := Nat.lt_of_lt_of_le hz3 hb4.size
  have hc4 : ∀ o, w4.cell? ⟨w.heap.size, o, none⟩ = (w.alloc (rivO r A)).cell? ⟨w.heap.size, o, none⟩ := fun o => (hb4.cell (p := ⟨w.heap.size, o, none⟩) hz3).trans (hc3 o)
  clear hc3
  go_wp2_with fail
  refine (allGauge_c r A A.ga r.gauges A.gc _ (hr.g.below hB4) (by omega)).mono ?_; rintro e w5 ⟨rfl, hb5⟩
  have hB5 := hB4.trans (hb5.mono hB4.size)
  have hz5 : w.heap.size < w5.heap.size := Nat.lt_of_lt_of_le hz4 hb5.size
  have hc5 : ∀ o, w5.cell? ⟨w.heap.size, o, none⟩ = (w.alloc (rivO r A)).cell? ⟨w.heap.size, o, none⟩ := fun o => (hb5.cell (p := ⟨w.heap.size, o, none⟩) hz4).trans (hc4 o)
  clear hc4
  go_wp2_with fail
  go_ret
  exact ⟨rfl, hB5⟩

set_option maxHeartbeats 2000000 in
theorem check_many (v : Int) (r : Riv) (A : RA) (w : World) (hr : Rd w r A) (hl1 : r.salt.length ≤ 30) (hl2 : r.mud.length ≤ 30) (hl3 : r.use.length ≤ 30) (hl4 : r.gauges.length ≤ 30) (h1 : r.last ≤ 5) (h2 : r.gauges.length ≤ 5) (h3 : 0 ≤ r.last) (h4 : (r.salt.length : Int) = r.last + 1) (h5 : (r.mud.length : Int) = r.last + 1) (h6 : (r.use.length : Int) = r.last + 1) (h7 : r.validB = true) (h8 : r.salt.all (fun x => x.upTo 9) = true) (h9 : r.mud.all (fun x => x.upTo 9) = true) (h10 : r.use.all (fun u => inB u 0 99) = true) (h11 : r.gauges.all (fun g => r.gaugeB g) = true) (hv : v = if capS (r.salt ++ r.mud) > 2000 then 3 else 0) :
    Calls Try.prog 46 #[rivV r A] w (RetErr v w) := by
  have hV := Lib.hid hv
  clear hv
  have g1 : decide (5 < r.last) = false := by simp; omega
  have g2 : decide ((5 : Int) < (r.gauges.length : Int)) = false := by simp; omega
  have g3 : decide (r.last < 0) = false := by simp; omega
  have g4 : ((r.salt.length : Int) != r.last + 1) = false := by simpa using h4
  have g5 : ((r.mud.length : Int) != r.last + 1) = false := by simpa using h5
  have g6 : ((r.use.length : Int) != r.last + 1) = false := by simpa using h6
  have hall : ∀ x ∈ r.salt ++ r.mud, 0 ≤ x.lo ∧ x.lo ≤ x.hi ∧ x.hi ≤ 9 := by
    intro x hx
    rcases List.mem_append.1 hx with hx | hx
    · have := List.all_eq_true.1 h8 x hx; simpa [Rg.upTo] using this
    · have := List.all_eq_true.1 h9 x hx; simpa [Rg.upTo] using this
  have hAll := Lib.hid hall
  clear hall
  have hB0 := (Below.refl w.heap.size w).alloc (Nat.le_refl _) (rivO r A)
  have Hh4 := Lib.hid h4
  have Hh5 := Lib.hid h5
  have Hh6 := Lib.hid h6
  clear h4 h5 h6
  go_enter Try.func46, Try.ntmps46
  go_wp2_with fail
  refine (valid_c r A _).mono ?_; rintro e w1 ⟨rfl, hb1⟩
  have hB1 := hB0.trans (hb1.mono hB0.size)
  have hz1 : w.heap.size < w1.heap.size := by have := hb1.size; simp at this; omega
  have hc1 : ∀ o, w1.cell? ⟨w.heap.size, o, none⟩ = (w.alloc (rivO r A)).cell? ⟨w.heap.size, o, none⟩ := fun o => hb1.cell (p := ⟨w.heap.size, o, none⟩) (by simp)
  go_wp2_with fail
  refine (allSalt_c A.sa r.salt A.sc _ (hr.s.below hB1) (by omega)).mono ?_; rintro e w2 ⟨rfl, hb2⟩
  have hB2 := hB1.trans (hb2.mono hB1.size)
  have hz2 : w.heap.size < w2.heap.size := Nat.lt_of_lt_of_le hz1 hb2.size
  have hc2 : ∀ o, w2.cell? ⟨w.heap.size, o, none⟩ = (w.alloc (rivO r A)).cell? ⟨w.heap.size, o, none⟩ := fun o => (hb2.cell (p := ⟨w.heap.size, o, none⟩) hz1).trans (hc1 o)
  clear hc1
  go_wp2_with fail
  refine (allSalt_c A.ma r.mud A.mc _ (hr.m.below hB2) (by omega)).mono ?_; rintro e w3 ⟨rfl, hb3⟩
  have hB3 := hB2.trans (hb3.mono hB2.size)
  have hz3 : w.heap.size < w3.heap.size := Nat.lt_of_lt_of_le hz2 hb3.size
  have hc3 : ∀ o, w3.cell? ⟨w.heap.size, o, none⟩ = (w.alloc (rivO r A)).cell? ⟨w.heap.size, o, none⟩ := fun o => (hb3.cell (p := ⟨w.heap.size, o, none⟩) hz2).trans (hc2 o)
  clear hc2
  go_wp2_with fail
  refine (allAmount_c A.ua r.use A.uc _ (hr.u.below hB3) (by omega)).mono ?_; rintro e w4 ⟨rfl, hb4⟩
  have hB4 := hB3.trans (hb4.mono hB3.size)
  have hz4 : w.heap.size < w4.heap.size := Nat.lt_of_lt_of_le hz3 hb4.size
  have hc4 : ∀ o, w4.cell? ⟨w.heap.size, o, none⟩ = (w.alloc (rivO r A)).cell? ⟨w.heap.size, o, none⟩ := fun o => (hb4.cell (p := ⟨w.heap.size, o, none⟩) hz3).trans (hc3 o)
  clear hc3
  go_wp2_with fail
  refine (allGauge_c r A A.ga r.gauges A.gc _ (hr.g.below hB4) (by omega)).mono ?_; rintro e w5 ⟨rfl, hb5⟩
  have hB5 := hB4.trans (hb5.mono hB4.size)
  have hz5 : w.heap.size < w5.heap.size := Nat.lt_of_lt_of_le hz4 hb5.size
  have hc5 : ∀ o, w5.cell? ⟨w.heap.size, o, none⟩ = (w.alloc (rivO r A)).cell? ⟨w.heap.size, o, none⟩ := fun o => (hb5.cell (p := ⟨w.heap.size, o, none⟩) hz4).trans (hc4 o)
  clear hc4
  go_wp2_with fail
  refine (ranges_c r A _ (hr.below hB5) hl1 hl2).mono ?_; rintro e w6 ⟨ra, rc, rfl, hnc, hsl, hb6⟩
  have hB6 := hB5.trans (hb6.mono hB5.size)
  have hz6 : w.heap.size < w6.heap.size := Nat.lt_of_lt_of_le hz5 hb6.size
  have hc6 : ∀ o, w6.cell? ⟨w.heap.size, o, none⟩ = (w.alloc (rivO r A)).cell? ⟨w.heap.size, o, none⟩ := fun o => (hb6.cell (p := ⟨w.heap.size, o, none⟩) hz5).trans (hc5 o)
  clear hc5
  obtain ⟨rs, hrs⟩ : ∃ rs, rs = r.salt ++ r.mud := ⟨_, rfl⟩
  rw [← hrs] at hsl hAll
  have hlen : r.salt.length + r.mud.length = rs.length := by rw [hrs, List.length_append]
  have hRS := Lib.hid hrs
  rw [hlen]
  have hL60 : rs.length ≤ 60 := by omega
  clear hrs hlen hc6
  go_wp2_with fail
  go_loopw [4, 6, 82] (fun m _ i wr => ∃ (k : Nat) (q : Int), k ≤ rs.length ∧ i = .int .i64 k ∧ m = .int .i64 q ∧ 0 ≤ q ∧ q ≤ 2001 ∧ q = capS (rs.take k) ∧ Below w6.heap.size w6 wr) (fun _ _ i _ => rs.length - (intOf i).toNat)
  case atStart => exact ⟨0, 1, Nat.zero_le _, rfl, rfl, by omega, by omega, rfl, Below.refl _ _⟩
  case round =>
    obtain ⟨k, q, hk, rfl, rfl, hq0, hq1, hqe, hB⟩ := hrel
    have hQ := Lib.hid hqe
    clear hqe
    by_cases hlt : k < rs.length
    · obtain ⟨x, hx⟩ : ∃ x, rs[k]? = some x := ⟨_, List.getElem?_eq_getElem hlt⟩
      have hX := Lib.hid hx
      obtain ⟨hx0, hx1, hx2⟩ := hAll.out x (List.mem_of_getElem? hx)
      obtain ⟨b, o, rfl, d1, d2⟩ := (hsl.below hB).rg_at hx
      clear hx
      have hmul : 0 ≤ q * (x.hi - x.lo + 1) ∧ q * (x.hi - x.lo + 1) ≤ 20010 := by
        constructor
        · exact Int.mul_nonneg hq0 (by omega)
        · exact Int.le_trans (Int.mul_le_mul_of_nonneg_left (show x.hi - x.lo + 1 ≤ 10 by omega) hq0) (by omega)
      go_wp2_with fail
      refine (size_c x _ (by omega) (by omega) (by omega)).mono ?_; rintro e v1 ⟨rfl, hbv⟩
      have hBv := hB.trans (((Below.refl _ wr).alloc (Nat.le_refl _) (.cells #[.int .i64 x.lo, .int .i64 x.hi] 49)).trans (hbv.mono (by simp)) |>.mono hB.size)
      have hm1 := hmul.1
      have hm2 := hmul.2
      clear hmul
      go_wp2_with (go_at_call 100; refine (minimum_c _ _ _ (q * (x.hi - x.lo + 1)) 2001 _ ?_ ?_).mono ?_; go_simp; go_simp; rintro e w' ⟨rfl, rfl⟩)
      go_roundw
      case rel => exact ⟨k + 1, _, by omega, by go_num, rfl, by omega, by omega, by rw [capS_take _ _ _ hX.out, ← hQ.out]; rfl, hBv.alloc hBv.size _⟩
      case measure => simp [intOf]; omega
    · have hBf := hB6.trans (hB.mono hB6.size)
      have hfin : q = capS (r.salt ++ r.mud) := by rw [hQ.out, List.take_of_length_le (by omega), hRS.out]
      have hF := Lib.hid hfin
      clear hfin
      by_cases hbig : 2000 < q
      · go_wp2_with fail
        go_ret
        exact ⟨ret_int (by rw [hV.out, ← hF.out, if_pos hbig]), hBf⟩
      · go_wp2_with fail
        go_ret
        exact ⟨ret_int (by rw [hV.out, ← hF.out, if_neg (by omega)]), hBf⟩

theorem check_c (r : Riv) (A : RA) (w : World) (hr : Rd w r A) (hl1 : r.salt.length ≤ 30) (hl2 : r.mud.length ≤ 30) (hl3 : r.use.length ≤ 30) (hl4 : r.gauges.length ≤ 30) :
    Calls Try.prog 46 #[rivV r A] w fun e w' => e = .returned (.int .i64 r.faultI) ∧ Below w.heap.size w w' := by
  unfold Riv.faultI
  by_cases h1 : 5 < r.last
  · rw [if_pos (Or.inl h1)]; exact check_last5 r A w hr hl1 hl2 hl3 hl4 h1
  by_cases h2 : 5 < r.gauges.length
  · rw [if_pos (Or.inr h2)]; exact check_gauges5 r A w hr hl1 hl2 hl3 hl4 (by omega) h2
  rw [if_neg (by rintro (h | h) <;> omega)]
  by_cases h3 : r.last < 0
  · rw [if_pos (Or.inl h3)]; exact check_last0 r A w hr hl1 hl2 hl3 hl4 (by omega) (by omega) h3
  by_cases h4 : (r.salt.length : Int) = r.last + 1
  rotate_left
  · rw [if_pos (Or.inr (Or.inl h4))]; exact check_nsalt r A w hr hl1 hl2 hl3 hl4 (by omega) (by omega) (by omega) h4
  by_cases h5 : (r.mud.length : Int) = r.last + 1
  rotate_left
  · rw [if_pos (Or.inr (Or.inr (Or.inl h5)))]; exact check_nmud r A w hr hl1 hl2 hl3 hl4 (by omega) (by omega) (by omega) h4 h5
  by_cases h6 : (r.use.length : Int) = r.last + 1
  rotate_left
  · rw [if_pos (Or.inr (Or.inr (Or.inr (Or.inl h6))))]; exact check_nuse r A w hr hl1 hl2 hl3 hl4 (by omega) (by omega) (by omega) h4 h5 h6
  cases h7 : r.validB
  · rw [if_pos (Or.inr (Or.inr (Or.inr (Or.inr rfl))))]; exact check_valid r A w hr hl1 hl2 hl3 hl4 (by omega) (by omega) (by omega) h4 h5 h6 h7
  rw [if_neg (by rintro (h | h | h | h | h) <;> first | omega | cases h)]
  cases h8 : r.salt.all (fun x => x.upTo 9)
  · rw [if_pos (Or.inl rfl)]; exact check_salts r A w hr hl1 hl2 hl3 hl4 (by omega) (by omega) (by omega) h4 h5 h6 h7 h8
  cases h9 : r.mud.all (fun x => x.upTo 9)
  · rw [if_pos (Or.inr (Or.inl rfl))]; exact check_muds r A w hr hl1 hl2 hl3 hl4 (by omega) (by omega) (by omega) h4 h5 h6 h7 h8 h9
  cases h10 : r.use.all (fun u => inB u 0 99)
  · rw [if_pos (Or.inr (Or.inr (Or.inl rfl)))]; exact check_uses r A w hr hl1 hl2 hl3 hl4 (by omega) (by omega) (by omega) h4 h5 h6 h7 h8 h9 h10
  cases h11 : r.gauges.all (fun g => r.gaugeB g)
  · rw [if_pos (Or.inr (Or.inr (Or.inr rfl)))]; exact check_gaugesOk r A w hr hl1 hl2 hl3 hl4 (by omega) (by omega) (by omega) h4 h5 h6 h7 h8 h9 h10 h11
  rw [if_neg (by rintro (h | h | h | h) <;> cases h)]
  exact check_many _ r A w hr hl1 hl2 hl3 hl4 (by omega) (by omega) (by omega) h4 h5 h6 h7 h8 h9 h10 h11 rfl

end Go.Proofs.Ytgglfngkomgadaa
/- Walks: right. -/
namespace Go.Proofs.Ytgglfngkomgadaa
open Go.RowKit
set_option linter.unusedVariables false
set_option linter.unusedSimpArgs false
set_option maxRecDepth 100000

set_option maxHeartbeats 2000000 in
theorem right_c (r : Riv) (A : RA) (ns : List Int) (a : Option Addr) (xs : List Int) (c : Nat) (w : World) (h0 : 0 ≤ r.last) (h5 : r.last ≤ 5) (hn : ns.length = 12) (hg5 : r.gauges.length ≤ 5)
    (hgd : ∀ g ∈ r.gauges, 0 ≤ g.day ∧ g.day ≤ r.last) (hga : Sl w A.ga (ggs r.gauges)) (h : Sl w a (ints xs)) (hlen : xs.length ≤ 1000) :
    Calls Try.prog 91 #[rivV r A, nv ns, .slice a xs.length c] w fun e w' => e = .returned (.bool (rightB r ns xs)) ∧ Below w.heap.size w w' := by
  obtain ⟨last, salt, mud, sweet, clear, size, start, draw, use, gauges⟩ := r
  obtain ⟨sa, sc, ma, mc, ua, uc, ga, gc⟩ := A
  have h0' : 0 ≤ last := h0
  obtain ⟨L, rfl⟩ := Int.eq_ofNat_of_zero_le h0'
  have hL : L ≤ 5 := by have : (L : Int) ≤ 5 := h5; omega
  have hga' : Sl w ga (ggs gauges) := hga
  have hg5' : gauges.length ≤ 5 := hg5
  have hgd' : ∀ g ∈ gauges, 0 ≤ g.day ∧ g.day ≤ (L : Int) := hgd
  clear h0 h5 h0' hga hg5 hgd
  have hN := Lib.hid hn
  have hGD := Lib.hid hgd'
  have hB0 := ((Below.refl w.heap.size w).alloc (Nat.le_refl _) (rivO ⟨(L : Int), salt, mud, sweet, clear, size, start, draw, use, gauges⟩ ⟨sa, sc, ma, mc, ua, uc, ga, gc⟩)).alloc (by simp) (.cells (ints ns).toArray 129)
  have hR := Lib.hid (show rightB ⟨(L : Int), salt, mud, sweet, clear, size, start, draw, use, gauges⟩ ns xs = (List.range gauges.length).all (gaugeOk ⟨(L : Int), salt, mud, sweet, clear, size, start, draw, use, gauges⟩ ns xs) from rfl)
  clear hn hgd'
  go_enter Try.func91, Try.ntmps91
  go_wp2_with fail
  go_loopw [7, 8, 9, 13] (fun _ _ _ i wr => ∃ k : Nat, k ≤ gauges.length ∧ i = .int .i64 k ∧ (List.range k).all (gaugeOk ⟨(L : Int), salt, mud, sweet, clear, size, start, draw, use, gauges⟩ ns xs) = true ∧ Below (w.heap.size + 2) ((w.alloc (rivO ⟨(L : Int), salt, mud, sweet, clear, size, start, draw, use, gauges⟩ ⟨sa, sc, ma, mc, ua, uc, ga, gc⟩)).alloc (.cells (ints ns).toArray 129)) wr)
    (fun _ _ _ i _ => gauges.length - (intOf i).toNat)
  case atStart => exact ⟨0, Nat.zero_le _, rfl, rfl, Below.refl _ _⟩
  case round =>
    obtain ⟨k, hk, rfl, hall, hB⟩ := hrel
    have hAll := Lib.hid hall
    have hsz0 : w.heap.size + 2 ≤ wr.heap.size := by have := hB.size; simp at this; omega
    have hlt0 : w.heap.size < wr.heap.size := by omega
    have hlt1 : w.heap.size + 1 < wr.heap.size := by omega
    have hBw := hB0.trans (hB.mono (by omega))
    have hc := fun (b o : Nat) (hh : b < w.heap.size + 2) => hB.cell (p := ⟨b, o, none⟩) hh
    clear hall
    by_cases hlt : k < gauges.length
    · obtain ⟨g, hg⟩ : ∃ g, gauges[k]? = some g := ⟨_, List.getElem?_eq_getElem hlt⟩
      have hGk := Lib.hid hg
      obtain ⟨b, o, rfl, c1, c2, c3, c4⟩ := (hga'.below hBw).gg_at hg
      obtain ⟨hd0, hdL⟩ := hGD.out g (List.mem_of_getElem? hg)
      have hs := h.below hBw
      clear hg
      obtain ⟨gday, gmud, ⟨glo, ghi⟩⟩ := g
      have hd0' : 0 ≤ gday := hd0
      obtain ⟨D, rfl⟩ := Int.eq_ofNat_of_zero_le hd0'
      have hdL' : D ≤ L := by have : (D : Int) ≤ (L : Int) := hdL; omega
      clear hd0 hdL hd0'
      obtain ⟨x, hx⟩ : ∃ x, ns[D + (if gmud then L + 1 else 0)]? = some x := ⟨_, List.getElem?_eq_getElem (by have := hN.out; split <;> omega)⟩
      have hgo : gaugeOk ⟨(L : Int), salt, mud, sweet, clear, size, start, draw, use, gauges⟩ ns xs k = (xs.contains (k : Int) || (Rg.mk glo ghi).has x) := by
        have e1 : gauges.getD k default = ⟨(D : Int), gmud, ⟨glo, ghi⟩⟩ := by rw [List.getD, hGk.out]; rfl
        have e2 : ns.getD (D + (if gmud then L + 1 else 0)) 0 = x := by rw [List.getD, hx]; rfl
        simp only [gaugeOk, gaugeAt, e1, Int.toNat_natCast]
        rw [e2]
      have hGO := Lib.hid hgo
      clear hgo
      have hix : (ints ns)[D + (if gmud then L + 1 else 0)]? = some (.int .i64 x) := by simp only [ints, List.getElem?_map, hx]; rfl
      clear hx
      cases gmud
      · simp only [Bool.false_eq_true, if_false, if_true, Nat.add_zero] at hix
        have hi12 : (D : Int) < 12 := by omega
        have hi13 : (D : Int) + ((L : Int) + 1) < 12 := by omega
        have hi14 : (0 : Int) ≤ (D : Int) + ((L : Int) + 1) := by omega
        have hi15 : ((D : Int) + ((L : Int) + 1)).toNat = D + (L + 1) := by omega
        cases hco : xs.contains (k : Int)
        · have hcm : ¬ (k : Int) ∈ xs := by simpa using hco
          cases hh : (Rg.mk glo ghi).has x
          · go_wp2_with fail
            refine region_o (S := OldC (wr.heap.size + 1) (wr.alloc (.cells #[.int .i64 (D : Int), .bool false, .int .i64 glo, .int .i64 ghi] 114))) (.take 0 (.take 1 (.one 2 (.take 3 (.take 4 (.take 5 (.take 6 (.take 7 (.take 8 (.take 9 (.one 10 (.take 11 (.take 12 .nil))))))))))))) (by kernel_rfl) (by kernel_rfl) (fun _ _ d _ _ h => by cases d <;> exact h) (oldR (by simp)) ?_
            intro W0 hW0 hS0
            have hBW : Below (wr.alloc (.cells #[.int .i64 (D : Int), .bool false, .int .i64 glo, .int .i64 ghi] 114)).heap.size (wr.alloc (.cells #[.int .i64 (D : Int), .bool false, .int .i64 glo, .int .i64 ghi] 114)) W0 := by subst hW0; exact (Below.refl _ _).drew
            clear hW0
            have hwq : Below wr.heap.size wr (wr.alloc (.cells #[.int .i64 (D : Int), .bool false, .int .i64 glo, .int .i64 ghi] 114)) := (Below.refl _ wr).alloc (Nat.le_refl _) _
            have hbq := hB.trans (hwq.mono hsz0)
            repeat (first
              | (refine ord_skip rfl ?_ ?_; rfl; simp only [pz])
              | (refine ord_take (v := ?_) rfl ?_ (fun W hW => ?_) ?_; rotate_left; rfl; (obtain ⟨hz, hcc, hbb⟩ := hW; go_simp; (first | done | with_reducible rfl)); simp only [pz]))
            (refine ord_op rfl ?_ (fun K hK => ?_); rfl; go_simp; refine (contains_c a xs c _ _ (hs.below (hwq.trans (hS0.be.mono (by simp)))) hlen).mono ?_; rintro e w1 ⟨rfl, rfl⟩; obtain ⟨W1, hW⟩ : ∃ Q, Q = W0 := ⟨_, rfl⟩; subst hW; have hS1 := hS0; refine hK _ _ hS1 ?_; clear hK K; try simp only [pz])
            repeat (first
              | (refine ord_skip rfl ?_ ?_; rfl; simp only [pz])
              | (refine ord_take (v := ?_) rfl ?_ (fun W hW => ?_) ?_; rotate_left; rfl; (obtain ⟨hz, hcc, hbb⟩ := hW; go_simp; (first | done | with_reducible rfl)); simp only [pz]))
            first
              | (refine ord_pass rfl ?_ hS1 ?_; rfl; simp only [pz]; have W2 := W1; have hS2 := hS1)
              | (refine ord_op rfl ?_ (fun K hK => ?_); rfl; go_simp; refine (has_c ⟨glo, ghi⟩ x _).mono ?_; rintro e W2 ⟨rfl, hb2⟩; have hS2 := oldK hS1 hb2; refine hK _ _ hS2 ?_; clear hK K; try simp only [pz])
            repeat (first
              | (refine ord_skip rfl ?_ ?_; rfl; simp only [pz])
              | (refine ord_take (v := ?_) rfl ?_ (fun W hW => ?_) ?_; rotate_left; rfl; (obtain ⟨hz, hcc, hbb⟩ := hW; go_simp; (first | done | with_reducible rfl)); simp only [pz]))
            refine ord_nil ?_
            go_wp2_with fail
            go_ret
            exact ⟨ret_bool (by rw [hR.out, all_range_false (by rw [hGO.out, hco, hh]; rfl) hlt]), hB0.trans ((hbq.trans (hS2.be.mono (show w.heap.size + 2 ≤ wr.heap.size + 1 by omega))).mono (by omega))⟩
          · go_wp2_with fail
            refine region_o (S := OldC (wr.heap.size + 1) (wr.alloc (.cells #[.int .i64 (D : Int), .bool false, .int .i64 glo, .int .i64 ghi] 114))) (.take 0 (.take 1 (.one 2 (.take 3 (.take 4 (.take 5 (.take 6 (.take 7 (.take 8 (.take 9 (.one 10 (.take 11 (.take 12 .nil))))))))))))) (by kernel_rfl) (by kernel_rfl) (fun _ _ d _ _ h => by cases d <;> exact h) (oldR (by simp)) ?_
            intro W0 hW0 hS0
            have hBW : Below (wr.alloc (.cells #[.int .i64 (D : Int), .bool false, .int .i64 glo, .int .i64 ghi] 114)).heap.size (wr.alloc (.cells #[.int .i64 (D : Int), .bool false, .int .i64 glo, .int .i64 ghi] 114)) W0 := by subst hW0; exact (Below.refl _ _).drew
            clear hW0
            have hwq : Below wr.heap.size wr (wr.alloc (.cells #[.int .i64 (D : Int), .bool false, .int .i64 glo, .int .i64 ghi] 114)) := (Below.refl _ wr).alloc (Nat.le_refl _) _
            have hbq := hB.trans (hwq.mono hsz0)
            repeat (first
              | (refine ord_skip rfl ?_ ?_; rfl; simp only [pz])
              | (refine ord_take (v := ?_) rfl ?_ (fun W hW => ?_) ?_; rotate_left; rfl; (obtain ⟨hz, hcc, hbb⟩ := hW; go_simp; (first | done | with_reducible rfl)); simp only [pz]))
            (refine ord_op rfl ?_ (fun K hK => ?_); rfl; go_simp; refine (contains_c a xs c _ _ (hs.below (hwq.trans (hS0.be.mono (by simp)))) hlen).mono ?_; rintro e w1 ⟨rfl, rfl⟩; obtain ⟨W1, hW⟩ : ∃ Q, Q = W0 := ⟨_, rfl⟩; subst hW; have hS1 := hS0; refine hK _ _ hS1 ?_; clear hK K; try simp only [pz])
            repeat (first
              | (refine ord_skip rfl ?_ ?_; rfl; simp only [pz])
              | (refine ord_take (v := ?_) rfl ?_ (fun W hW => ?_) ?_; rotate_left; rfl; (obtain ⟨hz, hcc, hbb⟩ := hW; go_simp; (first | done | with_reducible rfl)); simp only [pz]))
            first
              | (refine ord_pass rfl ?_ hS1 ?_; rfl; simp only [pz]; have W2 := W1; have hS2 := hS1)
              | (refine ord_op rfl ?_ (fun K hK => ?_); rfl; go_simp; refine (has_c ⟨glo, ghi⟩ x _).mono ?_; rintro e W2 ⟨rfl, hb2⟩; have hS2 := oldK hS1 hb2; refine hK _ _ hS2 ?_; clear hK K; try simp only [pz])
            repeat (first
              | (refine ord_skip rfl ?_ ?_; rfl; simp only [pz])
              | (refine ord_take (v := ?_) rfl ?_ (fun W hW => ?_) ?_; rotate_left; rfl; (obtain ⟨hz, hcc, hbb⟩ := hW; go_simp; (first | done | with_reducible rfl)); simp only [pz]))
            refine ord_nil ?_
            go_wp2_with fail
            go_roundw
            case rel => exact ⟨k + 1, by omega, by go_num, by rw [all_range_succ, hAll.out, hGO.out, hco, hh]; rfl, hbq.trans (hS2.be.mono (show w.heap.size + 2 ≤ wr.heap.size + 1 by omega))⟩
            case measure => simp [intOf]; omega
        · have hcm : (k : Int) ∈ xs := by simpa using hco
          go_wp2_with fail
          refine region_o (S := OldC (wr.heap.size + 1) (wr.alloc (.cells #[.int .i64 (D : Int), .bool false, .int .i64 glo, .int .i64 ghi] 114))) (.take 0 (.take 1 (.one 2 (.take 3 (.take 4 (.take 5 (.take 6 (.take 7 (.take 8 (.take 9 (.one 10 (.take 11 (.take 12 .nil))))))))))))) (by kernel_rfl) (by kernel_rfl) (fun _ _ d _ _ h => by cases d <;> exact h) (oldR (by simp)) ?_
          intro W0 hW0 hS0
          have hBW : Below (wr.alloc (.cells #[.int .i64 (D : Int), .bool false, .int .i64 glo, .int .i64 ghi] 114)).heap.size (wr.alloc (.cells #[.int .i64 (D : Int), .bool false, .int .i64 glo, .int .i64 ghi] 114)) W0 := by subst hW0; exact (Below.refl _ _).drew
          clear hW0
          have hwq : Below wr.heap.size wr (wr.alloc (.cells #[.int .i64 (D : Int), .bool false, .int .i64 glo, .int .i64 ghi] 114)) := (Below.refl _ wr).alloc (Nat.le_refl _) _
          have hbq := hB.trans (hwq.mono hsz0)
          repeat (first
            | (refine ord_skip rfl ?_ ?_; rfl; simp only [pz])
            | (refine ord_take (v := ?_) rfl ?_ (fun W hW => ?_) ?_; rotate_left; rfl; (obtain ⟨hz, hcc, hbb⟩ := hW; go_simp; (first | done | with_reducible rfl)); simp only [pz]))
          (refine ord_op rfl ?_ (fun K hK => ?_); rfl; go_simp; refine (contains_c a xs c _ _ (hs.below (hwq.trans (hS0.be.mono (by simp)))) hlen).mono ?_; rintro e w1 ⟨rfl, rfl⟩; obtain ⟨W1, hW⟩ : ∃ Q, Q = W0 := ⟨_, rfl⟩; subst hW; have hS1 := hS0; refine hK _ _ hS1 ?_; clear hK K; try simp only [pz])
          repeat (first
            | (refine ord_skip rfl ?_ ?_; rfl; simp only [pz])
            | (refine ord_take (v := ?_) rfl ?_ (fun W hW => ?_) ?_; rotate_left; rfl; (obtain ⟨hz, hcc, hbb⟩ := hW; go_simp; (first | done | with_reducible rfl)); simp only [pz]))
          first
            | (refine ord_pass rfl ?_ hS1 ?_; rfl; simp only [pz]; have W2 := W1; have hS2 := hS1)
            | (refine ord_op rfl ?_ (fun K hK => ?_); rfl; go_simp; refine (has_c ⟨glo, ghi⟩ x _).mono ?_; rintro e W2 ⟨rfl, hb2⟩; have hS2 := oldK hS1 hb2; refine hK _ _ hS2 ?_; clear hK K; try simp only [pz])
          repeat (first
            | (refine ord_skip rfl ?_ ?_; rfl; simp only [pz])
            | (refine ord_take (v := ?_) rfl ?_ (fun W hW => ?_) ?_; rotate_left; rfl; (obtain ⟨hz, hcc, hbb⟩ := hW; go_simp; (first | done | with_reducible rfl)); simp only [pz]))
          refine ord_nil ?_
          go_wp2_with fail
          go_roundw
          case rel => exact ⟨k + 1, by omega, by go_num, by rw [all_range_succ, hAll.out, hGO.out, hco]; rfl, hbq.trans (hS2.be.mono (show w.heap.size + 2 ≤ wr.heap.size + 1 by omega))⟩
          case measure => simp [intOf]; omega
      · simp only [Bool.false_eq_true, if_false, if_true, Nat.add_zero] at hix
        have hi12 : (D : Int) < 12 := by omega
        have hi13 : (D : Int) + ((L : Int) + 1) < 12 := by omega
        have hi14 : (0 : Int) ≤ (D : Int) + ((L : Int) + 1) := by omega
        have hi15 : ((D : Int) + ((L : Int) + 1)).toNat = D + (L + 1) := by omega
        cases hco : xs.contains (k : Int)
        · have hcm : ¬ (k : Int) ∈ xs := by simpa using hco
          cases hh : (Rg.mk glo ghi).has x
          · go_wp2_with fail
            refine region_o (S := OldC (wr.heap.size + 1) (wr.alloc (.cells #[.int .i64 (D : Int), .bool true, .int .i64 glo, .int .i64 ghi] 114))) (.take 0 (.take 1 (.one 2 (.take 3 (.take 4 (.take 5 (.take 6 (.take 7 (.take 8 (.take 9 (.one 10 (.take 11 (.take 12 .nil))))))))))))) (by kernel_rfl) (by kernel_rfl) (fun _ _ d _ _ h => by cases d <;> exact h) (oldR (by simp)) ?_
            intro W0 hW0 hS0
            have hBW : Below (wr.alloc (.cells #[.int .i64 (D : Int), .bool true, .int .i64 glo, .int .i64 ghi] 114)).heap.size (wr.alloc (.cells #[.int .i64 (D : Int), .bool true, .int .i64 glo, .int .i64 ghi] 114)) W0 := by subst hW0; exact (Below.refl _ _).drew
            clear hW0
            have hwq : Below wr.heap.size wr (wr.alloc (.cells #[.int .i64 (D : Int), .bool true, .int .i64 glo, .int .i64 ghi] 114)) := (Below.refl _ wr).alloc (Nat.le_refl _) _
            have hbq := hB.trans (hwq.mono hsz0)
            repeat (first
              | (refine ord_skip rfl ?_ ?_; rfl; simp only [pz])
              | (refine ord_take (v := ?_) rfl ?_ (fun W hW => ?_) ?_; rotate_left; rfl; (obtain ⟨hz, hcc, hbb⟩ := hW; go_simp; (first | done | with_reducible rfl)); simp only [pz]))
            (refine ord_op rfl ?_ (fun K hK => ?_); rfl; go_simp; refine (contains_c a xs c _ _ (hs.below (hwq.trans (hS0.be.mono (by simp)))) hlen).mono ?_; rintro e w1 ⟨rfl, rfl⟩; obtain ⟨W1, hW⟩ : ∃ Q, Q = W0 := ⟨_, rfl⟩; subst hW; have hS1 := hS0; refine hK _ _ hS1 ?_; clear hK K; try simp only [pz])
            repeat (first
              | (refine ord_skip rfl ?_ ?_; rfl; simp only [pz])
              | (refine ord_take (v := ?_) rfl ?_ (fun W hW => ?_) ?_; rotate_left; rfl; (obtain ⟨hz, hcc, hbb⟩ := hW; go_simp; (first | done | with_reducible rfl)); simp only [pz]))
            first
              | (refine ord_pass rfl ?_ hS1 ?_; rfl; simp only [pz]; have W2 := W1; have hS2 := hS1)
              | (refine ord_op rfl ?_ (fun K hK => ?_); rfl; go_simp; refine (has_c ⟨glo, ghi⟩ x _).mono ?_; rintro e W2 ⟨rfl, hb2⟩; have hS2 := oldK hS1 hb2; refine hK _ _ hS2 ?_; clear hK K; try simp only [pz])
            repeat (first
              | (refine ord_skip rfl ?_ ?_; rfl; simp only [pz])
              | (refine ord_take (v := ?_) rfl ?_ (fun W hW => ?_) ?_; rotate_left; rfl; (obtain ⟨hz, hcc, hbb⟩ := hW; go_simp; (first | done | with_reducible rfl)); simp only [pz]))
            refine ord_nil ?_
            go_wp2_with fail
            go_ret
            exact ⟨ret_bool (by rw [hR.out, all_range_false (by rw [hGO.out, hco, hh]; rfl) hlt]), hB0.trans ((hbq.trans (hS2.be.mono (show w.heap.size + 2 ≤ wr.heap.size + 1 by omega))).mono (by omega))⟩
          · go_wp2_with fail
            refine region_o (S := OldC (wr.heap.size + 1) (wr.alloc (.cells #[.int .i64 (D : Int), .bool true, .int .i64 glo, .int .i64 ghi] 114))) (.take 0 (.take 1 (.one 2 (.take 3 (.take 4 (.take 5 (.take 6 (.take 7 (.take 8 (.take 9 (.one 10 (.take 11 (.take 12 .nil))))))))))))) (by kernel_rfl) (by kernel_rfl) (fun _ _ d _ _ h => by cases d <;> exact h) (oldR (by simp)) ?_
            intro W0 hW0 hS0
            have hBW : Below (wr.alloc (.cells #[.int .i64 (D : Int), .bool true, .int .i64 glo, .int .i64 ghi] 114)).heap.size (wr.alloc (.cells #[.int .i64 (D : Int), .bool true, .int .i64 glo, .int .i64 ghi] 114)) W0 := by subst hW0; exact (Below.refl _ _).drew
            clear hW0
            have hwq : Below wr.heap.size wr (wr.alloc (.cells #[.int .i64 (D : Int), .bool true, .int .i64 glo, .int .i64 ghi] 114)) := (Below.refl _ wr).alloc (Nat.le_refl _) _
            have hbq := hB.trans (hwq.mono hsz0)
            repeat (first
              | (refine ord_skip rfl ?_ ?_; rfl; simp only [pz])
              | (refine ord_take (v := ?_) rfl ?_ (fun W hW => ?_) ?_; rotate_left; rfl; (obtain ⟨hz, hcc, hbb⟩ := hW; go_simp; (first | done | with_reducible rfl)); simp only [pz]))
            (refine ord_op rfl ?_ (fun K hK => ?_); rfl; go_simp; refine (contains_c a xs c _ _ (hs.below (hwq.trans (hS0.be.mono (by simp)))) hlen).mono ?_; rintro e w1 ⟨rfl, rfl⟩; obtain ⟨W1, hW⟩ : ∃ Q, Q = W0 := ⟨_, rfl⟩; subst hW; have hS1 := hS0; refine hK _ _ hS1 ?_; clear hK K; try simp only [pz])
            repeat (first
              | (refine ord_skip rfl ?_ ?_; rfl; simp only [pz])
              | (refine ord_take (v := ?_) rfl ?_ (fun W hW => ?_) ?_; rotate_left; rfl; (obtain ⟨hz, hcc, hbb⟩ := hW; go_simp; (first | done | with_reducible rfl)); simp only [pz]))
            first
              | (refine ord_pass rfl ?_ hS1 ?_; rfl; simp only [pz]; have W2 := W1; have hS2 := hS1)
              | (refine ord_op rfl ?_ (fun K hK => ?_); rfl; go_simp; refine (has_c ⟨glo, ghi⟩ x _).mono ?_; rintro e W2 ⟨rfl, hb2⟩; have hS2 := oldK hS1 hb2; refine hK _ _ hS2 ?_; clear hK K; try simp only [pz])
            repeat (first
              | (refine ord_skip rfl ?_ ?_; rfl; simp only [pz])
              | (refine ord_take (v := ?_) rfl ?_ (fun W hW => ?_) ?_; rotate_left; rfl; (obtain ⟨hz, hcc, hbb⟩ := hW; go_simp; (first | done | with_reducible rfl)); simp only [pz]))
            refine ord_nil ?_
            go_wp2_with fail
            go_roundw
            case rel => exact ⟨k + 1, by omega, by go_num, by rw [all_range_succ, hAll.out, hGO.out, hco, hh]; rfl, hbq.trans (hS2.be.mono (show w.heap.size + 2 ≤ wr.heap.size + 1 by omega))⟩
            case measure => simp [intOf]; omega
        · have hcm : (k : Int) ∈ xs := by simpa using hco
          go_wp2_with fail
          refine region_o (S := OldC (wr.heap.size + 1) (wr.alloc (.cells #[.int .i64 (D : Int), .bool true, .int .i64 glo, .int .i64 ghi] 114))) (.take 0 (.take 1 (.one 2 (.take 3 (.take 4 (.take 5 (.take 6 (.take 7 (.take 8 (.take 9 (.one 10 (.take 11 (.take 12 .nil))))))))))))) (by kernel_rfl) (by kernel_rfl) (fun _ _ d _ _ h => by cases d <;> exact h) (oldR (by simp)) ?_
          intro W0 hW0 hS0
          have hBW : Below (wr.alloc (.cells #[.int .i64 (D : Int), .bool true, .int .i64 glo, .int .i64 ghi] 114)).heap.size (wr.alloc (.cells #[.int .i64 (D : Int), .bool true, .int .i64 glo, .int .i64 ghi] 114)) W0 := by subst hW0; exact (Below.refl _ _).drew
          clear hW0
          have hwq : Below wr.heap.size wr (wr.alloc (.cells #[.int .i64 (D : Int), .bool true, .int .i64 glo, .int .i64 ghi] 114)) := (Below.refl _ wr).alloc (Nat.le_refl _) _
          have hbq := hB.trans (hwq.mono hsz0)
          repeat (first
            | (refine ord_skip rfl ?_ ?_; rfl; simp only [pz])
            | (refine ord_take (v := ?_) rfl ?_ (fun W hW => ?_) ?_; rotate_left; rfl; (obtain ⟨hz, hcc, hbb⟩ := hW; go_simp; (first | done | with_reducible rfl)); simp only [pz]))
          (refine ord_op rfl ?_ (fun K hK => ?_); rfl; go_simp; refine (contains_c a xs c _ _ (hs.below (hwq.trans (hS0.be.mono (by simp)))) hlen).mono ?_; rintro e w1 ⟨rfl, rfl⟩; obtain ⟨W1, hW⟩ : ∃ Q, Q = W0 := ⟨_, rfl⟩; subst hW; have hS1 := hS0; refine hK _ _ hS1 ?_; clear hK K; try simp only [pz])
          repeat (first
            | (refine ord_skip rfl ?_ ?_; rfl; simp only [pz])
            | (refine ord_take (v := ?_) rfl ?_ (fun W hW => ?_) ?_; rotate_left; rfl; (obtain ⟨hz, hcc, hbb⟩ := hW; go_simp; (first | done | with_reducible rfl)); simp only [pz]))
          first
            | (refine ord_pass rfl ?_ hS1 ?_; rfl; simp only [pz]; have W2 := W1; have hS2 := hS1)
            | (refine ord_op rfl ?_ (fun K hK => ?_); rfl; go_simp; refine (has_c ⟨glo, ghi⟩ x _).mono ?_; rintro e W2 ⟨rfl, hb2⟩; have hS2 := oldK hS1 hb2; refine hK _ _ hS2 ?_; clear hK K; try simp only [pz])
          repeat (first
            | (refine ord_skip rfl ?_ ?_; rfl; simp only [pz])
            | (refine ord_take (v := ?_) rfl ?_ (fun W hW => ?_) ?_; rotate_left; rfl; (obtain ⟨hz, hcc, hbb⟩ := hW; go_simp; (first | done | with_reducible rfl)); simp only [pz]))
          refine ord_nil ?_
          go_wp2_with fail
          go_roundw
          case rel => exact ⟨k + 1, by omega, by go_num, by rw [all_range_succ, hAll.out, hGO.out, hco]; rfl, hbq.trans (hS2.be.mono (show w.heap.size + 2 ≤ wr.heap.size + 1 by omega))⟩
          case measure => simp [intOf]; omega
    · go_wp2_with fail
      go_ret
      obtain rfl : k = gauges.length := by omega
      exact ⟨ret_bool (by rw [hR.out, hAll.out]), hBw⟩
end Go.Proofs.Ytgglfngkomgadaa
