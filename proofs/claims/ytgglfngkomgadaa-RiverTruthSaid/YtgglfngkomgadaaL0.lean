/- Walks of the laws: what they share. -/
import Derived.Test.YtgglfngkomgadaaJN
import Derived.Test.YtgglfngkomgadaaJU
namespace Go.Proofs.Ytgglfngkomgadaa
open Go.RowKit Go.Shelf
set_option linter.unusedVariables false
set_option linter.unusedSimpArgs false
set_option maxRecDepth 100000

theorem thin_lens {r : Riv} (h : thinB r = true) : r.salt.length ≤ 30 ∧ r.mud.length ≤ 30 ∧ r.use.length ≤ 30 ∧ r.gauges.length ≤ 30 := by
  simpa [thinB] using h
theorem asked_no_c (r : Riv) (A : RA) (fine : Bool) (w : World) (hr : Rd w r A) (hl : r.salt.length ≤ 30 ∧ r.mud.length ≤ 30 ∧ r.use.length ≤ 30 ∧ r.gauges.length ≤ 30) (N : Int) (hN : N = askR r fine) (h : N ≠ 0) :
    Calls Try.prog 27 #[rivV r A, .bool fine] w fun e w' => ∃ a c, e = .returned (.tuple #[.slice a 0 c, .int .i64 N]) ∧ Below w.heap.size w w' := by
  refine (askedR_c r A fine w hr hl.1 hl.2.1 hl.2.2.1 hl.2.2.2).mono ?_
  rintro e w' ⟨a, c, rfl, _, hb⟩
  rw [← hN, if_neg h]
  exact ⟨a, c, rfl, hb⟩
theorem asked_ok_c (r : Riv) (A : RA) (fine : Bool) (w : World) (hr : Rd w r A) (hl : r.salt.length ≤ 30 ∧ r.mud.length ≤ 30 ∧ r.use.length ≤ 30 ∧ r.gauges.length ≤ 30) (h : askR r fine = 0) :
    Calls Try.prog 27 #[rivV r A, .bool fine] w fun e w' => ∃ a c, e = .returned (.tuple #[.slice a (truthsR r).length c, .int .i64 0]) ∧ TL w' a (truthsR r) ∧ Below w.heap.size w w' := by
  refine (askedR_c r A fine w hr hl.1 hl.2.1 hl.2.2.1 hl.2.2.2).mono ?_
  rintro e w' ⟨a, c, rfl, ht, hb⟩
  rw [if_pos h, h]
  exact ⟨a, c, rfl, ht h, hb⟩
theorem asked_fits {r : Riv} {fine : Bool} (h : askR r fine = 0) : Fits r (truthsR r) ∧ (truthsR r).length ≤ 5000 ∧ 0 < (truthsR r).length := by
  obtain ⟨h1, h2, h3⟩ := askOk h
  exact ⟨fits_truths h1, by have := truths_len h1; omega, List.length_pos_iff.2 h3⟩
theorem day_of {d last : Int} (h : inB d 0 last = true) : ∃ D : Nat, d = D ∧ (D : Int) ≤ last := by
  simp only [inB, decide_eq_true_eq] at h
  exact ⟨d.toNat, by omega, by omega⟩
theorem ask_in {r : Riv} {fine : Bool} (h : askR r fine = 0) : fine = true ∧ Ok r := ⟨(askOk h).2.1, (ok_of_fault (askOk h).1).1⟩
theorem ask_one {r : Riv} {fine : Bool} (h : askR r fine = 0) : askR r true = 0 := by rw [← (askOk h).2.1]; exact h
theorem After_c (r : Riv) (A : RA) (t : Tr) (B : TA) (a : Option Addr) (xs : List Int) (c : Nat) (S T : Int) (ok : Ok r) (hS : 0 ≤ S) (hS9 : S ≤ 99) (hlen : xs.length ≤ 1000) (hl1 : (t.salt.length : Int) = r.last + 1) (hl2 : (t.mud.length : Int) = r.last + 1)
    (D : Nat) (hD : (D : Int) ≤ r.last) (w : World) (hr : Rd w r A) (ht : RdT w t B) (hs : Sl w a (ints xs)) :
    Calls Try.prog 49 #[rivV r A, trV t B, .slice a xs.length c, .int .i64 S, .int .i64 T, .int .i64 D] w fun e w' => e = .returned (.int .i64 (aftV r t xs S T (D + 1))) ∧ Below w.heap.size w w' :=
  (BA_c r A t B a xs c S T ok hS hS9 hlen hl1 hl2 D hD).2 w hr ht hs
theorem Tank_no_c (r : Riv) (A : RA) (a : Option Addr) (xs : List Int) (c : Nat) (w : World) (hr : Rd w r A) (hl : r.salt.length ≤ 30 ∧ r.mud.length ≤ 30 ∧ r.use.length ≤ 30 ∧ r.gauges.length ≤ 30)
    (hs : Sl w a (ints xs)) (hlen : xs.length ≤ 1000) (N : Int) (hN : N = askR r (isPlanB r.last xs)) (h : N ≠ 0) :
    Calls Try.prog 30 #[rivV r A, .slice a xs.length c] w fun e w' => e = .returned (.tuple #[.slice none 0 0, .int .i64 N]) ∧ Below w.heap.size w w' := by
  refine (Tank_c r A a xs c w hr hl.1 hl.2.1 hl.2.2.1 hl.2.2.2 hs hlen).mono ?_
  intro e w' h2
  unfold RetTk at h2
  rw [ask_eq, ← hN, if_neg h] at h2
  exact h2
theorem Tank_ok_c (r : Riv) (A : RA) (a : Option Addr) (xs : List Int) (c : Nat) (w : World) (hr : Rd w r A) (hl : r.salt.length ≤ 30 ∧ r.mud.length ≤ 30 ∧ r.use.length ≤ 30 ∧ r.gauges.length ≤ 30)
    (hs : Sl w a (ints xs)) (hlen : xs.length ≤ 1000) (h : askR r (isPlanB r.last xs) = 0) :
    Calls Try.prog 30 #[rivV r A, .slice a xs.length c] w fun e w' => ∃ a' c', e = .returned (.tuple #[.slice a' r.use.length c', .int .i64 0]) ∧ Sl w' a' (rgs (tanksL r xs)) ∧ Below w.heap.size w w' := by
  refine (Tank_c r A a xs c w hr hl.1 hl.2.1 hl.2.2.1 hl.2.2.2 hs hlen).mono ?_
  intro e w' h2
  unfold RetTk at h2
  rw [ask_eq, if_pos h] at h2
  obtain ⟨v, rfl, hown, hb⟩ := h2
  obtain ⟨a', c', rfl, -, hs'⟩ := own_Sl hown
  exact ⟨a', c', rfl, hs', hb⟩
theorem ask_F {r : Riv} {F : Int} (h : r.faultI = F) (hF : F ≠ 0) (fine : Bool) : askR r fine = F := by
  unfold askR; rw [h, if_pos hF]
/-- A river in its box, and a range in a list. -/
structure RgS (q b o : Nat) (r : Riv) (A : RA) (lo hi : Int) (W : World) : Prop where
  bx : BoxR q r A W
  c0 : W.cell? ⟨b, o, none⟩ = some (.int .i64 lo)
  c1 : W.cell? ⟨b, o + 1, none⟩ = some (.int .i64 hi)
theorem RgS.below {q b o : Nat} {r : Riv} {A : RA} {lo hi : Int} {W W' : World} (h : RgS q b o r A lo hi W) (hb : Below W.heap.size W W') : RgS q b o r A lo hi W' :=
  have hw : Wr (fun _ => False) W W' := Wr.of_below hb
  ⟨h.bx.below hb, hw.cell (fun e => e) h.c0, hw.cell (fun e => e) h.c1⟩
/-- A river in its box, and a number in a list. -/
structure InS (q b o : Nat) (r : Riv) (A : RA) (x : Int) (W : World) : Prop where
  bx : BoxR q r A W
  c0 : W.cell? ⟨b, o, none⟩ = some (.int .i64 x)
theorem InS.below {q b o : Nat} {r : Riv} {A : RA} {x : Int} {W W' : World} (h : InS q b o r A x W) (hb : Below W.heap.size W W') : InS q b o r A x W' :=
  have hw : Wr (fun _ => False) W W' := Wr.of_below hb
  ⟨h.bx.below hb, hw.cell (fun e => e) h.c0⟩
end Go.Proofs.Ytgglfngkomgadaa
