/- The laws' arguments, opened, on: a river's gauges are no more than memory holds. -/
import Derived.Test.YtgglfngkomgadaaK1
namespace Go.Proofs.Ytgglfngkomgadaa
open Go.ChangeShapes Go.WideShapes Go.ChangeAt Go.RowKit Go.Shelf
set_option linter.unusedVariables false
set_option linter.unusedSimpArgs false
set_option maxRecDepth 100000
section
variable {H : Type} {enc : TypeId × Value → H} {w : World} {base : Nat} {spare : Nat → Bool} {held : Bool}
theorem sl_datum {t e : TypeId} {fuel : Nat} {a : Option Addr} {n c : Nat} {y : DataW H × List MemPlace} (ht : Try.prog.underlying t = some (.slice e)) (h : DataW.trod enc Try.prog w base spare held fuel t [.slice a n c] = some y) :
    n = 0 ∨ ∃ el sp, y.1 = .slice el sp ∧ el.length = n := by
  rcases Go.Deep.open_slice ht h with ⟨h0, _⟩ | ⟨a', len, cap, m, k, D, Pl, hcs, _, _, _, _, hx, _⟩
  · simp only [List.cons.injEq, and_true] at h0
    cases h0
    exact .inl rfl
  · simp only [List.cons.injEq, and_true] at hcs
    cases hcs
    right
    subst hx
    exact ⟨_, _, rfl, by simp⟩
theorem b99 : Try.prog.bytesOf 99 = 32 := by kernel_rfl
theorem riv_sized {r : Riv} {A : RA} {d : DataW H} {p : List MemPlace} (h : DataW.Trod enc Try.prog w base spare held 26 (rivV r A) d p) (hw : ∀ n ∈ d.weights Try.prog 26, n ≤ reachBytes) : r.gauges.length * 32 ≤ 140737488351232 := by
  obtain ⟨fuel, hf⟩ := h
  obtain ⟨ys, n, _, hx, _, hyl, hg⟩ := DataW.trod_struct Try.underlying26 hf
  obtain ⟨y9, e9⟩ := fld hyl (i := 9) (by decide)
  have g9 : DataW.trod enc Try.prog w base spare held n 24 [.slice A.ga r.gauges.length A.gc] = some y9 := (fget hg 9 (off := 9) rfl rfl rfl c24).trans e9
  obtain ⟨hd, _⟩ := Prod.mk.inj hx
  rcases sl_datum Try.underlying24 g9 with h0 | ⟨el, sp, he, hl⟩
  · rw [h0]; simp
  · have h1 := hw ((el.length + sp.length) * Try.prog.bytesOf 99) (by
      rw [hd]
      simp only [DataW.weights, Try.underlying26]
      exact DataW.weights_mem_each (t := 24) (j := 9) rfl (by rw [List.getElem?_map, e9]; rfl) _ (by show _ ∈ DataW.weights Try.prog 24 y9.1; rw [he]; simp [DataW.weights, Try.underlying24]))
    rw [b99, hl] at h1
    unfold reachBytes at h1
    omega
end
end Go.Proofs.Ytgglfngkomgadaa
