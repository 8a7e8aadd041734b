/- Walks of the laws: inside. -/
import Derived.Test.YtgglfngkomgadaaL0
namespace Go.Proofs.Ytgglfngkomgadaa
open Go.RowKit Go.Shelf
set_option linter.unusedVariables false
set_option linter.unusedSimpArgs false
set_option maxRecDepth 100000

/-- Two ranges in lists. -/
structure RrG (b o b' o' : Nat) (x y : Rg) (W : World) : Prop where
  c0 : W.cell? ⟨b, o, none⟩ = some (.int .i64 x.lo)
  c1 : W.cell? ⟨b, o + 1, none⟩ = some (.int .i64 x.hi)
  d0 : W.cell? ⟨b', o', none⟩ = some (.int .i64 y.lo)
  d1 : W.cell? ⟨b', o' + 1, none⟩ = some (.int .i64 y.hi)
theorem RrG.below {b o b' o' : Nat} {x y : Rg} {W W' : World} (h : RrG b o b' o' x y W) (hb : Below W.heap.size W W') : RrG b o b' o' x y W' :=
  have hw : Wr (fun _ => False) W W' := Wr.of_below hb
  ⟨hw.cell (fun e => e) h.c0, hw.cell (fun e => e) h.c1, hw.cell (fun e => e) h.d0, hw.cell (fun e => e) h.d1⟩
set_option maxHeartbeats 4000000 in
theorem inside_c (a a' : Option Addr) (xs ys : List Rg) (c c' : Nat) (w : World) (hs : Sl w a (rgs xs)) (hs' : Sl w a' (rgs ys)) (hn : xs.length = ys.length) (hlen : xs.length ≤ 1000) (h : ∀ (k : Nat) (x y : Rg), xs[k]? = some x → ys[k]? = some y → y.lo ≤ x.lo ∧ x.hi ≤ y.hi) :
    Calls Try.prog 73 #[.slice a xs.length c, .slice a' xs.length c'] w (RetB true w) := by
  have HS := Lib.hid hs
  have HT := Lib.hid hs'
  have HN := Lib.hid hn
  have HH := Lib.hid h
  have HB := Lib.hid (Below.refl w.heap.size w)
  clear hs hs' hn h
  go_enter Try.func73, Try.ntmps73
  go_wp2_with fail
  go_loopw [5] (fun i wr => ∃ k : Nat, k ≤ xs.length ∧ i = .int .i64 k ∧ Below w.heap.size w wr) (fun i _ => xs.length - (intOf i).toNat)
  case atStart => exact ⟨0, Nat.zero_le _, rfl, Below.refl _ _⟩
  case round =>
    obtain ⟨k, hk, rfl, hB⟩ := hrel
    replace HB := Lib.hid (HB.out.trans (hB.mono HB.out.size))
    replace HS := Lib.hid (HS.out.below hB)
    replace HT := Lib.hid (HT.out.below hB)
    have HC := Lib.hid hB
    clear hB
    by_cases hlt : k < xs.length
    · obtain ⟨x, hx⟩ : ∃ x, xs[k]? = some x := ⟨_, List.getElem?_eq_getElem hlt⟩
      obtain ⟨y, hy⟩ : ∃ y, ys[k]? = some y := ⟨_, List.getElem?_eq_getElem (by have := HN.out; omega)⟩
      obtain ⟨h1, h2⟩ := HH.out k x y hx hy
      have hn1 : ¬ x.lo < y.lo := by omega
      have hn2 : ¬ y.hi < x.hi := by omega
      have hd1 : decide (x.lo < y.lo) = false := decide_eq_false hn1
      have hd2 : decide (y.hi < x.hi) = false := decide_eq_false hn2
      obtain ⟨b, o, rfl, c0, c1⟩ := HS.out.rg_at hx
      obtain ⟨b', o', rfl, d0, d1⟩ := HT.out.rg_at hy
      have HSS := Lib.hid (show RrG b (o + k * 2) b' (o' + k * 2) x y wr from ⟨c0, c1, d0, d1⟩)
      have ew : IntKind.i64.wrap ((k : Int) + 1) = (k : Int) + 1 := IntWalk.i64_in _ (by omega)
      clear hx hy c0 c1 d0 d1
      go_wp2_with fail
      refine region_o (S := RrG b (o + k * 2) b' (o' + k * 2) x y) (.take 0 (.take 1 (.take 2 (.take 3 (.take 4 (.take 5 (.take 6 (.take 7 (.take 8 (.take 9 (.take 10 (.take 11 (.take 12 (.take 13 (.take 14 (.take 15 (.take 16 (.take 17 (.take 18 (.take 19 (.take 20 (.take 21 (.take 22 (.take 23 .nil)))))))))))))))))))))))) (by kernel_rfl) (by kernel_rfl) (fun _ _ d _ _ h => by cases d <;> exact h) (HSS.out.below (Below.refl _ _).drew) ?_
      intro W0 hW0 hS0
      have hBW : Below wr.heap.size wr W0 := by subst hW0; exact (Below.refl _ _).drew
      clear hW0
      repeat (first
        | (refine ord_skip rfl ?_ ?_; rfl; simp only [pz])
        | (refine ord_take (v := ?_) rfl ?_ (fun W hW => ?_) ?_; rotate_left; rfl; (obtain ⟨c0, c1, d0, d1⟩ := hW; go_simp; (first | done | with_reducible rfl)); simp only [pz]))
      refine ord_nil ?_
      replace HB := Lib.hid (HB.out.trans (hBW.mono HB.out.size))
      replace HC := Lib.hid (HC.out.trans (hBW.mono HC.out.size))
      replace HS := Lib.hid (HS.out.below hBW)
      replace HT := Lib.hid (HT.out.below hBW)
      clear hBW
      go_wp2_with fail
      go_roundw
      case rel => exact ⟨k + 1, by omega, by go_num, HC.out⟩
      case measure => simp [intOf]; omega
    · go_wp2_with fail
      go_ret
      exact ⟨rfl, HB.out⟩
end Go.Proofs.Ytgglfngkomgadaa
