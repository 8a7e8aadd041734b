/- Walks of the laws: lists of the call's own. -/
import Derived.Test.YtgglfngkomgadaaL0
import Derived.Test.YtgglfngkomgadaaM8
namespace Go.Proofs.Ytgglfngkomgadaa
open Go.RowKit Go.Shelf
set_option linter.unusedVariables false
set_option linter.unusedSimpArgs false
set_option maxRecDepth 100000

/-- A list in a block of the call's own, from its begin on. -/
def OwnL (base : Nat) (t : TypeId) (W : World) (a : Option Addr) (cs : List Value) : Prop :=
  cs = [] ∨ ∃ b arr, a = some ⟨b, 0, none⟩ ∧ base ≤ b ∧ W.heap[b]? = some (.cells arr t (0, 0)) ∧ ∀ (i : Nat) (v : Value), cs[i]? = some v → arr[i]? = some v
theorem OwnL.of_own {W : World} {base : Nat} {e : TypeId} {size : Nat} {a : Option Addr} {c n : Nat} {cs : List Value} (h : W.ownsRow base e size (.slice a n c) n cs) : OwnL base e W a cs := by
  rcases h.2 with ⟨hv, hn⟩ | ⟨g, cap, cur, hv, hg, hb, _, _, _, ht⟩
  · left
    have := h.1
    rw [hn, Nat.zero_mul] at this
    exact List.eq_nil_of_length_eq_zero this
  · right
    injection hv with h1 h2 h3
    refine ⟨g, cur, h1, hg, hb, fun i v hi => ?_⟩
    rw [← ht] at hi
    have hlt : i < n * size := by
      have := (List.getElem?_eq_some_iff.1 hi).1
      rw [List.length_take] at this
      omega
    rw [List.getElem?_take_of_lt hlt] at hi
    simpa using hi
theorem OwnL.sl {W : World} {base : Nat} {t : TypeId} {a : Option Addr} {cs : List Value} (h : OwnL base t W a cs) : Sl W a cs := by
  rcases h with h | ⟨b, arr, ha, _, hb, hc⟩
  · exact .inl h
  · refine .inr ⟨b, 0, ha, fun i v hi => ?_⟩
    rw [cell_blk hb, Nat.zero_add]
    exact hc i v hi
theorem OwnL.wr {W W' : World} {base : Nat} {t : TypeId} {a : Option Addr} {cs : List Value} {C : Nat → Prop} (h : OwnL base t W a cs) (hw : Wr C W W') (hn : ∀ b, base ≤ b → ¬ C b) : OwnL base t W' a cs := by
  rcases h with h | ⟨b, arr, ha, hb0, hb, hc⟩
  · exact .inl h
  · exact .inr ⟨b, arr, ha, hb0, hw.blk (hn b hb0) hb, hc⟩
theorem OwnL.below {W W' : World} {base : Nat} {t : TypeId} {a : Option Addr} {cs : List Value} (h : OwnL base t W a cs) (hb : Below W.heap.size W W') : OwnL base t W' a cs := h.wr (Wr.of_below (S := fun _ => False) hb) (fun _ _ e => e)
theorem OwnL.grown {W W' : World} {base : Nat} {t t' : TypeId} {a : Option Addr} {cs : List Value} {eb : Nat} (h : OwnL base t W a cs) (he : W.heap[eb]? = some (.cells #[] t' (0, 0))) (hg : W.grownBy W' (some eb)) : OwnL base t W' a cs := by
  rcases h with h | ⟨b, arr, ha, hb0, hb, hc⟩
  · exact .inl h
  · by_cases e : cs = []
    · exact .inl e
    · have hn : b ≠ eb := by
        rintro rfl
        rw [hb] at he
        injection he with he
        injection he with he
        obtain ⟨x, hx⟩ : ∃ x, cs[0]? = some x := ⟨_, List.getElem?_eq_getElem (List.length_pos_iff.2 e)⟩
        have := hc 0 x hx
        rw [he] at this
        simp at this
      have hlt := (Array.getElem?_eq_some_iff.1 hb).1
      exact .inr ⟨b, arr, ha, hb0, (hg.block b hlt (fun e2 => hn (Option.some.inj e2))).trans hb, hc⟩
theorem own_none {W : World} {eb base : Nat} {t : TypeId} {size : Nat} (he : W.heap[eb]? = some (.cells #[] t (0, 0))) (hb : base ≤ eb) : W.ownsRow base t size (.slice (some ⟨eb, 0, none⟩) 0 0) 0 [] :=
  ⟨by simp, .inr ⟨eb, 0, #[], rfl, hb, he, Nat.le_refl _, Nat.zero_le _, by simp, by simp⟩⟩
theorem eb_new {w0 W : World} (hBW : Below w0.heap.size w0 W) (t : TypeId) : ∃ eb W', W.heap.size = eb ∧ W.alloc (.cells #[] t) = W' ∧ Below W.heap.size W W' ∧ W'.heap[eb]? = some (.cells #[] t (0, 0)) ∧ w0.heap.size ≤ eb ∧ (∀ (b : Nat) (o : Obj), W.heap[b]? = some o → b ≠ eb ∧ W'.heap[b]? = some o) :=
  ⟨_, _, rfl, rfl, al_b _ _, heap_alloc_new _ _, hBW.size, fun b o h => ⟨Nat.ne_of_lt (Array.getElem?_eq_some_iff.1 h).1, ((al_b W (.cells #[] t)).block b (Array.getElem?_eq_some_iff.1 h).1).trans h⟩⟩
theorem ap_new {w0 W W' : World} (hBW : Below w0.heap.size w0 W) {eb n size : Nat} {t : TypeId} {v : Value} {cs : List Value} (he : W.heap[eb]? = some (.cells #[] t (0, 0))) (hz : w0.heap.size ≤ eb) (hown : W'.ownsRow w0.heap.size t size v (0 + n) ([] ++ cs)) (hg : W.grownBy W' (Value.slice (some ⟨eb, 0, none⟩) 0 0).ownBlock) :
    ∃ a c, v = .slice a n c ∧ OwnL w0.heap.size t W' a cs ∧ Below w0.heap.size w0 W' ∧ Wr (fun k => some eb = some k) W W' ∧ (∀ (b : Nat) (o : Obj), b ≠ eb → W.heap[b]? = some o → W'.heap[b]? = some o) := by
  rw [List.nil_append, Nat.zero_add] at hown
  obtain ⟨a, c, rfl, _, _⟩ := own_Sl hown
  have hw : Wr (fun k => some eb = some k) W W' := wr_grown hg
  exact ⟨a, c, rfl, OwnL.of_own hown, hBW.grown hg (by have := hBW.size; omega) (fun k e => by cases e; exact hz), hw, fun b o hn h => hw.blk (fun e => hn (Option.some.inj e).symm) h⟩
theorem st_new {w0 W : World} {xb fi : Nat} {c : Array Value} {e : TypeId} {v : Value} (h : W.heap[xb]? = some (.cells c e (0, 0))) (hw : Wr (fun k => k = xb) w0 W) : ∃ W', W.setCell ⟨xb, fi, none⟩ v = W' ∧ W'.heap[xb]? = some (.cells (c.setIfInBounds fi v) e (0, 0)) ∧ Wr (fun k => k = xb) W W' ∧ Wr (fun k => k = xb) w0 W' :=
  have hs := Wr.setCell (fun k => k = xb) W ⟨xb, fi, none⟩ v rfl
  ⟨_, rfl, heap_set h v, hs, hw.trans hs⟩
theorem cell_other {W : World} {b i j : Nat} {v u : Value} (hn : i ≠ j) (h : W.cell? ⟨b, j, none⟩ = some u) : (W.setCell ⟨b, i, none⟩ v).cell? ⟨b, j, none⟩ = some u := by
  have hne : (⟨b, i, none⟩ : Addr) ≠ ⟨b, j, none⟩ := by intro e2; injection e2 with _ e3 _; exact hn e3
  rw [← h]
  first | exact World.cell?_setCell_other _ _ _ _ hne | exact World.cell?_setCell_other _ _ _ hne | exact World.cell?_setCell_other _ _ hne | exact World.cell?_setCell_other _ hne
abbrev bx26 (r : Riv) (A : RA) (s m g : Value) : Obj := .cells #[.int .i64 r.last, s, m, .int .i64 r.sweet, .int .i64 r.clear, .int .i64 r.size, .int .i64 r.start, .int .i64 r.draw, .slice A.ua r.use.length A.uc, g] 26 (0, 0)
theorem OwnL.blk {W : World} {base : Nat} {t : TypeId} {a : Option Addr} {cs : List Value} (h : OwnL base t W a cs) (hne : 0 < cs.length) : ∃ b arr, a = some ⟨b, 0, none⟩ ∧ base ≤ b ∧ W.heap[b]? = some (.cells arr t (0, 0)) := by
  rcases h with h | ⟨b, arr, ha, hb0, hb, _⟩
  · rw [h] at hne; simp at hne
  · exact ⟨b, arr, ha, hb0, hb⟩
theorem OwnL.set2 {W : World} {base b : Nat} {t : TypeId} {cs : List Value} {j : Nat} {v0 v1 : Value} (h : OwnL base t W (some ⟨b, 0, none⟩) cs) (hj : j + 1 < cs.length) :
    OwnL base t ((W.setCell ⟨b, j, none⟩ v0).setCell ⟨b, j + 1, none⟩ v1) (some ⟨b, 0, none⟩) ((cs.set j v0).set (j + 1) v1) := by
  rcases h with h | ⟨b', arr, ha, hb0, hb, hc⟩
  · rw [h] at hj; simp at hj
  · injection ha with ha
    injection ha with ha _ _
    subst ha
    refine .inr ⟨b, (arr.setIfInBounds j v0).setIfInBounds (j + 1) v1, rfl, hb0, heap_set (heap_set hb v0) v1, fun i v hi => ?_⟩
    have hlen : cs.length ≤ arr.size := by
      rcases Nat.lt_or_ge arr.size cs.length with h | h
      · have := hc arr.size _ (List.getElem?_eq_getElem h)
        simp at this
      · exact h
    rw [List.getElem?_set, List.getElem?_set, List.length_set] at hi
    rw [Array.getElem?_setIfInBounds, Array.getElem?_setIfInBounds, Array.size_setIfInBounds]
    by_cases c1 : j + 1 = i
    · rw [if_pos c1, if_pos (by omega)] at hi
      rw [if_pos c1, if_pos (by omega)]
      exact hi
    · rw [if_neg c1] at hi
      rw [if_neg c1]
      by_cases c2 : j = i
      · rw [if_pos c2, if_pos (by omega)] at hi
        rw [if_pos c2, if_pos (by omega)]
        exact hi
      · rw [if_neg c2] at hi
        rw [if_neg c2]
        exact hc i v hi
theorem rgs_set : ∀ (rs : List Rg) (k : Nat) (y : Rg), rgs (rs.set k y) = ((rgs rs).set (k * 2) (.int .i64 y.lo)).set (k * 2 + 1) (.int .i64 y.hi)
  | [], k, y => by simp [rgs]
  | x :: rs, 0, y => by simp [rgs, rgc]
  | x :: rs, k + 1, y => by
    have ih := rgs_set rs k y
    simp only [rgs, rgc, List.set_cons_succ, List.flatMap_cons] at ih ⊢
    rw [show (k + 1) * 2 = k * 2 + 1 + 1 by omega, show k * 2 + 1 + 1 + 1 = (k * 2 + 1) + 1 + 1 by omega]
    simp only [List.cons_append, List.nil_append, List.set_cons_succ]
    rw [ih]
theorem ggs_set : ∀ (gs : List Gg) (k : Nat) (y : Rg), k < gs.length → ggs (gs.set k { (gs.getD k default) with rd := y }) = ((ggs gs).set (k * 4 + 2) (.int .i64 y.lo)).set (k * 4 + 2 + 1) (.int .i64 y.hi)
  | [], k, y, h => by simp at h
  | x :: gs, 0, y, _ => by simp [ggs, ggc]
  | x :: gs, k + 1, y, h => by
    have ih := ggs_set gs k y (by simpa using h)
    simp only [ggs, ggc, List.set_cons_succ, List.flatMap_cons, List.getD_cons_succ] at ih ⊢
    rw [show (k + 1) * 4 + 2 = k * 4 + 2 + 1 + 1 + 1 + 1 by omega, show k * 4 + 2 + 1 + 1 + 1 + 1 + 1 = (k * 4 + 2 + 1) + 1 + 1 + 1 + 1 by omega]
    simp only [List.cons_append, List.nil_append, List.set_cons_succ]
    rw [ih]
theorem box_blk {W : World} {q : Nat} {r : Riv} {A : RA} (h : W.heap[q]? = some (.cells #[.int .i64 r.last, .slice A.sa r.salt.length A.sc, .slice A.ma r.mud.length A.mc, .int .i64 r.sweet, .int .i64 r.clear, .int .i64 r.size, .int .i64 r.start, .int .i64 r.draw, .slice A.ua r.use.length A.uc, .slice A.ga r.gauges.length A.gc] 26 (0, 0))) : BoxR q r A W :=
  ⟨by rw [cell_blk h]; rfl, by rw [cell_blk h]; rfl, by rw [cell_blk h]; rfl, by rw [cell_blk h]; rfl, by rw [cell_blk h]; rfl, by rw [cell_blk h]; rfl, by rw [cell_blk h]; rfl, by rw [cell_blk h]; rfl, by rw [cell_blk h]; rfl, by rw [cell_blk h]; rfl⟩
theorem dj_new {W : World} {base eb n c : Nat} {t t' : TypeId} {a a' : Option Addr} {cs : List Value} (h : OwnL base t W a cs) (he : W.heap[eb]? = some (.cells #[] t' (0, 0))) (hor : (Value.slice a' n c).ownBlock = (Value.slice (some ⟨eb, 0, none⟩) 0 0).ownBlock ∨ (Value.slice a' n c).ownBlock = some W.heap.size) (hne : 0 < cs.length) :
    ∀ b, a = some ⟨b, 0, none⟩ → a' ≠ some ⟨b, 0, none⟩ := by
  rintro b rfl rfl
  rcases h with h | ⟨b', arr, ha, hb0, hb, hc⟩
  · rw [h] at hne; simp at hne
  · cases ha
    rcases hor with e | e
    · have e2 : b = eb := Option.some.inj e
      subst e2
      rw [hb] at he
      injection he with he
      injection he with he
      have := hc 0 _ (List.getElem?_eq_getElem hne)
      rw [he] at this
      simp at this
    · have e2 : b = W.heap.size := Option.some.inj e
      have := (Array.getElem?_eq_some_iff.1 hb).1
      omega
theorem OwnL.wrb {W W' : World} {base : Nat} {t : TypeId} {a : Option Addr} {cs : List Value} {C : Nat → Prop} (h : OwnL base t W a cs) (hw : Wr C W W') (hn : ∀ b, a = some ⟨b, 0, none⟩ → (∃ arr, W.heap[b]? = some (.cells arr t (0, 0))) → ¬ C b) : OwnL base t W' a cs := by
  rcases h with h | ⟨b, arr, ha, hb0, hb, hc⟩
  · exact .inl h
  · exact .inr ⟨b, arr, ha, hb0, hw.blk (hn b ha ⟨arr, hb⟩) hb, hc⟩
abbrev set2 (W : World) (ab ao : Nat) (x y : Int) : World := (W.setCell ⟨ab, ao, none⟩ (.int .i64 x)).setCell ⟨ab, ao + 1, none⟩ (.int .i64 y)
theorem set2_wr (W : World) (ab ao : Nat) (x y : Int) : Wr (fun k => k = ab) W (set2 W ab ao x y) := (Wr.setCell (fun k => k = ab) _ ⟨ab, ao, none⟩ _ rfl).trans (Wr.setCell (fun k => k = ab) _ ⟨ab, ao + 1, none⟩ _ rfl)
/-- A pointer to a range of the river x, and x after the stores. -/
structure PtrW (w W : World) (r : Riv) (xb : Nat) (a b : Int) (ab ao : Nat) (y : Rg) (x : Riv) (A' : RA) : Prop where
  c0 : W.cell? ⟨ab, ao, none⟩ = some (.int .i64 y.lo)
  c1 : W.cell? ⟨ab, ao + 1, none⟩ = some (.int .i64 y.hi)
  fz : ∃ arr e, W.heap[ab]? = some (.cells arr e (0, 0))
  bd : GoodRg y
  nq : w.heap.size < ab
  wide : Wide r x
  clo : ∀ W', Below W.heap.size W W' → BoxR xb x A' (set2 W' ab ao (y.lo - a) (y.hi + b)) ∧ Rd (set2 W' ab ao (y.lo - a) (y.hi + b)) x A' ∧ Below w.heap.size w (set2 W' ab ao (y.lo - a) (y.hi + b))
theorem ptr_salt {w W : World} {r : Riv} {A : RA} {xb base kk cS cM cG : Nat} {aS aM aG : Option Addr} {a b : Int} (ok : Ok r) (ha : 0 ≤ a) (hb : 0 ≤ b) (hr : Rd w r A) (hB : Below w.heap.size w W) (hq : w.heap.size < base) (hxb : xb < base)
    (hX : W.heap[xb]? = some (bx26 r A (.slice aS r.salt.length cS) (.slice aM r.mud.length cM) (.slice aG r.gauges.length cG))) (hOS : OwnL base 51 W aS (rgs r.salt)) (hOM : OwnL base 51 W aM (rgs r.mud)) (hOG : OwnL base 99 W aG (ggs r.gauges))
    (hDJ : 0 < (rgs r.salt).length → ∀ b, aS = some ⟨b, 0, none⟩ → aM ≠ some ⟨b, 0, none⟩) (hk : kk < r.salt.length) :
    ∃ ab y x A', aS = some ⟨ab, 0, none⟩ ∧ PtrW w W r xb a b ab (kk * 2) y x A' := by
  have hl : (rgs r.salt).length = r.salt.length * 2 := len_flat rgc 2 (fun _ => rfl) r.salt
  obtain ⟨ab, arr, rfl, hb0, hblk⟩ := hOS.blk (by omega)
  obtain ⟨y, hy⟩ : ∃ y, r.salt[kk]? = some y := ⟨_, List.getElem?_eq_getElem hk⟩
  have hyd : r.salt.getD kk default = y := by rw [List.getD_eq_getElem?_getD, hy]; rfl
  obtain ⟨b', o', e, h0, h1⟩ := hOS.sl.rg_at hy
  cases e
  rw [Nat.zero_add] at h0 h1
  have hrg := rgs_set r.salt kk (wideRg y a b)
  have hw := wide_salt r kk ha hb
  rw [hyd] at hw
  refine ⟨ab, y, _, ⟨some ⟨ab, 0, none⟩, cS, aM, cM, A.ua, A.uc, aG, cG⟩, rfl, h0, h1, ⟨_, _, hblk⟩, ok.so y (List.mem_of_getElem? hy), by omega, hw, fun W2 hW => ?_⟩
  replace hX := (hW.block xb (Array.getElem?_eq_some_iff.1 hX).1).trans hX
  replace hblk := (hW.block ab (Array.getElem?_eq_some_iff.1 hblk).1).trans hblk
  replace hOS := hOS.below hW
  replace hOM := hOM.below hW
  replace hOG := hOG.below hW
  replace hB := hB.trans (hW.mono hB.size)
  have hwr := set2_wr W2 ab (kk * 2) (y.lo - a) (y.hi + b)
  have hbel := hB.trans (hwr.below hB.size (fun k e => by have : k = ab := e; omega))
  have hset := hOS.set2 (j := kk * 2) (v0 := .int .i64 (y.lo - a)) (v1 := .int .i64 (y.hi + b)) (by omega)
  refine ⟨box_blk ?_, ⟨?_, ?_, hr.u.below hbel, ?_⟩, hbel⟩
  · simp only [List.length_set]
    exact hwr.blk (k := xb) (fun e => by have : xb = ab := e; omega) hX
  · show Sl _ _ (rgs (r.salt.set kk (wideRg y a b)))
    rw [hrg]
    exact hset.sl
  · exact (hOM.wrb hwr (fun b2 e _ e2 => by have : b2 = ab := e2; subst this; exact hDJ (by omega) _ rfl e)).sl
  · exact (hOG.wrb hwr (fun b2 e h e2 => by have : b2 = ab := e2; subst this; obtain ⟨ar, h⟩ := h; rw [hblk] at h; injection h with h; injection h with _ h; exact absurd h (by decide))).sl
theorem ptr_mud {w W : World} {r : Riv} {A : RA} {xb base kk cS cM cG : Nat} {aS aM aG : Option Addr} {a b : Int} (ok : Ok r) (ha : 0 ≤ a) (hb : 0 ≤ b) (hr : Rd w r A) (hB : Below w.heap.size w W) (hq : w.heap.size < base) (hxb : xb < base)
    (hX : W.heap[xb]? = some (bx26 r A (.slice aS r.salt.length cS) (.slice aM r.mud.length cM) (.slice aG r.gauges.length cG))) (hOS : OwnL base 51 W aS (rgs r.salt)) (hOM : OwnL base 51 W aM (rgs r.mud)) (hOG : OwnL base 99 W aG (ggs r.gauges))
    (hDJ : 0 < (rgs r.salt).length → ∀ b, aS = some ⟨b, 0, none⟩ → aM ≠ some ⟨b, 0, none⟩) (hk : kk < r.mud.length) :
    ∃ ab y x A', aM = some ⟨ab, 0, none⟩ ∧ PtrW w W r xb a b ab (kk * 2) y x A' := by
  have hl : (rgs r.mud).length = r.mud.length * 2 := len_flat rgc 2 (fun _ => rfl) r.mud
  have hl2 : (rgs r.salt).length = r.salt.length * 2 := len_flat rgc 2 (fun _ => rfl) r.salt
  have hns := ok.ns
  have hnm := ok.nm
  obtain ⟨ab, arr, rfl, hb0, hblk⟩ := hOM.blk (by omega)
  obtain ⟨y, hy⟩ : ∃ y, r.mud[kk]? = some y := ⟨_, List.getElem?_eq_getElem hk⟩
  have hyd : r.mud.getD kk default = y := by rw [List.getD_eq_getElem?_getD, hy]; rfl
  obtain ⟨b', o', e, h0, h1⟩ := hOM.sl.rg_at hy
  cases e
  rw [Nat.zero_add] at h0 h1
  have hrg := rgs_set r.mud kk (wideRg y a b)
  have hw := wide_mud r kk ha hb
  rw [hyd] at hw
  refine ⟨ab, y, _, ⟨aS, cS, some ⟨ab, 0, none⟩, cM, A.ua, A.uc, aG, cG⟩, rfl, h0, h1, ⟨_, _, hblk⟩, ok.mo y (List.mem_of_getElem? hy), by omega, hw, fun W2 hW => ?_⟩
  replace hX := (hW.block xb (Array.getElem?_eq_some_iff.1 hX).1).trans hX
  replace hblk := (hW.block ab (Array.getElem?_eq_some_iff.1 hblk).1).trans hblk
  replace hOS := hOS.below hW
  replace hOM := hOM.below hW
  replace hOG := hOG.below hW
  replace hB := hB.trans (hW.mono hB.size)
  have hwr := set2_wr W2 ab (kk * 2) (y.lo - a) (y.hi + b)
  have hbel := hB.trans (hwr.below hB.size (fun k e => by have : k = ab := e; omega))
  have hset := hOM.set2 (j := kk * 2) (v0 := .int .i64 (y.lo - a)) (v1 := .int .i64 (y.hi + b)) (by omega)
  refine ⟨box_blk ?_, ⟨?_, ?_, hr.u.below hbel, ?_⟩, hbel⟩
  · simp only [List.length_set]
    exact hwr.blk (k := xb) (fun e => by have : xb = ab := e; omega) hX
  · exact (hOS.wrb hwr (fun b2 e _ e2 => by have : b2 = ab := e2; subst this; exact hDJ (by omega) _ e rfl)).sl
  · show Sl _ _ (rgs (r.mud.set kk (wideRg y a b)))
    rw [hrg]
    exact hset.sl
  · exact (hOG.wrb hwr (fun b2 e h e2 => by have : b2 = ab := e2; subst this; obtain ⟨ar, h⟩ := h; rw [hblk] at h; injection h with h; injection h with _ h; exact absurd h (by decide))).sl
theorem ptr_read {w W : World} {r : Riv} {A : RA} {xb base kk cS cM cG : Nat} {aS aM aG : Option Addr} {a b : Int} (ok : Ok r) (ha : 0 ≤ a) (hb : 0 ≤ b) (hr : Rd w r A) (hB : Below w.heap.size w W) (hq : w.heap.size < base) (hxb : xb < base)
    (hX : W.heap[xb]? = some (bx26 r A (.slice aS r.salt.length cS) (.slice aM r.mud.length cM) (.slice aG r.gauges.length cG))) (hOS : OwnL base 51 W aS (rgs r.salt)) (hOM : OwnL base 51 W aM (rgs r.mud)) (hOG : OwnL base 99 W aG (ggs r.gauges)) (hk : kk < r.gauges.length) :
    ∃ ab y x A', aG = some ⟨ab, 0, none⟩ ∧ PtrW w W r xb a b ab (kk * 4 + 2) y x A' := by
  have hl : (ggs r.gauges).length = r.gauges.length * 4 := len_flat ggc 4 (fun _ => rfl) r.gauges
  obtain ⟨ab, arr, rfl, hb0, hblk⟩ := hOG.blk (by omega)
  obtain ⟨g, hy⟩ : ∃ y, r.gauges[kk]? = some y := ⟨_, List.getElem?_eq_getElem hk⟩
  have hyd : r.gauges.getD kk default = g := by rw [List.getD_eq_getElem?_getD, hy]; rfl
  obtain ⟨b', o', e, _, _, h0, h1⟩ := hOG.sl.gg_at hy
  cases e
  rw [Nat.zero_add] at h0 h1
  have hrg := ggs_set r.gauges kk (wideRg g.rd a b) hk
  have hw := wide_read r kk ha hb
  rw [hyd] at hw hrg
  refine ⟨ab, g.rd, _, ⟨aS, cS, aM, cM, A.ua, A.uc, some ⟨ab, 0, none⟩, cG⟩, rfl, h0, h1, ⟨_, _, hblk⟩, (ok.go g (List.mem_of_getElem? hy)).2, by omega, hw, fun W2 hW => ?_⟩
  replace hX := (hW.block xb (Array.getElem?_eq_some_iff.1 hX).1).trans hX
  replace hblk := (hW.block ab (Array.getElem?_eq_some_iff.1 hblk).1).trans hblk
  replace hOS := hOS.below hW
  replace hOM := hOM.below hW
  replace hOG := hOG.below hW
  replace hB := hB.trans (hW.mono hB.size)
  have hwr := set2_wr W2 ab (kk * 4 + 2) (g.rd.lo - a) (g.rd.hi + b)
  have hbel := hB.trans (hwr.below hB.size (fun k e => by have : k = ab := e; omega))
  have hset := hOG.set2 (j := kk * 4 + 2) (v0 := .int .i64 (g.rd.lo - a)) (v1 := .int .i64 (g.rd.hi + b)) (by omega)
  refine ⟨box_blk ?_, ⟨?_, ?_, hr.u.below hbel, ?_⟩, hbel⟩
  · simp only [List.length_set]
    exact hwr.blk (k := xb) (fun e => by have : xb = ab := e; omega) hX
  · exact (hOS.wrb hwr (fun b2 e h e2 => by have : b2 = ab := e2; subst this; obtain ⟨ar, h⟩ := h; rw [hblk] at h; injection h with h; injection h with _ h; exact absurd h (by decide))).sl
  · exact (hOM.wrb hwr (fun b2 e h e2 => by have : b2 = ab := e2; subst this; obtain ⟨ar, h⟩ := h; rw [hblk] at h; injection h with h; injection h with _ h; exact absurd h (by decide))).sl
  · show Sl _ _ (ggs (r.gauges.set kk { g with rd := wideRg g.rd a b }))
    rw [hrg]
    exact hset.sl
end Go.Proofs.Ytgglfngkomgadaa
