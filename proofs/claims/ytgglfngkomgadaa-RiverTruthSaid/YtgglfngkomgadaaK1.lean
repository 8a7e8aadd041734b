/- The laws' arguments, opened: what reads as a river, a truth, a list, is one in memory. -/
import Derived.Test.YtgglfngkomgadaaRows
import Derived.Test.YtgglfngkomgadaaJC
import Derived.Test.YtgglfngkomgadaaJE
import Derived.Deep.Slices
import Derived.WalkKit
import Derived.ProofKit
import Derived.OpenShut
import Derived.ChangeOld
import Derived.Below
import Derived.SizedLaws
namespace Go.Proofs.Ytgglfngkomgadaa
open Go.ChangeShapes Go.WideShapes Go.ChangeAt Go.RowKit Go.Shelf
set_option linter.unusedVariables false
set_option linter.unusedSimpArgs false
set_option maxRecDepth 100000

theorem lim8 : IntKind.min .u8 = 0 ∧ IntKind.max .u8 = 255 := by decide
theorem lim16 : IntKind.min .u16 = 0 ∧ IntKind.max .u16 = 65535 := by decide
theorem own : ownKnob Try.prog.godebug = none := by kernel_rfl
theorem laidOut : laidOutB Try.prog = true := by kernel_rfl
theorem list_pts {α : Type} {P : Nat → α → Prop} : ∀ (n : Nat), (∀ i, i < n → ∃ x, P i x) → ∃ xs : List α, xs.length = n ∧ ∀ i x, xs[i]? = some x → P i x
  | 0, _ => ⟨[], rfl, fun i x h => by simp at h⟩
  | n + 1, h => by
    obtain ⟨xs, hl, hx⟩ := list_pts (P := P) n (fun i hi => h i (by omega))
    obtain ⟨y, hy⟩ := h n (by omega)
    refine ⟨xs ++ [y], by simp [hl], fun i x hi => ?_⟩
    by_cases c : i < xs.length
    · rw [List.getElem?_append_left c] at hi; exact hx i x hi
    · rw [List.getElem?_append_right (by omega)] at hi
      have e : i - xs.length = 0 := by
        rcases Nat.eq_zero_or_pos (i - xs.length) with e | e
        · exact e
        · rw [List.getElem?_eq_none (by simp; omega)] at hi; cases hi
      rw [e] at hi
      simp at hi
      subst hi
      rw [show i = n by omega]
      exact hy
section
variable {H : Type} {enc : TypeId × Value → H} {w : World} {base : Nat} {spare : Nat → Bool} {held : Bool}
theorem add_spot {a : Addr} {v : Value} (h : w.cell? a = some v) : a.spot = none := by
  unfold World.cell? at h
  split at h
  · split at h
    · cases h
    · rename_i hs; simpa using hs
  · cases h
/-- A slice that reads as data, as a list in memory. -/
theorem open_sl {α : Type} (f : α → List Value) (n : Nat) (hn : 0 < n) (hf : ∀ x, (f x).length = n) {P : α → Prop} {t e : TypeId} {fuel : Nat} {c : Value} {y : DataW H × List MemPlace} (ht : Try.prog.underlying t = some (.slice e)) (hC : Try.prog.cellsOf e = n)
    (hel : ∀ (m : Nat) (cs : List Value) (z : DataW H × List MemPlace), DataW.trod enc Try.prog w base spare held m e cs = some z → ∃ x, cs = f x ∧ P x)
    (h : DataW.trod enc Try.prog w base spare held fuel t [c] = some y) :
    ∃ (xs : List α) (a : Option Addr) (cap : Nat), c = .slice a xs.length cap ∧ Sl w a (xs.flatMap f) ∧ (∀ x ∈ xs, P x) ∧ xs.length ≤ cap ∧ cap ≤ maxLen := by
  rcases Go.Deep.open_slice ht h with ⟨h0, _⟩ | ⟨a, len, cap, m, k, D, Pl, hcs, hb, hl, hm, hmm, hx, hi⟩
  · simp only [List.cons.injEq, and_true] at h0
    exact ⟨[], none, 0, h0, .inl rfl, fun x hx => by simp at hx, Nat.le_refl _, Nat.zero_le _⟩
  · simp only [List.cons.injEq, and_true] at hcs
    have hlm : len ≤ m := by rw [hmm]; split <;> omega
    obtain ⟨xs, hxl, hxs⟩ := list_pts (P := fun i (x : α) => P x ∧ ∀ j, j < n → w.cell? ((a.add (i * n)).add j) = (f x)[j]?) len (fun i hi' => by
      obtain ⟨cs', hc, ht'⟩ := hi i (by omega)
      obtain ⟨x, hx', hp⟩ := hel _ _ _ ht'
      rw [hC] at hc
      obtain ⟨_, _, hat⟩ := World.cells?_some hc
      exact ⟨x, hp, fun j hj => by rw [hat j hj, hx']⟩)
    refine ⟨xs, some a, cap, by rw [hcs, hxl], ?_, fun x hx => ?_, by omega, hm⟩
    · by_cases e0 : xs = []
      · exact .inl (by rw [e0]; rfl)
      · have hpos : 0 < xs.length := List.length_pos_iff.2 e0
        obtain ⟨x0, hx0⟩ : ∃ x, xs[0]? = some x := ⟨_, List.getElem?_eq_getElem hpos⟩
        have h00 := (hxs 0 x0 hx0).2 0 hn
        have hfx : (f x0)[0]? = some ((f x0)[0]'(by rw [hf]; exact hn)) := List.getElem?_eq_getElem _
        rw [hfx] at h00
        have hs := add_spot h00
        simp only [Nat.zero_mul, Addr.add, if_true] at hs
        obtain ⟨b, o, s⟩ := a
        simp only at hs
        subst hs
        refine .inr ⟨b, o, rfl, fun i v hv => ?_⟩
        have hlt : i < (xs.flatMap f).length := (List.getElem?_eq_some_iff.1 hv).1
        have hlen : (xs.flatMap f).length = xs.length * n := len_flat f n hf xs
        rw [hlen] at hlt
        have hq : i / n < xs.length := Nat.div_lt_of_lt_mul (by rw [Nat.mul_comm]; exact hlt)
        have hr : i % n < n := Nat.mod_lt _ hn
        obtain ⟨x, hx⟩ : ∃ x, xs[i / n]? = some x := ⟨_, List.getElem?_eq_getElem hq⟩
        have hfl := flat_at f n hf xs (i / n) x (i % n) hx hr
        have hdm : i / n * n + i % n = i := by rw [Nat.mul_comm]; exact Nat.div_add_mod i n
        rw [hdm, hv] at hfl
        have hc := (hxs _ _ hx).2 _ hr
        rw [← hfl] at hc
        rw [← hc]
        congr 1
        have hadd : ∀ (x : Nat) (y : Nat), ((⟨b, x, none⟩ : Addr).add y) = ⟨b, x + y, none⟩ := fun x y => by
          unfold Addr.add; split
          · rename_i h0; subst h0; rfl
          · rfl
        rw [hadd, hadd, Addr.mk.injEq]
        exact ⟨rfl, by omega, rfl⟩
    · obtain ⟨i, hi'⟩ := List.mem_iff_getElem?.1 hx
      exact (hxs i x hi').1
theorem open_int1 {t : TypeId} {k : IntKind} {m : Nat} {cs : List Value} {z : DataW H × List MemPlace} (ht : Try.prog.underlying t = some (.int k)) (h : DataW.trod enc Try.prog w base spare held m t cs = some z) : ∃ x : Int, cs = [.int k x] ∧ (Lit.int k x).wf = true := by
  obtain ⟨x, hx, _, hw⟩ := DataW.trod_int ht h
  exact ⟨x, hx, hw⟩
theorem fld {β : Type} {xs : List β} {n i : Nat} (h : xs.length = n) (hi : i < n) : ∃ y, xs[i]? = some y := ⟨_, List.getElem?_eq_getElem (by omega)⟩
theorem fget {fs : Array Field} {cs : List Value} {ys : List (DataW H × List MemPlace)} {n : Nat} (hg : ∀ (i : Nat) (f : Field), fs[i]? = some f → DataW.trod enc Try.prog w base spare held n f.type ((cs.drop f.offset).take (Try.prog.cellsOf f.type)) = ys[i]?)
    (i : Nat) {f : Field} {ty : TypeId} {off c : Nat} (hf : fs[i]? = some f) (ht : f.type = ty) (ho : f.offset = off) (hc : Try.prog.cellsOf ty = c) : DataW.trod enc Try.prog w base spare held n ty ((cs.drop off).take c) = ys[i]? := by
  subst ht ho hc
  exact hg i f hf
theorem c3 : Try.prog.cellsOf 3 = 1 := by kernel_rfl
theorem c4 : Try.prog.cellsOf 4 = 1 := by kernel_rfl
theorem c22 : Try.prog.cellsOf 22 = 1 := by kernel_rfl
theorem c23 : Try.prog.cellsOf 23 = 1 := by kernel_rfl
theorem c24 : Try.prog.cellsOf 24 = 1 := by kernel_rfl
theorem c26 : Try.prog.cellsOf 26 = 10 := by kernel_rfl
theorem c51 : Try.prog.cellsOf 51 = 2 := by kernel_rfl
theorem c64 : Try.prog.cellsOf 64 = 2 := by kernel_rfl
theorem c76 : Try.prog.cellsOf 76 = 1 := by kernel_rfl
theorem c99 : Try.prog.cellsOf 99 = 4 := by kernel_rfl
theorem open_rg {m : Nat} {cs : List Value} {z : DataW H × List MemPlace} (h : DataW.trod enc Try.prog w base spare held m 51 cs = some z) : ∃ x : Rg, cs = rgc x := by
  obtain ⟨ys, n, _, _, hl, hyl, hg⟩ := DataW.trod_struct Try.underlying51 h
  rw [c51] at hl
  match cs, hl with
  | [a, b], _ =>
    obtain ⟨y0, e0⟩ := fld hyl (i := 0) (by decide)
    obtain ⟨y1, e1⟩ := fld hyl (i := 1) (by decide)
    have g0 : DataW.trod enc Try.prog w base spare held n 3 [a] = ys[0]? := fget hg 0 (off := 0) rfl rfl rfl c3
    have g1 : DataW.trod enc Try.prog w base spare held n 3 [b] = ys[1]? := fget hg 1 (off := 1) rfl rfl rfl c3
    obtain ⟨x, hx, _⟩ := open_int1 Try.underlying3 (g0.trans e0)
    obtain ⟨y, hy, _⟩ := open_int1 Try.underlying3 (g1.trans e1)
    simp at hx hy
    exact ⟨⟨x, y⟩, by rw [hx, hy]; rfl⟩
theorem open_gg {m : Nat} {cs : List Value} {z : DataW H × List MemPlace} (h : DataW.trod enc Try.prog w base spare held m 99 cs = some z) : ∃ x : Gg, cs = ggc x := by
  obtain ⟨ys, n, _, _, hl, hyl, hg⟩ := DataW.trod_struct Try.underlying99 h
  rw [c99] at hl
  match cs, hl with
  | [a, b, c, d], _ =>
    obtain ⟨y0, e0⟩ := fld hyl (i := 0) (by decide)
    obtain ⟨y1, e1⟩ := fld hyl (i := 1) (by decide)
    obtain ⟨y2, e2⟩ := fld hyl (i := 2) (by decide)
    have g0 : DataW.trod enc Try.prog w base spare held n 3 [a] = ys[0]? := fget hg 0 (off := 0) rfl rfl rfl c3
    have g1 : DataW.trod enc Try.prog w base spare held n 4 [b] = ys[1]? := fget hg 1 (off := 1) rfl rfl rfl c4
    have g2 : DataW.trod enc Try.prog w base spare held n 51 [c, d] = ys[2]? := fget hg 2 (off := 2) rfl rfl rfl c51
    obtain ⟨x, hx, _⟩ := open_int1 Try.underlying3 (g0.trans e0)
    obtain ⟨y, hy, _⟩ := DataW.trod_bool Try.underlying4 (g1.trans e1)
    obtain ⟨v, hv⟩ := open_rg (g2.trans e2)
    simp [rgc] at hx hy hv
    exact ⟨⟨x, y, v⟩, by rw [hx, hy, hv.1, hv.2]; rfl⟩
theorem open_ints1 {m : Nat} {c : Value} {z : DataW H × List MemPlace} (h : DataW.trod enc Try.prog w base spare held m 23 [c] = some z) : ∃ (xs : List Int) (a : Option Addr) (cap : Nat), c = .slice a xs.length cap ∧ Sl w a (ints xs) ∧ xs.length ≤ cap ∧ cap ≤ maxLen := by
  obtain ⟨xs, a, cap, h1, h2, _, h3, h4⟩ := open_sl (fun x : Int => [Value.int .i64 x]) 1 (by omega) (fun _ => rfl) (P := fun _ => True) Try.underlying23 c3 (fun m cs z hz => by
    obtain ⟨x, hx, _⟩ := open_int1 Try.underlying3 hz
    exact ⟨x, hx, trivial⟩) h
  refine ⟨xs, a, cap, h1, ?_, h3, h4⟩
  have e : xs.flatMap (fun x : Int => [Value.int .i64 x]) = ints xs := by unfold ints; rw [List.map_eq_flatMap]
  rw [← e]; exact h2
theorem open_rgs1 {m : Nat} {c : Value} {z : DataW H × List MemPlace} (h : DataW.trod enc Try.prog w base spare held m 22 [c] = some z) : ∃ (xs : List Rg) (a : Option Addr) (cap : Nat), c = .slice a xs.length cap ∧ Sl w a (rgs xs) ∧ xs.length ≤ cap ∧ cap ≤ maxLen := by
  obtain ⟨xs, a, cap, h1, h2, _, h3, h4⟩ := open_sl rgc 2 (by omega) (fun _ => rfl) (P := fun _ => True) Try.underlying22 c51 (fun m cs z hz => by
    obtain ⟨x, hx⟩ := open_rg hz
    exact ⟨x, hx, trivial⟩) h
  exact ⟨xs, a, cap, h1, h2, h3, h4⟩
theorem open_ggs1 {m : Nat} {c : Value} {z : DataW H × List MemPlace} (h : DataW.trod enc Try.prog w base spare held m 24 [c] = some z) : ∃ (xs : List Gg) (a : Option Addr) (cap : Nat), c = .slice a xs.length cap ∧ Sl w a (ggs xs) ∧ xs.length ≤ cap ∧ cap ≤ maxLen := by
  obtain ⟨xs, a, cap, h1, h2, _, h3, h4⟩ := open_sl ggc 4 (by omega) (fun _ => rfl) (P := fun _ => True) Try.underlying24 c99 (fun m cs z hz => by
    obtain ⟨x, hx⟩ := open_gg hz
    exact ⟨x, hx, trivial⟩) h
  exact ⟨xs, a, cap, h1, h2, h3, h4⟩
theorem open_riv {rc : Reach} {b0 : Nat} {v : Value} {d : DataW H} {p : List MemPlace} (hv : Value.okWide Try.prog w rc b0 26 v) (h : DataW.Trod enc Try.prog w base spare held 26 v d p) :
    ∃ (r : Riv) (A : RA), v = rivV r A ∧ Rd w r A ∧ r.gauges.length ≤ A.gc := by
  obtain ⟨cs, rfl, hsz⟩ := okWide_struct Try.underlying26 hv
  obtain ⟨l⟩ := cs
  obtain ⟨fuel, hf⟩ := h
  obtain ⟨ys, n, _, _, _, hyl, hg⟩ := DataW.trod_struct Try.underlying26 hf
  have hsz : l.length = 10 := hsz.trans c26
  match l, hsz with
  | [a0, a1, a2, a3, a4, a5, a6, a7, a8, a9], _ =>
    obtain ⟨y0, e0⟩ := fld hyl (i := 0) (by decide)
    obtain ⟨y1, e1⟩ := fld hyl (i := 1) (by decide)
    obtain ⟨y2, e2⟩ := fld hyl (i := 2) (by decide)
    obtain ⟨y3, e3⟩ := fld hyl (i := 3) (by decide)
    obtain ⟨y4, e4⟩ := fld hyl (i := 4) (by decide)
    obtain ⟨y5, e5⟩ := fld hyl (i := 5) (by decide)
    obtain ⟨y6, e6⟩ := fld hyl (i := 6) (by decide)
    obtain ⟨y7, e7⟩ := fld hyl (i := 7) (by decide)
    obtain ⟨y8, e8⟩ := fld hyl (i := 8) (by decide)
    obtain ⟨y9, e9⟩ := fld hyl (i := 9) (by decide)
    have g0 : DataW.trod enc Try.prog w base spare held n 3 [a0] = some y0 := (fget hg 0 (off := 0) rfl rfl rfl c3).trans e0
    have g1 : DataW.trod enc Try.prog w base spare held n 22 [a1] = some y1 := (fget hg 1 (off := 1) rfl rfl rfl c22).trans e1
    have g2 : DataW.trod enc Try.prog w base spare held n 22 [a2] = some y2 := (fget hg 2 (off := 2) rfl rfl rfl c22).trans e2
    have g3 : DataW.trod enc Try.prog w base spare held n 3 [a3] = some y3 := (fget hg 3 (off := 3) rfl rfl rfl c3).trans e3
    have g4 : DataW.trod enc Try.prog w base spare held n 3 [a4] = some y4 := (fget hg 4 (off := 4) rfl rfl rfl c3).trans e4
    have g5 : DataW.trod enc Try.prog w base spare held n 3 [a5] = some y5 := (fget hg 5 (off := 5) rfl rfl rfl c3).trans e5
    have g6 : DataW.trod enc Try.prog w base spare held n 3 [a6] = some y6 := (fget hg 6 (off := 6) rfl rfl rfl c3).trans e6
    have g7 : DataW.trod enc Try.prog w base spare held n 3 [a7] = some y7 := (fget hg 7 (off := 7) rfl rfl rfl c3).trans e7
    have g8 : DataW.trod enc Try.prog w base spare held n 23 [a8] = some y8 := (fget hg 8 (off := 8) rfl rfl rfl c23).trans e8
    have g9 : DataW.trod enc Try.prog w base spare held n 24 [a9] = some y9 := (fget hg 9 (off := 9) rfl rfl rfl c24).trans e9
    obtain ⟨last, h0, _⟩ := open_int1 Try.underlying3 g0
    obtain ⟨salt, sa, sc, h1, s1, _⟩ := open_rgs1 g1
    obtain ⟨mud, ma, mc, h2, s2, _⟩ := open_rgs1 g2
    obtain ⟨sweet, h3, _⟩ := open_int1 Try.underlying3 g3
    obtain ⟨clear, h4, _⟩ := open_int1 Try.underlying3 g4
    obtain ⟨size, h5, _⟩ := open_int1 Try.underlying3 g5
    obtain ⟨start, h6, _⟩ := open_int1 Try.underlying3 g6
    obtain ⟨draw, h7, _⟩ := open_int1 Try.underlying3 g7
    obtain ⟨use, ua, uc, h8, s8, _⟩ := open_ints1 g8
    obtain ⟨gs, ga, gc, h9, s9, hgc, _⟩ := open_ggs1 g9
    simp at h0 h3 h4 h5 h6 h7
    subst h0 h1 h2 h3 h4 h5 h6 h7 h8 h9
    exact ⟨⟨last, salt, mud, sweet, clear, size, start, draw, use, gs⟩, ⟨sa, sc, ma, mc, ua, uc, ga, gc⟩, rfl, ⟨s1, s2, s8, s9⟩, hgc⟩
theorem open_tr {rc : Reach} {b0 : Nat} {v : Value} {d : DataW H} {p : List MemPlace} (hv : Value.okWide Try.prog w rc b0 64 v) (h : DataW.Trod enc Try.prog w base spare held 64 v d p) :
    ∃ (t : Tr) (B : TA), v = trV t B ∧ RdT w t B := by
  obtain ⟨cs, rfl, hsz⟩ := okWide_struct Try.underlying64 hv
  obtain ⟨l⟩ := cs
  obtain ⟨fuel, hf⟩ := h
  obtain ⟨ys, n, _, _, _, hyl, hg⟩ := DataW.trod_struct Try.underlying64 hf
  have hsz : l.length = 2 := hsz.trans c64
  match l, hsz with
  | [a0, a1], _ =>
    obtain ⟨y0, e0⟩ := fld hyl (i := 0) (by decide)
    obtain ⟨y1, e1⟩ := fld hyl (i := 1) (by decide)
    have g0 : DataW.trod enc Try.prog w base spare held n 23 [a0] = some y0 := (fget hg 0 (off := 0) rfl rfl rfl c23).trans e0
    have g1 : DataW.trod enc Try.prog w base spare held n 23 [a1] = some y1 := (fget hg 1 (off := 1) rfl rfl rfl c23).trans e1
    obtain ⟨salt, sa, sc, h1, s1, _⟩ := open_ints1 g0
    obtain ⟨mud, ma, mc, h2, s2, _⟩ := open_ints1 g1
    subst h1 h2
    exact ⟨⟨salt, mud⟩, ⟨sa, sc, ma, mc⟩, rfl, s1, s2⟩
theorem open_ga {rc : Reach} {b0 : Nat} {v : Value} {d : DataW H} {p : List MemPlace} (hv : Value.okWide Try.prog w rc b0 99 v) (h : DataW.Trod enc Try.prog w base spare held 99 v d p) :
    ∃ g : Gg, v = .agg (ggc g).toArray := by
  obtain ⟨cs, rfl, hsz⟩ := okWide_struct Try.underlying99 hv
  obtain ⟨l⟩ := cs
  obtain ⟨fuel, hf⟩ := h
  obtain ⟨g, hg⟩ := open_gg hf
  exact ⟨g, by simp only [Value.cells] at hg; rw [hg]⟩
theorem open_is {rc : Reach} {b0 : Nat} {v : Value} {d : DataW H} {p : List MemPlace} (hv : Value.okWide Try.prog w rc b0 23 v) (h : DataW.Trod enc Try.prog w base spare held 23 v d p) :
    ∃ (xs : List Int) (a : Option Addr) (c : Nat), v = .slice a xs.length c ∧ Sl w a (ints xs) ∧ xs.length ≤ maxLen := by
  obtain ⟨a, l, c, rfl⟩ := okWide_slice Try.underlying23 hv
  obtain ⟨fuel, hf⟩ := h
  obtain ⟨xs, a', c', h1, h2, h3, h4⟩ := open_ints1 (c := .slice a l c) hf
  exact ⟨xs, a', c', h1, h2, by omega⟩
theorem open_ws {rc : Reach} {b0 : Nat} {v : Value} {d : DataW H} {p : List MemPlace} (hv : Value.okWide Try.prog w rc b0 77 v) (h : DataW.Trod enc Try.prog w base spare held 77 v d p) :
    ∃ (ws : List Nat) (a : Option Addr) (c : Nat), v = .slice a ws.length c ∧ Sl w a (ws.map fun (x : Nat) => Value.int .u16 x) ∧ (∀ x ∈ ws, x < 65536) ∧ ws.length ≤ maxLen := by
  obtain ⟨a, l, c, rfl⟩ := okWide_slice Try.underlying77 hv
  obtain ⟨fuel, hf⟩ := h
  obtain ⟨xs, a', cap, h1, h2, hb, h3, h4⟩ := open_sl (c := .slice a l c) (fun x : Nat => [Value.int .u16 x]) 1 (by omega) (fun _ => rfl) (P := fun x : Nat => x < 65536) Try.underlying77 c76 (fun m cs z hz => by
    obtain ⟨x, hx, hw⟩ := open_int1 Try.underlying76 hz
    simp only [Lit.wf, Bool.and_eq_true, decide_eq_true_eq] at hw
    rw [lim16.1, lim16.2] at hw
    exact ⟨x.toNat, by rw [hx, show ((x.toNat : Nat) : Int) = x by omega], by omega⟩) hf
  refine ⟨xs, a', cap, h1, ?_, hb, by omega⟩
  rw [List.map_eq_flatMap]; exact h2
end
theorem open_u8 {n : Int} (h : (Lit.int .u8 n).wf = true) : ∃ b : Nat, n = b ∧ b < 256 := by
  simp only [Lit.wf, Bool.and_eq_true, decide_eq_true_eq] at h
  rw [lim8.1, lim8.2] at h
  exact ⟨n.toNat, by omega, by omega⟩
theorem open_u16 {n : Int} (h : (Lit.int .u16 n).wf = true) : ∃ b : Nat, n = b ∧ b < 65536 := by
  simp only [Lit.wf, Bool.and_eq_true, decide_eq_true_eq] at h
  rw [lim16.1, lim16.2] at h
  exact ⟨n.toNat, by omega, by omega⟩
end Go.Proofs.Ytgglfngkomgadaa
