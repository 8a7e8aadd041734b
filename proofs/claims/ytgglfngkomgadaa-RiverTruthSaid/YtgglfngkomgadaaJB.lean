/- what lies in memory; small functions -/
import Derived.WalkKit
import Derived.WalkSpells
import Derived.WalkLawsBesides
import Derived.Deep.QuietTactic
import Derived.Deep.RegionHeld3
import Derived.BigQuiet
import Derived.Lib.Hide
import Derived.Maps.AppendAt
import Derived.Deep.AppendLies
import Derived.Lib.AppendZeros
import Derived.Test.YtgglfngkomgadaaRows
import Derived.Test.YtgglfngkomgadaaJA
/- What the walks share: how slices read in memory, what a call keeps, a region's class of worlds. -/
namespace Go.Proofs.Ytgglfngkomgadaa
open Go.RowKit
theorem pz : (∀ {α : Type} {l : List α} {i : Nat} (h : i < l.toArray.size), l.toArray[i]'h = l[i]'(by simpa using h)) ∧ (∀ {α : Type} {a : α} {l : List α} {h : 0 < (a :: l).length}, (a :: l)[0]'h = a) ∧
  (∀ {α : Type} {a : α} {l : List α} {i : Nat} {h : i + 1 < (a :: l).length}, (a :: l)[i + 1]'h = l[i]'(by simpa using h)) ∧ (∀ (a : Act) (d : Nat) (v : Value), a.put (some d) v = { a with tmps := a.tmps.setIfInBounds d v }) ∧ (∀ (a : Act) (v : Value), a.put none v = a) ∧
  (∀ {α : Type} {l : List α} {i : Nat} {a : α}, l.toArray.setIfInBounds i a = (l.set i a).toArray) ∧ (∀ {α : Type} {a b : α} {l : List α}, (a :: l).set 0 b = b :: l) ∧ (∀ {α : Type} {a b : α} {l : List α} {i : Nat}, (a :: l).set (i + 1) b = a :: l.set i b) :=
  ⟨fun h => by simp, rfl, rfl, fun _ _ _ => rfl, fun _ _ => rfl, by simp, rfl, rfl⟩

/-! ### min, max of two whole numbers -/
theorem max2_i (k : IntKind) (x y : Int) : Builtin.max2 (.int k x) (.int k y) = pure (.int k (max x y)) := by
  simp only [Builtin.max2, gt_iff_lt]; congr 2; omega
theorem min2_i (k : IntKind) (x y : Int) : Builtin.min2 (.int k x) (.int k y) = pure (.int k (min x y)) := by
  simp only [Builtin.min2]; congr 2; omega
theorem max_two (ats : Array TypeId) (ty : TypeId) (a b : Value) : Builtin.max_ ats ty #[a, b] = (Builtin.max2 a b >>= fun s => pure s) := by simp only [Builtin.max_, List.foldlM_cons, List.foldlM_nil]
theorem min_two (ats : Array TypeId) (ty : TypeId) (a b : Value) : Builtin.min_ ats ty #[a, b] = (Builtin.min2 a b >>= fun s => pure s) := by simp only [Builtin.min_, List.foldlM_cons, List.foldlM_nil]
attribute [go_sem] max2_i min2_i max_two min_two

/-! ### What lies at an address; a slice that reads as a list of cells -/
def At (w : World) (b o : Nat) (cs : List Value) : Prop := ∀ i v, cs[i]? = some v → w.cell? ⟨b, o + i, none⟩ = some v
def Sl (w : World) (a : Option Addr) (cs : List Value) : Prop := cs = [] ∨ ∃ b o, a = some ⟨b, o, none⟩ ∧ At w b o cs

def ints (xs : List Int) : List Value := xs.map (Value.int .i64)
def rgc (r : Rg) : List Value := [.int .i64 r.lo, .int .i64 r.hi]
def rgs (rs : List Rg) : List Value := rs.flatMap rgc
def ggc (g : Gg) : List Value := [.int .i64 g.day, .bool g.mud, .int .i64 g.rd.lo, .int .i64 g.rd.hi]
def ggs (gs : List Gg) : List Value := gs.flatMap ggc

theorem flat_at {α : Type} (f : α → List Value) (n : Nat) (hf : ∀ x, (f x).length = n) : ∀ (xs : List α) (k : Nat) (x : α) (j : Nat), xs[k]? = some x → j < n → (xs.flatMap f)[k * n + j]? = (f x)[j]? := by
  intro xs
  induction xs with
  | nil => intro k x j h; simp at h
  | cons y ys ih =>
    intro k x j h hj
    rw [List.flatMap_cons]
    cases k with
    | zero =>
      simp at h; subst h
      rw [List.getElem?_append_left (by rw [hf]; omega)]; simp
    | succ k =>
      simp at h
      rw [List.getElem?_append_right (by rw [hf, Nat.succ_mul]; omega), hf]
      have := ih k x j h hj
      rw [← this]; congr 1; rw [Nat.succ_mul]; omega

theorem Sl.int_at {w : World} {a : Option Addr} {xs : List Int} (h : Sl w a (ints xs)) {k : Nat} {x : Int} (hk : xs[k]? = some x) :
    ∃ b o, a = some ⟨b, o, none⟩ ∧ w.cell? ⟨b, o + k, none⟩ = some (.int .i64 x) := by
  rcases h with h | ⟨b, o, ha, hA⟩
  · simp [ints] at h; subst h; simp at hk
  · exact ⟨b, o, ha, hA k _ (by simp [ints, hk])⟩
theorem Sl.rg_at {w : World} {a : Option Addr} {xs : List Rg} (h : Sl w a (rgs xs)) {k : Nat} {x : Rg} (hk : xs[k]? = some x) :
    ∃ b o, a = some ⟨b, o, none⟩ ∧ w.cell? ⟨b, o + k * 2, none⟩ = some (.int .i64 x.lo) ∧ w.cell? ⟨b, o + k * 2 + 1, none⟩ = some (.int .i64 x.hi) := by
  have f := flat_at rgc 2 (fun _ => rfl) xs k x
  rcases h with h | ⟨b, o, ha, hA⟩
  · have := f 0 hk (by omega); unfold rgs at h; rw [h] at this; simp [rgc] at this
  · refine ⟨b, o, ha, hA (k * 2) _ (by simpa [rgs, rgc] using f 0 hk (by omega)), ?_⟩
    have := hA (k * 2 + 1) (.int .i64 x.hi) (by simpa [rgs, rgc] using f 1 hk (by omega))
    simpa [Nat.add_assoc] using this
theorem Sl.gg_at {w : World} {a : Option Addr} {xs : List Gg} (h : Sl w a (ggs xs)) {k : Nat} {x : Gg} (hk : xs[k]? = some x) :
    ∃ b o, a = some ⟨b, o, none⟩ ∧ w.cell? ⟨b, o + k * 4, none⟩ = some (.int .i64 x.day) ∧ w.cell? ⟨b, o + k * 4 + 1, none⟩ = some (.bool x.mud) ∧
      w.cell? ⟨b, o + k * 4 + 2, none⟩ = some (.int .i64 x.rd.lo) ∧ w.cell? ⟨b, o + k * 4 + 3, none⟩ = some (.int .i64 x.rd.hi) := by
  have f := flat_at ggc 4 (fun _ => rfl) xs k x
  rcases h with h | ⟨b, o, ha, hA⟩
  · have := f 0 hk (by omega); unfold ggs at h; rw [h] at this; simp [ggc] at this
  · refine ⟨b, o, ha, hA (k * 4) _ (by simpa [ggs, ggc] using f 0 hk (by omega)), ?_, ?_, ?_⟩
    · have := hA (k * 4 + 1) (.bool x.mud) (by simpa [ggs, ggc] using f 1 hk (by omega))
      simpa [Nat.add_assoc] using this
    · have := hA (k * 4 + 2) (.int .i64 x.rd.lo) (by simpa [ggs, ggc] using f 2 hk (by omega))
      simpa [Nat.add_assoc] using this
    · have := hA (k * 4 + 3) (.int .i64 x.rd.hi) (by simpa [ggs, ggc] using f 3 hk (by omega))
      simpa [Nat.add_assoc] using this

theorem cell_lt {w : World} {b o : Nat} {v : Value} (h : w.cell? ⟨b, o, none⟩ = some v) : b < w.heap.size := by
  unfold World.cell? at h
  rcases Nat.lt_or_ge b w.heap.size with h' | h'
  · exact h'
  · rw [Array.getElem?_eq_none h'] at h; simp at h
theorem Sl.below {w W : World} {a : Option Addr} {cs : List Value} (h : Sl w a cs) (hb : Below w.heap.size w W) : Sl W a cs := by
  rcases h with h | ⟨b, o, ha, hA⟩
  · exact .inl h
  · exact .inr ⟨b, o, ha, fun i v hv => by
      have h1 := hA i v hv
      rw [hb.cell (p := ⟨b, o + i, none⟩) (cell_lt h1)]; exact h1⟩

/-! ### What a call keeps -/
theorem bcell {W w1 : World} (hb : Below W.heap.size W w1) : (∀ b o, b < W.heap.size → w1.cell? ⟨b, o, none⟩ = W.cell? ⟨b, o, none⟩) ∧ (∀ b o, b < W.heap.size → w1.frozen? ⟨b, o, none⟩ = W.frozen? ⟨b, o, none⟩) :=
  ⟨fun b o h => hb.cell (p := ⟨b, o, none⟩) h, fun b o h => hb.frozen (p := ⟨b, o, none⟩) h⟩

theorem ret_int {k : IntKind} {a b : Int} (h : a = b) : Ending.returned (.int k a) = .returned (.int k b) := by rw [h]
theorem ret_bool {a b : Bool} (h : a = b) : Ending.returned (.bool a) = .returned (.bool b) := by rw [h]

/-! ### A river in memory: the addresses of its four lists -/
structure RA where
  sa : Option Addr
  sc : Nat
  ma : Option Addr
  mc : Nat
  ua : Option Addr
  uc : Nat
  ga : Option Addr
  gc : Nat
abbrev rivV (r : Riv) (A : RA) : Value := .agg #[.int .i64 r.last, .slice A.sa r.salt.length A.sc, .slice A.ma r.mud.length A.mc, .int .i64 r.sweet, .int .i64 r.clear, .int .i64 r.size, .int .i64 r.start, .int .i64 r.draw, .slice A.ua r.use.length A.uc, .slice A.ga r.gauges.length A.gc]
structure Rd (w : World) (r : Riv) (A : RA) : Prop where
  s : Sl w A.sa (rgs r.salt)
  m : Sl w A.ma (rgs r.mud)
  u : Sl w A.ua (ints r.use)
  g : Sl w A.ga (ggs r.gauges)
theorem Rd.below {w W : World} {r : Riv} {A : RA} (h : Rd w r A) (hb : Below w.heap.size w W) : Rd W r A := ⟨h.s.below hb, h.m.below hb, h.u.below hb, h.g.below hb⟩

end Go.Proofs.Ytgglfngkomgadaa
/- Walks of the program's small functions. -/
namespace Go.Proofs.Ytgglfngkomgadaa
open Go.RowKit
set_option linter.unusedVariables false
set_option linter.unusedSimpArgs false

theorem within_c (n a b : Int) (w : World) :
    Calls Try.prog 118 #[.int .i64 n, .int .i64 a, .int .i64 b] w fun e w' => e = .returned (.bool (inB n a b)) ∧ w = w' := by
  by_cases h1 : a ≤ n
  · go_enter Try.func118, Try.ntmps118
    go_wp2
    go_ret
    simp [inB, h1]
  · have hd : decide (a ≤ n) = false := by simpa using h1
    go_enter Try.func118, Try.ntmps118
    go_wp2
    go_ret
    simp [inB]; omega

theorem size_c (r : Rg) (w : World) (h1 : -1000 ≤ r.lo) (h2 : r.hi ≤ 1000) (h3 : r.lo ≤ r.hi + 1):
    Calls Try.prog 101 #[.agg #[.int .i64 r.lo, .int .i64 r.hi]] w fun e w' => e = .returned (.int .i64 (r.hi - r.lo + 1)) ∧ Below w.heap.size w w' := by
  go_enter Try.func101, Try.ntmps101
  go_wp2
  go_ret
  exact ⟨rfl, (Below.refl _ _).alloc (Nat.le_refl _) _⟩

theorem has_c (r : Rg) (n : Int) (w : World) :
    Calls Try.prog 123 #[.agg #[.int .i64 r.lo, .int .i64 r.hi], .int .i64 n] w fun e w' => e = .returned (.bool (r.has n)) ∧ Below w.heap.size w w' := by
  go_enter Try.func123, Try.ntmps123
  go_wp2_with (go_at_call 118; refine (within_c _ _ _ _).mono ?_; rintro e w' ⟨rfl, rfl⟩)
  go_ret
  exact ⟨rfl, (Below.refl _ _).alloc (Nat.le_refl _) _⟩

theorem amount_c (n : Int) (w : World) :
    Calls Try.prog 97 #[.int .i64 n] w fun e w' => e = .returned (.bool (inB n 0 99)) ∧ w = w' := by
  go_enter Try.func97, Try.ntmps97
  go_wp2_with (go_at_call 118; refine (within_c _ _ _ _).mono ?_; rintro e w' ⟨rfl, rfl⟩)
  go_ret
  exact ⟨rfl, rfl⟩

theorem upTo_c (r : Rg) (n : Int) (w : World) :
    Calls Try.prog 128 #[.agg #[.int .i64 r.lo, .int .i64 r.hi], .int .i64 n] w fun e w' => e = .returned (.bool (r.upTo n)) ∧ Below w.heap.size w w' := by
  by_cases h1 : 0 ≤ r.lo
  · by_cases h2 : r.lo ≤ r.hi
    · go_enter Try.func128, Try.ntmps128
      go_wp2
      go_ret
      exact ⟨by simp [Rg.upTo, h1, h2], (Below.refl _ _).alloc (Nat.le_refl _) _⟩
    · have hd : decide (r.lo ≤ r.hi) = false := by simpa using h2
      go_enter Try.func128, Try.ntmps128
      go_wp2
      go_ret
      exact ⟨by simp [Rg.upTo]; omega, (Below.refl _ _).alloc (Nat.le_refl _) _⟩
  · have hd : decide (0 ≤ r.lo) = false := by simpa using h1
    go_enter Try.func128, Try.ntmps128
    go_wp2
    go_ret
    exact ⟨by simp [Rg.upTo]; omega, (Below.refl _ _).alloc (Nat.le_refl _) _⟩

theorem salt_c (r : Rg) (w : World) :
    Calls Try.prog 95 #[.agg #[.int .i64 r.lo, .int .i64 r.hi]] w fun e w' => e = .returned (.bool (r.upTo 9)) ∧ Below w.heap.size w w' := by
  go_enter Try.func95, Try.ntmps95
  go_wp2_with (go_at_call 128; refine (upTo_c _ _ _).mono ?_; rintro e w' ⟨rfl, hb⟩)
  go_ret
  exact ⟨rfl, (((Below.refl _ _).alloc (Nat.le_refl _) _).trans (hb.mono (by simp)))⟩

theorem day_c (r : Riv) (A : RA) (d : Int) (w : World) :
    Calls Try.prog 77 #[rivV r A, .int .i64 d] w fun e w' => e = .returned (.bool (inB d 0 r.last)) ∧ Below w.heap.size w w' := by
  go_enter Try.func77, Try.ntmps77
  go_wp2_with (go_at_call 118; refine (within_c _ _ _ _).mono ?_; rintro e w' ⟨rfl, rfl⟩)
  go_ret
  exact ⟨rfl, (Below.refl _ _).alloc (Nat.le_refl _) _⟩

theorem gauge_c (r : Riv) (A : RA) (g : Gg) (w : World) :
    Calls Try.prog 92 #[rivV r A, .agg #[.int .i64 g.day, .bool g.mud, .int .i64 g.rd.lo, .int .i64 g.rd.hi]] w fun e w' => e = .returned (.bool (r.gaugeB g)) ∧ Below w.heap.size w w' := by
  go_enter Try.func92, Try.ntmps92
  go_wp2_with fail
  refine (day_c r A _ _).mono ?_; rintro e w1 ⟨rfl, hb⟩
  obtain ⟨hc, hf⟩ := bcell hb
  cases h1 : inB g.day 0 r.last
  · go_wp2_with fail
    go_ret
    exact ⟨by simp [Riv.gaugeB, h1], ((((Below.refl _ _).alloc (Nat.le_refl _) _).alloc (by simp) _).trans (hb.mono (by simp; omega)))⟩
  · go_wp2_with fail
    refine (salt_c g.rd _).mono ?_; rintro e w2 ⟨rfl, hb2⟩
    go_wp2_with fail
    go_ret
    exact ⟨by simp [Riv.gaugeB, h1], ((((Below.refl _ _).alloc (Nat.le_refl _) _).alloc (by simp) _).trans (hb.mono (by simp; omega))).trans (hb2.mono (by have := hb.size; simp at this; omega))⟩

theorem valid_c (r : Riv) (A : RA) (w : World) :
    Calls Try.prog 93 #[rivV r A] w fun e w' => e = .returned (.bool r.validB) ∧ Below w.heap.size w w' := by
  cases h1 : inB r.sweet 0 9 <;> cases h2 : inB r.clear 0 9 <;> cases h3 : inB r.size 0 99 <;> cases h4 : inB r.start 0 r.size
  all_goals
    go_enter Try.func93, Try.ntmps93
    go_wp2_with (first | (go_at_call 118; refine (within_c _ _ _ _).mono ?_; rintro e w' ⟨rfl, rfl⟩) | (go_at_call 97; refine (amount_c _ _).mono ?_; rintro e w' ⟨rfl, rfl⟩))
    go_ret
    exact ⟨by simp [Riv.validB, h1, h2, h3, h4], (Below.refl _ _).alloc (Nat.le_refl _) _⟩

end Go.Proofs.Ytgglfngkomgadaa
/- Walks: lists searched by a function; all. -/
namespace Go.Proofs.Ytgglfngkomgadaa
open Go.RowKit
set_option linter.unusedVariables false
set_option linter.unusedSimpArgs false

/-- 'func(x T) bool { return !pass(x) }' at Salt. -/
theorem notSalt_c (x : Rg) (bp : Nat) (w : World) (hp : w.cell? ⟨bp, 0, none⟩ = some (.func (.func 95) #[] #[])) :
    Calls Try.prog 127 #[.agg #[.int .i64 x.lo, .int .i64 x.hi], .pointer (some ⟨bp, 0, none⟩)] w fun e w' => e = .returned (.bool (!(x.upTo 9))) ∧ Below w.heap.size w w' := by
  have hlt := cell_lt hp
  have hp' : (w.alloc (.cells #[.int .i64 x.lo, .int .i64 x.hi] 49)).cell? ⟨bp, 0, none⟩ = some (.func (.func 95) #[] #[]) := by simpa [go_sem, hlt] using hp
  go_enter Try.func127, Try.ntmps127
  go_wp2_with fail
  refine (salt_c x _).mono ?_; rintro e w1 ⟨rfl, hb⟩
  go_wp2_with fail
  go_ret
  exact ⟨rfl, ((Below.refl _ _).alloc (Nat.le_refl _) _).trans (hb.mono (by simp))⟩

theorem idxSalt_c (a : Option Addr) (xs : List Rg) (c bp : Nat) (w : World) (h : Sl w a (rgs xs)) (hlen : xs.length ≤ 1000) (hp : w.cell? ⟨bp, 0, none⟩ = some (.func (.func 95) #[] #[])) :
    Calls Try.prog 140 #[.slice a xs.length c, .func (.func 127) #[] #[.pointer (some ⟨bp, 0, none⟩)]] w fun e w' => e = .returned (.int .i64 (idxF (fun x => !(x.upTo 9)) xs)) ∧ Below w.heap.size w w' := by
  go_enter Try.func140, Try.ntmps140
  go_wp2_with fail
  go_loopw [5, 8] (fun u i wr => ∃ k : Nat, k ≤ xs.length ∧ i = .int .i64 k ∧ (xs.take k).any (fun x => !(x.upTo 9)) = false ∧ Below w.heap.size w wr) (fun _ i _ => xs.length - (intOf i).toNat)
  case atStart => exact ⟨0, Nat.zero_le _, rfl, by simp, Below.refl _ _⟩
  case round =>
    obtain ⟨k, hk, rfl, hany, hB⟩ := hrel
    by_cases hlt : k < xs.length
    · obtain ⟨x, hx⟩ : ∃ x, xs[k]? = some x := ⟨_, List.getElem?_eq_getElem hlt⟩
      have hX := Lib.hid hx
      obtain ⟨b, o, rfl, h1, h2⟩ := (h.below hB).rg_at hx
      have hp' := (hB.cell (p := ⟨bp, 0, none⟩) (cell_lt hp)).trans hp
      have hA := Lib.hid hany
      clear hany hx
      go_wp2_with fail
      refine (notSalt_c x bp _ hp').mono ?_; rintro e w1 ⟨rfl, hb⟩
      have hB1 := hB.trans (hb.mono hB.size)
      cases ht : x.upTo 9
      · go_wp2_with fail
        go_ret
        exact ⟨ret_int (by rw [idxF_found _ xs k x hA.out hX.out (by simp [ht])]), hB1⟩
      · go_wp2_with fail
        go_roundw
        case rel => exact ⟨k + 1, by omega, by go_num, by rw [take_any_succ _ _ _ _ hX.out, hA.out]; simp [ht], hB1⟩
        case measure => simp [intOf]; omega
    · have hA := Lib.hid hany
      clear hany
      go_wp2_with fail
      go_ret
      have := hA.out
      rw [List.take_of_length_le (by omega)] at this
      exact ⟨ret_int (by rw [idxF_none _ _ this]), hB⟩

theorem conSalt_c (a : Option Addr) (xs : List Rg) (c bp : Nat) (w : World) (h : Sl w a (rgs xs)) (hlen : xs.length ≤ 1000) (hp : w.cell? ⟨bp, 0, none⟩ = some (.func (.func 95) #[] #[])) :
    Calls Try.prog 126 #[.slice a xs.length c, .func (.func 127) #[] #[.pointer (some ⟨bp, 0, none⟩)]] w fun e w' => e = .returned (.bool (xs.any (fun x => !(x.upTo 9)))) ∧ Below w.heap.size w w' := by
  go_enter Try.func126, Try.ntmps126
  go_wp2_with fail
  refine (idxSalt_c a xs c bp _ h hlen hp).mono ?_; rintro e w1 ⟨rfl, hb⟩
  go_wp2_with fail
  go_ret
  exact ⟨ret_bool (idxF_nonneg _ _), hb⟩

theorem allSalt_c (a : Option Addr) (xs : List Rg) (c : Nat) (w : World) (h : Sl w a (rgs xs)) (hlen : xs.length ≤ 1000) :
    Calls Try.prog 94 #[.slice a xs.length c, .func (.func 95) #[] #[]] w fun e w' => e = .returned (.bool (xs.all (fun x => x.upTo 9))) ∧ Below w.heap.size w w' := by
  go_enter Try.func94, Try.ntmps94
  go_wp2_with fail
  refine (conSalt_c a xs c _ _ (h.below ((Below.refl _ _).alloc (Nat.le_refl _) _)) hlen (by go_simp)).mono ?_; rintro e w1 ⟨rfl, hb⟩
  go_wp2_with fail
  go_ret
  exact ⟨ret_bool (by rw [List.all_eq_not_any_not]), ((Below.refl _ _).alloc (Nat.le_refl _) _).trans (hb.mono (by simp))⟩

/-- 'func(x T) bool { return !pass(x) }' at Amount. -/
theorem notAmount_c (x : Int) (bp : Nat) (w : World) (hp : w.cell? ⟨bp, 0, none⟩ = some (.func (.func 97) #[] #[])) :
    Calls Try.prog 130 #[.int .i64 x, .pointer (some ⟨bp, 0, none⟩)] w fun e w' => e = .returned (.bool (!(inB x 0 99))) ∧ Below w.heap.size w w' := by
  have hlt := cell_lt hp
  go_enter Try.func130, Try.ntmps130
  go_wp2_with fail
  refine (amount_c x _).mono ?_; rintro e w1 ⟨rfl, rfl⟩
  go_wp2_with fail
  go_ret
  exact ⟨rfl, Below.refl _ _⟩

theorem idxAmount_c (a : Option Addr) (xs : List Int) (c bp : Nat) (w : World) (h : Sl w a (ints xs)) (hlen : xs.length ≤ 1000) (hp : w.cell? ⟨bp, 0, none⟩ = some (.func (.func 97) #[] #[])) :
    Calls Try.prog 141 #[.slice a xs.length c, .func (.func 130) #[] #[.pointer (some ⟨bp, 0, none⟩)]] w fun e w' => e = .returned (.int .i64 (idxF (fun x => !(inB x 0 99)) xs)) ∧ Below w.heap.size w w' := by
  go_enter Try.func141, Try.ntmps141
  go_wp2_with fail
  go_loopw [5, 8] (fun u i wr => ∃ k : Nat, k ≤ xs.length ∧ i = .int .i64 k ∧ (xs.take k).any (fun x => !(inB x 0 99)) = false ∧ Below w.heap.size w wr) (fun _ i _ => xs.length - (intOf i).toNat)
  case atStart => exact ⟨0, Nat.zero_le _, rfl, by simp, Below.refl _ _⟩
  case round =>
    obtain ⟨k, hk, rfl, hany, hB⟩ := hrel
    by_cases hlt : k < xs.length
    · obtain ⟨x, hx⟩ : ∃ x, xs[k]? = some x := ⟨_, List.getElem?_eq_getElem hlt⟩
      have hX := Lib.hid hx
      obtain ⟨b, o, rfl, h1⟩ := (h.below hB).int_at hx
      have hp' := (hB.cell (p := ⟨bp, 0, none⟩) (cell_lt hp)).trans hp
      have hA := Lib.hid hany
      clear hany hx
      go_wp2_with fail
      refine (notAmount_c x bp _ hp').mono ?_; rintro e w1 ⟨rfl, hb⟩
      have hB1 := hB.trans (hb.mono hB.size)
      cases ht : inB x 0 99
      · go_wp2_with fail
        go_ret
        exact ⟨ret_int (by rw [idxF_found _ xs k x hA.out hX.out (by simp [ht])]), hB1⟩
      · go_wp2_with fail
        go_roundw
        case rel => exact ⟨k + 1, by omega, by go_num, by rw [take_any_succ _ _ _ _ hX.out, hA.out]; simp [ht], hB1⟩
        case measure => simp [intOf]; omega
    · have hA := Lib.hid hany
      clear hany
      go_wp2_with fail
      go_ret
      have := hA.out
      rw [List.take_of_length_le (by omega)] at this
      exact ⟨ret_int (by rw [idxF_none _ _ this]), hB⟩

theorem conAmount_c (a : Option Addr) (xs : List Int) (c bp : Nat) (w : World) (h : Sl w a (ints xs)) (hlen : xs.length ≤ 1000) (hp : w.cell? ⟨bp, 0, none⟩ = some (.func (.func 97) #[] #[])) :
    Calls Try.prog 129 #[.slice a xs.length c, .func (.func 130) #[] #[.pointer (some ⟨bp, 0, none⟩)]] w fun e w' => e = .returned (.bool (xs.any (fun x => !(inB x 0 99)))) ∧ Below w.heap.size w w' := by
  go_enter Try.func129, Try.ntmps129
  go_wp2_with fail
  refine (idxAmount_c a xs c bp _ h hlen hp).mono ?_; rintro e w1 ⟨rfl, hb⟩
  go_wp2_with fail
  go_ret
  exact ⟨ret_bool (idxF_nonneg _ _), hb⟩

theorem allAmount_c (a : Option Addr) (xs : List Int) (c : Nat) (w : World) (h : Sl w a (ints xs)) (hlen : xs.length ≤ 1000) :
    Calls Try.prog 96 #[.slice a xs.length c, .func (.func 97) #[] #[]] w fun e w' => e = .returned (.bool (xs.all (fun x => inB x 0 99))) ∧ Below w.heap.size w w' := by
  go_enter Try.func96, Try.ntmps96
  go_wp2_with fail
  refine (conAmount_c a xs c _ _ (h.below ((Below.refl _ _).alloc (Nat.le_refl _) _)) hlen (by go_simp)).mono ?_; rintro e w1 ⟨rfl, hb⟩
  go_wp2_with fail
  go_ret
  exact ⟨ret_bool (by rw [List.all_eq_not_any_not]), ((Below.refl _ _).alloc (Nat.le_refl _) _).trans (hb.mono (by simp))⟩

/-- 'func(x T) bool { return !pass(x) }' at Gauge. -/
theorem notGauge_c (r : Riv) (A : RA) (x : Gg) (bp : Nat) (w : World) (hp : w.cell? ⟨bp, 0, none⟩ = some (.func (.func 92) #[rivV r A] #[])) :
    Calls Try.prog 132 #[.agg #[.int .i64 x.day, .bool x.mud, .int .i64 x.rd.lo, .int .i64 x.rd.hi], .pointer (some ⟨bp, 0, none⟩)] w fun e w' => e = .returned (.bool (!(r.gaugeB x))) ∧ Below w.heap.size w w' := by
  have hlt := cell_lt hp
  have hp' : (w.alloc (.cells #[.int .i64 x.day, .bool x.mud, .int .i64 x.rd.lo, .int .i64 x.rd.hi] 114)).cell? ⟨bp, 0, none⟩ = some (.func (.func 92) #[rivV r A] #[]) := by simpa [go_sem, hlt] using hp
  go_enter Try.func132, Try.ntmps132
  go_wp2_with fail
  refine (gauge_c r A x _).mono ?_; rintro e w1 ⟨rfl, hb⟩
  go_wp2_with fail
  go_ret
  exact ⟨rfl, ((Below.refl _ _).alloc (Nat.le_refl _) _).trans (hb.mono (by simp))⟩

theorem idxGauge_c (r : Riv) (A : RA) (a : Option Addr) (xs : List Gg) (c bp : Nat) (w : World) (h : Sl w a (ggs xs)) (hlen : xs.length ≤ 1000) (hp : w.cell? ⟨bp, 0, none⟩ = some (.func (.func 92) #[rivV r A] #[])) :
    Calls Try.prog 142 #[.slice a xs.length c, .func (.func 132) #[] #[.pointer (some ⟨bp, 0, none⟩)]] w fun e w' => e = .returned (.int .i64 (idxF (fun x => !(r.gaugeB x)) xs)) ∧ Below w.heap.size w w' := by
  go_enter Try.func142, Try.ntmps142
  go_wp2_with fail
  go_loopw [5, 8] (fun u i wr => ∃ k : Nat, k ≤ xs.length ∧ i = .int .i64 k ∧ (xs.take k).any (fun x => !(r.gaugeB x)) = false ∧ Below w.heap.size w wr) (fun _ i _ => xs.length - (intOf i).toNat)
  case atStart => exact ⟨0, Nat.zero_le _, rfl, by simp, Below.refl _ _⟩
  case round =>
    obtain ⟨k, hk, rfl, hany, hB⟩ := hrel
    by_cases hlt : k < xs.length
    · obtain ⟨x, hx⟩ : ∃ x, xs[k]? = some x := ⟨_, List.getElem?_eq_getElem hlt⟩
      have hX := Lib.hid hx
      obtain ⟨b, o, rfl, h1, h2, h3, h4⟩ := (h.below hB).gg_at hx
      have hp' := (hB.cell (p := ⟨bp, 0, none⟩) (cell_lt hp)).trans hp
      have hA := Lib.hid hany
      clear hany hx
      go_wp2_with fail
      refine (notGauge_c r A x bp _ hp').mono ?_; rintro e w1 ⟨rfl, hb⟩
      have hB1 := hB.trans (hb.mono hB.size)
      cases ht : r.gaugeB x
      · go_wp2_with fail
        go_ret
        exact ⟨ret_int (by rw [idxF_found _ xs k x hA.out hX.out (by simp [ht])]), hB1⟩
      · go_wp2_with fail
        go_roundw
        case rel => exact ⟨k + 1, by omega, by go_num, by rw [take_any_succ _ _ _ _ hX.out, hA.out]; simp [ht], hB1⟩
        case measure => simp [intOf]; omega
    · have hA := Lib.hid hany
      clear hany
      go_wp2_with fail
      go_ret
      have := hA.out
      rw [List.take_of_length_le (by omega)] at this
      exact ⟨ret_int (by rw [idxF_none _ _ this]), hB⟩

theorem conGauge_c (r : Riv) (A : RA) (a : Option Addr) (xs : List Gg) (c bp : Nat) (w : World) (h : Sl w a (ggs xs)) (hlen : xs.length ≤ 1000) (hp : w.cell? ⟨bp, 0, none⟩ = some (.func (.func 92) #[rivV r A] #[])) :
    Calls Try.prog 131 #[.slice a xs.length c, .func (.func 132) #[] #[.pointer (some ⟨bp, 0, none⟩)]] w fun e w' => e = .returned (.bool (xs.any (fun x => !(r.gaugeB x)))) ∧ Below w.heap.size w w' := by
  go_enter Try.func131, Try.ntmps131
  go_wp2_with fail
  refine (idxGauge_c r A a xs c bp _ h hlen hp).mono ?_; rintro e w1 ⟨rfl, hb⟩
  go_wp2_with fail
  go_ret
  exact ⟨ret_bool (idxF_nonneg _ _), hb⟩

theorem allGauge_c (r : Riv) (A : RA) (a : Option Addr) (xs : List Gg) (c : Nat) (w : World) (h : Sl w a (ggs xs)) (hlen : xs.length ≤ 1000) :
    Calls Try.prog 98 #[.slice a xs.length c, .func (.func 92) #[rivV r A] #[]] w fun e w' => e = .returned (.bool (xs.all (fun x => r.gaugeB x))) ∧ Below w.heap.size w w' := by
  go_enter Try.func98, Try.ntmps98
  go_wp2_with fail
  refine (conGauge_c r A a xs c _ _ (h.below ((Below.refl _ _).alloc (Nat.le_refl _) _)) hlen (by go_simp)).mono ?_; rintro e w1 ⟨rfl, hb⟩
  go_wp2_with fail
  go_ret
  exact ⟨ret_bool (by rw [List.all_eq_not_any_not]), ((Below.refl _ _).alloc (Nat.le_refl _) _).trans (hb.mono (by simp))⟩

end Go.Proofs.Ytgglfngkomgadaa
/- Appending: one law for every source; what an owned row reads as. -/
namespace Go.Proofs.Ytgglfngkomgadaa
open Go.RowKit

/-- A slice type t of elements e: cells and bytes of an element, its zero value. -/
structure El (t e : TypeId) (size bytes : Nat) (z : Value) : Prop where
  ht : Try.prog.underlying t = some (.slice e)
  hi : (Try.prog.info? e).map (fun i => (i.zero, i.size, i.bytes)) = some (some z, size, bytes)
  hzs : z.cells.size = size
  hsz : 0 < size
theorem elInt : El 23 3 1 8 (.int .i64 0) := ⟨Try.underlying23, by kernel_rfl, rfl, by decide⟩
theorem elRg : El 32 49 2 16 (.agg #[.int .i64 0, .int .i64 0]) := ⟨Try.underlying32, by kernel_rfl, rfl, by decide⟩
theorem elRgR : El 22 51 2 16 (.agg #[.int .i64 0, .int .i64 0]) := ⟨Try.underlying22, by kernel_rfl, rfl, by decide⟩
theorem elGg : El 33 114 4 32 (.agg #[.int .i64 0, .bool false, .int .i64 0, .int .i64 0]) := ⟨Try.underlying33, by kernel_rfl, rfl, by decide⟩
theorem elGgR : El 24 99 4 32 (.agg #[.int .i64 0, .bool false, .int .i64 0, .int .i64 0]) := ⟨Try.underlying24, by kernel_rfl, rfl, by decide⟩
theorem elGood : El 151 111 6 6 (.agg #[.bool false, .bool false, .bool false, .bool false, .bool false, .bool false]) := ⟨Try.underlying151, by kernel_rfl, rfl, by decide⟩
theorem elTr : El 37 64 2 48 (.agg #[.slice none 0 0, .slice none 0 0]) := ⟨Try.underlying37, by kernel_rfl, rfl, by decide⟩

def Ones (cs : List Value) : Prop := ∀ u ∈ cs, u.oneCell' = true
theorem ones_ints (xs : List Int) : Ones (ints xs) := by intro u hu; simp [ints] at hu; obtain ⟨x, _, rfl⟩ := hu; rfl
theorem ones_rgs (xs : List Rg) : Ones (rgs xs) := by
  intro u hu; simp [rgs, rgc] at hu; obtain ⟨x, _, rfl | rfl⟩ := hu <;> rfl
theorem ones_ggs (xs : List Gg) : Ones (ggs xs) := by
  intro u hu; simp [ggs, ggc] at hu; obtain ⟨x, _, rfl | rfl | rfl | rfl⟩ := hu <;> rfl
theorem len_ints (xs : List Int) : (ints xs).length = xs.length := by simp [ints]
theorem len_flat {α : Type} (f : α → List Value) (n : Nat) (hf : ∀ x, (f x).length = n) (xs : List α) : (xs.flatMap f).length = xs.length * n := by
  induction xs with
  | nil => simp
  | cons x xs ih => rw [List.flatMap_cons, List.length_append, hf, ih, List.length_cons, Nat.succ_mul]; omega
theorem len_rgs (xs : List Rg) : (rgs xs).length = xs.length * 2 := len_flat rgc 2 (fun _ => rfl) xs
theorem len_ggs (xs : List Gg) : (ggs xs).length = xs.length * 4 := len_flat ggc 4 (fun _ => rfl) xs
theorem ints_append (xs ys : List Int) : ints (xs ++ ys) = ints xs ++ ints ys := by simp [ints]
theorem rgs_append (xs ys : List Rg) : rgs (xs ++ ys) = rgs xs ++ rgs ys := by simp [rgs]
theorem ggs_append (xs ys : List Gg) : ggs (xs ++ ys) = ggs xs ++ ggs ys := by simp [ggs]

theorem Sl.at_add {w : World} {ad : Addr} {cs : List Value} (h : Sl w (some ad) cs) : ∀ j u, cs[j]? = some u → w.cell? (ad.add j) = some u := by
  intro j u hu
  rcases h with h | ⟨b, o, ha, hA⟩
  · subst h; simp at hu
  · cases ha
    have := hA j u hu
    have e : (⟨b, o, none⟩ : Addr).add j = ⟨b, o + j, none⟩ := by unfold Addr.add; split <;> simp_all
    rw [e]; exact this
theorem own_Sl {w : World} {base : Nat} {e : TypeId} {size : Nat} {v : Value} {n : Nat} {cs : List Value} (h : w.ownsRow base e size v n cs) :
    ∃ a c, v = .slice a n c ∧ n ≤ c ∧ Sl w a cs := by
  have hc := h
  rcases h.2 with ⟨rfl, rfl⟩ | ⟨g, cap, cur, rfl, _, _, hn, _⟩
  · exact ⟨none, 0, rfl, Nat.le_refl _, .inl (by have := h.1; simp at this; exact this)⟩
  · refine ⟨_, _, rfl, hn, .inr ⟨g, 0, rfl, fun i u hu => ?_⟩⟩
    have := hc.cells (g := g) rfl i u hu
    have e : (⟨g, 0, none⟩ : Addr).add i = ⟨g, 0 + i, none⟩ := by unfold Addr.add; split <;> simp_all
    rw [e] at this; exact this

theorem run_append_none' {P : Program} {w : World} (base : Nat) (t ty e : TypeId) (i : TypeInfo) (size c : Nat) (ht : P.underlying t = some (.slice e)) (hi : P.info? e = some i)
    (v : Value) (n : Nat) (xs : List Value) (hown : w.ownsRow base e size v n xs) :
    (Builtin.append_ #[t, t] ty #[v, .slice none 0 c]).run P w = .ok v w := by
  rcases hown.2 with ⟨rfl, rfl⟩ | ⟨g, cap, cur, rfl, _, _, hnc, _⟩
  · simp [Builtin.append_, run_underlying ht, sizeOf, typeInfo, hi, Builtin.lenOf, Builtin.firstCells]
  · simp [Builtin.append_, run_underlying ht, sizeOf, typeInfo, hi, Builtin.lenOf, Builtin.firstCells, hnc, storeCells]

/-- append(v, x...), v a row of the call's own, x whatever slice reads as 'news'. -/
theorem run_app {t e : TypeId} {size bytes : Nat} {z : Value} (E : El t e size bytes z) {w : World} (ty : TypeId) {base n m c : Nat} {v : Value} {xs news : List Value} {a : Option Addr}
    (hown : w.ownsRow base e size v n xs) (hs : Sl w a news) (hl : news.length = m * size) (h1 : Ones news) (hnm : (n + m) * bytes ≤ 140737488355328) (hb0 : 0 < bytes) (hbase : base ≤ w.heap.size) :
    ∃ v' w', (Builtin.append_ #[t, t] ty #[v, .slice a m c]).run Try.prog w = .ok v' w' ∧ w'.ownsRow base e size v' (n + m) (xs ++ news) ∧ w.grownBy w' v.ownBlock ∧ (v'.ownBlock = v.ownBlock ∨ v'.ownBlock = some w.heap.size) := by
  obtain ⟨i, hi, hz0, hz1, hz2⟩ := info_parts E.hi
  cases a with
  | none =>
    have hn : news = [] := by rcases hs with h | ⟨b, o, ha, _⟩; exact h; cases ha
    subst hn
    have hm : m = 0 := by
      have h2 := E.hsz
      rcases Nat.eq_zero_or_pos m with h | h
      · exact h
      · have h3 := Nat.mul_pos h h2
        rw [← hl] at h3; simp at h3
    subst hm
    exact ⟨v, w, run_append_none' base t ty e i size c E.ht hi v n xs hown, by simpa using hown, ⟨rfl, rfl, rfl, Nat.le_refl _, fun _ _ _ => rfl⟩, .inl rfl⟩
  | some ad =>
    obtain ⟨v', w', hr, h2, h3, h4, h5⟩ := run_append_own_at (P := Try.prog) w base t ty e i z size bytes E.ht hi hz0 hz1 hz2 E.hzs E.hsz v n xs hown ad m c news hl hs.at_add h1
      (by unfold maxLen; have := Nat.le_mul_of_pos_right (n + m) hb0; omega) hnm hbase
    exact ⟨v', w', hr, h2, h3, h5⟩

theorem wp_app {t e : TypeId} {size bytes : Nat} {z : Value} (E : El t e size bytes z) {w : World} {o : Oper} {ac : Act} {K : Act → World → Prop} {Q : Exit → Act → World → Prop} (s x : Operand)
    (ho : o.op = .call { callee := .builtin .append, args := #[s, x], argTypes := #[t, t] }) {base n m c : Nat} {v : Value} {xs news : List Value} {a : Option Addr} (hev : ac.eval s = v) (hex : ac.eval x = .slice a m c)
    (hown : w.ownsRow base e size v n xs) (hs : Sl w a news) (hl : news.length = m * size) (h1 : Ones news) (hnm : (n + m) * bytes ≤ 140737488355328) (hb0 : 0 < bytes) (hbase : base ≤ w.heap.size)
    (h : ∀ v' w', w'.ownsRow base e size v' (n + m) (xs ++ news) → w.grownBy w' v.ownBlock → (v'.ownBlock = v.ownBlock ∨ v'.ownBlock = some w.heap.size) → K (ac.put o.dst v') w') : o.wp Try.prog ac w K Q := by
  obtain ⟨v', w', hr, h2, h3, h4⟩ := run_app E o.type (c := c) hown hs hl h1 hnm hb0 hbase
  exact Lib.wp_append_run w s x t t ho v _ hev hex v' w' hr (h v' w' h2 h3 h4)
theorem wpList_app {t e : TypeId} {size bytes : Nat} {z : Value} (E : El t e size bytes z) {w : World} {ops : Array Oper} {rest : List Oper} {o : Oper} {ac : Act} {Q : Exit → Act → World → Prop} (hgd : o.guard = none) (s x : Operand)
    (ho : o.op = .call { callee := .builtin .append, args := #[s, x], argTypes := #[t, t] }) {base n m c : Nat} {v : Value} {xs news : List Value} {a : Option Addr} (hev : ac.eval s = v) (hex : ac.eval x = .slice a m c)
    (hown : w.ownsRow base e size v n xs) (hs : Sl w a news) (hl : news.length = m * size) (h1 : Ones news) (hnm : (n + m) * bytes ≤ 140737488355328) (hb0 : 0 < bytes) (hbase : base ≤ w.heap.size)
    (h : ∀ v' w', w'.ownsRow base e size v' (n + m) (xs ++ news) → w.grownBy w' v.ownBlock → (v'.ownBlock = v.ownBlock ∨ v'.ownBlock = some w.heap.size) → wpList Try.prog ops Q rest (ac.put o.dst v') w') : wpList Try.prog ops Q (o :: rest) ac w :=
  wpList_plain hgd fun _ hK => wp_app E s x ho hev hex hown hs hl h1 hnm hb0 hbase fun v' w' h2 h3 h4 => hK _ _ (h v' w' h2 h3 h4)
theorem step_app {t e : TypeId} {size bytes : Nat} {z : Value} (E : El t e size bytes z) {w : World} {ops : Array Oper} {o : Oper} {ac : Act} {K : Act → World → Prop} {Q : Exit → Act → World → Prop} {F : Prop} (hgd : o.guard = none) (s x : Operand)
    (ho : o.op = .call { callee := .builtin .append, args := #[s, x], argTypes := #[t, t] }) {base n m c : Nat} {v : Value} {xs news : List Value} {a : Option Addr} (hev : ac.eval s = v) (hex : ac.eval x = .slice a m c)
    (hown : w.ownsRow base e size v n xs) (hs : Sl w a news) (hl : news.length = m * size) (h1 : Ones news) (hnm : (n + m) * bytes ≤ 140737488355328) (hb0 : 0 < bytes) (hbase : base ≤ w.heap.size)
    (h : ∀ v' w', w'.ownsRow base e size v' (n + m) (xs ++ news) → w.grownBy w' v.ownBlock → (v'.ownBlock = v.ownBlock ∨ v'.ownBlock = some w.heap.size) → K (ac.put o.dst v') w') :
    if Region.wanted o (yielded ops ac.tmps) = true then Oper.wp Try.prog o ac w K Q else F := by
  have hw : Region.wanted o (yielded ops ac.tmps) = true := by simp [Region.wanted, hgd]
  rw [if_pos hw]
  exact wp_app E s x ho hev hex hown hs hl h1 hnm hb0 hbase h

/-- What a function that hands back a new list promises. -/
def RetSl (n : Nat) (cs : List Value) (w : World) (e : Ending) (w' : World) : Prop := ∃ a c, e = .returned (.slice a n c) ∧ n ≤ c ∧ Sl w' a cs ∧ Below w.heap.size w w'

end Go.Proofs.Ytgglfngkomgadaa
/- Walks: Grow, Concat, Clone. -/
namespace Go.Proofs.Ytgglfngkomgadaa
open Go.RowKit
set_option linter.unusedVariables false
set_option linter.unusedSimpArgs false
set_option maxRecDepth 100000

/-- It hands back a slice of the call's own, of no elements yet. -/
def Own0 (e size : Nat) (w : World) (en : Ending) (w' : World) : Prop := ∃ v, en = .returned v ∧ w'.ownsRow w.heap.size e size v 0 [] ∧ Below w.heap.size w w'

theorem growRg_c (n : Nat) (w : World) (hn : n ≤ 1000) :
    Calls Try.prog 143 #[.slice none 0 0, .int .i64 n] w fun e w' => Own0 49 2 w e w' := by
  rcases Nat.eq_zero_or_pos n with rfl | hpos
  · go_enter Try.func143, Try.ntmps143
    go_wp2_with fail
    go_ret
    exact ⟨_, rfl, World.ownsRow_nil _ _ _ _, Below.refl _ _⟩
  · obtain ⟨i, hi, hz0, hz1, hz2⟩ := info_parts elRg.hi
    have hr := Lib.run_append_nil_zeros (P := Try.prog) w 32 3 32 49 i _ .i64 .i64 elRg.ht Try.underlying3 hi hz0 n hpos (by rw [hz1]; omega) (by omega) (by rw [hz2]; omega)
    have HR := Lib.hid hr
    clear hr hi hz0 hz1 hz2
    have hneg : decide ((n : Int) < 0) = false := by simp
    go_enter Try.func143, Try.ntmps143
    go_wp2_with (at_builtin; refine Lib.wpList_append_run _ rfl _ _ _ _ rfl _ _ rfl rfl _ _ HR.out ?_)
    go_ret
    have hg := grownCap_ge w n 0 49
    refine ⟨_, rfl, World.ownsRow_made _ _ _ (Nat.le_refl _) (grownCap_le_maxLen w n 0 49 (by unfold maxLen; omega)) ?_, ((Below.refl _ _).drew).alloc (Nat.le_refl _) _⟩
    simp only [Array.size_append, Builtin.zeroCells, Array.size_map, Array.size_range, Value.cells, List.size_toArray, List.length_cons, List.length_nil]
    omega

theorem concatRg_c (b o c : Nat) (a1 a2 : Option Addr) (n1 n2 c1 c2 : Nat) (cs1 cs2 : List Value) (w : World) (h1 : w.cell? ⟨b, o, none⟩ = some (.slice a1 n1 c1)) (h2 : w.cell? ⟨b, o + 1, none⟩ = some (.slice a2 n2 c2))
    (s1 : Sl w a1 cs1) (s2 : Sl w a2 cs2) (hl1 : cs1.length = n1 * 2) (hl2 : cs2.length = n2 * 2) (o1 : Ones cs1) (o2 : Ones cs2) (b1 : n1 ≤ 100) (b2 : n2 ≤ 100) :
    Calls Try.prog 133 #[.slice (some ⟨b, o, none⟩) 2 c] w fun e w' => RetSl (n1 + n2) (cs1 ++ cs2) w e w' := by
  have S1 := Lib.hid hl1
  have S2 := Lib.hid hl2
  clear hl1 hl2
  go_enter Try.func133, Try.ntmps133
  go_wp2_with fail
  refine wp_loop_rounds 3 ?_
  rw [rounds_succ]
  go_wp2_with fail
  rw [rounds_succ]
  go_wp2_with fail
  rw [rounds_succ]
  go_wp2_with fail
  rw [show ((n1 : Int) + n2) = ((n1 + n2 : Nat) : Int) from by omega]
  refine (growRg_c (n1 + n2) w (by omega)).mono ?_
  rintro e w1 ⟨v, rfl, hown, hb⟩
  obtain ⟨hc, hf⟩ := bcell hb
  have l1 := cell_lt h1
  go_wp2_with fail
  refine wp_loop_rounds 3 ?_
  rw [rounds_succ]
  have t1 := s1.below hb
  go_wp2_with (at_builtin; refine wpList_app elRg rfl _ _ rfl rfl rfl hown t1 S1.out o1 (by omega) (by omega) hb.size ?_; intro v2 w2 hown2 hg2 _)
  rw [rounds_succ]
  have hb2 := hb.grown hg2 hb.size (fun k e => (hown.lt k e).1)
  have t2 := s2.below hb2
  obtain ⟨hc2, hf2⟩ := bcell hb2
  clear hc hf
  go_wp2_with (at_builtin; refine wpList_app elRg rfl _ _ rfl rfl rfl hown2 t2 S2.out o2 (by omega) (by omega) hb2.size ?_; intro v3 w3 hown3 hg3 _)
  rw [rounds_succ]
  have hb3 := hb2.grown hg3 hb2.size (fun k e => (hown2.lt k e).1)
  simp only [Nat.zero_add, List.nil_append] at hown3
  obtain ⟨ar, cr, rfl, hnc, hsl⟩ := own_Sl hown3
  clear hc2 hf2
  go_wp2_with fail
  go_ret
  exact ⟨_, _, rfl, hnc, hsl, hb3⟩

theorem growInt_c (n : Nat) (w : World) (hn : n ≤ 1000) :
    Calls Try.prog 138 #[.slice none 0 0, .int .i64 n] w fun e w' => Own0 3 1 w e w' := by
  rcases Nat.eq_zero_or_pos n with rfl | hpos
  · go_enter Try.func138, Try.ntmps138
    go_wp2_with fail
    go_ret
    exact ⟨_, rfl, World.ownsRow_nil _ _ _ _, Below.refl _ _⟩
  · obtain ⟨i, hi, hz0, hz1, hz2⟩ := info_parts elInt.hi
    have hr := Lib.run_append_nil_zeros (P := Try.prog) w 23 3 23 3 i _ .i64 .i64 elInt.ht Try.underlying3 hi hz0 n hpos (by rw [hz1]; omega) (by omega) (by rw [hz2]; omega)
    have HR := Lib.hid hr
    clear hr hi hz0 hz1 hz2
    have hneg : decide ((n : Int) < 0) = false := by simp
    go_enter Try.func138, Try.ntmps138
    go_wp2_with (at_builtin; refine Lib.wpList_append_run _ rfl _ _ _ _ rfl _ _ rfl rfl _ _ HR.out ?_)
    go_ret
    have hg := grownCap_ge w n 0 3
    refine ⟨_, rfl, World.ownsRow_made _ _ _ (Nat.le_refl _) (grownCap_le_maxLen w n 0 3 (by unfold maxLen; omega)) ?_, ((Below.refl _ _).drew).alloc (Nat.le_refl _) _⟩
    simp only [Array.size_append, Builtin.zeroCells, Array.size_map, Array.size_range, Value.cells, List.size_toArray, List.length_cons, List.length_nil]
    omega

theorem concatInt_c (b o c : Nat) (a1 a2 : Option Addr) (n1 n2 c1 c2 : Nat) (cs1 cs2 : List Value) (w : World) (h1 : w.cell? ⟨b, o, none⟩ = some (.slice a1 n1 c1)) (h2 : w.cell? ⟨b, o + 1, none⟩ = some (.slice a2 n2 c2))
    (s1 : Sl w a1 cs1) (s2 : Sl w a2 cs2) (hl1 : cs1.length = n1 * 1) (hl2 : cs2.length = n2 * 1) (o1 : Ones cs1) (o2 : Ones cs2) (b1 : n1 ≤ 100) (b2 : n2 ≤ 100) :
    Calls Try.prog 122 #[.slice (some ⟨b, o, none⟩) 2 c] w fun e w' => RetSl (n1 + n2) (cs1 ++ cs2) w e w' := by
  have S1 := Lib.hid hl1
  have S2 := Lib.hid hl2
  clear hl1 hl2
  go_enter Try.func122, Try.ntmps122
  go_wp2_with fail
  refine wp_loop_rounds 3 ?_
  rw [rounds_succ]
  go_wp2_with fail
  rw [rounds_succ]
  go_wp2_with fail
  rw [rounds_succ]
  go_wp2_with fail
  rw [show ((n1 : Int) + n2) = ((n1 + n2 : Nat) : Int) from by omega]
  refine (growInt_c (n1 + n2) w (by omega)).mono ?_
  rintro e w1 ⟨v, rfl, hown, hb⟩
  obtain ⟨hc, hf⟩ := bcell hb
  have l1 := cell_lt h1
  go_wp2_with fail
  refine wp_loop_rounds 3 ?_
  rw [rounds_succ]
  have t1 := s1.below hb
  go_wp2_with (at_builtin; refine wpList_app elInt rfl _ _ rfl rfl rfl hown t1 S1.out o1 (by omega) (by omega) hb.size ?_; intro v2 w2 hown2 hg2 _)
  rw [rounds_succ]
  have hb2 := hb.grown hg2 hb.size (fun k e => (hown.lt k e).1)
  have t2 := s2.below hb2
  obtain ⟨hc2, hf2⟩ := bcell hb2
  clear hc hf
  go_wp2_with (at_builtin; refine wpList_app elInt rfl _ _ rfl rfl rfl hown2 t2 S2.out o2 (by omega) (by omega) hb2.size ?_; intro v3 w3 hown3 hg3 _)
  rw [rounds_succ]
  have hb3 := hb2.grown hg3 hb2.size (fun k e => (hown2.lt k e).1)
  simp only [Nat.zero_add, List.nil_append] at hown3
  obtain ⟨ar, cr, rfl, hnc, hsl⟩ := own_Sl hown3
  clear hc2 hf2
  go_wp2_with fail
  go_ret
  exact ⟨_, _, rfl, hnc, hsl, hb3⟩

/-- It hands back a row of the call's own. -/
def RetOwn (e size n : Nat) (cs : List Value) (w : World) (en : Ending) (w' : World) : Prop := ∃ v, en = .returned v ∧ w'.ownsRow w.heap.size e size v n cs ∧ Below w.heap.size w w'

theorem clone_c (a : Option Addr) (xs : List Int) (c : Nat) (w : World) (h : Sl w a (ints xs)) (hlen : xs.length ≤ 1000) :
    Calls Try.prog 107 #[.slice a xs.length c] w fun e w' => RetOwn 3 1 xs.length (ints xs) w e w' := by
  have hL := Lib.hid (len_ints xs)
  cases a with
  | none =>
    have hn : ints xs = [] := by rcases h with h | ⟨b, o, ha, _⟩; exact h; cases ha
    have hx : xs = [] := by simpa [ints] using hn
    subst hx
    have hnil : ∀ W, (binOp .eql 23 (.slice none 0 c) (.slice none 0 0)).run Try.prog W = .ok (.bool true) W := by
      intro W
      have := Lib.run_eql_slice_nil (P := Try.prog) W 23 3 none 0 c 0 0 Try.underlying23
      simpa using this
    go_enter Try.func107, Try.ntmps107
    go_wp2_with fail
    go_ret
    exact ⟨_, rfl, World.ownsRow_nil _ _ _ _, Below.refl _ _⟩
  | some ad =>
    have hnil : ∀ W, (binOp .eql 23 (.slice (some ad) xs.length c) (.slice none 0 0)).run Try.prog W = .ok (.bool false) W := by
      intro W
      have := Lib.run_eql_slice_nil (P := Try.prog) W 23 3 (some ad) xs.length c 0 0 Try.underlying23
      simpa using this
    have h' := h.below ((Below.refl w.heap.size w).alloc (Nat.le_refl _) (.cells #[] 3))
    have hown := World.ownsRow_made (e := 3) (size := 1) (base := w.heap.size) w #[] 0 (Nat.le_refl _) (Nat.zero_le _) rfl
    go_enter Try.func107, Try.ntmps107
    go_wp2_with (at_builtin; refine wpList_app elInt rfl _ _ rfl rfl rfl hown h' (by rw [hL.out, Nat.mul_one]) (ones_ints _) (by omega) (by omega) (by simp) ?_; intro v2 w2 hown2 hg2 _)
    simp only [Nat.zero_add, List.nil_append] at hown2
    go_wp2_with fail
    go_ret
    exact ⟨_, rfl, hown2, ((Below.refl w.heap.size w).alloc (Nat.le_refl _) _).grown hg2 (by simp) (fun k e => by cases e; exact Nat.le_refl _)⟩

theorem list_c (a : Option Addr) (xs : List Int) (c : Nat) (w : World) (h : Sl w a (ints xs)) (hlen : xs.length ≤ 1000) :
    Calls Try.prog 31 #[.slice a xs.length c] w fun e w' => RetOwn 3 1 xs.length (ints xs) w e w' := by
  have hL := Lib.hid (len_ints xs)
  go_enter Try.func31, Try.ntmps31
  go_wp2_with (at_builtin; refine wpList_app elInt rfl _ _ rfl rfl rfl (World.ownsRow_nil w w.heap.size _ _) h (by rw [hL.out, Nat.mul_one]) (ones_ints _) (by omega) (by omega) (Nat.le_refl _) ?_; intro v2 w2 hown2 hg2 _)
  simp only [Nat.zero_add, List.nil_append] at hown2
  go_wp2_with fail
  go_ret
  exact ⟨_, rfl, hown2, (Below.refl w.heap.size w).grown hg2 (Nat.le_refl _) (fun k e => by cases e)⟩

theorem ranges_c (r : Riv) (A : RA) (w : World) (h : Rd w r A) (hs : r.salt.length ≤ 30) (hm : r.mud.length ≤ 30) :
    Calls Try.prog 99 #[rivV r A] w fun e w' => RetSl (r.salt.length + r.mud.length) (rgs (r.salt ++ r.mud)) w e w' := by
  have hL1 := Lib.hid (len_rgs r.salt)
  have hL2 := Lib.hid (len_rgs r.mud)
  go_enter Try.func99, Try.ntmps99
  go_wp2_with fail
  have hB := ((Below.refl w.heap.size w).alloc (Nat.le_refl _) (.cells #[.int .i64 r.last, .slice A.sa r.salt.length A.sc, .slice A.ma r.mud.length A.mc, .int .i64 r.sweet, .int .i64 r.clear, .int .i64 r.size, .int .i64 r.start, .int .i64 r.draw, .slice A.ua r.use.length A.uc, .slice A.ga r.gauges.length A.gc] 35)).alloc (by simp) (.cells #[.slice A.sa r.salt.length A.sc, .slice A.ma r.mud.length A.mc] 32)
  refine (concatRg_c _ _ _ A.sa A.ma r.salt.length r.mud.length A.sc A.mc (rgs r.salt) (rgs r.mud) _ ?_ ?_ (h.s.below hB) (h.m.below hB) hL1.out hL2.out (ones_rgs _) (ones_rgs _) (by omega) (by omega)).mono ?_
  · go_simp
  · go_simp
  rintro e w1 ⟨a, c, rfl, hnc, hsl, hb⟩
  go_wp2_with fail
  go_ret
  exact ⟨a, c, rfl, hnc, by rw [rgs_append]; exact hsl, hB.trans (hb.mono hB.size)⟩

end Go.Proofs.Ytgglfngkomgadaa
/- Walks: slices.Index, Contains, minimum, wider, drawn, isPlan, bits. -/
namespace Go.Proofs.Ytgglfngkomgadaa
open Go.RowKit
set_option linter.unusedVariables false
set_option linter.unusedSimpArgs false
set_option maxRecDepth 100000

theorem index_c (a : Option Addr) (xs : List Int) (c : Nat) (n : Int) (w : World) (h : Sl w a (ints xs)) (hlen : xs.length ≤ 1000) :
    Calls Try.prog 139 #[.slice a xs.length c, .int .i64 n] w fun e w' => e = .returned (.int .i64 (idxF (fun x => n == x) xs)) ∧ w = w' := by
  go_enter Try.func139, Try.ntmps139
  go_wp2_with fail
  go_loop [5, 8] (fun u i => ∃ k : Nat, k ≤ xs.length ∧ i = .int .i64 k ∧ (xs.take k).any (fun x => n == x) = false) (fun _ i => xs.length - (intOf i).toNat)
  case atStart => exact ⟨0, Nat.zero_le _, rfl, by simp⟩
  case round =>
    obtain ⟨k, hk, rfl, hany⟩ := hrel
    have hA := Lib.hid hany
    clear hany
    by_cases hlt : k < xs.length
    · obtain ⟨x, hx⟩ : ∃ x, xs[k]? = some x := ⟨_, List.getElem?_eq_getElem hlt⟩
      have hX := Lib.hid hx
      obtain ⟨b, o, rfl, h1⟩ := h.int_at hx
      clear hx
      cases ht : (n == x)
      · go_wp2_with fail
        go_round
        case rel => exact ⟨k + 1, by omega, by go_num, by rw [take_any_succ _ _ _ _ hX.out, hA.out]; simp [ht]⟩
        case measure => simp [intOf]; omega
      · go_wp2_with fail
        go_ret
        exact ⟨ret_int (by rw [idxF_found _ xs k x hA.out hX.out (by simp [ht])]), rfl⟩
    · go_wp2_with fail
      go_ret
      have := hA.out
      rw [List.take_of_length_le (by omega)] at this
      exact ⟨ret_int (by rw [idxF_none _ _ this]), rfl⟩

theorem contains_c (a : Option Addr) (xs : List Int) (c : Nat) (n : Int) (w : World) (h : Sl w a (ints xs)) (hlen : xs.length ≤ 1000) :
    Calls Try.prog 125 #[.slice a xs.length c, .int .i64 n] w fun e w' => e = .returned (.bool (xs.contains n)) ∧ w = w' := by
  go_enter Try.func125, Try.ntmps125
  go_wp2_with (go_at_call 139; refine (index_c a xs c n _ h hlen).mono ?_; rintro e w' ⟨rfl, rfl⟩)
  go_ret
  exact ⟨ret_bool (by rw [show decide (0 ≤ idxF (fun x => n == x) xs) = _ from idxF_nonneg _ _]; simp only [List.contains_eq_any_beq]), rfl⟩

theorem min2_c (b o c : Nat) (x y : Int) (w : World) (hx : w.cell? ⟨b, o, none⟩ = some (.int .i64 x)) (hy : w.cell? ⟨b, o + 1, none⟩ = some (.int .i64 y)) :
    Calls Try.prog 134 #[.slice (some ⟨b, o, none⟩) 2 c] w fun e w' => e = .returned (.int .i64 (min x y)) ∧ w = w' := by
  go_enter Try.func134, Try.ntmps134
  go_wp2
  refine wp_loop_rounds 2 ?_
  rw [rounds_succ]
  go_wp2
  all_goals (rw [rounds_succ]; go_wp2; go_ret; exact ⟨rfl, rfl⟩)
theorem minimum_c (b o c : Nat) (x y : Int) (w : World) (hx : w.cell? ⟨b, o, none⟩ = some (.int .i64 x)) (hy : w.cell? ⟨b, o + 1, none⟩ = some (.int .i64 y)) :
    Calls Try.prog 100 #[.slice (some ⟨b, o, none⟩) 2 c] w fun e w' => e = .returned (.int .i64 (min x y)) ∧ w = w' := by
  go_enter Try.func100, Try.ntmps100
  go_wp2_with (go_at_call 134; refine (min2_c b o c x y _ hx hy).mono ?_; rintro e w' ⟨rfl, rfl⟩)
  go_ret
  exact ⟨rfl, rfl⟩

theorem wider_c (r : Rg) (n : Int) (w : World) :
    Calls Try.prog 119 #[.agg #[.int .i64 r.lo, .int .i64 r.hi], .int .i64 n] w fun e w' => e = .returned (.agg #[.int .i64 (min r.lo n), .int .i64 (max r.hi n)]) ∧ Below w.heap.size w w' := by
  go_enter Try.func119, Try.ntmps119
  go_wp2
  go_region_held3 (fun W => W.cell? ⟨w.heap.size, 0, none⟩ = some (.int .i64 r.lo) ∧ W.cell? ⟨w.heap.size, 1, none⟩ = some (.int .i64 r.hi)) (go_keep)
    (first | (go_at_call 100; refine (minimum_c _ _ _ r.lo n _ ?_ ?_).mono ?_; go_simp; go_simp; rintro e w' ⟨rfl, rfl⟩))
  all_goals
    go_wp2_with fail
    refine bodyPost_ret (v := .agg #[.int .i64 (min r.lo n), .int .i64 (max r.hi n)]) (by simp [results, Try.results119, go_sem]) rfl ⟨rfl, ?_⟩
    exact ((((Below.refl _ _).alloc (Nat.le_refl _) _).alloc (by simp) _).alloc (by simp; omega) _).drew

theorem drawn_c (r : Riv) (A : RA) (t : Int) (f : Bool) (w : World) (h1 : 0 ≤ t) (h2 : t ≤ 1000) (h3 : 0 ≤ r.draw) (h4 : r.draw ≤ 1000) :
    Calls Try.prog 124 #[rivV r A, .int .i64 t, .bool f] w fun e w' => e = .returned (.int .i64 (if f then min r.size (t + r.draw) else t)) ∧ Below w.heap.size w w' := by
  cases f
  · go_enter Try.func124, Try.ntmps124
    go_wp2_with fail
    go_ret
    exact ⟨rfl, (Below.refl _ _).alloc (Nat.le_refl _) _⟩
  · go_enter Try.func124, Try.ntmps124
    go_wp2_with (go_at_call 100; refine (minimum_c _ _ _ r.size (t + r.draw) _ ?_ ?_).mono ?_; go_simp; go_simp; rintro e w' ⟨rfl, rfl⟩)
    go_ret
    exact ⟨rfl, (((Below.refl _ _).alloc (Nat.le_refl _) _).alloc (by simp) _)⟩

theorem planFrom_drop (last : Int) (plan : List Int) (k : Nat) (x prev : Int) (hx : plan[k]? = some x) : planFrom last prev (plan.drop k) = (inB x (wrap64 (prev + 1)) last && planFrom last x (plan.drop (k + 1))) := by
  have hk := (List.getElem?_eq_some_iff.1 hx).1
  rw [List.drop_eq_getElem_cons hk]
  have : plan[k] = x := (List.getElem?_eq_some_iff.1 hx).2
  rw [this]; rfl

theorem isPlan_c (r : Riv) (A : RA) (a : Option Addr) (xs : List Int) (c : Nat) (w : World) (h : Sl w a (ints xs)) (hlen : xs.length ≤ 1000) :
    Calls Try.prog 81 #[rivV r A, .slice a xs.length c] w fun e w' => e = .returned (.bool (isPlanB r.last xs)) ∧ Below w.heap.size w w' := by
  have hP := Lib.hid (show isPlanB r.last xs = planFrom r.last (-1) (xs.drop 0) from rfl)
  have h0 := h.below ((Below.refl w.heap.size w).alloc (Nat.le_refl _) (.cells #[.int .i64 r.last, .slice A.sa r.salt.length A.sc, .slice A.ma r.mud.length A.mc, .int .i64 r.sweet, .int .i64 r.clear, .int .i64 r.size, .int .i64 r.start, .int .i64 r.draw, .slice A.ua r.use.length A.uc, .slice A.ga r.gauges.length A.gc] 35))
  go_enter Try.func81, Try.ntmps81
  go_wp2_with fail
  go_loop [5, 7, 10] (fun p u i => ∃ (k : Nat) (q : Int), k ≤ xs.length ∧ i = .int .i64 k ∧ p = .int .i64 q ∧ isPlanB r.last xs = planFrom r.last q (xs.drop k)) (fun _ _ i => xs.length - (intOf i).toNat)
  case atStart => exact ⟨0, -1, Nat.zero_le _, rfl, rfl, rfl⟩
  case round =>
    obtain ⟨k, q, hk, rfl, rfl, hp⟩ := hrel
    have hQ := Lib.hid hp
    clear hp
    by_cases hlt : k < xs.length
    · obtain ⟨x, hx⟩ : ∃ x, xs[k]? = some x := ⟨_, List.getElem?_eq_getElem hlt⟩
      have hX := Lib.hid hx
      obtain ⟨b, o, rfl, h1⟩ := h0.int_at hx
      clear hx
      have hstep := Lib.hid (planFrom_drop r.last xs k x q hX.out)
      cases ht : inB x (wrap64 (q + 1)) r.last
      · go_wp2_with (go_at_call 118; refine (within_c _ _ _ _).mono ?_; rintro e w' ⟨rfl, rfl⟩)
        go_ret
        exact ⟨ret_bool (by rw [hQ.out, hstep.out, ht]; rfl), (Below.refl _ _).alloc (Nat.le_refl _) _⟩
      · go_wp2_with (go_at_call 118; refine (within_c _ _ _ _).mono ?_; rintro e w' ⟨rfl, rfl⟩)
        go_round
        case rel => exact ⟨k + 1, x, by omega, by go_num, rfl, by rw [hQ.out, hstep.out, ht]; rfl⟩
        case measure => simp [intOf]; omega
    · go_wp2_with fail
      go_ret
      exact ⟨ret_bool (by rw [hQ.out, List.drop_of_length_le (by omega)]; rfl), (Below.refl _ _).alloc (Nat.le_refl _) _⟩

theorem or_small : ∀ q : Nat, q < 64 → ∀ d : Nat, d ≤ 5 → Go.bits BinOp.or IntKind.i64 (q : Int) (wrap64 (2 ^ d)) = ((q ||| 2 ^ d : Nat) : Int) ∧ q ||| 2 ^ d < 64 := by decide +kernel
theorem bitsN_take (xs : List Int) (k : Nat) (x : Int) (hx : xs[k]? = some x) : bitsN (xs.take (k + 1)) = bitsN (xs.take k) ||| 2 ^ x.toNat := by
  rw [List.take_add_one, hx]; simp [bitsN, List.foldl_append]

theorem bits_c (a : Option Addr) (xs : List Int) (c : Nat) (w : World) (h : Sl w a (ints xs)) (hlen : xs.length ≤ 1000) (hb : ∀ x ∈ xs, 0 ≤ x ∧ x ≤ 5) :
    Calls Try.prog 112 #[.slice a xs.length c] w fun e w' => e = .returned (.int .i64 (bitsN xs)) ∧ bitsN xs < 64 ∧ w = w' := by
  have hB := Lib.hid hb
  clear hb
  go_enter Try.func112, Try.ntmps112
  go_wp2_with fail
  go_loop [2, 4, 7] (fun v u i => ∃ (k q : Nat), k ≤ xs.length ∧ i = .int .i64 k ∧ q < 64 ∧ v = .int .i64 q ∧ q = bitsN (xs.take k)) (fun _ _ i => xs.length - (intOf i).toNat)
  case atStart => exact ⟨0, 0, Nat.zero_le _, rfl, by omega, rfl, rfl⟩
  case round =>
    obtain ⟨k, q, hk, rfl, hq, rfl, hqe⟩ := hrel
    have hQ := Lib.hid hqe
    clear hqe
    by_cases hlt : k < xs.length
    · obtain ⟨x, hx⟩ : ∃ x, xs[k]? = some x := ⟨_, List.getElem?_eq_getElem hlt⟩
      have hX := Lib.hid hx
      obtain ⟨b, o, rfl, h1⟩ := h.int_at hx
      obtain ⟨hx0, hx5⟩ := hB.out x (List.mem_of_getElem? hx)
      obtain ⟨d, rfl⟩ := Int.eq_ofNat_of_zero_le hx0
      clear hx
      have ho := Lib.hid (or_small q hq d (by omega))
      go_wp2_with fail
      go_round
      case rel => exact ⟨k + 1, q ||| 2 ^ d, by omega, by go_num, ho.out.2, by rw [ho.out.1], by rw [bitsN_take _ _ _ hX.out, hQ.out]; simp⟩
      case measure => simp [intOf]; omega
    · go_wp2_with fail
      go_ret
      have := hQ.out
      rw [List.take_of_length_le (by omega)] at this
      exact ⟨ret_int (by rw [this]), by omega, rfl⟩

end Go.Proofs.Ytgglfngkomgadaa
/- A region that draws its order, whose operations read old memory and call what keeps it: one walk in the order of the text. -/
namespace Go.Proofs.Ytgglfngkomgadaa
open Go.RowKit

/-- A class of worlds: below block n they read as one world does. -/
structure OldC (n : Nat) (w W : World) : Prop where
  sz : n ≤ W.heap.size
  ce : ∀ b o, b < n → W.cell? ⟨b, o, none⟩ = w.cell? ⟨b, o, none⟩
  be : Below n w W
theorem oldK {n : Nat} {w W w1 : World} (hS : OldC n w W) (hb : Below W.heap.size W w1) : OldC n w w1 :=
  ⟨Nat.le_trans hS.1 hb.size, fun b o h => (hb.cell (p := ⟨b, o, none⟩) (by have := hS.1; show b < W.heap.size; omega)).trans (hS.2 b o h), hS.3.trans (hb.mono hS.1)⟩
theorem oldR {n : Nat} {w : World} (h : n ≤ w.heap.size) : OldC n w { w with drawn := w.drawn + 1 } := ⟨h, fun _ _ _ => rfl, (Below.refl _ _).drew⟩

theorem oldSt {n : Nat} {w W : World} (hS : OldC n w W) {p : Addr} (hp : n ≤ p.block) (v : Value) : OldC n w (W.setCell p v) :=
  have hb : Below n W (W.setCell p v) := (Below.refl _ _).setCell hp v
  ⟨Nat.le_trans hS.1 hb.size, fun b o h => (hb.cell (p := ⟨b, o, none⟩) h).trans (hS.2 b o h), hS.3.trans hb⟩
theorem oldA {n : Nat} {w W : World} (hS : OldC n w W) (o : Obj) : OldC n w (W.alloc o) :=
  have hb : Below n W (W.alloc o) := (Below.refl _ _).alloc hS.1 o
  ⟨Nat.le_trans hS.1 hb.size, fun b o h => (hb.cell (p := ⟨b, o, none⟩) h).trans (hS.2 b o h), hS.3.trans hb⟩
theorem own_below {w W : World} {base : Nat} {e : TypeId} {size : Nat} {v : Value} {n : Nat} {xs : List Value} (h : w.ownsRow base e size v n xs) (hb : Below w.heap.size w W) : W.ownsRow base e size v n xs :=
  h.kept (row := none) ⟨hb.os, hb.tape, hb.output, hb.size, fun k hk _ => hb.block k hk⟩ (by cases v.ownBlock <;> simp)

theorem own_mono {w : World} {base base' : Nat} {e : TypeId} {size : Nat} {v : Value} {n : Nat} {xs : List Value} (h : w.ownsRow base e size v n xs) (hb : base' ≤ base) : w.ownsRow base' e size v n xs :=
  ⟨h.1, h.2.imp id fun ⟨g, cap, cur, hv, hg, r⟩ => ⟨g, cap, cur, hv, Nat.le_trans hb hg, r⟩⟩
theorem Sl_new (W : World) (cs : List Value) (t : TypeId) : Sl (W.alloc (.cells cs.toArray t)) (some ⟨W.heap.size, 0, none⟩) cs := by
  refine .inr ⟨_, _, rfl, fun i v hv => ?_⟩
  have h := heap_alloc_new W (.cells cs.toArray t)
  simp only [World.cell?, h, Nat.zero_add]
  simpa using hv

section
variable {P : Program} {ops : Array Oper} {C : World → Prop} {o : Oper} {a : Act} {K : Act → Prop}
theorem quiet_take {v : Value} (hw : Region.wanted o (yielded ops a.tmps) = true) (h : ∀ W, C W → o.quietAt P a C W v) (hk : K (a.put o.dst v)) :
    if Region.wanted o (yielded ops a.tmps) then o.quiet P a C K else K (a.put o.dst undef) := by
  rw [if_pos hw]; exact ⟨v, h, hk⟩
theorem quiet_skip (hw : Region.wanted o (yielded ops a.tmps) = false) (hk : K (a.put o.dst undef)) :
    if Region.wanted o (yielded ops a.tmps) then o.quiet P a C K else K (a.put o.dst undef) := by
  rw [if_neg (by rw [hw]; simp)]; exact hk
theorem region_q {id : Nat} {Q : Exit → Act → World → Prop} {w : World} {l : List Oper} (hm : P.follows .mixedOrders = true) (hB : Region.lexB .any l.toArray = true) (hC : C { w with drawn := w.drawn + 1 })
    (h : wpQuiet P l.toArray C (fun a' => ∀ w', C w' → Q .normal a' w') l a) : (Code.region id l.toArray true).wp P Q a w :=
  wp_region_quiet (C := C) hm hB hC (by simpa using h)
end

/-! ### A region that draws its order, walked in one order of ours -/
/-- The order of a walk. take: it yields one value in every world that meets S; one: it is the only one that may come up then; two, three: one of these comes up. -/
inductive Ord where
  | nil
  | take (i : Nat) (r : Ord)
  | one (i : Nat) (r : Ord)
  | two (i j : Nat) (ri rj : Ord)
  | three (i j k : Nat) (ri rj rk : Ord)
section
variable {P : Program} {ops : Array Oper} {Q : Exit → Act → World → Prop} {md : Region.Mode} {S : World → Prop}
def wpOrd (P : Program) (ops : Array Oper) (Q : Exit → Act → World → Prop) (S : World → Prop) : Ord → Act → World → Prop
  | .nil, a, w => Q .normal a w
  | .take i r, a, w => ∀ o, ops[i]? = some o → ∃ v, YieldsIf P ops S o v a ∧ wpOrd P ops Q S r (a.put o.dst v) w
  | .one i r, a, w => wpOp P ops Q i (fun a' w' => S w' ∧ wpOrd P ops Q S r a' w') a w
  | .two i j ri rj, a, w => wpOp P ops Q i (fun a' w' => S w' ∧ wpOrd P ops Q S ri a' w') a w ∧ wpOp P ops Q j (fun a' w' => S w' ∧ wpOrd P ops Q S rj a' w') a w
  | .three i j k ri rj rk, a, w => wpOp P ops Q i (fun a' w' => S w' ∧ wpOrd P ops Q S ri a' w') a w ∧ wpOp P ops Q j (fun a' w' => S w' ∧ wpOrd P ops Q S rj a' w') a w ∧ wpOp P ops Q k (fun a' w' => S w' ∧ wpOrd P ops Q S rk a' w') a w
def ordB (md : Region.Mode) (ops : Array Oper) : Ord → Nat → Array Bool → Bool
  | .nil, n, listed => (n == 0) && (Region.ready md ops listed).isEmpty
  | .take i r, n, listed => decide (0 < n) && Region.free md ops listed i && (Region.ready md ops listed).contains i && (ops[i]?).isSome && ordB md ops r (n - 1) (listed.setIfInBounds i true)
  | .one i r, n, listed => decide (0 < n) && (Region.ready md ops listed == [i]) && ordB md ops r (n - 1) (listed.setIfInBounds i true)
  | .two i j ri rj, n, listed => decide (0 < n) && (Region.ready md ops listed == [i, j]) && ordB md ops ri (n - 1) (listed.setIfInBounds i true) && ordB md ops rj (n - 1) (listed.setIfInBounds j true)
  | .three i j k ri rj rk, n, listed => decide (0 < n) && (Region.ready md ops listed == [i, j, k]) && ordB md ops ri (n - 1) (listed.setIfInBounds i true) && ordB md ops rj (n - 1) (listed.setIfInBounds j true) && ordB md ops rk (n - 1) (listed.setIfInBounds k true)
theorem ord_sound (hsel : Region.noSelect ops = true) (hQ : ∀ c (a : Act) d v w, Q (.panic c) (a.put d v) w → Q (.panic c) a w) : ∀ (order : Ord) (n : Nat) (listed : Array Bool) (a : Act) (w : World),
    ordB md ops order n listed = true → S w → wpOrd P ops Q S order a w → wpAnyH P md ops Q S n listed a w
  | .nil, n, listed, a, w, hB, _, h => by
    simp only [ordB, Bool.and_eq_true, beq_iff_eq] at hB
    obtain ⟨rfl, h0⟩ := hB
    exact ⟨by simpa using h0, h⟩
  | .take i r, n, listed, a, w, hB, hS, h => by
    simp only [ordB, Bool.and_eq_true, decide_eq_true_eq] at hB
    obtain ⟨⟨⟨⟨h0, h1⟩, h2⟩, h3⟩, h4⟩ := hB
    obtain ⟨o, ho⟩ := Option.isSome_iff_exists.1 h3
    obtain ⟨v, hy, hn⟩ := h o ho
    obtain ⟨m, rfl⟩ : ∃ m, n = m + 1 := ⟨n - 1, by omega⟩
    exact wpAnyH_take ho hsel h1 h2 (fun c a w => hQ c a _ v w) hy hS (ord_sound hsel hQ r _ _ _ _ h4 hS hn)
  | .one i r, n, listed, a, w, hB, hS, h => by
    simp only [ordB, Bool.and_eq_true, beq_iff_eq, decide_eq_true_eq] at hB
    obtain ⟨m, rfl⟩ : ∃ m, n = m + 1 := ⟨n - 1, by omega⟩
    refine wpAnyH_all hB.1.2 (by simp) (fun j hj => ?_)
    obtain rfl : j = i := by simpa using hj
    exact wpOp_mono (fun a' w' h' => ⟨h'.1, ord_sound hsel hQ r _ _ _ _ hB.2 h'.1 h'.2⟩) h
  | .two i j ri rj, n, listed, a, w, hB, hS, h => by
    simp only [ordB, Bool.and_eq_true, beq_iff_eq, decide_eq_true_eq] at hB
    obtain ⟨m, rfl⟩ : ∃ m, n = m + 1 := ⟨n - 1, by omega⟩
    refine wpAnyH_all hB.1.1.2 (by simp) (fun q hq => ?_)
    simp only [List.mem_cons, List.not_mem_nil, or_false] at hq
    rcases hq with rfl | rfl
    · exact wpOp_mono (fun a' w' h' => ⟨h'.1, ord_sound hsel hQ ri _ _ _ _ hB.1.2 h'.1 h'.2⟩) h.1
    · exact wpOp_mono (fun a' w' h' => ⟨h'.1, ord_sound hsel hQ rj _ _ _ _ hB.2 h'.1 h'.2⟩) h.2
  | .three i j k ri rj rk, n, listed, a, w, hB, hS, h => by
    simp only [ordB, Bool.and_eq_true, beq_iff_eq, decide_eq_true_eq] at hB
    obtain ⟨m, rfl⟩ : ∃ m, n = m + 1 := ⟨n - 1, by omega⟩
    refine wpAnyH_all hB.1.1.1.2 (by simp) (fun q hq => ?_)
    simp only [List.mem_cons, List.not_mem_nil, or_false] at hq
    rcases hq with rfl | rfl | rfl
    · exact wpOp_mono (fun a' w' h' => ⟨h'.1, ord_sound hsel hQ ri _ _ _ _ hB.1.1.2 h'.1 h'.2⟩) h.1
    · exact wpOp_mono (fun a' w' h' => ⟨h'.1, ord_sound hsel hQ rj _ _ _ _ hB.1.2 h'.1 h'.2⟩) h.2.1
    · exact wpOp_mono (fun a' w' h' => ⟨h'.1, ord_sound hsel hQ rk _ _ _ _ hB.2 h'.1 h'.2⟩) h.2.2
theorem region_o {id : Nat} {w : World} {a : Act} {l : List Oper} (order : Ord) (hm : P.follows .mixedOrders = true)
    (hB : (Region.noSelect l.toArray && ordB .any l.toArray order l.toArray.size (Array.replicate l.toArray.size false)) = true) (hQ : ∀ c (a : Act) d v w, Q (.panic c) (a.put d v) w → Q (.panic c) a w)
    (hS : S { w with drawn := w.drawn + 1 }) (h : ∀ W, W = { w with drawn := w.drawn + 1 } → S W → wpOrd P l.toArray Q S order a W) : (Code.region id l.toArray true).wp P Q a w := by
  simp only [Bool.and_eq_true] at hB
  exact wp_region_held hm (S := S) (ord_sound (md := .any) hB.1 hQ order _ _ a _ hB.2 hS (h _ rfl hS))

variable {o : Oper} {a : Act} {w : World} {i : Nat} {r : Ord}
theorem ord_nil (h : Q .normal a w) : wpOrd P ops Q S .nil a w := h
theorem ord_take {v : Value} (ho : ops[i]? = some o) (hw : Region.wanted o (yielded ops a.tmps) = true) (hy : ∀ W, S W → (execOp a.eval o).run P W = .ok (.value v) W) (h : wpOrd P ops Q S r (a.put o.dst v) w) : wpOrd P ops Q S (.take i r) a w := by
  intro o' ho'
  obtain rfl : o = o' := Option.some.inj (ho.symm.trans ho')
  exact ⟨v, .inl ⟨hw, hy⟩, h⟩
theorem ord_skip (ho : ops[i]? = some o) (hw : Region.wanted o (yielded ops a.tmps) = false) (h : wpOrd P ops Q S r (a.put o.dst undef) w) : wpOrd P ops Q S (.take i r) a w := by
  intro o' ho'
  obtain rfl : o = o' := Option.some.inj (ho.symm.trans ho')
  exact ⟨undef, .inr ⟨hw, rfl⟩, h⟩
theorem ord_pass (ho : ops[i]? = some o) (hw : Region.wanted o (yielded ops a.tmps) = false) (hS : S w) (h : wpOrd P ops Q S r (a.put o.dst undef) w) : wpOrd P ops Q S (.one i r) a w := by
  simp only [wpOrd, wpOp, ho, hw]
  exact ⟨hS, h⟩
theorem ord_op (ho : ops[i]? = some o) (hw : Region.wanted o (yielded ops a.tmps) = true) (h : ∀ K : Act → World → Prop, (∀ a w, S w → wpOrd P ops Q S r a w → K a w) → o.wp P a w K Q) : wpOrd P ops Q S (.one i r) a w := by
  simp only [wpOrd, wpOp, ho, hw, if_true]
  exact .inl (h _ fun a w h1 h2 => ⟨h1, h2⟩)
theorem ord_two {j : Nat} {rj : Ord} (h1 : wpOrd P ops Q S (.one i r) a w) (h2 : wpOrd P ops Q S (.one j rj) a w) : wpOrd P ops Q S (.two i j r rj) a w := ⟨h1, h2⟩
theorem ord_three {j k : Nat} {rj rk : Ord} (h1 : wpOrd P ops Q S (.one i r) a w) (h2 : wpOrd P ops Q S (.one j rj) a w) (h3 : wpOrd P ops Q S (.one k rk) a w) : wpOrd P ops Q S (.three i j k r rj rk) a w := ⟨h1, h2, h3⟩
end

end Go.Proofs.Ytgglfngkomgadaa
/- A faster check of a region's order: what is listed is kept in the bits of a number. -/
namespace Go.Proofs.Ytgglfngkomgadaa
open Go.RowKit
set_option linter.unusedVariables false
set_option linter.unusedSimpArgs false

variable {P : Program} {ops : Array Oper} {Q : Exit → Act → World → Prop} {md : Region.Mode} {S : World → Prop}
def rdyM (md : Region.Mode) (ops : Array Oper) (m : Nat) : List Nat :=
  (List.range ops.size).filter fun i => !m.testBit i && ((ops[i]?).map (·.after.all fun e => !Region.binds md e || m.testBit e.on)).getD false
def freeM (md : Region.Mode) (ops : Array Oper) (m : Nat) (i : Nat) : Bool :=
  match ops[i]? with
  | none => false
  | some oi => (List.range ops.size).all fun j => j == i || m.testBit j || match ops[j]? with
      | some oj => oj.after.any (fun e => Region.binds md e && e.on == i) || oi.apart ops oj
      | none => true
def ordM (md : Region.Mode) (ops : Array Oper) : Ord → Nat → Nat → Bool
  | .nil, n, m => (n == 0) && (rdyM md ops m).isEmpty
  | .take i r, n, m => decide (0 < n) && freeM md ops m i && (rdyM md ops m).contains i && (ops[i]?).isSome && ordM md ops r (n - 1) (m ||| 1 <<< i)
  | .one i r, n, m => decide (0 < n) && (rdyM md ops m == [i]) && ordM md ops r (n - 1) (m ||| 1 <<< i)
  | _, _, _ => false
structure Msk (n : Nat) (listed : Array Bool) (m : Nat) : Prop where
  lt : ∀ j, j < n → ∀ d, listed.getD j d = m.testBit j
  ge : ∀ j, n ≤ j → listed.getD j false = m.testBit j
theorem Msk.any {n m : Nat} {listed : Array Bool} (h : Msk n listed m) (j : Nat) : listed.getD j false = m.testBit j := by
  rcases Nat.lt_or_ge j n with h1 | h1
  · exact h.lt j h1 _
  · exact h.ge j h1
theorem Msk.rdy {m : Nat} {listed : Array Bool} (h : Msk ops.size listed m) : Region.ready md ops listed = rdyM md ops m := by
  unfold Region.ready rdyM
  refine List.filter_congr (fun i hi => ?_)
  rw [h.lt i (List.mem_range.1 hi)]
  simp only [h.any]
theorem all_congr2 {α : Type} {l : List α} {p q : α → Bool} (h : ∀ x ∈ l, p x = q x) : l.all p = l.all q := by
  induction l with
  | nil => rfl
  | cons a l ih => simp only [List.all_cons]; rw [h a (by simp), ih (fun x hx => h x (by simp [hx]))]
theorem Msk.fr {m i : Nat} {listed : Array Bool} (h : Msk ops.size listed m) : Region.free md ops listed i = freeM md ops m i := by
  unfold Region.free freeM
  cases ops[i]? with
  | none => rfl
  | some oi =>
    refine all_congr2 (fun j hj => ?_)
    rw [h.lt j (List.mem_range.1 hj)]
    cases ops[j]? <;> rfl
theorem Msk.set {n m i : Nat} {listed : Array Bool} (h : Msk n listed m) (hs : listed.size = n) (hi : i < n) : Msk n (listed.setIfInBounds i true) (m ||| 1 <<< i) := by
  have hb : ∀ j, (m ||| 1 <<< i).testBit j = (m.testBit j || decide (j = i)) := by
    intro j
    rw [Nat.testBit_or, Nat.testBit_shiftLeft]
    by_cases e : j = i
    · subst e; simp
    · by_cases e2 : i ≤ j
      · have : j - i ≠ 0 := by omega
        simp [e, e2, Nat.testBit_one_eq_true_iff_self_eq_zero, this]
      · simp [e, e2]
  refine ⟨fun j hj d => ?_, fun j hj => ?_⟩
  · rw [hb]
    have := h.lt j hj d
    by_cases e : j = i
    · subst e; simp [Array.getD, hs, hi]
    · rw [← this]; simp [Array.getD, hs, hj, e, Array.getElem_setIfInBounds, Ne.symm e]
  · rw [hb]
    have := h.ge j hj
    rw [← this]
    have : j ≠ i := by omega
    have h9 : ¬ j < n := by omega
    simp [Array.getD, hs, h9]; omega
theorem ordM_ordB : ∀ (o : Ord) (n m : Nat) (listed : Array Bool), Msk ops.size listed m → listed.size = ops.size → ordM md ops o n m = true → ordB md ops o n listed = true
  | .nil, n, m, listed, h, hs, hB => by
    simp only [ordM, ordB, h.rdy] at *; exact hB
  | .take i r, n, m, listed, h, hs, hB => by
    simp only [ordM, Bool.and_eq_true] at hB
    simp only [ordB, h.rdy, h.fr, Bool.and_eq_true]
    obtain ⟨x, hx⟩ := Option.isSome_iff_exists.1 hB.1.2
    exact ⟨hB.1, ordM_ordB r _ _ _ (h.set hs (Array.getElem?_eq_some_iff.1 hx).1) (by simp [hs]) hB.2⟩
  | .one i r, n, m, listed, h, hs, hB => by
    simp only [ordM, Bool.and_eq_true, beq_iff_eq] at hB
    simp only [ordB, h.rdy, Bool.and_eq_true, beq_iff_eq]
    have hi : i ∈ rdyM md ops m := by rw [hB.1.2]; simp
    have hi2 : i < ops.size := List.mem_range.1 (List.mem_filter.1 hi).1
    exact ⟨hB.1, ordM_ordB r _ _ _ (h.set hs hi2) (by simp [hs]) hB.2⟩
  | .two .., n, m, listed, h, hs, hB => by simp [ordM] at hB
  | .three .., n, m, listed, h, hs, hB => by simp [ordM] at hB
theorem Msk.zero (n : Nat) : Msk n (Array.replicate n false) 0 := ⟨fun j hj d => by simp [Array.getD, hj], fun j hj => by simp [Array.getD]⟩
theorem region_m {id : Nat} {w : World} {a : Act} {l : List Oper} (order : Ord) (hm : P.follows .mixedOrders = true)
    (hB : (Region.noSelect l.toArray && ordM .any l.toArray order l.toArray.size 0) = true) (hQ : ∀ c (a : Act) d v w, Q (.panic c) (a.put d v) w → Q (.panic c) a w)
    (hS : S { w with drawn := w.drawn + 1 }) (h : ∀ W, W = { w with drawn := w.drawn + 1 } → S W → wpOrd P l.toArray Q S order a W) : (Code.region id l.toArray true).wp P Q a w := by
  simp only [Bool.and_eq_true] at hB
  refine region_o order hm ?_ hQ hS h
  simp only [Bool.and_eq_true]
  exact ⟨hB.1, ordM_ordB order _ _ _ (Msk.zero _) (by simp) hB.2⟩
end Go.Proofs.Ytgglfngkomgadaa
/- Walks: the ranges, in memory of the call's own. -/
namespace Go.Proofs.Ytgglfngkomgadaa
open Go.RowKit
set_option linter.unusedVariables false
set_option linter.unusedSimpArgs false
set_option maxRecDepth 100000

theorem own_base {w : World} {base base' : Nat} {e : TypeId} {size : Nat} {v : Value} {n : Nat} {cs : List Value} (h : w.ownsRow base e size v n cs) (hb : base' ≤ base) : w.ownsRow base' e size v n cs := by
  refine ⟨h.1, ?_⟩
  rcases h.2 with h | ⟨g, cap, cur, h1, h2, h3⟩
  · exact .inl h
  · exact .inr ⟨g, cap, cur, h1, by omega, h3⟩

theorem concatRg_o (b o c : Nat) (a1 a2 : Option Addr) (n1 n2 c1 c2 : Nat) (cs1 cs2 : List Value) (w : World) (h1 : w.cell? ⟨b, o, none⟩ = some (.slice a1 n1 c1)) (h2 : w.cell? ⟨b, o + 1, none⟩ = some (.slice a2 n2 c2))
    (s1 : Sl w a1 cs1) (s2 : Sl w a2 cs2) (hl1 : cs1.length = n1 * 2) (hl2 : cs2.length = n2 * 2) (o1 : Ones cs1) (o2 : Ones cs2) (b1 : n1 ≤ 100) (b2 : n2 ≤ 100) :
    Calls Try.prog 133 #[.slice (some ⟨b, o, none⟩) 2 c] w fun e w' => ∃ v, e = .returned v ∧ w'.ownsRow w.heap.size 49 2 v (n1 + n2) (cs1 ++ cs2) ∧ Below w.heap.size w w' := by
  have S1 := Lib.hid hl1
  have S2 := Lib.hid hl2
  clear hl1 hl2
  go_enter Try.func133, Try.ntmps133
  go_wp2_with fail
  refine wp_loop_rounds 3 ?_
  rw [rounds_succ]
  go_wp2_with fail
  rw [rounds_succ]
  go_wp2_with fail
  rw [rounds_succ]
  go_wp2_with fail
  rw [show ((n1 : Int) + n2) = ((n1 + n2 : Nat) : Int) from by omega]
  refine (growRg_c (n1 + n2) w (by omega)).mono ?_
  rintro e w1 ⟨v, rfl, hown, hb⟩
  obtain ⟨hc, hf⟩ := bcell hb
  have l1 := cell_lt h1
  go_wp2_with fail
  refine wp_loop_rounds 3 ?_
  rw [rounds_succ]
  have t1 := s1.below hb
  go_wp2_with (at_builtin; refine wpList_app elRg rfl _ _ rfl rfl rfl hown t1 S1.out o1 (by omega) (by omega) hb.size ?_; intro v2 w2 hown2 hg2 _)
  rw [rounds_succ]
  have hb2 := hb.grown hg2 hb.size (fun k e => (hown.lt k e).1)
  have t2 := s2.below hb2
  obtain ⟨hc2, hf2⟩ := bcell hb2
  clear hc hf
  go_wp2_with (at_builtin; refine wpList_app elRg rfl _ _ rfl rfl rfl hown2 t2 S2.out o2 (by omega) (by omega) hb2.size ?_; intro v3 w3 hown3 hg3 _)
  rw [rounds_succ]
  have hb3 := hb2.grown hg3 hb2.size (fun k e => (hown2.lt k e).1)
  simp only [Nat.zero_add, List.nil_append] at hown3
  have HO := Lib.hid hown3
  obtain ⟨ar, cr, rfl, hnc, hsl⟩ := own_Sl hown3
  clear hown3
  clear hc2 hf2
  go_wp2_with fail
  go_ret
  exact ⟨_, rfl, HO.out, hb3⟩

theorem ranges_o (r : Riv) (A : RA) (w : World) (h : Rd w r A) (hs : r.salt.length ≤ 30) (hm : r.mud.length ≤ 30) :
    Calls Try.prog 99 #[rivV r A] w fun e w' => ∃ v, e = .returned v ∧ w'.ownsRow w.heap.size 49 2 v (r.salt.length + r.mud.length) (rgs (r.salt ++ r.mud)) ∧ Below w.heap.size w w' := by
  have hL1 := Lib.hid (len_rgs r.salt)
  have hL2 := Lib.hid (len_rgs r.mud)
  go_enter Try.func99, Try.ntmps99
  go_wp2_with fail
  have hB := ((Below.refl w.heap.size w).alloc (Nat.le_refl _) (.cells #[.int .i64 r.last, .slice A.sa r.salt.length A.sc, .slice A.ma r.mud.length A.mc, .int .i64 r.sweet, .int .i64 r.clear, .int .i64 r.size, .int .i64 r.start, .int .i64 r.draw, .slice A.ua r.use.length A.uc, .slice A.ga r.gauges.length A.gc] 35)).alloc (by simp) (.cells #[.slice A.sa r.salt.length A.sc, .slice A.ma r.mud.length A.mc] 32)
  refine (concatRg_o _ _ _ A.sa A.ma r.salt.length r.mud.length A.sc A.mc (rgs r.salt) (rgs r.mud) _ ?_ ?_ (h.s.below hB) (h.m.below hB) hL1.out hL2.out (ones_rgs _) (ones_rgs _) (by omega) (by omega)).mono ?_
  · go_simp
  · go_simp
  rintro e w1 ⟨v, rfl, hown, hb⟩
  obtain ⟨a, c, rfl, hnc, hsl⟩ := own_Sl hown
  have HO := Lib.hid (own_base hown hB.size)
  clear hown
  go_wp2_with fail
  go_ret
  exact ⟨_, rfl, by rw [rgs_append]; exact HO.out, hB.trans (hb.mono hB.size)⟩

end Go.Proofs.Ytgglfngkomgadaa
