/- plain words -/
import Derived.RowKit
/- The plain words of the river: rivers, truths, errors, enumerations, the tank; no program in sight. -/
namespace Go.Proofs.Ytgglfngkomgadaa
open Go.RowKit (wrap64)

structure Rg where
  lo : Int
  hi : Int
  deriving DecidableEq, Inhabited
structure Gg where
  day : Int
  mud : Bool
  rd : Rg
  deriving DecidableEq, Inhabited
structure Riv where
  last : Int
  salt : List Rg
  mud : List Rg
  sweet : Int
  clear : Int
  size : Int
  start : Int
  draw : Int
  use : List Int
  gauges : List Gg
  deriving Inhabited
structure Tr where
  salt : List Int
  mud : List Int
  deriving DecidableEq, Inhabited

def inB (n lo hi : Int) : Bool := decide (lo ≤ n ∧ n ≤ hi)
def Rg.has (r : Rg) (n : Int) : Bool := inB n r.lo r.hi
def Rg.upTo (r : Rg) (m : Int) : Bool := decide (0 ≤ r.lo ∧ r.lo ≤ r.hi ∧ r.hi ≤ m)
def Rg.size (r : Rg) : Int := r.hi - r.lo + 1

def Riv.validB (r : Riv) : Bool := inB r.sweet 0 9 && inB r.clear 0 9 && inB r.size 0 99 && inB r.start 0 r.size && inB r.draw 0 99
def Riv.gaugeB (r : Riv) (g : Gg) : Bool := inB g.day 0 r.last && g.rd.upTo 9

/-! ### Plans -/
/-- Is the rest of a list a plan, behind one day? (Go's own wrap-around: a river need not be valid here.) -/
def planFrom (last : Int) : Int → List Int → Bool
  | _, [] => true
  | prev, d :: ds => inB d (wrap64 (prev + 1)) last && planFrom last d ds
def isPlanB (last : Int) (plan : List Int) : Bool := planFrom last (-1) plan
/-- A plan by bits. -/
def bitsN (xs : List Int) : Nat := xs.foldl (fun acc x => acc ||| 2 ^ x.toNat) 0

/-! ### The tank -/
def stepT (r : Riv) (fill : Bool) (tank u : Int) : Int := max 0 ((if fill then min r.size (tank + r.draw) else tank) - u)
/-- What is in the tank before a day (after the days before it). -/
def tankAt (r : Riv) (g : List Bool) (plan : List Int) : Nat → Int
  | 0 => r.start
  | k + 1 => stepT r (g.getD k false && plan.contains (k : Int)) (tankAt r g plan k) (r.use.getD k 0)
def playL (r : Riv) (g : List Bool) (plan : List Int) : List Int := (List.range r.use.length).map fun d => tankAt r g plan (d + 1)

/-- Which days are good, with numbers (those of Salt, then those of Mud). -/
def goodL (r : Riv) (ns : List Int) : List Bool := (List.range 6).map fun (d : Nat) => decide ((d : Int) ≤ r.last) && (decide (ns.getD d 0 ≤ r.sweet) && decide (ns.getD (r.last.toNat + 1 + d) 0 ≤ r.clear))

/-- A river whose numbers are as they must be (the sizes of its ranges, multiplied, are not asked). -/
structure Ok (r : Riv) : Prop where
  l0 : 0 ≤ r.last
  l5 : r.last ≤ 5
  ns : (r.salt.length : Int) = r.last + 1
  nm : (r.mud.length : Int) = r.last + 1
  nu : (r.use.length : Int) = r.last + 1
  ng : r.gauges.length ≤ 5
  sw : 0 ≤ r.sweet ∧ r.sweet ≤ 9
  cl : 0 ≤ r.clear ∧ r.clear ≤ 9
  sz : 0 ≤ r.size ∧ r.size ≤ 99
  st : 0 ≤ r.start ∧ r.start ≤ r.size
  dr : 0 ≤ r.draw ∧ r.draw ≤ 99
  so : ∀ x ∈ r.salt, 0 ≤ x.lo ∧ x.lo ≤ x.hi ∧ x.hi ≤ 9
  mo : ∀ x ∈ r.mud, 0 ≤ x.lo ∧ x.lo ≤ x.hi ∧ x.hi ≤ 9
  uo : ∀ u ∈ r.use, 0 ≤ u ∧ u ≤ 99
  go : ∀ g ∈ r.gauges, (0 ≤ g.day ∧ g.day ≤ r.last) ∧ (0 ≤ g.rd.lo ∧ g.rd.lo ≤ g.rd.hi ∧ g.rd.hi ≤ 9)

/-! ### Searching a list -/
def idxF {α : Type} (p : α → Bool) (xs : List α) : Int := if xs.any p then (xs.findIdx p : Int) else -1
theorem take_any_succ {α : Type} (p : α → Bool) (xs : List α) (k : Nat) (x : α) (h : xs[k]? = some x) : (xs.take (k + 1)).any p = ((xs.take k).any p || p x) := by
  rw [List.take_add_one, h]; simp [Bool.or_comm]
theorem idxF_found {α : Type} (p : α → Bool) : ∀ (xs : List α) (k : Nat) (x : α), (xs.take k).any p = false → xs[k]? = some x → p x = true → idxF p xs = k := by
  intro xs
  induction xs with
  | nil => intro k x _ h; simp at h
  | cons y ys ih =>
    intro k x h1 h2 h3
    cases k with
    | zero => simp at h2; subst h2; simp [idxF, h3, List.findIdx_cons]
    | succ k =>
      simp at h1 h2
      have := ih k x (by simpa using h1.2) h2 h3
      have hany : ys.any p = true := List.any_eq_true.2 ⟨x, List.mem_of_getElem? h2, h3⟩
      simp only [idxF, hany, if_true] at this
      simp [idxF, List.findIdx_cons, h1.1, hany]
      omega
theorem idxF_none {α : Type} (p : α → Bool) (xs : List α) (h : xs.any p = false) : idxF p xs = -1 := by simp [idxF, h]
theorem idxF_nonneg {α : Type} (p : α → Bool) (xs : List α) : decide (0 ≤ idxF p xs) = xs.any p := by
  unfold idxF; cases h : xs.any p <;> simp
theorem idxF_lo {α : Type} (p : α → Bool) (xs : List α) : -1 ≤ idxF p xs := by unfold idxF; split <;> omega
theorem idxF_hi {α : Type} (p : α → Bool) (xs : List α) : idxF p xs ≤ xs.length := by
  unfold idxF; have := List.findIdx_le_length (p := p) (xs := xs); split <;> omega

end Go.Proofs.Ytgglfngkomgadaa
/- The plain words, on: gauges, sizes, errors. -/
namespace Go.Proofs.Ytgglfngkomgadaa

/-- Where a gauge's number lies among the numbers. -/
def gaugeAt (r : Riv) (g : Gg) : Nat := g.day.toNat + (if g.mud then r.last.toNat + 1 else 0)
def gaugeOk (r : Riv) (ns : List Int) (out : List Int) (i : Nat) : Bool :=
  out.contains (i : Int) || (r.gauges.getD i default).rd.has (ns.getD (gaugeAt r (r.gauges.getD i default)) 0)
/-- Are all gauges right with numbers, but some? -/
def rightB (r : Riv) (ns : List Int) (out : List Int) : Bool := (List.range r.gauges.length).all (gaugeOk r ns out)
theorem all_range_succ (p : Nat → Bool) (k : Nat) : (List.range (k + 1)).all p = ((List.range k).all p && p k) := by
  rw [List.range_succ]; simp
theorem all_range_false {p : Nat → Bool} {k n : Nat} (h : p k = false) (hk : k < n) : (List.range n).all p = false := by
  rw [List.all_eq_false]; exact ⟨k, List.mem_range.2 hk, by simp [h]⟩

/-- The sizes of ranges, multiplied. -/
def prodS : List Rg → Int
  | [] => 1
  | r :: rs => r.size * prodS rs
/-- .. as the program reckons it: never more than 2001. -/
def capS (rs : List Rg) : Int := rs.foldl (fun m r => min (m * r.size) 2001) 1
/-- The error of a river. -/
def Riv.faultI (r : Riv) : Int :=
  if r.last > 5 ∨ r.gauges.length > 5 then 3
  else if r.last < 0 ∨ (r.salt.length : Int) ≠ r.last + 1 ∨ (r.mud.length : Int) ≠ r.last + 1 ∨ (r.use.length : Int) ≠ r.last + 1 ∨ r.validB = false then 1
  else if r.salt.all (·.upTo 9) = false ∨ r.mud.all (·.upTo 9) = false ∨ r.use.all (fun u => inB u 0 99) = false ∨ r.gauges.all r.gaugeB = false then 1
  else if capS (r.salt ++ r.mud) > 2000 then 3
  else 0

theorem ok_of_fault {r : Riv} (h : r.faultI = 0) : Ok r ∧ capS (r.salt ++ r.mud) ≤ 2000 := by
  unfold Riv.faultI at h
  split at h
  · cases h
  rename_i h1
  split at h
  · cases h
  rename_i h2
  split at h
  · cases h
  rename_i h3
  split at h
  · cases h
  rename_i h4
  simp only [not_or, Bool.not_eq_false, Decidable.not_not] at h1 h2 h3
  obtain ⟨hl, hs, hm, hu, hv⟩ := h2
  obtain ⟨h31, h32, h33, h34⟩ := h3
  simp only [Riv.validB, Bool.and_eq_true, inB, decide_eq_true_eq] at hv
  simp only [List.all_eq_true, Rg.upTo, decide_eq_true_eq, inB, Riv.gaugeB, Bool.and_eq_true] at h31 h32 h33 h34
  exact ⟨⟨by omega, by omega, hs, hm, hu, by omega, hv.1.1.1.1, hv.1.1.1.2, hv.1.1.2, hv.1.2, hv.2, h31, h32, h33, h34⟩, by omega⟩

end Go.Proofs.Ytgglfngkomgadaa
/- The plain words, on: truths in numbers. -/
namespace Go.Proofs.Ytgglfngkomgadaa

/-- A list, filled up with zeros to twelve. -/
def pad12 (xs : List Int) : List Int := xs ++ List.replicate (12 - xs.length) 0
/-- Is each number in its range? -/
def hasAll (rs : List Rg) (ns : List Int) : Bool := (List.range rs.length).all fun i => (rs.getD i default).has (ns.getD i 0)
def listedB (r : Riv) (t : Tr) : Bool := decide (t.salt.length = r.salt.length) && decide (t.mud.length = r.mud.length) && hasAll (r.salt ++ r.mud) (t.salt ++ t.mud)

theorem exists12 {α : Type} (l : List α) (h : l.length = 12) : ∃ a0 a1 a2 a3 a4 a5 a6 a7 a8 a9 a10 a11, l = [a0, a1, a2, a3, a4, a5, a6, a7, a8, a9, a10, a11] := by
  match l, h with
  | [a0, a1, a2, a3, a4, a5, a6, a7, a8, a9, a10, a11], _ => exact ⟨a0, a1, a2, a3, a4, a5, a6, a7, a8, a9, a10, a11, rfl⟩
theorem pad12_len (xs : List Int) (h : xs.length ≤ 12) : (pad12 xs).length = 12 := by simp [pad12]; omega

end Go.Proofs.Ytgglfngkomgadaa
/- The numbers of all ranges, in the program's order; no program in sight. -/
namespace Go.Proofs.Ytgglfngkomgadaa

/-- All choices of a number from each range, the first one slowest. -/
def combos : List Rg → List (List Int)
  | [] => [[]]
  | r :: rs => (List.range r.size.toNat).flatMap fun (n : Nat) => (combos rs).map ((r.lo + n) :: ·)

/-- The choices from a range's first q numbers on, behind a row. -/
def part (p : List Int) (r : Rg) (rs : List Rg) (q : Nat) : List (List Int) :=
  (List.range q).flatMap fun (n : Nat) => (combos rs).map fun t => pad12 (p ++ (r.lo + n) :: t)

theorem part_succ (p : List Int) (r : Rg) (rs : List Rg) (q : Nat) : part p r rs (q + 1) = part p r rs q ++ (combos rs).map (fun t => pad12 ((p ++ [r.lo + q]) ++ t)) := by
  simp [part, List.range_succ, List.flatMap_append]
theorem part_all (p : List Int) (r : Rg) (rs : List Rg) : part p r rs r.size.toNat = (combos (r :: rs)).map (fun t => pad12 (p ++ t)) := by
  simp [part, combos, List.map_flatMap, Function.comp_def]
theorem combos_len (rs : List Rg) : ∀ p ∈ combos rs, p.length = rs.length := by
  induction rs with
  | nil => simp [combos]
  | cons r rs ih =>
    intro p hp
    simp only [combos, List.mem_flatMap, List.mem_map] at hp
    obtain ⟨n, _, t, ht, rfl⟩ := hp
    simp [ih t ht]
end Go.Proofs.Ytgglfngkomgadaa
