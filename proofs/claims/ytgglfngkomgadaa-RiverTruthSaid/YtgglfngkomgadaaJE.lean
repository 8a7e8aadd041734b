/- the iterator over all truths -/
import Derived.RangeFuncNested
import Derived.RangeFuncBound
import Derived.RangeFuncCalls
import Derived.RangeFuncLeaves
import Derived.Shelf.Abstract
import Derived.Shelf.RegionOpen
import Derived.WalkKit
import Derived.OwnWalkIn
import Derived.TacticsInMore
import Derived.LoopNIn
import Derived.LoopIn
import Derived.Laws.EntriesVeiled
import Derived.Test.YtgglfngkomgadaaJB
import Derived.Test.YtgglfngkomgadaaJC
import Derived.Test.YtgglfngkomgadaaJA
import Derived.Test.YtgglfngkomgadaaJD
/- Walks: the iterator over all truths. -/
namespace Go.Proofs.Ytgglfngkomgadaa
open Go.RowKit Go.Shelf
set_option linter.unusedVariables false
set_option linter.unusedSimpArgs false
set_option maxRecDepth 100000
attribute [local go_sem] Oper.semAt_some

/-- What is written lies in S, or is new. -/
structure Wr (S : Nat → Prop) (w w' : World) : Prop where
  os : w'.os = w.os
  tape : w'.tape = w.tape
  output : w'.output = w.output
  size : w.heap.size ≤ w'.heap.size
  block : ∀ k, k < w.heap.size → ¬ S k → w'.heap[k]? = w.heap[k]?
theorem Wr.refl (S : Nat → Prop) (w : World) : Wr S w w := ⟨rfl, rfl, rfl, Nat.le_refl _, fun _ _ _ => rfl⟩
theorem Wr.trans {S : Nat → Prop} {a b c : World} (h : Wr S a b) (k : Wr S b c) : Wr S a c :=
  ⟨k.os.trans h.os, k.tape.trans h.tape, k.output.trans h.output, Nat.le_trans h.size k.size, fun i hi hs => (k.block i (Nat.lt_of_lt_of_le hi h.size) hs).trans (h.block i hi hs)⟩
theorem Wr.mono {S S' : Nat → Prop} {a b : World} (h : Wr S a b) (hs : ∀ k, S k → S' k) : Wr S' a b := ⟨h.os, h.tape, h.output, h.size, fun k hk hn => h.block k hk fun e => hn (hs k e)⟩
theorem Wr.of_below {S : Nat → Prop} {a b : World} (h : Below a.heap.size a b) : Wr S a b := ⟨h.os, h.tape, h.output, h.size, fun k hk _ => h.block k hk⟩
theorem Wr.setCell (S : Nat → Prop) (w : World) (p : Addr) (v : Value) (h : S p.block) : Wr S w (w.setCell p v) :=
  ⟨rfl, rfl, rfl, by simp [World.setCell], fun k _ hn => Below.heap_setCell _ _ _ _ (fun e => hn (e ▸ h))⟩
theorem Wr.alloc (S : Nat → Prop) (w : World) (o : Obj) : Wr S w (w.alloc o) := Wr.of_below ((Below.refl _ _).alloc (Nat.le_refl _) _)
theorem Wr.putObj (S : Nat → Prop) (w : World) (l : Nat) (o : Obj) (h : S l) : Wr S w (w.putObj l o) :=
  ⟨rfl, rfl, rfl, by simp, fun k _ hn => World.putObj_heap_other fun e => hn (e ▸ h)⟩
theorem Wr.cell {S : Nat → Prop} {a b : World} (h : Wr S a b) {p : Addr} {v : Value} (hn : ¬ S p.block) (hc : a.cell? p = some v) : b.cell? p = some v := by
  have hl : p.block < a.heap.size := by
    unfold World.cell? at hc
    cases ho : a.heap[p.block]? with
    | none => simp [ho] at hc
    | some o => exact (Array.getElem?_eq_some_iff.1 ho).1
  unfold World.cell? at hc ⊢
  rw [h.block _ hl hn]; exact hc
theorem Wr.blk {S : Nat → Prop} {a b : World} (h : Wr S a b) {k : Nat} {o : Obj} (hn : ¬ S k) (hc : a.heap[k]? = some o) : b.heap[k]? = some o :=
  (h.block k (Array.getElem?_eq_some_iff.1 hc).1 hn).trans hc
theorem Wr.below {S : Nat → Prop} {a b : World} {n : Nat} (h : Wr S a b) (hn : n ≤ a.heap.size) (hs : ∀ k, S k → n ≤ k) : Below n a b :=
  ⟨h.os, h.tape, h.output, h.size, fun k hk => h.block k (by omega) fun e => by have := hs k e; omega⟩

/-- What the iterator alone may write, and what it has there. -/
abbrev iterS (B z : Nat) (k : Nat) : Prop := B ≤ k ∧ k < z + 3
abbrev capsOf (B z : Nat) : Array Value := #[.pointer (some ⟨z, 0, none⟩), .pointer (some ⟨B, 0, none⟩), .pointer (some ⟨z + 1, 0, none⟩), .pointer (some ⟨z + 2, 0, none⟩)]
structure OwnI (l B z : Nat) (ra : Option Addr) (rc : Nat) (rs : List Rg) (cur : List Int) (W : World) : Prop where
  hz : z + 3 ≤ W.heap.size
  r : W.cell? ⟨z, 0, none⟩ = some (.slice ra rs.length rc)
  y : W.cell? ⟨B, 0, none⟩ = some (.func (.yield l) #[] #[])
  n : W.heap[z + 1]? = some (.cells (ints cur).toArray 129 (0, 0))
  c : W.cell? ⟨z + 2, 0, none⟩ = some (.func (.func 136) #[] (capsOf B z))
  s : Sl W ra (rgs rs)
  len : cur.length = 12
  zero : cur.drop rs.length = List.replicate (12 - rs.length) 0

theorem Sl.wr {S : Nat → Prop} {W W' : World} {a : Option Addr} {cs : List Value} (h : Sl W a cs) (hw : Wr S W W') (hn : ∀ ad, a = some ad → ¬ S ad.block) : Sl W' a cs := by
  rcases h with h | ⟨b, o, ha, hA⟩
  · exact .inl h
  · exact .inr ⟨b, o, ha, fun i v hv => hw.cell (p := ⟨b, o + i, none⟩) (hn ⟨b, o, none⟩ ha) (hA i v hv)⟩

theorem OwnI.keep {l B z : Nat} {ra : Option Addr} {rc : Nat} {rs : List Rg} {cur : List Int} {W W' : World} (h : OwnI l B z ra rc rs cur W) (hB : B < z) (hra : ∀ ad, ra = some ad → B < ad.block ∧ ad.block < z)
    (hw : Wr (fun k => ¬ iterS B z k) W W') : OwnI l B z ra rc rs cur W' :=
  ⟨Nat.le_trans h.hz hw.size, hw.cell (fun h => h ⟨by show B ≤ z; omega, by show z < z + 3; omega⟩) h.r, hw.cell (fun h => h ⟨Nat.le_refl _, by show B < z + 3; omega⟩) h.y, hw.blk (fun h => h ⟨by omega, by omega⟩) h.n,
    hw.cell (fun h => h ⟨by show B ≤ z + 2; omega, by show z + 2 < z + 3; omega⟩) h.c, h.s.wr hw (fun ad e h => h ⟨Nat.le_of_lt (hra ad e).1, Nat.lt_of_lt_of_le (hra ad e).2 (by omega)⟩), h.len, h.zero⟩

theorem OwnI.set {l B z : Nat} {ra : Option Addr} {rc : Nat} {rs : List Rg} {cur : List Int} {W : World} (h : OwnI l B z ra rc rs cur W) (hB : B < z) (hra : ∀ ad, ra = some ad → B < ad.block ∧ ad.block < z)
    {i : Nat} (hi : i < rs.length) (v : Int) : OwnI l B z ra rc rs (cur.set i v) (W.setCell ⟨z + 1, i, none⟩ (.int .i64 v)) := by
  have hne : ∀ (b o : Nat) (u : Value), b ≠ z + 1 → W.cell? ⟨b, o, none⟩ = some u → (W.setCell ⟨z + 1, i, none⟩ (.int .i64 v)).cell? ⟨b, o, none⟩ = some u := fun b o u hb hc =>
    (Wr.setCell (fun k => k = z + 1) W ⟨z + 1, i, none⟩ (.int .i64 v) rfl).cell hb hc
  refine ⟨by simpa [World.setCell] using h.hz, hne _ _ _ (by omega) h.r, hne _ _ _ (by omega) h.y, ?_, hne _ _ _ (by omega) h.c, ?_, by simpa using h.len, ?_⟩
  · rw [heap_set h.n]
    simp [ints, List.map_set]
  · exact h.s.wr (Wr.setCell (fun k => k = z + 1) W ⟨z + 1, i, none⟩ (.int .i64 v) rfl) (fun ad e => by have := hra ad e; omega)
  · rw [List.drop_set]; simp [hi, h.zero]

theorem room_none (k : Nat) : Fence.wide.room k := fun d h => by cases h
theorem YieldAt.any {m m' : Nat} {P : Program} {l : Nat} {args : Array Value} {W : World} {R : Ending → World → Prop} (h : YieldAt Fence.wide m P l args W R) : YieldAt Fence.wide m' P l args W R := by
  obtain ⟨fn, tmps, assign, body, hy, hR⟩ := h
  exact ⟨fn, tmps, assign, body, hy, hR.1, fun c cs _ => hR.2 c cs (room_none _)⟩

/-- How a choice ends. -/
def ChoosePost (l B z : Nat) (ra : Option Addr) (rc : Nat) (rs : List Rg) (J Jx : List (List Int) → World → Prop) (i : Nat) (cur : List Int) (ys : List (List Int)) (e : Ending) (W' : World) : Prop :=
  (e = .returned (.bool true) ∧ (∃ cur', OwnI l B z ra rc rs cur' W' ∧ cur'.take i = cur.take i) ∧ J ys W') ∨ (e = .returned (.bool false) ∧ ∃ xs', Jx xs' W')

set_option maxHeartbeats 3000000 in
theorem choose_end (n l B z : Nat) (ra : Option Addr) (rc : Nat) (rs : List Rg) (J Jx : List (List Int) → World → Prop) (hB : B < z) (hra : ∀ ad, ra = some ad → B < ad.block ∧ ad.block < z) (h12 : rs.length ≤ 12)
    (cur : List Int) (xs : List (List Int)) (W : World)
    (hY : YieldAt Fence.wide (n - 1) Try.prog l #[nv cur] W fun e W' => Wr (fun k => ¬ iterS B z k) W W' ∧ ((e = .returned (.bool true) ∧ J (xs ++ [cur]) W') ∨ (e = .returned (.bool false) ∧ Jx (xs ++ [cur]) W')))
    (hO : OwnI l B z ra rc rs cur W) :
    CallsIn Fence.wide n Try.prog 136 (#[.int .i64 rs.length] ++ capsOf B z) W (ChoosePost l B z ra rc rs J Jx rs.length cur (xs ++ [cur])) := by
  obtain ⟨n0, n1, n2, n3, n4, n5, n6, n7, n8, n9, n10, n11, hnn⟩ := exists12 cur hO.len
  subst hnn
  obtain ⟨fn, tmps, assign, body, hy, hR⟩ := hY
  have hOO := Lib.hid hO
  have c1 := hO.r
  have c2 := hO.y
  have hbk := hO.n
  have cw0 : W.cell? ⟨z + 1, 0, none⟩ = some (.int .i64 n0) := by rw [cell_blk hbk]; rfl
  have cw1 : W.cell? ⟨z + 1, 1, none⟩ = some (.int .i64 n1) := by rw [cell_blk hbk]; rfl
  have cw2 : W.cell? ⟨z + 1, 2, none⟩ = some (.int .i64 n2) := by rw [cell_blk hbk]; rfl
  have cw3 : W.cell? ⟨z + 1, 3, none⟩ = some (.int .i64 n3) := by rw [cell_blk hbk]; rfl
  have cw4 : W.cell? ⟨z + 1, 4, none⟩ = some (.int .i64 n4) := by rw [cell_blk hbk]; rfl
  have cw5 : W.cell? ⟨z + 1, 5, none⟩ = some (.int .i64 n5) := by rw [cell_blk hbk]; rfl
  have cw6 : W.cell? ⟨z + 1, 6, none⟩ = some (.int .i64 n6) := by rw [cell_blk hbk]; rfl
  have cw7 : W.cell? ⟨z + 1, 7, none⟩ = some (.int .i64 n7) := by rw [cell_blk hbk]; rfl
  have cw8 : W.cell? ⟨z + 1, 8, none⟩ = some (.int .i64 n8) := by rw [cell_blk hbk]; rfl
  have cw9 : W.cell? ⟨z + 1, 9, none⟩ = some (.int .i64 n9) := by rw [cell_blk hbk]; rfl
  have cw10 : W.cell? ⟨z + 1, 10, none⟩ = some (.int .i64 n10) := by rw [cell_blk hbk]; rfl
  have cw11 : W.cell? ⟨z + 1, 11, none⟩ = some (.int .i64 n11) := by rw [cell_blk hbk]; rfl
  clear hbk hO
  simp only [nv, ints, List.map_cons, List.map_nil] at hy
  refine callsIn_of_wp Try.func136 rfl trivial ?_ rfl
  simp only [Try.ntmps136, List.size_toArray, List.length_cons, List.length_nil, Nat.reduceAdd, Nat.reduceSub, Array.replicate_succ, Array.replicate_zero, List.push_toArray, List.append_toArray, List.nil_append, List.cons_append]
  gi_wp2_with ((try refine ⟨fun h => (by cases h), ?_⟩); refine hR.mono ?_; clear hR; rintro e W2 ⟨hw, (⟨rfl, hJ2⟩ | ⟨rfl, hx2⟩)⟩)
  · go_ret
    exact .inl ⟨rfl, ⟨_, hOO.out.keep hB hra hw, rfl⟩, hJ2⟩
  · go_ret
    exact .inr ⟨rfl, _, hx2⟩

set_option maxHeartbeats 4000000 in
theorem choose_in (l B z : Nat) (ra : Option Addr) (rc : Nat) (rs : List Rg) (J Jx : List (List Int) → World → Prop) (P : List Int → Prop) (hB : B < z) (hra : ∀ ad, ra = some ad → B < ad.block ∧ ad.block < z) (h12 : rs.length ≤ 12)
    (hrs : ∀ x ∈ rs, 0 ≤ x.lo ∧ x.lo ≤ x.hi ∧ x.hi ≤ 9)
    (hJ : ∀ xs W W', J xs W → Wr (iterS B z) W W' → J xs W')
    (hY : ∀ xs cur W, J xs W → z + 3 ≤ W.heap.size → cur.length = 12 → P cur → YieldAt Fence.wide 0 Try.prog l #[nv cur] W fun e W' => Wr (fun k => ¬ iterS B z k) W W' ∧ ((e = .returned (.bool true) ∧ J (xs ++ [cur]) W') ∨ (e = .returned (.bool false) ∧ Jx (xs ++ [cur]) W'))) :
    ∀ (k i : Nat), i + k = rs.length → ∀ (n : Nat) (cur : List Int) (xs : List (List Int)) (W : World), J xs W → OwnI l B z ra rc rs cur W → (∀ t ∈ combos (rs.drop i), P (pad12 (cur.take i ++ t))) →
      CallsIn Fence.wide n Try.prog 136 (#[.int .i64 i] ++ capsOf B z) W (ChoosePost l B z ra rc rs J Jx i cur (xs ++ (combos (rs.drop i)).map (fun t => pad12 (cur.take i ++ t)))) := by
  intro k
  induction k with
  | zero =>
    intro i hi n cur xs W hJ0 hO hP
    obtain rfl : i = rs.length := by omega
    have e : pad12 (List.take rs.length cur) = cur := by
      have h1 := hO.zero
      have h2 : (List.take rs.length cur).length = rs.length := by rw [List.length_take, hO.len]; omega
      rw [pad12, h2, ← h1, List.take_append_drop]
    have hPc : P cur := by
      have := hP [] (by rw [List.drop_length]; simp [combos])
      simpa [e] using this
    have := choose_end n l B z ra rc rs J Jx hB hra h12 cur xs W (YieldAt.any (hY xs cur W hJ0 hO.hz hO.len hPc)) hO
    rw [List.drop_length]
    simpa [combos, e] using this
  | succ k ih =>
    intro i hi n cur xs W hJ0 hO hP
    have hlt : i < rs.length := by omega
    obtain ⟨x, hx⟩ : ∃ x, rs[i]? = some x := ⟨_, List.getElem?_eq_getElem hlt⟩
    have hdrop : rs.drop i = x :: rs.drop (i + 1) := by
      rw [List.drop_eq_getElem_cons hlt]; rw [List.getElem?_eq_getElem hlt] at hx; simp at hx; rw [hx]
    obtain ⟨hx1, hx2, hx3⟩ := hrs x (List.mem_of_getElem? hx)
    obtain ⟨b, o, rfl, d1, d2⟩ := hO.s.rg_at hx
    have hra1 := hra _ rfl
    have hIH := Lib.hid (ih (i + 1) (by omega))
    have hOO := Lib.hid hO
    have hJJ := Lib.hid hJ0
    have hDD := Lib.hid hdrop
    have hHI := Lib.hid hi
    have HP := Lib.hid hP
    have HX := Lib.hid hx
    have HJ := Lib.hid hJ

    have c1 := hO.r
    have hltI : decide ((i : Int) = (rs.length : Int)) = false := by simp; omega
    have hsz := hO.hz
    clear hx ih hO hJ0 hdrop hi hY hJ hrs hP
    refine callsIn_of_wp Try.func136 rfl trivial ?_ rfl
    simp only [Try.ntmps136, List.size_toArray, List.length_cons, List.length_nil, Nat.reduceAdd, Nat.reduceSub, Array.replicate_succ, Array.replicate_zero, List.push_toArray, List.append_toArray, List.nil_append, List.cons_append]
    gi_wp2_with (refine ⟨trivial, fun h => (by cases h), ?_⟩; refine (callsIn_wide.2 (size_c x _ (by omega) (by omega) (by omega))).mono ?_; rintro e w1 ⟨rfl, hb1⟩)
    have hw1 : Wr (iterS B z) W w1 := Wr.of_below hb1
    have hk1 : Wr (fun k => ¬ iterS B z k) W w1 := Wr.of_below hb1
    have hO1 := Lib.hid (hOO.out.keep hB hra hk1)
    gi_loopw [20] (fun v wr => ∃ (q : Nat) (cur' : List Int), q ≤ x.size.toNat ∧ v = .int .i64 q ∧ OwnI l B z (some ⟨b, o, none⟩) rc rs cur' wr ∧ cur'.take i = cur.take i ∧ J (xs ++ part (cur.take i) x (rs.drop (i + 1)) q) wr) (fun v _ => x.size.toNat - (intOf v).toNat)
    case atStart => exact ⟨0, cur, Nat.zero_le _, rfl, hO1.out, rfl, by simpa [part] using HJ.out _ _ _ hJJ.out hw1⟩
    case round =>
      obtain ⟨q, cur', hq, rfl, hO', htk, hJ'⟩ := hrel
      have hxs : x.size = x.hi - x.lo + 1 := rfl
      by_cases hq2 : q < x.size.toNat
      · obtain ⟨b', o', hbo, e1, -⟩ := hO'.s.rg_at HX.out
        obtain ⟨rfl, rfl⟩ : b' = b ∧ o' = o := by simp at hbo; exact ⟨hbo.1.symm, hbo.2.symm⟩
        have c1' := hO'.r
        have f1 := frozen_blk (k := i) hO'.n
        have g1 : wr.cell? ⟨z + 1, i, none⟩ = some (.int .i64 (cur'.getD i 0)) := by
          rw [cell_blk hO'.n]
          have : i < cur'.length := by rw [hO'.len]; omega
          simp [ints, List.getD, this]
        have hw : IntKind.i64.wrap (x.lo + (q : Int)) = x.lo + q := IntWalk.i64_in _ (by omega)
        have hwi : IntKind.i64.wrap ((i : Int) + 1) = (i : Int) + 1 := IntWalk.i64_in _ (by omega)
        have hlq : ((q : Int) < x.hi - x.lo + 1) := by omega
        have hi12 : i < 12 := by omega
        have hOs := hO'.set hB (fun ad e => by cases e; exact hra1) hlt (x.lo + q)
        have hJs := HJ.out _ _ _ hJ' (Wr.setCell (iterS B z) wr ⟨z + 1, i, none⟩ (.int .i64 (x.lo + q)) ⟨by show B ≤ z + 1; omega, by show z + 1 < z + 3; omega⟩)
        have c4 := hOs.c
        have etk : List.take (i + 1) (cur'.set i (x.lo + (q : Int))) = List.take i cur ++ [x.lo + (q : Int)] := by
          have e0 : List.take i (cur'.set i (x.lo + (q : Int))) = List.take i cur' := by
            rw [List.take_set, List.set_eq_of_length_le (by simp; omega)]
          rw [← htk, List.take_add_one, e0]
          simp [hO'.len, hi12]
        have hPn : ∀ t ∈ combos (rs.drop (i + 1)), P (pad12 (List.take (i + 1) (cur'.set i (x.lo + (q : Int))) ++ t)) := by
          intro t ht
          rw [etk, List.append_assoc]
          refine HP.out _ ?_
          rw [hDD.out]
          simp only [combos, List.mem_flatMap, List.mem_map, List.mem_range]
          exact ⟨q, hq2, t, ht, rfl⟩
        have hET := Lib.hid etk
        have ic := hIH.out (n - 1) _ _ _ hJs hOs hPn
        clear etk hPn
        rw [show (((i + 1 : Nat)) : Int) = (i : Int) + 1 from by omega] at ic
        have hIC := Lib.hid ic
        have HO' := Lib.hid hO'
        have HTK := Lib.hid htk
        have HJ2 := Lib.hid hJ'
        clear ic hO' htk hJ' hOs hJs hbo hxs
        gi_wp2_with (refine ⟨trivial, fun h => (by cases h), ?_⟩; refine hIC.out.mono ?_; clear hIC; rintro e w2 (⟨rfl, ⟨cur2, hO2, ht2⟩, hJ2⟩ | ⟨rfl, xs', hx'⟩))
        · have hlen' : cur'.length = 12 := HO'.out.len
          refine ⟨⟨q + 1, cur2, by omega, by simp, hO2, ?_, ?_⟩, by simp [intOf]; omega⟩
          · have := congrArg (List.take i) ht2
            simp only [List.take_take, Nat.min_eq_left (Nat.le_succ i)] at this
            rw [this, List.take_set_of_le (Nat.le_refl _)]; exact HTK.out
          · rw [part_succ, ← List.append_assoc]
            rw [hET.out] at hJ2
            exact hJ2
        · go_ret
          exact .inr ⟨rfl, _, hx'⟩
      · have hqe : q = x.size.toNat := by omega
        have hlq : ¬ ((q : Int) < x.hi - x.lo + 1) := by omega
        have hfin : J (xs ++ (combos (rs.drop i)).map (fun t => pad12 (cur.take i ++ t))) wr := by
          rw [hqe, part_all, ← hDD.out] at hJ'; exact hJ'
        have HF := Lib.hid hfin
        clear hfin hJ'
        gi_wp2
        go_ret
        exact .inl ⟨rfl, ⟨cur', hO', htk⟩, HF.out⟩

theorem riv_cells {W : World} {bx : Nat} {r : Riv} {A : RA} (h : W.heap[bx]? = some (rivO r A)) :
    W.cell? ⟨bx, 0, none⟩ = some (.int .i64 r.last) ∧ W.cell? ⟨bx, 1, none⟩ = some (.slice A.sa r.salt.length A.sc) ∧ W.cell? ⟨bx, 2, none⟩ = some (.slice A.ma r.mud.length A.mc) ∧ W.cell? ⟨bx, 3, none⟩ = some (.int .i64 r.sweet) ∧ W.cell? ⟨bx, 4, none⟩ = some (.int .i64 r.clear) ∧ W.cell? ⟨bx, 5, none⟩ = some (.int .i64 r.size) ∧ W.cell? ⟨bx, 6, none⟩ = some (.int .i64 r.start) ∧ W.cell? ⟨bx, 7, none⟩ = some (.int .i64 r.draw) ∧ W.cell? ⟨bx, 8, none⟩ = some (.slice A.ua r.use.length A.uc) ∧ W.cell? ⟨bx, 9, none⟩ = some (.slice A.ga r.gauges.length A.gc) := by
  refine ⟨?_, ?_, ?_, ?_, ?_, ?_, ?_, ?_, ?_, ?_⟩ <;> (rw [cell_blk h]; rfl)

/-- A river's truths, whatever the gauges are, as the program numbers them. -/
def truthsL (r : Riv) : List (List Int) := (combos (r.salt ++ r.mud)).map pad12

set_option maxHeartbeats 4000000 in
theorem truths_in (n l : Nat) (r : Riv) (A : RA) (bx : Nat) (J Jx : Nat → List (List Int) → World → Prop) (W : World) (hok : Ok r) (hbx : W.heap[bx]? = some (rivO r A)) (hr : Rd W r A)
    (hJ : ∀ z, W.heap.size < z → ∀ xs W1 W2, J z xs W1 → Wr (iterS W.heap.size z) W1 W2 → J z xs W2)
    (hY : ∀ z, W.heap.size < z → ∀ xs cur W1, J z xs W1 → z + 3 ≤ W1.heap.size → cur.length = 12 → cur ∈ truthsL r → YieldAt Fence.wide 0 Try.prog l #[nv cur] W1 fun e W2 => Wr (fun k => ¬ iterS W.heap.size z k) W1 W2 ∧ ((e = .returned (.bool true) ∧ J z (xs ++ [cur]) W2) ∨ (e = .returned (.bool false) ∧ Jx z (xs ++ [cur]) W2)))
    (h0 : ∀ z, W.heap.size < z → J z [] W) :
    CallsIn Fence.wide n Try.prog 135 #[.func (.yield l) #[] #[], .pointer (some ⟨bx, 0, none⟩)] W fun e W' => (∃ v, e = .returned v) ∧ ∃ z, W.heap.size < z ∧ (J z (truthsL r) W' ∨ ∃ xs, Jx z xs W') := by
  have hOK := Lib.hid hok
  have hHJ := Lib.hid hJ
  have hHY := Lib.hid hY
  have hH0 := Lib.hid h0
  have hb := (Below.refl W.heap.size W).alloc (Nat.le_refl _) (.cells #[.func (.yield l) #[] #[]] 164)
  obtain ⟨k0, k1, k2, k3, k4, k5, k6, k7, k8, k9⟩ := riv_cells hbx
  have hbl : bx < W.heap.size := cell_lt k0
  clear hJ hY h0 hok
  refine callsIn_of_wp Try.func135 rfl trivial ?_ rfl
  simp only [Try.ntmps135, List.size_toArray, List.length_cons, List.length_nil, Nat.reduceAdd, Nat.reduceSub, Array.replicate_succ, Array.replicate_zero, List.push_toArray, List.append_toArray, List.nil_append, List.cons_append]
  gi_wp2_with (refine ⟨trivial, fun h => (by cases h), ?_⟩; refine (callsIn_wide.2 (ranges_o r A _ (hr.below hb) (by have := hOK.out.ns; have := hOK.out.l5; omega) (by have := hOK.out.nm; have := hOK.out.l5; omega))).mono ?_; rintro e w1 ⟨v, rfl, hown, hb1⟩; obtain ⟨a, c, rfl, hnc, hsl⟩ := own_Sl hown)
  have hz : W.heap.size < w1.heap.size := by have := hb1.size; simp at this; omega
  have hrs : (r.salt ++ r.mud).length = r.salt.length + r.mud.length := List.length_append
  have hra : ∀ ad, a = some ad → W.heap.size < ad.block ∧ ad.block < w1.heap.size := fun ad e => by
    subst e
    have := hown.lt ad.block rfl
    simp at this; omega
  have hrk : ∀ x ∈ r.salt ++ r.mud, 0 ≤ x.lo ∧ x.lo ≤ x.hi ∧ x.hi ≤ 9 := fun x hx => (List.mem_append.1 hx).elim (hOK.out.so x) (hOK.out.mo x)
  have h12 : (r.salt ++ r.mud).length ≤ 12 := by have := hOK.out.ns; have := hOK.out.nm; have := hOK.out.l5; omega
  have hcap : (#[.pointer (some ⟨w1.heap.size, 0, none⟩), .pointer (some ⟨W.heap.size, 0, none⟩), .pointer (some ⟨w1.heap.size + 1, 0, none⟩), .pointer (some ⟨w1.heap.size + 1 + 1, 0, none⟩)] : Array Value) = capsOf W.heap.size w1.heap.size := rfl
  obtain ⟨W3, hW3⟩ : ∃ W3, W3 = ((w1.alloc (.cells #[.slice a (r.salt.length + r.mud.length) c] 32)).alloc (.cells #[.int .i64 0, .int .i64 0, .int .i64 0, .int .i64 0, .int .i64 0, .int .i64 0, .int .i64 0, .int .i64 0, .int .i64 0, .int .i64 0, .int .i64 0, .int .i64 0] 129)).alloc (.cells #[.func (.func 136) #[] #[.pointer (some ⟨w1.heap.size, 0, none⟩), .pointer (some ⟨W.heap.size, 0, none⟩), .pointer (some ⟨w1.heap.size + 1, 0, none⟩), .pointer (some ⟨w1.heap.size + 1 + 1, 0, none⟩)]] 108) := ⟨_, rfl⟩
  have hb3 : Below w1.heap.size w1 W3 := by rw [hW3]; exact (((Below.refl _ w1).alloc (Nat.le_refl _) _).alloc (by simp) _).alloc (by simp; omega) _
  have hy0 : (W.alloc (.cells #[.func (.yield l) #[] #[]] 164)).cell? ⟨W.heap.size, 0, none⟩ = some (.func (.yield l) #[] #[]) := by go_simp
  have hO : OwnI l W.heap.size w1.heap.size a c (r.salt ++ r.mud) zero12 W3 := by
    refine ⟨by rw [hW3]; simp, ?_, ?_, ?_, ?_, hsl.below hb3, rfl, ?_⟩
    · rw [hW3, hrs]; go_simp
    · rw [hb3.cell (p := ⟨W.heap.size, 0, none⟩) (show W.heap.size < w1.heap.size from hz), hb1.cell (p := ⟨W.heap.size, 0, none⟩) (by simp)]
      exact hy0
    · rw [hW3]
      have h2 := heap_alloc_new (w1.alloc (.cells #[.slice a (r.salt.length + r.mud.length) c] 32)) (.cells (ints zero12).toArray 129)
      rw [Below.heap_alloc _ _ _ (by simp)]
      rw [World.size_alloc] at h2
      exact h2
    · rw [hW3]; go_simp
    · have : zero12 = List.replicate 12 0 := rfl
      rw [this, List.drop_replicate]
  have hJ3 : J w1.heap.size [] W3 := hHJ.out _ hz _ _ _ (hH0.out _ hz) ((Wr.of_below (hb.trans (hb1.mono hb.size))).trans (Wr.of_below hb3))
  have hch := choose_in l W.heap.size w1.heap.size a c (r.salt ++ r.mud) (J w1.heap.size) (Jx w1.heap.size) (· ∈ truthsL r) hz hra h12 hrk (hHJ.out _ hz) (hHY.out _ hz) (r.salt ++ r.mud).length 0 (by omega) (n - 1) zero12 [] W3 hJ3 hO (fun t ht => List.mem_map.2 ⟨t, by simpa using ht, by simp⟩)
  rw [hcap] at hW3
  rw [hcap, ← hW3]
  refine ⟨trivial, fun h => (by cases h), hch.mono ?_⟩
  rintro e w4 (⟨rfl, -, hj⟩ | ⟨rfl, xs', hx'⟩)
  · have hF : J w1.heap.size (truthsL r) w4 := by simpa [truthsL] using hj
    clear hj hW3
    gi_wp2
    go_end0
    exact ⟨⟨_, rfl⟩, _, hz, .inl hF⟩
  · clear hW3
    gi_wp2
    go_end0
    exact ⟨⟨_, rfl⟩, _, hz, .inr ⟨_, hx'⟩⟩
end Go.Proofs.Ytgglfngkomgadaa
/- Walks: the law's small helpers. -/
namespace Go.Proofs.Ytgglfngkomgadaa
open Go.RowKit Go.Shelf
set_option linter.unusedVariables false
set_option linter.unusedSimpArgs false
set_option maxRecDepth 100000

def thinB (r : Riv) : Bool := decide (r.salt.length ≤ 30) && (decide (r.mud.length ≤ 30) && (decide (r.use.length ≤ 30) && decide (r.gauges.length ≤ 30)))
theorem thin_c (r : Riv) (A : RA) (w : World) :
    Calls Try.prog 23 #[rivV r A] w fun e w' => e = .returned (.bool (thinB r)) ∧ Below w.heap.size w w' := by
  obtain ⟨R, hR⟩ : ∃ R, R = thinB r := ⟨_, rfl⟩
  have HR := Lib.hid hR
  rw [← hR]
  clear hR
  by_cases h1 : r.salt.length ≤ 30
  · have d1 : decide ((r.salt.length : Int) ≤ 30) = true := by simp; omega
    by_cases h2 : r.mud.length ≤ 30
    · have d2 : decide ((r.mud.length : Int) ≤ 30) = true := by simp; omega
      by_cases h3 : r.use.length ≤ 30
      · have d3 : decide ((r.use.length : Int) ≤ 30) = true := by simp; omega
        have hRR : R = decide ((r.gauges.length : Int) ≤ 30) := by
          rw [HR.out]; unfold thinB; simp only [h1, h2, h3, decide_true, Bool.true_and]; congr 1; apply propext; omega
        have HRR := Lib.hid hRR
        clear h1 h2 h3 hRR
        go_enter Try.func23, Try.ntmps23
        go_wp2_with fail
        go_ret
        exact ⟨ret_bool (by rw [HRR.out]), (Below.refl _ _).alloc (Nat.le_refl _) _⟩
      · have d3 : decide ((r.use.length : Int) ≤ 30) = false := by simp; omega
        have hRR : R = false := by rw [HR.out]; unfold thinB; simp [h3]
        have HRR := Lib.hid hRR
        clear h1 h2 h3 hRR
        go_enter Try.func23, Try.ntmps23
        go_wp2_with fail
        go_ret
        exact ⟨ret_bool (by rw [HRR.out]), (Below.refl _ _).alloc (Nat.le_refl _) _⟩
    · have d2 : decide ((r.mud.length : Int) ≤ 30) = false := by simp; omega
      have hRR : R = false := by rw [HR.out]; unfold thinB; simp [h2]
      have HRR := Lib.hid hRR
      clear h1 h2 hRR
      go_enter Try.func23, Try.ntmps23
      go_wp2_with fail
      go_ret
      exact ⟨ret_bool (by rw [HRR.out]), (Below.refl _ _).alloc (Nat.le_refl _) _⟩
  · have d1 : decide ((r.salt.length : Int) ≤ 30) = false := by simp; omega
    have hRR : R = false := by rw [HR.out]; unfold thinB; simp [h1]
    have HRR := Lib.hid hRR
    clear h1 hRR
    go_enter Try.func23, Try.ntmps23
    go_wp2_with fail
    go_ret
    exact ⟨ret_bool (by rw [HRR.out]), (Below.refl _ _).alloc (Nat.le_refl _) _⟩

theorem to_c (x : Rg) (w : World) :
    Calls Try.prog 34 #[.agg #[.int .i64 x.lo, .int .i64 x.hi]] w fun e w' => e = .returned (.agg #[.int .i64 x.lo, .int .i64 x.hi]) ∧ Below w.heap.size w w' := by
  go_enter Try.func34, Try.ntmps34
  go_wp2_with fail
  refine bodyPost_ret (v := .agg #[.int .i64 x.lo, .int .i64 x.hi]) (by simp [results, Try.results34, go_sem]) rfl ⟨rfl, ?_⟩
  exact ((Below.refl w.heap.size w).alloc (Nat.le_refl _) _).alloc (by simp) _
theorem between_c (a b : Int) (w : World) :
    Calls Try.prog 75 #[.int .i64 a, .int .i64 b] w fun e w' => e = .returned (.agg #[.int .i64 a, .int .i64 b]) ∧ Below w.heap.size w w' := by
  go_enter Try.func75, Try.ntmps75
  go_wp2_with fail
  refine bodyPost_ret (v := .agg #[.int .i64 a, .int .i64 b]) (by simp [results, Try.results75, go_sem]) rfl ⟨rfl, ?_⟩
  exact (Below.refl w.heap.size w).alloc (Nat.le_refl _) _
theorem store10 {W : World} {b : Nat} {t : TypeId} {z0 z1 z2 z3 z4 z5 z6 z7 z8 z9 : Value} (h0 : W.heap[b]? = some (.cells #[z0, z1, z2, z3, z4, z5, z6, z7, z8, z9] t (0, 0))) (v0 v1 v2 v3 v4 v5 v6 v7 v8 v9 : Value) :
    (((((((((((W).setCell ⟨b, 0, none⟩ v0).setCell ⟨b, 1, none⟩ v1).setCell ⟨b, 2, none⟩ v2).setCell ⟨b, 3, none⟩ v3).setCell ⟨b, 4, none⟩ v4).setCell ⟨b, 5, none⟩ v5).setCell ⟨b, 6, none⟩ v6).setCell ⟨b, 7, none⟩ v7).setCell ⟨b, 8, none⟩ v8).setCell ⟨b, 9, none⟩ v9).heap[b]? = some (.cells #[v0, v1, v2, v3, v4, v5, v6, v7, v8, v9] t (0, 0)) ∧ Wr (fun k => k = b) W (((((((((((W).setCell ⟨b, 0, none⟩ v0).setCell ⟨b, 1, none⟩ v1).setCell ⟨b, 2, none⟩ v2).setCell ⟨b, 3, none⟩ v3).setCell ⟨b, 4, none⟩ v4).setCell ⟨b, 5, none⟩ v5).setCell ⟨b, 6, none⟩ v6).setCell ⟨b, 7, none⟩ v7).setCell ⟨b, 8, none⟩ v8).setCell ⟨b, 9, none⟩ v9) := by
  have h1 : ((W).setCell ⟨b, 0, none⟩ v0).heap[b]? = some (.cells #[v0, z1, z2, z3, z4, z5, z6, z7, z8, z9] t (0, 0)) := heap_set h0 v0
  have h2 : (((W).setCell ⟨b, 0, none⟩ v0).setCell ⟨b, 1, none⟩ v1).heap[b]? = some (.cells #[v0, v1, z2, z3, z4, z5, z6, z7, z8, z9] t (0, 0)) := heap_set h1 v1
  have h3 : ((((W).setCell ⟨b, 0, none⟩ v0).setCell ⟨b, 1, none⟩ v1).setCell ⟨b, 2, none⟩ v2).heap[b]? = some (.cells #[v0, v1, v2, z3, z4, z5, z6, z7, z8, z9] t (0, 0)) := heap_set h2 v2
  have h4 : (((((W).setCell ⟨b, 0, none⟩ v0).setCell ⟨b, 1, none⟩ v1).setCell ⟨b, 2, none⟩ v2).setCell ⟨b, 3, none⟩ v3).heap[b]? = some (.cells #[v0, v1, v2, v3, z4, z5, z6, z7, z8, z9] t (0, 0)) := heap_set h3 v3
  have h5 : ((((((W).setCell ⟨b, 0, none⟩ v0).setCell ⟨b, 1, none⟩ v1).setCell ⟨b, 2, none⟩ v2).setCell ⟨b, 3, none⟩ v3).setCell ⟨b, 4, none⟩ v4).heap[b]? = some (.cells #[v0, v1, v2, v3, v4, z5, z6, z7, z8, z9] t (0, 0)) := heap_set h4 v4
  have h6 : (((((((W).setCell ⟨b, 0, none⟩ v0).setCell ⟨b, 1, none⟩ v1).setCell ⟨b, 2, none⟩ v2).setCell ⟨b, 3, none⟩ v3).setCell ⟨b, 4, none⟩ v4).setCell ⟨b, 5, none⟩ v5).heap[b]? = some (.cells #[v0, v1, v2, v3, v4, v5, z6, z7, z8, z9] t (0, 0)) := heap_set h5 v5
  have h7 : ((((((((W).setCell ⟨b, 0, none⟩ v0).setCell ⟨b, 1, none⟩ v1).setCell ⟨b, 2, none⟩ v2).setCell ⟨b, 3, none⟩ v3).setCell ⟨b, 4, none⟩ v4).setCell ⟨b, 5, none⟩ v5).setCell ⟨b, 6, none⟩ v6).heap[b]? = some (.cells #[v0, v1, v2, v3, v4, v5, v6, z7, z8, z9] t (0, 0)) := heap_set h6 v6
  have h8 : (((((((((W).setCell ⟨b, 0, none⟩ v0).setCell ⟨b, 1, none⟩ v1).setCell ⟨b, 2, none⟩ v2).setCell ⟨b, 3, none⟩ v3).setCell ⟨b, 4, none⟩ v4).setCell ⟨b, 5, none⟩ v5).setCell ⟨b, 6, none⟩ v6).setCell ⟨b, 7, none⟩ v7).heap[b]? = some (.cells #[v0, v1, v2, v3, v4, v5, v6, v7, z8, z9] t (0, 0)) := heap_set h7 v7
  have h9 : ((((((((((W).setCell ⟨b, 0, none⟩ v0).setCell ⟨b, 1, none⟩ v1).setCell ⟨b, 2, none⟩ v2).setCell ⟨b, 3, none⟩ v3).setCell ⟨b, 4, none⟩ v4).setCell ⟨b, 5, none⟩ v5).setCell ⟨b, 6, none⟩ v6).setCell ⟨b, 7, none⟩ v7).setCell ⟨b, 8, none⟩ v8).heap[b]? = some (.cells #[v0, v1, v2, v3, v4, v5, v6, v7, v8, z9] t (0, 0)) := heap_set h8 v8
  have h10 : (((((((((((W).setCell ⟨b, 0, none⟩ v0).setCell ⟨b, 1, none⟩ v1).setCell ⟨b, 2, none⟩ v2).setCell ⟨b, 3, none⟩ v3).setCell ⟨b, 4, none⟩ v4).setCell ⟨b, 5, none⟩ v5).setCell ⟨b, 6, none⟩ v6).setCell ⟨b, 7, none⟩ v7).setCell ⟨b, 8, none⟩ v8).setCell ⟨b, 9, none⟩ v9).heap[b]? = some (.cells #[v0, v1, v2, v3, v4, v5, v6, v7, v8, v9] t (0, 0)) := heap_set h9 v9
  refine ⟨h10, ?_⟩
  have w0 := Wr.setCell (fun k => k = b) (W) ⟨b, 0, none⟩ v0 rfl
  have w1 := Wr.setCell (fun k => k = b) ((W).setCell ⟨b, 0, none⟩ v0) ⟨b, 1, none⟩ v1 rfl
  have w2 := Wr.setCell (fun k => k = b) (((W).setCell ⟨b, 0, none⟩ v0).setCell ⟨b, 1, none⟩ v1) ⟨b, 2, none⟩ v2 rfl
  have w3 := Wr.setCell (fun k => k = b) ((((W).setCell ⟨b, 0, none⟩ v0).setCell ⟨b, 1, none⟩ v1).setCell ⟨b, 2, none⟩ v2) ⟨b, 3, none⟩ v3 rfl
  have w4 := Wr.setCell (fun k => k = b) (((((W).setCell ⟨b, 0, none⟩ v0).setCell ⟨b, 1, none⟩ v1).setCell ⟨b, 2, none⟩ v2).setCell ⟨b, 3, none⟩ v3) ⟨b, 4, none⟩ v4 rfl
  have w5 := Wr.setCell (fun k => k = b) ((((((W).setCell ⟨b, 0, none⟩ v0).setCell ⟨b, 1, none⟩ v1).setCell ⟨b, 2, none⟩ v2).setCell ⟨b, 3, none⟩ v3).setCell ⟨b, 4, none⟩ v4) ⟨b, 5, none⟩ v5 rfl
  have w6 := Wr.setCell (fun k => k = b) (((((((W).setCell ⟨b, 0, none⟩ v0).setCell ⟨b, 1, none⟩ v1).setCell ⟨b, 2, none⟩ v2).setCell ⟨b, 3, none⟩ v3).setCell ⟨b, 4, none⟩ v4).setCell ⟨b, 5, none⟩ v5) ⟨b, 6, none⟩ v6 rfl
  have w7 := Wr.setCell (fun k => k = b) ((((((((W).setCell ⟨b, 0, none⟩ v0).setCell ⟨b, 1, none⟩ v1).setCell ⟨b, 2, none⟩ v2).setCell ⟨b, 3, none⟩ v3).setCell ⟨b, 4, none⟩ v4).setCell ⟨b, 5, none⟩ v5).setCell ⟨b, 6, none⟩ v6) ⟨b, 7, none⟩ v7 rfl
  have w8 := Wr.setCell (fun k => k = b) (((((((((W).setCell ⟨b, 0, none⟩ v0).setCell ⟨b, 1, none⟩ v1).setCell ⟨b, 2, none⟩ v2).setCell ⟨b, 3, none⟩ v3).setCell ⟨b, 4, none⟩ v4).setCell ⟨b, 5, none⟩ v5).setCell ⟨b, 6, none⟩ v6).setCell ⟨b, 7, none⟩ v7) ⟨b, 8, none⟩ v8 rfl
  have w9 := Wr.setCell (fun k => k = b) ((((((((((W).setCell ⟨b, 0, none⟩ v0).setCell ⟨b, 1, none⟩ v1).setCell ⟨b, 2, none⟩ v2).setCell ⟨b, 3, none⟩ v3).setCell ⟨b, 4, none⟩ v4).setCell ⟨b, 5, none⟩ v5).setCell ⟨b, 6, none⟩ v6).setCell ⟨b, 7, none⟩ v7).setCell ⟨b, 8, none⟩ v8) ⟨b, 9, none⟩ v9 rfl
  exact (((((((((w0).trans w1).trans w2).trans w3).trans w4).trans w5).trans w6).trans w7).trans w8).trans w9
theorem store3 {W : World} {b : Nat} {t : TypeId} {z0 z1 z2 : Value} (h0 : W.heap[b]? = some (.cells #[z0, z1, z2] t (0, 0))) (v0 v1 v2 : Value) :
    ((((W).setCell ⟨b, 0, none⟩ v0).setCell ⟨b, 1, none⟩ v1).setCell ⟨b, 2, none⟩ v2).heap[b]? = some (.cells #[v0, v1, v2] t (0, 0)) ∧ Wr (fun k => k = b) W ((((W).setCell ⟨b, 0, none⟩ v0).setCell ⟨b, 1, none⟩ v1).setCell ⟨b, 2, none⟩ v2) := by
  have h1 : ((W).setCell ⟨b, 0, none⟩ v0).heap[b]? = some (.cells #[v0, z1, z2] t (0, 0)) := heap_set h0 v0
  have h2 : (((W).setCell ⟨b, 0, none⟩ v0).setCell ⟨b, 1, none⟩ v1).heap[b]? = some (.cells #[v0, v1, z2] t (0, 0)) := heap_set h1 v1
  have h3 : ((((W).setCell ⟨b, 0, none⟩ v0).setCell ⟨b, 1, none⟩ v1).setCell ⟨b, 2, none⟩ v2).heap[b]? = some (.cells #[v0, v1, v2] t (0, 0)) := heap_set h2 v2
  refine ⟨h3, ?_⟩
  have w0 := Wr.setCell (fun k => k = b) (W) ⟨b, 0, none⟩ v0 rfl
  have w1 := Wr.setCell (fun k => k = b) ((W).setCell ⟨b, 0, none⟩ v0) ⟨b, 1, none⟩ v1 rfl
  have w2 := Wr.setCell (fun k => k = b) (((W).setCell ⟨b, 0, none⟩ v0).setCell ⟨b, 1, none⟩ v1) ⟨b, 2, none⟩ v2 rfl
  exact ((w0).trans w1).trans w2
theorem store2 {W : World} {b : Nat} {t : TypeId} {z0 z1 : Value} (h0 : W.heap[b]? = some (.cells #[z0, z1] t (0, 0))) (v0 v1 : Value) :
    (((W).setCell ⟨b, 0, none⟩ v0).setCell ⟨b, 1, none⟩ v1).heap[b]? = some (.cells #[v0, v1] t (0, 0)) ∧ Wr (fun k => k = b) W (((W).setCell ⟨b, 0, none⟩ v0).setCell ⟨b, 1, none⟩ v1) := by
  have h1 : ((W).setCell ⟨b, 0, none⟩ v0).heap[b]? = some (.cells #[v0, z1] t (0, 0)) := heap_set h0 v0
  have h2 : (((W).setCell ⟨b, 0, none⟩ v0).setCell ⟨b, 1, none⟩ v1).heap[b]? = some (.cells #[v0, v1] t (0, 0)) := heap_set h1 v1
  refine ⟨h2, ?_⟩
  have w0 := Wr.setCell (fun k => k = b) (W) ⟨b, 0, none⟩ v0 rfl
  have w1 := Wr.setCell (fun k => k = b) ((W).setCell ⟨b, 0, none⟩ v0) ⟨b, 1, none⟩ v1 rfl
  exact (w0).trans w1
end Go.Proofs.Ytgglfngkomgadaa
/- Walks: a range over the truths. -/
namespace Go.Proofs.Ytgglfngkomgadaa
open Go.RowKit Go.Shelf
set_option linter.unusedVariables false
set_option linter.unusedSimpArgs false
set_option maxRecDepth 100000
attribute [local go_sem] Oper.semAt_some

theorem truths_c (r : Riv) (A : RA) (w : World) :
    Calls Try.prog 115 #[rivV r A] w fun e w' => e = .returned (.func (.func 135) #[] #[.pointer (some ⟨w.heap.size, 0, none⟩)]) ∧ w' = w.alloc (rivO r A) := by
  go_enter Try.func115, Try.ntmps115
  go_wp2_with fail
  go_ret
  exact ⟨rfl, rfl⟩

/-- How a round's body ends. -/
def roundP (D B z : Nat) (I Ix : List (List Int) → World → Prop) (xs : List (List Int)) (W : World) : Exit → Act → World → Prop
  | .normal, _, W' => Wr (fun k => ¬ iterS B z k ∧ k ≠ D ∧ k ≠ D + 1) W W' ∧ I xs W'
  | .ret, _, W' => Wr (fun k => ¬ iterS B z k ∧ k ≠ D ∧ k ≠ D + 1) W W' ∧ Ix xs W'
  | _, _, _ => False

theorem range_truths {g : Operand} {ps : Array Tmp} {assign body : Code} {Q : Exit → Act → World → Prop} {a : Act} {w : World} {n : Nat} (r : Riv) (A : RA) (bx : Nat) (hok : Ok r) (hbx : w.heap[bx]? = some (rivO r A)) (hr : Rd w r A)
    (hg : a.eval g = .func (.func 135) #[] #[.pointer (some ⟨bx, 0, none⟩)]) (hps : ps.size = 1)
    (I Ix : Nat → List (List Int) → World → Prop)
    (hI : ∀ z, w.heap.size + 2 < z → ∀ xs W1 W2, I z xs W1 → Wr (fun k => iterS (w.heap.size + 2) z k ∨ k = w.heap.size + 1) W1 W2 → I z xs W2)
    (hIx : ∀ z, w.heap.size + 2 < z → ∀ xs W1 W2, Ix z xs W1 → Wr (fun k => k = w.heap.size + 1) W1 W2 → Ix z xs W2)
    (h0 : ∀ z, w.heap.size + 2 < z → I z [] w)
    (hround : ∀ z, w.heap.size + 2 < z → ∀ xs cur W1, I z xs W1 → z + 3 ≤ W1.heap.size → cur.length = 12 → cur ∈ truthsL r → ∀ K : Act → World → Prop,
      (∀ a₁ w₁, Wr (fun _ => False) W1 w₁ → (∀ W2, Wr (fun k => k = w.heap.size + 1) w₁ W2 → body.wpIn (Fence.wide.inRound (w.heap.size + 1)) 0 Try.prog (roundP w.heap.size (w.heap.size + 2) z (I z) (Ix z) (xs ++ [cur]) W2) a₁ W2) → K a₁ w₁) →
      assign.wpIn (Fence.wide.inRound (w.heap.size + 1)) 0 Try.prog (Exit.then K (fun _ _ _ => False)) { tmps := (ps.zip #[nv cur]).foldl (fun t (p, v) => t.setIfInBounds p v) a.tmps, defers := [] } W1)
    (hdone : ∀ z W, w.heap.size + 2 < z → I z (truthsL r) W → W.heap[w.heap.size]? = some (.deferred (some [])) → Q .normal { a with defers := { target := .collected w.heap.size, args := #[] } :: a.defers } W)
    (hstop : ∀ z xs W, w.heap.size + 2 < z → Ix z xs W → W.heap[w.heap.size]? = some (.deferred (some [])) → Code.ret.wpIn Fence.wide n Try.prog Q { a with defers := { target := .collected w.heap.size, args := #[] } :: a.defers } W) :
    (Code.rangeFunc g ps assign body).wpIn Fence.wide n Try.prog Q a w := by
  refine wpIn_rangeFunc ?_
  intro fn hfn
  obtain ⟨rec, hrec⟩ : ∃ rec : LoopState → Option Code → Loop, rec = fun st pe => { state := st, pending := pe, fn, tmps := a.tmps, params := ps, assign, body, defers := w.heap.size } := ⟨_, rfl⟩
  obtain ⟨W1, hW1⟩ : ∃ W1, (w.alloc (.deferred (some []))).alloc (.loop (rec .ready none)) = W1 := ⟨_, rfl⟩
  have hL1 : W1.heap[w.heap.size + 1]? = some (.loop (rec .ready none)) := by
    rw [← hW1]; have := World.alloc_heap_new (w.alloc (.deferred (some []))) (.loop (rec .ready none)); rwa [World.size_alloc] at this
  have hK1 : W1.heap[w.heap.size]? = some (.deferred (some [])) := by
    rw [← hW1]; exact (Below.heap_alloc _ _ _ (by simp)).trans (World.alloc_heap_new w _)
  have hS1 : W1.heap.size = w.heap.size + 2 := by rw [← hW1]; simp
  have hb1 : Below w.heap.size w W1 := by rw [← hW1]; exact ((Below.refl _ w).alloc (Nat.le_refl _) _).alloc (by simp) _
  refine ⟨w.heap.size + 1, [{ target := .collected w.heap.size, args := #[] }], W1, { target := .fn (.func 135) #[.pointer (some ⟨bx, 0, none⟩)], args := #[.func (.yield (w.heap.size + 1)) #[] #[]] }, W1, 135,
    #[.func (.yield (w.heap.size + 1)) #[] #[]] ++ #[.pointer (some ⟨bx, 0, none⟩)], W1, ?_, ?_, ?_, ?_, fun h => (by cases h), ?_⟩
  · rw [← hW1, hrec]; exact run_enterLoop_outer _ _ _ _ _
  · simp only [resolve, hg]
    simp [go_sem]
  · intro f' hf'; trivial
  · simp [invoke, go_sem, enters_of Try.func135 (by kernel_rfl) rfl]
  · have hbl : bx < w.heap.size := (Array.getElem?_eq_some_iff.1 hbx).1
    have hY := truths_in (n - 1) (w.heap.size + 1) r A bx
      (fun z xs W => I z xs W ∧ W.heap[w.heap.size + 1]? = some (.loop (rec .ready none)) ∧ W.heap[w.heap.size]? = some (.deferred (some [])))
      (fun z xs W => Ix z xs W ∧ W.heap[w.heap.size + 1]? = some (.loop (rec .done (some .ret))) ∧ W.heap[w.heap.size]? = some (.deferred (some []))) W1 hok
      ((hb1.block _ hbl).trans hbx) (hr.below hb1)
      (by
        rw [hS1]
        rintro z hz xs A1 A2 ⟨h1, h2, h3⟩ hw
        exact ⟨hI z hz xs A1 A2 h1 (hw.mono fun k h => .inl h), hw.blk (fun h => by have := h.1; omega) h2, hw.blk (fun h => by have := h.1; omega) h3⟩)
      (by
        rw [hS1]
        rintro z hz xs cur W ⟨hi, hl, hk⟩ hzs hlen hmem
        have hlt : w.heap.size + 1 < W.heap.size := (Array.getElem?_eq_some_iff.1 hl).1
        have hy := run_yield (P := Try.prog) (args := #[nv cur]) hl (by rw [hrec]; exact hps.symm)
        rw [hrec] at hy
        refine ⟨fn, _, assign, body, hy, roundIn_of_wpIn hfn (hround z hz xs cur W hi hzs hlen hmem _ ?_)⟩
        intro a1 w1 hw1 hbody
        have hl1 := hw1.blk (fun h => h) hl
        have hk1 := hw1.blk (fun h => h) hk
        refine ⟨_, run_beginRound hl1 (by rw [hrec]), ?_⟩
        have hlt1 : w.heap.size + 1 < w1.heap.size := (Array.getElem?_eq_some_iff.1 hl1).1
        have hp := Wr.putObj (fun k => k = w.heap.size + 1) w1 (w.heap.size + 1) (.loop { rec .ready none with state := .busy }) rfl
        have hl2 : (w1.putObj (w.heap.size + 1) (.loop { rec .ready none with state := .busy })).heap[w.heap.size + 1]? = some (.loop { rec .ready none with state := .busy }) := World.putObj_heap_same hlt1
        have hk2 := hp.blk (fun h => by omega) hk1
        refine wpIn_mono (hbody _ hp) ?_
        have hwS : ∀ {X Y : World}, Wr (fun k => k = w.heap.size + 1) X Y → Wr (fun k => ¬ iterS (w.heap.size + 2) z k) X Y := fun h => h.mono fun k e hh => by have := hh.1; omega
        have fin : ∀ (jump : Option Code) (W3 : World), Wr (fun k => ¬ iterS (w.heap.size + 2) z k ∧ k ≠ w.heap.size ∧ k ≠ w.heap.size + 1) (w1.putObj (w.heap.size + 1) (.loop { rec .ready none with state := .busy })) W3 →
            (Instr.endRound (w.heap.size + 1) jump).run Try.prog W3 = .ok (.bool jump.isNone) (W3.putObj (w.heap.size + 1) (.loop (rec (if jump.isNone then .ready else .done) jump))) ∧
            (W3.putObj (w.heap.size + 1) (.loop (rec (if jump.isNone then .ready else .done) jump))).heap[w.heap.size + 1]? = some (.loop (rec (if jump.isNone then .ready else .done) jump)) ∧
            (W3.putObj (w.heap.size + 1) (.loop (rec (if jump.isNone then .ready else .done) jump))).heap[w.heap.size]? = some (.deferred (some [])) ∧
            Wr (fun k => ¬ iterS (w.heap.size + 2) z k) W (W3.putObj (w.heap.size + 1) (.loop (rec (if jump.isNone then .ready else .done) jump))) ∧
            Wr (fun k => k = w.heap.size + 1) W3 (W3.putObj (w.heap.size + 1) (.loop (rec (if jump.isNone then .ready else .done) jump))) := fun jump W3 hk3 => by
          have hl3 := hk3.blk (fun h => h.2.2 rfl) hl2
          have hkk3 := hk3.blk (fun h => h.2.1 rfl) hk2
          have := run_endRound (P := Try.prog) jump hl3
          have hpp := Wr.putObj (fun k => k = w.heap.size + 1) W3 (w.heap.size + 1) (.loop (rec (if jump.isNone then .ready else .done) jump)) rfl
          refine ⟨?_, World.putObj_heap_same (Array.getElem?_eq_some_iff.1 hl3).1, hpp.blk (fun h => by omega) hkk3, ?_, hpp⟩
          · rw [hrec] at this ⊢; exact this
          · exact (((hw1.mono fun k h => h.elim).trans (hwS hp)).trans (hk3.mono fun k h => h.1)).trans (hwS hpp)
        rintro e a3 W3 hq
        cases e with
        | normal =>
          obtain ⟨hk3, hi3⟩ := hq
          obtain ⟨hr1, hl4, hk4, hw4, hw5⟩ := fin none W3 hk3
          exact ⟨_, _, hr1, hw4, .inl ⟨rfl, hI z hz _ _ _ hi3 (hw5.mono fun k h => .inr h), hl4, hk4⟩⟩
        | ret =>
          obtain ⟨hk3, hi3⟩ := hq
          obtain ⟨hr1, hl4, hk4, hw4, hw5⟩ := fin (some .ret) W3 hk3
          exact ⟨_, _, hr1, hw4, .inr ⟨rfl, hIx z hz _ _ _ hi3 hw5, hl4, hk4⟩⟩
        | exit id => exact hq.elim
        | goto t => exact hq.elim
        | panic ch => exact hq.elim
        | outgrown => exact hq.elim)
      (by
        rw [hS1]
        intro z hz
        exact ⟨hI z hz _ _ _ (h0 z hz) (Wr.of_below hb1), hL1, hK1⟩)
    refine hY.mono ?_
    rw [hS1]
    rintro e W2 ⟨⟨v, rfl⟩, z, hz, (⟨hi, hl, hk⟩ | ⟨xs, hi, hl, hk⟩)⟩
    · have hp := Wr.putObj (fun k => k = w.heap.size + 1) W2 (w.heap.size + 1) (.loop (rec .exhausted none)) rfl
      exact ⟨none, _, by have := run_endLoop (P := Try.prog) hl (by rw [hrec]; simp); rw [hrec] at this; exact this, by have := hdone z _ hz (hI z hz _ _ _ hi (hp.mono fun k h => .inr h)) (hp.blk (fun h => by omega) hk); rw [hrec] at this; exact this⟩
    · have hp := Wr.putObj (fun k => k = w.heap.size + 1) W2 (w.heap.size + 1) (.loop (rec .exhausted (some .ret))) rfl
      exact ⟨some .ret, _, by have := run_endLoop (P := Try.prog) hl (by rw [hrec]; simp); rw [hrec] at this; exact this, by have := hstop z xs _ hz (hIx z hz _ _ _ hi hp) (hp.blk (fun h => by omega) hk); rw [hrec] at this; exact this⟩
end Go.Proofs.Ytgglfngkomgadaa
/- Walks: possible. -/
namespace Go.Proofs.Ytgglfngkomgadaa
open Go.RowKit Go.Shelf
set_option linter.unusedVariables false
set_option linter.unusedSimpArgs false
set_option maxRecDepth 100000
attribute [local go_sem] Oper.semAt_some

theorem nv_cells {W : World} {b : Nat} {n0 n1 n2 n3 n4 n5 n6 n7 n8 n9 n10 n11 : Int} {e : TypeId} (h : W.heap[b]? = some (.cells (ints [n0, n1, n2, n3, n4, n5, n6, n7, n8, n9, n10, n11]).toArray e (0, 0))) :
    W.cell? ⟨b, 0, none⟩ = some (.int .i64 n0) ∧ W.cell? ⟨b, 1, none⟩ = some (.int .i64 n1) ∧ W.cell? ⟨b, 2, none⟩ = some (.int .i64 n2) ∧ W.cell? ⟨b, 3, none⟩ = some (.int .i64 n3) ∧ W.cell? ⟨b, 4, none⟩ = some (.int .i64 n4) ∧ W.cell? ⟨b, 5, none⟩ = some (.int .i64 n5) ∧ W.cell? ⟨b, 6, none⟩ = some (.int .i64 n6) ∧ W.cell? ⟨b, 7, none⟩ = some (.int .i64 n7) ∧ W.cell? ⟨b, 8, none⟩ = some (.int .i64 n8) ∧ W.cell? ⟨b, 9, none⟩ = some (.int .i64 n9) ∧ W.cell? ⟨b, 10, none⟩ = some (.int .i64 n10) ∧ W.cell? ⟨b, 11, none⟩ = some (.int .i64 n11) := by
  refine ⟨?_, ?_, ?_, ?_, ?_, ?_, ?_, ?_, ?_, ?_, ?_, ?_⟩ <;> (rw [cell_blk h]; rfl)

/-- What possible holds in its own blocks. -/
structure PosI (r : Riv) (A : RA) (a : Option Addr) (m c : Nat) (w W : World) : Prop where
  b : Below w.heap.size w W
  r1 : W.heap[w.heap.size]? = some (rivO r A)
  o1 : W.cell? ⟨w.heap.size + 1, 0, none⟩ = some (.slice a m c)
  t1 : ∃ b, W.heap[w.heap.size + 2]? = some (.cells #[.bool b] 4 (0, 0))
theorem PosI.wr {r : Riv} {A : RA} {a : Option Addr} {m c : Nat} {w W W' : World} {S : Nat → Prop} (h : PosI r A a m c w W) (hw : Wr S W W') (hs : ∀ k, S k → w.heap.size + 3 ≤ k) : PosI r A a m c w W' :=
  ⟨h.b.trans (hw.below h.b.size fun k hk => by have := hs k hk; omega), hw.blk (fun e => by have := hs _ e; omega) h.r1, hw.cell (fun e => by have := hs _ e; simp at this) h.o1,
    by obtain ⟨b, hb⟩ := h.t1; exact ⟨b, hw.blk (fun e => by have := hs _ e; omega) hb⟩⟩

set_option maxHeartbeats 4000000 in
theorem possible_c (r : Riv) (A : RA) (a : Option Addr) (xs : List Int) (c : Nat) (w : World) (hok : Ok r) (hr : Rd w r A) (hs : Sl w a (ints xs)) (hlen : xs.length ≤ 1000) :
    Calls Try.prog 105 #[rivV r A, .slice a xs.length c] w fun e w' => e = .returned (.bool ((truthsL r).any fun ns => rightB r ns xs)) ∧ Below w.heap.size w w' := by
  have hOK := Lib.hid hok
  have hgd : Hid (∀ g ∈ r.gauges, 0 ≤ g.day ∧ g.day ≤ r.last) := fun g hg => (hok.go g hg).1
  clear hok
  refine (callsIn_wide (n := 3)).1 ?_
  refine callsIn_of_wp_marks Try.func105 rfl trivial ?_ rfl
  simp only [Try.ntmps105, List.size_toArray, List.length_cons, List.length_nil, Nat.reduceAdd, Nat.reduceSub, Array.replicate_succ, Array.replicate_zero, List.push_toArray, List.append_toArray, List.nil_append, List.cons_append]
  gi_wp2_with (refine ⟨trivial, ?_⟩; refine (callsIn_wide.2 (truths_c r A _)).mono ?_; rintro e w1 ⟨rfl, rfl⟩)
  obtain ⟨W4, hW4⟩ : ∃ W4, (((w.alloc (rivO r A)).alloc (.cells #[.slice a xs.length c] 23)).alloc (.cells #[.bool false] 4)).alloc (rivO r A) = W4 := ⟨_, rfl⟩
  rw [hW4]
  have hsz : W4.heap.size = w.heap.size + 4 := by rw [← hW4]; simp
  have hb4 : Below w.heap.size w W4 := by rw [← hW4]; exact ((((Below.refl _ w).alloc (Nat.le_refl _) _).alloc (by simp) _).alloc (by simp; omega) _).alloc (by simp; omega) _
  have hbx : W4.heap[w.heap.size + 3]? = some (rivO r A) := by
    rw [← hW4]
    have h2 := heap_alloc_new (((w.alloc (rivO r A)).alloc (.cells #[.slice a xs.length c] 23)).alloc (.cells #[.bool false] 4)) (rivO r A)
    simp only [World.size_alloc] at h2
    exact h2
  have hP4 : PosI r A a xs.length c w W4 := by
    refine ⟨hb4, ?_, ?_, false, ?_⟩
    · rw [← hW4, Below.heap_alloc _ _ _ (by simp; omega), Below.heap_alloc _ _ _ (by simp; omega), Below.heap_alloc _ _ _ (by simp)]
      exact heap_alloc_new w _
    · have h2 := heap_alloc_new (w.alloc (rivO r A)) (.cells #[.slice a xs.length c] 23)
      simp only [World.size_alloc] at h2
      have h3 : W4.heap[w.heap.size + 1]? = some (.cells #[.slice a xs.length c] 23) := by
        rw [← hW4, Below.heap_alloc _ _ _ (by simp), Below.heap_alloc _ _ _ (by simp)]; exact h2
      rw [cell_blk h3]; rfl
    · rw [← hW4, Below.heap_alloc _ _ _ (by simp)]
      have h2 := heap_alloc_new ((w.alloc (rivO r A)).alloc (.cells #[.slice a xs.length c] 23)) (.cells #[.bool false] 4)
      simp only [World.size_alloc] at h2
      exact h2
  have HP4 := Lib.hid hP4
  have HOK := Lib.hid hOK.out
  clear hP4 hW4
  refine range_truths (w := W4) r A (w.heap.size + 3) hOK.out hbx (hr.below hb4) rfl rfl
    (fun z ys W => ys.all (fun ns => !rightB r ns xs) = true ∧ PosI r A a xs.length c w W)
    (fun z ys W => (truthsL r).any (fun ns => rightB r ns xs) = true ∧ Below w.heap.size w W ∧ W.cell? ⟨w.heap.size + 2, 0, none⟩ = some (.bool true))
    (fun z hz ys W1 W2 h hw => ⟨h.1, h.2.wr hw (fun k hk => by rcases hk with hk | hk; (· have := hk.1; omega); (· omega))⟩)
    (fun z hz ys W1 W2 h hw => ⟨h.1, h.2.1.trans (hw.below h.2.1.size (fun k hk => by omega)), hw.cell (fun e => by simp at e; omega) h.2.2⟩)
    (fun z hz => ⟨rfl, HP4.out⟩) ?round ?done ?stop
  case round =>
    rw [hsz]
    rintro z hz ys cur W1 ⟨hall, hP⟩ hzs hlen hmem K hK
    have HK := Lib.hid hK
    obtain ⟨n0, n1, n2, n3, n4, n5, n6, n7, n8, n9, n10, n11, hnn⟩ := exists12 cur hlen
    subst hnn
    clear hK
    simp only [nv, ints, List.map_cons, List.map_nil]
    gi_wp2
    refine HK.out _ _ (Wr.alloc _ _ _) ?_
    intro W2 hw2
    have hPa := hP.wr (Wr.alloc (fun _ => False) W1 (.cells #[.int .i64 n0, .int .i64 n1, .int .i64 n2, .int .i64 n3, .int .i64 n4, .int .i64 n5, .int .i64 n6, .int .i64 n7, .int .i64 n8, .int .i64 n9, .int .i64 n10, .int .i64 n11] 129)) (fun k h => h.elim)
    have hP2 := hPa.wr hw2 (fun k h => by omega)
    have hlt1 : w.heap.size + 4 + 1 < W1.heap.size := by omega
    have hnb : W2.heap[W1.heap.size]? = some (.cells (ints [n0, n1, n2, n3, n4, n5, n6, n7, n8, n9, n10, n11]).toArray 129 (0, 0)) := hw2.blk (fun h => by omega) (heap_alloc_new W1 (.cells (ints [n0, n1, n2, n3, n4, n5, n6, n7, n8, n9, n10, n11]).toArray 129))
    obtain ⟨k0, k1, k2, k3, k4, k5, k6, k7, k8, k9⟩ := riv_cells hP2.r1
    obtain ⟨c0, c1, c2, c3, c4, c5, c6, c7, c8, c9, c10, c11⟩ := nv_cells hnb
    have o1 := hP2.o1
    obtain ⟨bt, ht⟩ := hP2.t1
    have hwr : Hid (Wr (fun k => ¬ iterS (w.heap.size + 4 + 2) z k ∧ k ≠ w.heap.size + 4 ∧ k ≠ w.heap.size + 4 + 1) W2 W2) := Wr.refl _ _
    have HP2 := Lib.hid hP2
    have HALL := Lib.hid hall
    have HMEM := Lib.hid hmem
    have HT := Lib.hid ht
    have hrr := Lib.hid (hr.below hP2.b)
    have hss := Lib.hid (hs.below hP2.b)
    have hs2 := hP2.b.size
    have hz2 : w.heap.size + 2 < W2.heap.size := (Array.getElem?_eq_some_iff.1 ht).1
    clear HK hPa hP2 hP hnb ht hall hmem hw2
    gi_wp2_with (refine ⟨trivial, rfl, ?_⟩; refine (CallsIn.inRound _ (callsIn_wide.2 (right_c r A [n0, n1, n2, n3, n4, n5, n6, n7, n8, n9, n10, n11] a xs c _ HOK.out.l0 HOK.out.l5 rfl HOK.out.ng hgd.out hrr.out.g hss.out (by assumption)))).mono ?_; rintro e w3 ⟨rfl, hb3⟩; have hc3 := (cell_blk (k := 0) ((hb3.block _ hz2).trans HT.out)); have hf3 := (frozen_blk (k := 0) ((hb3.block _ hz2).trans HT.out)))
    · have hv : rightB r [n0, n1, n2, n3, n4, n5, n6, n7, n8, n9, n10, n11] xs = true := by assumption
      have hw3 := Wr.of_below (S := fun k => ¬ iterS (w.heap.size + 4 + 2) z k ∧ k ≠ w.heap.size + 4 ∧ k ≠ w.heap.size + 4 + 1) hb3
      refine ⟨hw3.trans (Wr.setCell _ _ ⟨w.heap.size + 1 + 1, 0, none⟩ _ ⟨fun h => by have := h.1; simp at this; omega, by simp, by simp⟩), List.any_eq_true.2 ⟨_, HMEM.out, hv⟩, ?_, ?_⟩
      · exact (HP2.out.b.trans (hb3.mono HP2.out.b.size)).setCell (by simp; omega) _
      · exact World.cell?_setCell_same' _ _ _ (by rw [hc3]; rfl)
    · have hv : rightB r [n0, n1, n2, n3, n4, n5, n6, n7, n8, n9, n10, n11] xs = false := by assumption
      exact ⟨Wr.of_below hb3, by rw [List.all_append, HALL.out]; simp [hv], HP2.out.wr (Wr.of_below (S := fun _ => False) hb3) (fun k h => h.elim)⟩
  case done =>
    rw [hsz]
    rintro z W hz ⟨hall, hP⟩ hK
    obtain ⟨bt, ht⟩ := hP.t1
    have hc := cell_blk (k := 0) ht
    have hf := frozen_blk (k := 0) ht
    have hK2 := (Wr.setCell (fun k => k = w.heap.size + 2) W ⟨w.heap.size + 2, 0, none⟩ (.bool false) rfl).blk (fun h => by omega) hK
    have hfin : (truthsL r).any (fun ns => rightB r ns xs) = false := by
      rw [List.any_eq_false]; intro x hx; have := List.all_eq_true.1 hall x hx; simpa using this
    have HF := Lib.hid hfin
    clear hfin hall ht
    gi_wp2
    refine ⟨by simp, .inl ⟨_, _, rfl, run_takeDeferred hK2, ?_⟩⟩
    have hcF : ((W.setCell ⟨w.heap.size + 2, 0, none⟩ (.bool false)).putObj (w.heap.size + 4) (.deferred none)).cell? ⟨w.heap.size + 2, 0, none⟩ = some (.bool false) :=
      (Wr.putObj (fun k => k = w.heap.size + 4) _ _ _ rfl).cell (fun h => by simp at h) (World.cell?_setCell_same' _ _ _ (by rw [hc]; rfl))
    refine ⟨.bool false, by simp [results, Try.results105, go_sem, hcF], by rw [HF.out], ?_⟩
    exact ((hP.b.setCell (p := ⟨w.heap.size + 2, 0, none⟩) (by simp) _).trans ((Wr.putObj (fun k => k = w.heap.size + 4) _ _ _ rfl).below (by simp [World.setCell]; exact hP.b.size) (fun k h => by omega)))
  case stop =>
    rw [hsz]
    rintro z ys W hz ⟨hany, hB, hc⟩ hK
    gi_wp2
    refine ⟨by simp, .inl ⟨_, _, rfl, run_takeDeferred hK, ?_⟩⟩
    have hcF : (W.putObj (w.heap.size + 4) (.deferred none)).cell? ⟨w.heap.size + 2, 0, none⟩ = some (.bool true) :=
      (Wr.putObj (fun k => k = w.heap.size + 4) _ _ _ rfl).cell (fun h => by simp at h) hc
    refine ⟨.bool true, by simp [results, Try.results105, go_sem, hcF], by rw [hany], ?_⟩
    exact hB.trans ((Wr.putObj (fun k => k = w.heap.size + 4) _ _ _ rfl).below hB.size (fun k h => by omega))
end Go.Proofs.Ytgglfngkomgadaa
