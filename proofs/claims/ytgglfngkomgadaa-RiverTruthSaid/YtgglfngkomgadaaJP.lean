/- the reference: truths by number -/
import Derived.Deep.CutRange
import Derived.Deep.DeepCutAuto
import Derived.Test.YtgglfngkomgadaaJO
import Derived.Test.YtgglfngkomgadaaJJ
/- Walks of the reference: Nth. -/
namespace Go.Proofs.Ytgglfngkomgadaa
open Go.RowKit Go.Shelf
set_option linter.unusedVariables false
set_option linter.unusedSimpArgs false
set_option maxRecDepth 100000

/-- The truth with a number. -/
def nthF : Nat → List Rg → List Rg → List Int × List Int
  | n, a :: l, b :: l2 =>
    let r := nthF (n / a.size.toNat / b.size.toNat) l l2
    ((a.lo + ((n % a.size.toNat : Nat) : Int)) :: r.1, (b.lo + ((n / a.size.toNat % b.size.toNat : Nat) : Int)) :: r.2)
  | _, _, _ => ([], [])
def nthT (r : Riv) (n : Nat) : Tr := ⟨(nthF n r.salt r.mud).1, (nthF n r.salt r.mud).2⟩
theorem nthF_drop (n : Nat) (la lb : List Rg) (k : Nat) (x y : Rg) (hx : la[k]? = some x) (hy : lb[k]? = some y) : nthF n (la.drop k) (lb.drop k) =
    ((x.lo + ((n % x.size.toNat : Nat) : Int)) :: (nthF (n / x.size.toNat / y.size.toNat) (la.drop (k + 1)) (lb.drop (k + 1))).1, (y.lo + ((n / x.size.toNat % y.size.toNat : Nat) : Int)) :: (nthF (n / x.size.toNat / y.size.toNat) (la.drop (k + 1)) (lb.drop (k + 1))).2) := by
  obtain ⟨h1, e1⟩ := List.getElem?_eq_some_iff.1 hx
  obtain ⟨h2, e2⟩ := List.getElem?_eq_some_iff.1 hy
  rw [List.drop_eq_getElem_cons h1, List.drop_eq_getElem_cons h2, e1, e2, nthF]
/-- Two rows that grow, and the box of both (what it holds may be older). -/
structure NthG (tb base : Nat) (S M : List Int) (sv mv o1 o2 : Value) (W : World) : Prop where
  blk : W.heap[tb]? = some (.cells #[o1, o2] 64 (0, 0))
  so : W.ownsRow base 3 1 sv S.length (ints S)
  mo : W.ownsRow base 3 1 mv M.length (ints M)
  sep : ∀ k, sv.ownBlock = some k → mv.ownBlock ≠ some k
  tbb : tb < base
  bz : base ≤ W.heap.size
abbrev NthI (tb base : Nat) (S M : List Int) (sv mv : Value) (W : World) : Prop := NthG tb base S M sv mv sv mv W
section
variable {tb base : Nat} {S M : List Int} {sv mv o1 o2 v7 : Value} {W W' W2 : World} {x : Int}
theorem NthG.below (h : NthG tb base S M sv mv o1 o2 W) (hb : Below W.heap.size W W') : NthG tb base S M sv mv o1 o2 W' :=
  ⟨(hb.block _ (Array.getElem?_eq_some_iff.1 h.blk).1).trans h.blk, own_below h.so hb, own_below h.mo hb, h.sep, h.tbb, Nat.le_trans h.bz hb.size⟩
theorem NthG.appS (h : NthG tb base S M sv mv o1 o2 W) (hown : W2.ownsRow base 3 1 v7 (S.length + 1) (ints S ++ [.int .i64 x])) (hg : W.grownBy W2 sv.ownBlock)
    (hor : v7.ownBlock = sv.ownBlock ∨ v7.ownBlock = some W.heap.size) : NthG tb base (S ++ [x]) M v7 mv o1 o2 W2 := by
  refine ⟨(wr_grown hg).blk (fun e => by have := (h.so.lt _ e).1; have := h.tbb; omega) h.blk, by rw [List.length_append, ints_append]; exact hown, h.mo.kept hg ?_, ?_, h.tbb, Nat.le_trans h.bz hg.size⟩
  · cases hm : mv.ownBlock with
    | none => exact .inl rfl
    | some q => exact .inr (fun e => h.sep q e.symm (by rw [hm]))
  · intro k hk hm
    rcases hor with e | e
    · exact h.sep k (e ▸ hk) hm
    · rw [e] at hk; cases hk
      have := (h.mo.lt _ hm).2
      omega
theorem NthG.appM (h : NthG tb base S M sv mv o1 o2 W) (hown : W2.ownsRow base 3 1 v7 (M.length + 1) (ints M ++ [.int .i64 x])) (hg : W.grownBy W2 mv.ownBlock)
    (hor : v7.ownBlock = mv.ownBlock ∨ v7.ownBlock = some W.heap.size) : NthG tb base S (M ++ [x]) sv v7 o1 o2 W2 := by
  refine ⟨(wr_grown hg).blk (fun e => by have := (h.mo.lt _ e).1; have := h.tbb; omega) h.blk, h.so.kept hg ?_, by rw [List.length_append, ints_append]; exact hown, ?_, h.tbb, Nat.le_trans h.bz hg.size⟩
  · cases hm : sv.ownBlock with
    | none => exact .inl rfl
    | some q => exact .inr (fun e => h.sep q hm e.symm)
  · intro k hk hm
    rcases hor with e | e
    · exact h.sep k hk (e ▸ hm)
    · rw [e] at hm; cases hm
      have := (h.so.lt _ hk).2
      omega
theorem NthG.put (h : NthG tb base S M sv mv o1 o2 W) (f : Nat) (v : Value) {p1 p2 : Value} (hv : (#[o1, o2] : Array Value).setIfInBounds f v = #[p1, p2]) : NthG tb base S M sv mv p1 p2 (W.setCell ⟨tb, f, none⟩ v) := by
  have hw : Wr (fun k => k = tb) W (W.setCell ⟨tb, f, none⟩ v) := Wr.setCell _ _ _ _ rfl
  refine ⟨?_, own_wr h.so hw (fun k hk e => by have : k = tb := e; have := h.tbb; omega), own_wr h.mo hw (fun k hk e => by have : k = tb := e; have := h.tbb; omega), h.sep, h.tbb, Nat.le_trans h.bz hw.size⟩
  rw [heap_set h.blk v, hv]
end
/-- It hands back a truth in memory of its own. -/
def RetTrN (t : Tr) (w : World) (e : Ending) (w' : World) : Prop := ∃ B', e = .returned (trV t B') ∧ RdT w' t B' ∧ Below w.heap.size w w' ∧ ∀ ad, B'.sa = some ad ∨ B'.ma = some ad → w.heap.size ≤ ad.block

/-- A copy of a range. -/
def Cells2 (b : Nat) (x : Rg) (W : World) : Prop := W.cell? ⟨b, 0, none⟩ = some (.int .i64 x.lo) ∧ W.cell? ⟨b, 1, none⟩ = some (.int .i64 x.hi)
theorem Cells2.wr {b : Nat} {x : Rg} {W W' : World} {C : Nat → Prop} (h : Cells2 b x W) (hw : Wr C W W') (h1 : ¬ C b) : Cells2 b x W' := ⟨hw.cell h1 h.1, hw.cell h1 h.2⟩
theorem Cells2.below {b : Nat} {x : Rg} {W W' : World} (h : Cells2 b x W) (hb : Below W.heap.size W W') : Cells2 b x W' := h.wr (Wr.of_below (S := fun _ => False) hb) (fun e => e)

set_option maxHeartbeats 8000000 in
theorem Nth_c (r : Riv) (A : RA) (n : Nat) (w : World) (hr : Rd w r A) (hnn : n ≤ 1000000) (hn : r.mud.length = r.salt.length) (hl : r.salt.length ≤ 30) (hs : ∀ x ∈ r.salt, GoodRg x) (hm : ∀ x ∈ r.mud, GoodRg x) :
    Calls Try.prog 61 #[rivV r A, .int .i64 n] w (RetTrN (nthT r n) w) := by
  have hbx := Lib.hid (box_new w r A)
  have HN := Lib.hid hn
  clear hn
  go_enter Try.func61, Try.ntmps61
  go_wp2_with fail
  obtain ⟨wq, hwq⟩ : ∃ wq, (((w.alloc (rO26 r A)).alloc (.cells #[.slice none 0 0, .slice none 0 0] 64)).alloc (.cells #[.slice none 0 0, .slice none 0 0] 64)) = wq := ⟨_, rfl⟩
  have hb1 : Below w.heap.size w wq := by rw [← hwq]; exact (((Below.refl _ w).alloc (Nat.le_refl _) _).alloc (by simp) _).alloc (by simp; omega) _
  have hbx1 : BoxR w.heap.size r A wq := by
    rw [← hwq]
    exact hbx.out.below (((Below.refl _ _).alloc (Nat.le_refl _) _).alloc (by simp) _)
  have hq2 : wq.heap[w.heap.size + 2]? = some (.cells #[.slice none 0 0, .slice none 0 0] 64 (0, 0)) := by
    rw [← hwq]
    have h2 := heap_alloc_new ((w.alloc (rO26 r A)).alloc (.cells #[.slice none 0 0, .slice none 0 0] 64)) (.cells #[.slice none 0 0, .slice none 0 0] 64)
    simpa using h2
  have hq1 : wq.heap[w.heap.size + 1]? = some (.cells #[.slice none 0 0, .slice none 0 0] 64 (0, 0)) := by
    rw [← hwq, Below.heap_alloc _ _ _ (by simp)]
    have h2 := heap_alloc_new (w.alloc (rO26 r A)) (.cells #[.slice none 0 0, .slice none 0 0] 64)
    simpa using h2
  have hzq : wq.heap.size = w.heap.size + 3 := by rw [← hwq]; simp
  have HQ1 := Lib.hid hq1
  have HZQ := Lib.hid hzq
  have HB1 := Lib.hid hb1
  have HX1 := Lib.hid hbx1
  have hI0 : NthI (w.heap.size + 2) (w.heap.size + 3) [] [] (.slice none 0 0) (.slice none 0 0) wq := ⟨hq2, World.ownsRow_nil _ _ _ _, World.ownsRow_nil _ _ _ _, fun k e => (by cases e), by omega, by omega⟩
  have HI0 := Lib.hid hI0
  rw [hwq]
  clear hwq hq1 hq2 hzq hb1 hbx1 hI0 hbx
  go_loopw [1, 6, 7, 8] (fun nv i _ _ wr => ∃ (k m : Nat) (S M : List Int) (sv mv : Value), k ≤ r.salt.length ∧ i = .int .i64 k ∧ nv = .int .i64 m ∧ m ≤ 1000000 ∧ S.length = k ∧ M.length = k ∧ NthI (w.heap.size + 2) (w.heap.size + 3) S M sv mv wr ∧ Below (w.heap.size + 2) wq wr ∧
    Hid ((nthT r n).salt = S ++ (nthF m (r.salt.drop k) (r.mud.drop k)).1) ∧ Hid ((nthT r n).mud = M ++ (nthF m (r.salt.drop k) (r.mud.drop k)).2)) (fun _ i _ _ _ => r.salt.length - (intOf i).toNat)
  case atStart => exact ⟨0, n, [], [], _, _, Nat.zero_le _, rfl, rfl, hnn, rfl, rfl, HI0.out, Below.refl _ _, rfl, rfl⟩
  case round =>
    obtain ⟨k, m, S, M, sv, mv, hk, rfl, rfl, hm6, hSl, hMl, hI, hB, HS, HM⟩ := hrel
    have HBw := Lib.hid (HB1.out.trans (hB.mono (by omega)))
    have hBX : BoxR w.heap.size r A wr := HX1.out.wr (C := fun k => w.heap.size + 2 ≤ k) ⟨hB.os, hB.tape, hB.output, hB.size, fun k _ hn => hB.block k (by omega)⟩ (by omega)
    have HBX := Lib.hid hBX
    have HII := Lib.hid hI
    have HBB := Lib.hid hB
    have HSl := Lib.hid hSl
    have HMl := Lib.hid hMl
    have hwz : w.heap.size + 3 ≤ wr.heap.size := hI.bz
    have c1 := hBX.k1
    have c2 := hBX.k2
    obtain ⟨aS, cS, rfl, -, -⟩ := own_Sl hI.so
    obtain ⟨aM, cM, rfl, -, -⟩ := own_Sl hI.mo
    have hSk : S.length ≤ 30 := by omega
    have hMk : M.length ≤ 30 := by omega
    clear hI hB hBX hSl hMl
    by_cases hlt : k < r.salt.length
    · obtain ⟨x, hx⟩ : ∃ x, r.salt[k]? = some x := ⟨_, List.getElem?_eq_getElem hlt⟩
      obtain ⟨y, hy⟩ : ∃ y, r.mud[k]? = some y := ⟨_, List.getElem?_eq_getElem (by rw [HN.out]; exact hlt)⟩
      have hky : k < r.mud.length := by rw [HN.out]; exact hlt
      have hgx := hs x (List.mem_of_getElem? hx)
      have hgy := hm y (List.mem_of_getElem? hy)
      obtain ⟨b, o, ea, d1, d2⟩ := (hr.s.below HBw.out).rg_at hx
      obtain ⟨b', o', ea', d1', d2'⟩ := (hr.m.below HBw.out).rg_at hy
      rw [ea] at c1
      rw [ea'] at c2
      have HST := Lib.hid (nthF_drop m r.salt r.mud k x y hx hy)
      have HS2 : TwR w.heap.size b (o + k * 2) b' (o' + k * 2) (.slice (some ⟨b, o, none⟩) r.salt.length A.sc) (.slice (some ⟨b', o', none⟩) r.mud.length A.mc) x y wr := ⟨c1, c2, d1, d2, d1', d2'⟩
      have ew : IntKind.i64.wrap ((k : Int) + 1) = (k : Int) + 1 := IntWalk.i64_in _ (by omega)
      clear ea ea' d1 d2 d1' d2' hx hy
      go_upto_region 5 with fail
      go_cut [7, 8] (fun pa pb wc => ∃ ba bb, pa = .pointer (some ⟨ba, 0, none⟩) ∧ pb = .pointer (some ⟨bb, 0, none⟩) ∧ wc.heap[ba]? = some (.cells #[.int .i64 x.lo, .int .i64 x.hi] 51 (0, 0)) ∧ wc.heap[bb]? = some (.cells #[.int .i64 y.lo, .int .i64 y.hi] 51 (0, 0)) ∧ Below wr.heap.size wr wc ∧ wr.heap.size ≤ ba ∧ wr.heap.size ≤ bb)
      case first =>
        refine region_o (S := TwR w.heap.size b (o + k * 2) b' (o' + k * 2) (.slice (some ⟨b, o, none⟩) r.salt.length A.sc) (.slice (some ⟨b', o', none⟩) r.mud.length A.mc) x y) (.take 0 (.take 1 (.take 2 (.take 3 (.take 4 (.take 5 (.take 6 (.take 7 (.take 8 (.take 9 (.two 10 11 (.one 11 (.one 12 (.one 13 .nil))) (.one 10 (.one 12 (.one 13 .nil)))))))))))))) (by kernel_rfl) (by kernel_rfl) (fun _ _ d _ _ h => by cases d <;> exact h) (HS2.below (Below.refl _ _).drew) ?_
        intro W0 hW0 hS0
        have hBW : Below wr.heap.size wr W0 := by subst hW0; exact (Below.refl _ _).drew
        clear hW0
        have hBc := hBW
        repeat (first
          | (refine ord_skip rfl ?_ ?_; rfl; simp only [pz])
          | (refine ord_take (v := ?_) rfl ?_ (fun W hW => ?_) ?_; rotate_left; rfl; (obtain ⟨hz0, hz1, hz2, hz3, hz4, hz5⟩ := hW; go_simp; (first | done | with_reducible rfl)); simp only [pz]))
        refine ord_two ?_ ?_
        · skip
          refine ord_op rfl ?_ (fun K hK => ?_)
          rfl
          go_simp
          obtain ⟨ba, hba⟩ : ∃ n, n = (W0).heap.size := ⟨_, rfl⟩
          obtain ⟨W1, hW1⟩ : ∃ Q, Q = (W0).alloc (.cells #[.int .i64 0, .int .i64 0] 51) := ⟨_, rfl⟩
          have hbb1 : Below (W0).heap.size (W0) W1 := by rw [hW1]; exact (Below.refl _ _).alloc (Nat.le_refl _) _
          have haA : W1.heap[ba]? = some (.cells #[.int .i64 0, .int .i64 0] 51 (0, 0)) := by rw [hW1, hba]; exact heap_alloc_new _ _
          have hza : wr.heap.size ≤ ba := by rw [hba]; exact hBc.size
          try (have hne : bb ≠ ba := by have := (Array.getElem?_eq_some_iff.1 hbA).1; omega)
          try (replace hbA := (hbb1.block _ (Array.getElem?_eq_some_iff.1 hbA).1).trans hbA)
          replace hBc := hBc.trans (hbb1.mono hBc.size)
          have hS1 := TwR.below hS0 hbb1
          rw [← hW1, ← hba]
          clear hW1 hba hbb1
          refine hK _ _ hS1 ?_
          clear hK K
          try simp only [pz]
          refine ord_op rfl ?_ (fun K hK => ?_)
          rfl
          go_simp
          obtain ⟨bb, hbb⟩ : ∃ n, n = (W1).heap.size := ⟨_, rfl⟩
          obtain ⟨W2, hW2⟩ : ∃ Q, Q = (W1).alloc (.cells #[.int .i64 0, .int .i64 0] 51) := ⟨_, rfl⟩
          have hbb2 : Below (W1).heap.size (W1) W2 := by rw [hW2]; exact (Below.refl _ _).alloc (Nat.le_refl _) _
          have hbA : W2.heap[bb]? = some (.cells #[.int .i64 0, .int .i64 0] 51 (0, 0)) := by rw [hW2, hbb]; exact heap_alloc_new _ _
          have hzb : wr.heap.size ≤ bb := by rw [hbb]; exact hBc.size
          try (have hne : ba ≠ bb := by have := (Array.getElem?_eq_some_iff.1 haA).1; omega)
          try (replace haA := (hbb2.block _ (Array.getElem?_eq_some_iff.1 haA).1).trans haA)
          replace hBc := hBc.trans (hbb2.mono hBc.size)
          have hS2 := TwR.below hS1 hbb2
          rw [← hW2, ← hbb]
          clear hW2 hbb hbb2
          refine hK _ _ hS2 ?_
          clear hK K
          try simp only [pz]
          refine ord_op rfl ?_ (fun K hK => ?_)
          rfl
          skip
          have g0 := cell_blk (k := 0) haA
          have g1 := cell_blk (k := 1) haA
          have gf := fun j => frozen_blk (k := j) haA
          go_simp
          have hst := store2 haA (.int .i64 x.lo) (.int .i64 x.hi)
          obtain ⟨W3, hW3⟩ : ∃ Q, Q = ((W2).setCell ⟨ba, 0, none⟩ (.int .i64 x.lo)).setCell ⟨ba, 1, none⟩ (.int .i64 x.hi) := ⟨_, rfl⟩
          rw [← hW3] at hst ⊢
          obtain ⟨haB, hwr3⟩ := hst
          try (replace hbA := hwr3.blk (k := bb) (fun e => by have : bb = ba := e; omega) hbA)
          try (replace hbB := hwr3.blk (k := bb) (fun e => by have : bb = ba := e; omega) hbB)
          replace hBc : Below wr.heap.size wr W3 := hBc.trans (hwr3.below hBc.size (fun q e => by have : q = ba := e; omega))
          have hS3 : TwR w.heap.size b (o + k * 2) b' (o' + k * 2) (.slice (some ⟨b, o, none⟩) r.salt.length A.sc) (.slice (some ⟨b', o', none⟩) r.mud.length A.mc) x y W3 := HS2.below hBc
          clear hW3 g0 g1 gf hwr3 haA
          refine hK _ _ hS3 ?_
          clear hK K
          try simp only [pz]
          refine ord_op rfl ?_ (fun K hK => ?_)
          rfl
          skip
          have g0 := cell_blk (k := 0) hbA
          have g1 := cell_blk (k := 1) hbA
          have gf := fun j => frozen_blk (k := j) hbA
          go_simp
          have hst := store2 hbA (.int .i64 y.lo) (.int .i64 y.hi)
          obtain ⟨W4, hW4⟩ : ∃ Q, Q = ((W3).setCell ⟨bb, 0, none⟩ (.int .i64 y.lo)).setCell ⟨bb, 1, none⟩ (.int .i64 y.hi) := ⟨_, rfl⟩
          rw [← hW4] at hst ⊢
          obtain ⟨hbB, hwr4⟩ := hst
          try (replace haA := hwr4.blk (k := ba) (fun e => by have : ba = bb := e; omega) haA)
          try (replace haB := hwr4.blk (k := ba) (fun e => by have : ba = bb := e; omega) haB)
          replace hBc : Below wr.heap.size wr W4 := hBc.trans (hwr4.below hBc.size (fun q e => by have : q = bb := e; omega))
          have hS4 : TwR w.heap.size b (o + k * 2) b' (o' + k * 2) (.slice (some ⟨b, o, none⟩) r.salt.length A.sc) (.slice (some ⟨b', o', none⟩) r.mud.length A.mc) x y W4 := HS2.below hBc
          clear hW4 g0 g1 gf hwr4 hbA
          refine hK _ _ hS4 ?_
          clear hK K
          try simp only [pz]
          refine ord_nil ?_
          go_wp2_with fail
          go_meet
          case rel => exact ⟨ba, bb, rfl, rfl, haB, hbB, hBc, hza, hzb⟩
        · skip
          refine ord_op rfl ?_ (fun K hK => ?_)
          rfl
          go_simp
          obtain ⟨bb, hbb⟩ : ∃ n, n = (W0).heap.size := ⟨_, rfl⟩
          obtain ⟨W5, hW5⟩ : ∃ Q, Q = (W0).alloc (.cells #[.int .i64 0, .int .i64 0] 51) := ⟨_, rfl⟩
          have hbb5 : Below (W0).heap.size (W0) W5 := by rw [hW5]; exact (Below.refl _ _).alloc (Nat.le_refl _) _
          have hbA : W5.heap[bb]? = some (.cells #[.int .i64 0, .int .i64 0] 51 (0, 0)) := by rw [hW5, hbb]; exact heap_alloc_new _ _
          have hzb : wr.heap.size ≤ bb := by rw [hbb]; exact hBc.size
          try (have hne : ba ≠ bb := by have := (Array.getElem?_eq_some_iff.1 haA).1; omega)
          try (replace haA := (hbb5.block _ (Array.getElem?_eq_some_iff.1 haA).1).trans haA)
          replace hBc := hBc.trans (hbb5.mono hBc.size)
          have hS5 := TwR.below hS0 hbb5
          rw [← hW5, ← hbb]
          clear hW5 hbb hbb5
          refine hK _ _ hS5 ?_
          clear hK K
          try simp only [pz]
          refine ord_op rfl ?_ (fun K hK => ?_)
          rfl
          go_simp
          obtain ⟨ba, hba⟩ : ∃ n, n = (W5).heap.size := ⟨_, rfl⟩
          obtain ⟨W6, hW6⟩ : ∃ Q, Q = (W5).alloc (.cells #[.int .i64 0, .int .i64 0] 51) := ⟨_, rfl⟩
          have hbb6 : Below (W5).heap.size (W5) W6 := by rw [hW6]; exact (Below.refl _ _).alloc (Nat.le_refl _) _
          have haA : W6.heap[ba]? = some (.cells #[.int .i64 0, .int .i64 0] 51 (0, 0)) := by rw [hW6, hba]; exact heap_alloc_new _ _
          have hza : wr.heap.size ≤ ba := by rw [hba]; exact hBc.size
          try (have hne : bb ≠ ba := by have := (Array.getElem?_eq_some_iff.1 hbA).1; omega)
          try (replace hbA := (hbb6.block _ (Array.getElem?_eq_some_iff.1 hbA).1).trans hbA)
          replace hBc := hBc.trans (hbb6.mono hBc.size)
          have hS6 := TwR.below hS5 hbb6
          rw [← hW6, ← hba]
          clear hW6 hba hbb6
          refine hK _ _ hS6 ?_
          clear hK K
          try simp only [pz]
          refine ord_op rfl ?_ (fun K hK => ?_)
          rfl
          skip
          have g0 := cell_blk (k := 0) haA
          have g1 := cell_blk (k := 1) haA
          have gf := fun j => frozen_blk (k := j) haA
          go_simp
          have hst := store2 haA (.int .i64 x.lo) (.int .i64 x.hi)
          obtain ⟨W7, hW7⟩ : ∃ Q, Q = ((W6).setCell ⟨ba, 0, none⟩ (.int .i64 x.lo)).setCell ⟨ba, 1, none⟩ (.int .i64 x.hi) := ⟨_, rfl⟩
          rw [← hW7] at hst ⊢
          obtain ⟨haB, hwr7⟩ := hst
          try (replace hbA := hwr7.blk (k := bb) (fun e => by have : bb = ba := e; omega) hbA)
          try (replace hbB := hwr7.blk (k := bb) (fun e => by have : bb = ba := e; omega) hbB)
          replace hBc : Below wr.heap.size wr W7 := hBc.trans (hwr7.below hBc.size (fun q e => by have : q = ba := e; omega))
          have hS7 : TwR w.heap.size b (o + k * 2) b' (o' + k * 2) (.slice (some ⟨b, o, none⟩) r.salt.length A.sc) (.slice (some ⟨b', o', none⟩) r.mud.length A.mc) x y W7 := HS2.below hBc
          clear hW7 g0 g1 gf hwr7 haA
          refine hK _ _ hS7 ?_
          clear hK K
          try simp only [pz]
          refine ord_op rfl ?_ (fun K hK => ?_)
          rfl
          skip
          have g0 := cell_blk (k := 0) hbA
          have g1 := cell_blk (k := 1) hbA
          have gf := fun j => frozen_blk (k := j) hbA
          go_simp
          have hst := store2 hbA (.int .i64 y.lo) (.int .i64 y.hi)
          obtain ⟨W8, hW8⟩ : ∃ Q, Q = ((W7).setCell ⟨bb, 0, none⟩ (.int .i64 y.lo)).setCell ⟨bb, 1, none⟩ (.int .i64 y.hi) := ⟨_, rfl⟩
          rw [← hW8] at hst ⊢
          obtain ⟨hbB, hwr8⟩ := hst
          try (replace haA := hwr8.blk (k := ba) (fun e => by have : ba = bb := e; omega) haA)
          try (replace haB := hwr8.blk (k := ba) (fun e => by have : ba = bb := e; omega) haB)
          replace hBc : Below wr.heap.size wr W8 := hBc.trans (hwr8.below hBc.size (fun q e => by have : q = bb := e; omega))
          have hS8 : TwR w.heap.size b (o + k * 2) b' (o' + k * 2) (.slice (some ⟨b, o, none⟩) r.salt.length A.sc) (.slice (some ⟨b', o', none⟩) r.mud.length A.mc) x y W8 := HS2.below hBc
          clear hW8 g0 g1 gf hwr8 hbA
          refine hK _ _ hS8 ?_
          clear hK K
          try simp only [pz]
          refine ord_nil ?_
          go_wp2_with fail
          go_meet
          case rel => exact ⟨ba, bb, rfl, rfl, haB, hbB, hBc, hza, hzb⟩
      case rest =>
        obtain ⟨ba, bb, rfl, rfl, hba, hbb, hbc, hza, hzb⟩ := hcut
        obtain ⟨wa, hwa⟩ : ∃ Q, Q = wc := ⟨_, rfl⟩
        subst hwa
        have hIa := HII.out.below hbc
        have HIa := Lib.hid hIa
        have HBa := Lib.hid (hbc.mono (show w.heap.size + 2 ≤ wr.heap.size from by omega))
        obtain ⟨g1, g2, g3⟩ := hgx
        obtain ⟨g1', g2', g3'⟩ := hgy
        obtain ⟨sx, hsx⟩ : ∃ sx : Nat, x.size = sx := ⟨x.size.toNat, by unfold Rg.size; omega⟩
        obtain ⟨sy, hsy⟩ : ∃ sy : Nat, y.size = sy := ⟨y.size.toNat, by unfold Rg.size; omega⟩
        have hsx1 : 1 ≤ sx ∧ sx ≤ 10 := by unfold Rg.size at hsx; omega
        have hsy1 : 1 ≤ sy ∧ sy ≤ 10 := by unfold Rg.size at hsy; omega
        have HSX := Lib.hid hsx
        have HSY := Lib.hid hsy
        have hx0 : ¬ sx = 0 := by omega
        have hy0 : ¬ sy = 0 := by omega
        have hmx : m % sx < sx := Nat.mod_lt _ (by omega)
        have hdx : m / sx ≤ m := Nat.div_le_self _ _
        have hmy : m / sx % sy < sy := Nat.mod_lt _ (by omega)
        have hdy : m / sx / sy ≤ m / sx := Nat.div_le_self _ _
        have tx : (m : Int).tmod (sx : Int) = ((m % sx : Nat) : Int) := rfl
        have ty : (m : Int).tdiv (sx : Int) = ((m / sx : Nat) : Int) := rfl
        obtain ⟨m1, hm1⟩ : ∃ m1, m1 = m / sx := ⟨_, rfl⟩
        rw [← hm1] at hdx hmy hdy ty
        have tx' : (m1 : Int).tmod (sy : Int) = ((m1 % sy : Nat) : Int) := rfl
        have ty' : (m1 : Int).tdiv (sy : Int) = ((m1 / sy : Nat) : Int) := rfl
        have TX := Lib.hid tx
        have TY := Lib.hid ty
        have TX' := Lib.hid tx'
        have TY' := Lib.hid ty'
        have HM1 := Lib.hid hm1
        have wx : IntKind.i64.wrap (x.lo + (m : Int).tmod (sx : Int)) = x.lo + (m : Int).tmod (sx : Int) := IntWalk.i64_in _ (by omega)
        have wx' : IntKind.i64.wrap (y.lo + (m1 : Int).tmod (sy : Int)) = y.lo + (m1 : Int).tmod (sy : Int) := IntWalk.i64_in _ (by omega)
        have vx : IntKind.i64.wrap ((m : Int) / (sx : Int)) = (m1 : Int) := by
          rw [show (m : Int) / (sx : Int) = ((m / sx : Nat) : Int) from rfl, ← hm1]; exact IntWalk.i64_in _ (by omega)
        obtain ⟨m2, hm2⟩ : ∃ m2, m2 = m1 / sy := ⟨_, rfl⟩
        have vx' : IntKind.i64.wrap ((m1 : Int) / (sy : Int)) = (m2 : Int) := by
          rw [show (m1 : Int) / (sy : Int) = ((m1 / sy : Nat) : Int) from rfl, ← hm2]; exact IntWalk.i64_in _ (by rw [← hm2] at hdy; omega)
        have HM2 := Lib.hid hm2
        rw [← hm2] at hdy
        clear hm2
        clear tx ty tx' ty' hm1
        have NE := Lib.hid (show ba ≠ w.heap.size + 2 ∧ bb ≠ w.heap.size + 2 from ⟨by omega, by omega⟩)
        have HA := Lib.hid hba
        have HBk := Lib.hid hbb
        have hs1 : Cells2 ba x wa := ⟨by rw [cell_blk hba]; rfl, by rw [cell_blk hba]; rfl⟩
        have hs2 : Cells2 bb y wa := ⟨by rw [cell_blk hbb]; rfl, by rw [cell_blk hbb]; rfl⟩
        have hwcz : w.heap.size + 3 ≤ wa.heap.size := hIa.bz
        clear hIa hbc hba hbb hsx hsy HS2
        go_upto_region 6 with fail
        go_cut [1] (fun nv wc2 => nv = .int .i64 (m1 : Int) ∧ Below (w.heap.size + 2) wa wc2 ∧ Cells2 bb y wc2 ∧ ∃ v7, NthI (w.heap.size + 2) (w.heap.size + 3) (S ++ [x.lo + ((m % sx : Nat) : Int)]) M v7 (.slice aM M.length cM) wc2)
        case first =>
          refine region_o (S := Cells2 ba x) (.take 0 (.take 2 (.take 3 (.take 4 (.take 5 (.take 11 (.take 12 (.two 1 6 (.one 6 (.take 7 (.take 8 (.one 9 (.one 10 (.take 15 (.one 13 (.take 14 (.one 16 (.take 17 .nil)))))))))) (.take 7 (.take 8 (.two 1 9 (.one 9 (.one 10 (.take 15 (.one 13 (.take 14 (.one 16 (.take 17 .nil))))))) (.one 1 (.one 10 (.take 15 (.one 13 (.take 14 (.one 16 (.take 17 .nil)))))))))))))))))) (by kernel_rfl) (by kernel_rfl) (fun _ _ d _ _ h => by cases d <;> exact h) (hs1.below (Below.refl _ _).drew) ?_
          intro W0 hW0 hS0
          have hBW : Below wa.heap.size wa W0 := by subst hW0; exact (Below.refl _ _).drew
          clear hW0
          have hBc := hBW
          have hOth := hs2
          repeat (first
            | (refine ord_skip rfl ?_ ?_; rfl; simp only [pz])
            | (refine ord_take (v := ?_) rfl ?_ (fun W hW => ?_) ?_; rotate_left; rfl; (obtain ⟨hz0, hz1⟩ := hW; go_simp; (first | done | with_reducible rfl)); simp only [pz]))
          refine ord_two ?_ ?_
          · skip
            refine ord_op rfl ?_ (fun K hK => ?_)
            rfl
            skip
            have oc : (W0).cell? ⟨w.heap.size + 1 + 1, 0, none⟩ = some (.slice aS S.length cS) := (hBc.cell (p := ⟨w.heap.size + 1 + 1, 0, none⟩) (Array.getElem?_eq_some_iff.1 HIa.out.blk).1).trans (by rw [cell_blk HIa.out.blk]; rfl)
            go_simp
            obtain ⟨W1, hWj⟩ : ∃ Q, Q = W0 := ⟨_, rfl⟩
            subst hWj
            have hS1 := hS0
            clear oc
            refine hK _ _ hS1 ?_
            clear hK K
            try simp only [pz]
            refine ord_op rfl ?_ (fun K hK => ?_)
            rfl
            go_simp
            refine (Size_c x _ (by omega) (by omega) (by omega)).mono ?_
            rintro e W2 ⟨rfl, hb2⟩
            rw [HSX.out]
            try (replace hBc := hBc.trans (hb2.mono hBc.size))
            try (replace hI7 := hI7.below hb2)
            have hS2 := Cells2.below hS1 hb2
            refine hK _ _ hS2 ?_
            clear hK K
            try simp only [pz]
            repeat (first
              | (refine ord_skip rfl ?_ ?_; rfl; simp only [pz])
              | (refine ord_take (v := ?_) rfl ?_ (fun W hW => ?_) ?_; rotate_left; rfl; (obtain ⟨hz0, hz1⟩ := hW; go_simp; (first | done | with_reducible rfl)); simp only [pz]))
            refine ord_op rfl ?_ (fun K hK => ?_)
            rfl
            go_simp
            obtain ⟨bx, hbx⟩ : ∃ n, n = (W2).heap.size := ⟨_, rfl⟩
            obtain ⟨W3, hW3⟩ : ∃ Q, Q = (W2).alloc (.cells #[.int .i64 (x.lo + (m : Int).tmod (sx : Int))] 3) := ⟨_, rfl⟩
            have hbb : Below (W2).heap.size (W2) W3 := by rw [hW3]; exact (Below.refl _ _).alloc (Nat.le_refl _) _
            have hsl : Sl W3 (some ⟨bx, 0, none⟩) [.int .i64 (x.lo + (m : Int).tmod (sx : Int))] := by rw [hW3, hbx]; exact Sl_new _ _ _
            replace hBc := hBc.trans (hbb.mono hBc.size)
            have hS3 := Cells2.below hS2 hbb
            rw [← hW3, ← hbx]
            clear hW3 hbx hbb
            refine hK _ _ hS3 ?_
            clear hK K
            try simp only [pz]
            refine ord_op rfl ?_ (fun K hK => ?_)
            rfl
            skip
            have hIc := HIa.out.below hBc
            refine wp_app elInt _ _ rfl rfl rfl hIc.so hsl rfl (by intro u hu; simp at hu; subst hu; rfl) (by omega) (by omega) hIc.bz ?_
            intro v7 W4 hown7 hg7 hor7
            have hS4 := Cells2.wr hS3 (wr_grown hg7) (fun e => by have h3 := (HII.out.so.lt _ e).2; omega)
            replace hOth : Cells2 bb y W4 := Cells2.wr (hOth.below hBc) (wr_grown hg7) (fun e => by have h3 := (HII.out.so.lt _ e).2; omega)
            have hBg := (hBc.mono (show w.heap.size + 2 ≤ wa.heap.size from by omega)).grown hg7 (by have := hBc.size; omega) (fun k e => by have h1 := (hIc.so.lt _ e).1; omega)
            rw [TX.out] at hown7
            have hJ := hIc.appS hown7 hg7 hor7
            obtain ⟨a7, c7, rfl, -, -⟩ := own_Sl hown7
            clear hIc hown7 hg7 hor7 hsl hBc
            refine hK _ _ hS4 ?_
            clear hK K
            try simp only [pz]
            repeat (first
              | (refine ord_skip rfl ?_ ?_; rfl; simp only [pz])
              | (refine ord_take (v := ?_) rfl ?_ (fun W hW => ?_) ?_; rotate_left; rfl; (obtain ⟨hz0, hz1⟩ := hW; go_simp; (first | done | with_reducible rfl)); simp only [pz]))
            refine ord_op rfl ?_ (fun K hK => ?_)
            rfl
            go_simp
            refine (Size_c x _ (by omega) (by omega) (by omega)).mono ?_
            rintro e W5 ⟨rfl, hb5⟩
            rw [HSX.out]
            replace hJ := hJ.below hb5
            replace hOth := hOth.below hb5
            replace hBg := hBg.trans (hb5.mono (by have := hBg.size; omega))
            have hS5 := Cells2.below hS4 hb5
            refine hK _ _ hS5 ?_
            clear hK K
            try simp only [pz]
            repeat (first
              | (refine ord_skip rfl ?_ ?_; rfl; simp only [pz])
              | (refine ord_take (v := ?_) rfl ?_ (fun W hW => ?_) ?_; rotate_left; rfl; (obtain ⟨hz0, hz1⟩ := hW; go_simp; (first | done | with_reducible rfl)); simp only [pz]))
            refine ord_op rfl ?_ (fun K hK => ?_)
            rfl
            skip
            have oc := cell_blk (k := 0) hJ.blk
            have of := frozen_blk (k := 0) hJ.blk
            go_simp
            have hJ2 := hJ.put 0 (.slice a7 (S.length + 1) c7) rfl
            have hwst := Wr.setCell (fun q => q = w.heap.size + 2) W5 ⟨w.heap.size + 2, 0, none⟩ (.slice a7 (S.length + 1) c7) rfl
            replace hOth := hOth.wr hwst (fun e => by have h1 := NE.out; have : bb = w.heap.size + 2 := e; omega)
            have hS6 := Cells2.wr hS5 hwst (fun e => by have h1 := NE.out; have : ba = w.heap.size + 2 := e; omega)
            replace hBg := hBg.trans (hwst.below (n := w.heap.size + 2) (by have := hBg.size; omega) (fun q e => by have : q = w.heap.size + 2 := e; omega))
            obtain ⟨W6, hW6⟩ : ∃ Q, Q = (W5).setCell ⟨w.heap.size + 2, 0, none⟩ (.slice a7 (S.length + 1) c7) := ⟨_, rfl⟩
            rw [← hW6] at hJ2 hOth hS6 hBg ⊢
            clear hW6 oc of hwst hJ
            refine hK _ _ hS6 ?_
            clear hK K
            try simp only [pz]
            repeat (first
              | (refine ord_skip rfl ?_ ?_; rfl; simp only [pz])
              | (refine ord_take (v := ?_) rfl ?_ (fun W hW => ?_) ?_; rotate_left; rfl; (obtain ⟨hz0, hz1⟩ := hW; go_simp; (first | done | with_reducible rfl)); simp only [pz]))
            refine ord_nil ?_
            go_wp2_with fail
            go_meet
            case rel => exact ⟨rfl, hBg, hOth, _, hJ2⟩
          · skip
            refine ord_op rfl ?_ (fun K hK => ?_)
            rfl
            go_simp
            refine (Size_c x _ (by omega) (by omega) (by omega)).mono ?_
            rintro e W7 ⟨rfl, hb7⟩
            rw [HSX.out]
            try (replace hBc := hBc.trans (hb7.mono hBc.size))
            try (replace hI7 := hI7.below hb7)
            have hS7 := Cells2.below hS0 hb7
            refine hK _ _ hS7 ?_
            clear hK K
            try simp only [pz]
            repeat (first
              | (refine ord_skip rfl ?_ ?_; rfl; simp only [pz])
              | (refine ord_take (v := ?_) rfl ?_ (fun W hW => ?_) ?_; rotate_left; rfl; (obtain ⟨hz0, hz1⟩ := hW; go_simp; (first | done | with_reducible rfl)); simp only [pz]))
            refine ord_two ?_ ?_
            · skip
              refine ord_op rfl ?_ (fun K hK => ?_)
              rfl
              skip
              have oc : (W7).cell? ⟨w.heap.size + 1 + 1, 0, none⟩ = some (.slice aS S.length cS) := (hBc.cell (p := ⟨w.heap.size + 1 + 1, 0, none⟩) (Array.getElem?_eq_some_iff.1 HIa.out.blk).1).trans (by rw [cell_blk HIa.out.blk]; rfl)
              go_simp
              obtain ⟨W8, hWj⟩ : ∃ Q, Q = W7 := ⟨_, rfl⟩
              subst hWj
              have hS8 := hS7
              clear oc
              refine hK _ _ hS8 ?_
              clear hK K
              try simp only [pz]
              refine ord_op rfl ?_ (fun K hK => ?_)
              rfl
              go_simp
              obtain ⟨bx, hbx⟩ : ∃ n, n = (W8).heap.size := ⟨_, rfl⟩
              obtain ⟨W9, hW9⟩ : ∃ Q, Q = (W8).alloc (.cells #[.int .i64 (x.lo + (m : Int).tmod (sx : Int))] 3) := ⟨_, rfl⟩
              have hbb : Below (W8).heap.size (W8) W9 := by rw [hW9]; exact (Below.refl _ _).alloc (Nat.le_refl _) _
              have hsl : Sl W9 (some ⟨bx, 0, none⟩) [.int .i64 (x.lo + (m : Int).tmod (sx : Int))] := by rw [hW9, hbx]; exact Sl_new _ _ _
              replace hBc := hBc.trans (hbb.mono hBc.size)
              have hS9 := Cells2.below hS8 hbb
              rw [← hW9, ← hbx]
              clear hW9 hbx hbb
              refine hK _ _ hS9 ?_
              clear hK K
              try simp only [pz]
              refine ord_op rfl ?_ (fun K hK => ?_)
              rfl
              skip
              have hIc := HIa.out.below hBc
              refine wp_app elInt _ _ rfl rfl rfl hIc.so hsl rfl (by intro u hu; simp at hu; subst hu; rfl) (by omega) (by omega) hIc.bz ?_
              intro v7 W10 hown7 hg7 hor7
              have hS10 := Cells2.wr hS9 (wr_grown hg7) (fun e => by have h3 := (HII.out.so.lt _ e).2; omega)
              replace hOth : Cells2 bb y W10 := Cells2.wr (hOth.below hBc) (wr_grown hg7) (fun e => by have h3 := (HII.out.so.lt _ e).2; omega)
              have hBg := (hBc.mono (show w.heap.size + 2 ≤ wa.heap.size from by omega)).grown hg7 (by have := hBc.size; omega) (fun k e => by have h1 := (hIc.so.lt _ e).1; omega)
              rw [TX.out] at hown7
              have hJ := hIc.appS hown7 hg7 hor7
              obtain ⟨a7, c7, rfl, -, -⟩ := own_Sl hown7
              clear hIc hown7 hg7 hor7 hsl hBc
              refine hK _ _ hS10 ?_
              clear hK K
              try simp only [pz]
              repeat (first
                | (refine ord_skip rfl ?_ ?_; rfl; simp only [pz])
                | (refine ord_take (v := ?_) rfl ?_ (fun W hW => ?_) ?_; rotate_left; rfl; (obtain ⟨hz0, hz1⟩ := hW; go_simp; (first | done | with_reducible rfl)); simp only [pz]))
              refine ord_op rfl ?_ (fun K hK => ?_)
              rfl
              go_simp
              refine (Size_c x _ (by omega) (by omega) (by omega)).mono ?_
              rintro e W11 ⟨rfl, hb11⟩
              rw [HSX.out]
              replace hJ := hJ.below hb11
              replace hOth := hOth.below hb11
              replace hBg := hBg.trans (hb11.mono (by have := hBg.size; omega))
              have hS11 := Cells2.below hS10 hb11
              refine hK _ _ hS11 ?_
              clear hK K
              try simp only [pz]
              repeat (first
                | (refine ord_skip rfl ?_ ?_; rfl; simp only [pz])
                | (refine ord_take (v := ?_) rfl ?_ (fun W hW => ?_) ?_; rotate_left; rfl; (obtain ⟨hz0, hz1⟩ := hW; go_simp; (first | done | with_reducible rfl)); simp only [pz]))
              refine ord_op rfl ?_ (fun K hK => ?_)
              rfl
              skip
              have oc := cell_blk (k := 0) hJ.blk
              have of := frozen_blk (k := 0) hJ.blk
              go_simp
              have hJ2 := hJ.put 0 (.slice a7 (S.length + 1) c7) rfl
              have hwst := Wr.setCell (fun q => q = w.heap.size + 2) W11 ⟨w.heap.size + 2, 0, none⟩ (.slice a7 (S.length + 1) c7) rfl
              replace hOth := hOth.wr hwst (fun e => by have h1 := NE.out; have : bb = w.heap.size + 2 := e; omega)
              have hS12 := Cells2.wr hS11 hwst (fun e => by have h1 := NE.out; have : ba = w.heap.size + 2 := e; omega)
              replace hBg := hBg.trans (hwst.below (n := w.heap.size + 2) (by have := hBg.size; omega) (fun q e => by have : q = w.heap.size + 2 := e; omega))
              obtain ⟨W12, hW12⟩ : ∃ Q, Q = (W11).setCell ⟨w.heap.size + 2, 0, none⟩ (.slice a7 (S.length + 1) c7) := ⟨_, rfl⟩
              rw [← hW12] at hJ2 hOth hS12 hBg ⊢
              clear hW12 oc of hwst hJ
              refine hK _ _ hS12 ?_
              clear hK K
              try simp only [pz]
              repeat (first
                | (refine ord_skip rfl ?_ ?_; rfl; simp only [pz])
                | (refine ord_take (v := ?_) rfl ?_ (fun W hW => ?_) ?_; rotate_left; rfl; (obtain ⟨hz0, hz1⟩ := hW; go_simp; (first | done | with_reducible rfl)); simp only [pz]))
              refine ord_nil ?_
              go_wp2_with fail
              go_meet
              case rel => exact ⟨rfl, hBg, hOth, _, hJ2⟩
            · skip
              refine ord_op rfl ?_ (fun K hK => ?_)
              rfl
              go_simp
              obtain ⟨bx, hbx⟩ : ∃ n, n = (W7).heap.size := ⟨_, rfl⟩
              obtain ⟨W13, hW13⟩ : ∃ Q, Q = (W7).alloc (.cells #[.int .i64 (x.lo + (m : Int).tmod (sx : Int))] 3) := ⟨_, rfl⟩
              have hbb : Below (W7).heap.size (W7) W13 := by rw [hW13]; exact (Below.refl _ _).alloc (Nat.le_refl _) _
              have hsl : Sl W13 (some ⟨bx, 0, none⟩) [.int .i64 (x.lo + (m : Int).tmod (sx : Int))] := by rw [hW13, hbx]; exact Sl_new _ _ _
              replace hBc := hBc.trans (hbb.mono hBc.size)
              have hS13 := Cells2.below hS7 hbb
              rw [← hW13, ← hbx]
              clear hW13 hbx hbb
              refine hK _ _ hS13 ?_
              clear hK K
              try simp only [pz]
              refine ord_op rfl ?_ (fun K hK => ?_)
              rfl
              skip
              have oc : (W13).cell? ⟨w.heap.size + 1 + 1, 0, none⟩ = some (.slice aS S.length cS) := (hBc.cell (p := ⟨w.heap.size + 1 + 1, 0, none⟩) (Array.getElem?_eq_some_iff.1 HIa.out.blk).1).trans (by rw [cell_blk HIa.out.blk]; rfl)
              go_simp
              obtain ⟨W14, hWj⟩ : ∃ Q, Q = W13 := ⟨_, rfl⟩
              subst hWj
              have hS14 := hS13
              clear oc
              refine hK _ _ hS14 ?_
              clear hK K
              try simp only [pz]
              refine ord_op rfl ?_ (fun K hK => ?_)
              rfl
              skip
              have hIc := HIa.out.below hBc
              refine wp_app elInt _ _ rfl rfl rfl hIc.so hsl rfl (by intro u hu; simp at hu; subst hu; rfl) (by omega) (by omega) hIc.bz ?_
              intro v7 W15 hown7 hg7 hor7
              have hS15 := Cells2.wr hS14 (wr_grown hg7) (fun e => by have h3 := (HII.out.so.lt _ e).2; omega)
              replace hOth : Cells2 bb y W15 := Cells2.wr (hOth.below hBc) (wr_grown hg7) (fun e => by have h3 := (HII.out.so.lt _ e).2; omega)
              have hBg := (hBc.mono (show w.heap.size + 2 ≤ wa.heap.size from by omega)).grown hg7 (by have := hBc.size; omega) (fun k e => by have h1 := (hIc.so.lt _ e).1; omega)
              rw [TX.out] at hown7
              have hJ := hIc.appS hown7 hg7 hor7
              obtain ⟨a7, c7, rfl, -, -⟩ := own_Sl hown7
              clear hIc hown7 hg7 hor7 hsl hBc
              refine hK _ _ hS15 ?_
              clear hK K
              try simp only [pz]
              repeat (first
                | (refine ord_skip rfl ?_ ?_; rfl; simp only [pz])
                | (refine ord_take (v := ?_) rfl ?_ (fun W hW => ?_) ?_; rotate_left; rfl; (obtain ⟨hz0, hz1⟩ := hW; go_simp; (first | done | with_reducible rfl)); simp only [pz]))
              refine ord_op rfl ?_ (fun K hK => ?_)
              rfl
              go_simp
              refine (Size_c x _ (by omega) (by omega) (by omega)).mono ?_
              rintro e W16 ⟨rfl, hb16⟩
              rw [HSX.out]
              replace hJ := hJ.below hb16
              replace hOth := hOth.below hb16
              replace hBg := hBg.trans (hb16.mono (by have := hBg.size; omega))
              have hS16 := Cells2.below hS15 hb16
              refine hK _ _ hS16 ?_
              clear hK K
              try simp only [pz]
              repeat (first
                | (refine ord_skip rfl ?_ ?_; rfl; simp only [pz])
                | (refine ord_take (v := ?_) rfl ?_ (fun W hW => ?_) ?_; rotate_left; rfl; (obtain ⟨hz0, hz1⟩ := hW; go_simp; (first | done | with_reducible rfl)); simp only [pz]))
              refine ord_op rfl ?_ (fun K hK => ?_)
              rfl
              skip
              have oc := cell_blk (k := 0) hJ.blk
              have of := frozen_blk (k := 0) hJ.blk
              go_simp
              have hJ2 := hJ.put 0 (.slice a7 (S.length + 1) c7) rfl
              have hwst := Wr.setCell (fun q => q = w.heap.size + 2) W16 ⟨w.heap.size + 2, 0, none⟩ (.slice a7 (S.length + 1) c7) rfl
              replace hOth := hOth.wr hwst (fun e => by have h1 := NE.out; have : bb = w.heap.size + 2 := e; omega)
              have hS17 := Cells2.wr hS16 hwst (fun e => by have h1 := NE.out; have : ba = w.heap.size + 2 := e; omega)
              replace hBg := hBg.trans (hwst.below (n := w.heap.size + 2) (by have := hBg.size; omega) (fun q e => by have : q = w.heap.size + 2 := e; omega))
              obtain ⟨W17, hW17⟩ : ∃ Q, Q = (W16).setCell ⟨w.heap.size + 2, 0, none⟩ (.slice a7 (S.length + 1) c7) := ⟨_, rfl⟩
              rw [← hW17] at hJ2 hOth hS17 hBg ⊢
              clear hW17 oc of hwst hJ
              refine hK _ _ hS17 ?_
              clear hK K
              try simp only [pz]
              repeat (first
                | (refine ord_skip rfl ?_ ?_; rfl; simp only [pz])
                | (refine ord_take (v := ?_) rfl ?_ (fun W hW => ?_) ?_; rotate_left; rfl; (obtain ⟨hz0, hz1⟩ := hW; go_simp; (first | done | with_reducible rfl)); simp only [pz]))
              refine ord_nil ?_
              go_wp2_with fail
              go_meet
              case rel => exact ⟨rfl, hBg, hOth, _, hJ2⟩
        case rest =>
          obtain ⟨rfl, hB6, hc2, v7, hI6⟩ := hcut
          obtain ⟨wb, hwb⟩ : ∃ Q, Q = wc := ⟨_, rfl⟩
          subst hwb
          have HI6 := Lib.hid hI6
          have HB6 := Lib.hid hB6
          have hwbz : w.heap.size + 3 ≤ wb.heap.size := hI6.bz
          have hyl : m1 % sy < sy := by have := hmy; exact this
          clear hI6 hB6 hs1 hs2
          go_upto_region 7 with fail
          refine region_o (S := Cells2 bb y) (.take 0 (.take 2 (.take 3 (.take 4 (.take 5 (.take 11 (.take 12 (.two 1 6 (.one 6 (.take 7 (.take 8 (.one 9 (.one 10 (.take 15 (.one 13 (.take 14 (.one 16 (.take 17 .nil)))))))))) (.take 7 (.take 8 (.two 1 9 (.one 9 (.one 10 (.take 15 (.one 13 (.take 14 (.one 16 (.take 17 .nil))))))) (.one 1 (.one 10 (.take 15 (.one 13 (.take 14 (.one 16 (.take 17 .nil)))))))))))))))))) (by kernel_rfl) (by kernel_rfl) (fun _ _ d _ _ h => by cases d <;> exact h) (hc2.below (Below.refl _ _).drew) ?_
          intro W0 hW0 hS0
          have hBW : Below wb.heap.size wb W0 := by subst hW0; exact (Below.refl _ _).drew
          clear hW0
          have hBc := hBW
          have hOth := hc2
          repeat (first
            | (refine ord_skip rfl ?_ ?_; rfl; simp only [pz])
            | (refine ord_take (v := ?_) rfl ?_ (fun W hW => ?_) ?_; rotate_left; rfl; (obtain ⟨hz0, hz1⟩ := hW; go_simp; (first | done | with_reducible rfl)); simp only [pz]))
          refine ord_two ?_ ?_
          · skip
            refine ord_op rfl ?_ (fun K hK => ?_)
            rfl
            skip
            have oc : (W0).cell? ⟨w.heap.size + 1 + 1, 1, none⟩ = some (.slice aM M.length cM) := (hBc.cell (p := ⟨w.heap.size + 1 + 1, 1, none⟩) (Array.getElem?_eq_some_iff.1 HI6.out.blk).1).trans (by rw [cell_blk HI6.out.blk]; rfl)
            go_simp
            obtain ⟨W1, hWj⟩ : ∃ Q, Q = W0 := ⟨_, rfl⟩
            subst hWj
            have hS1 := hS0
            clear oc
            refine hK _ _ hS1 ?_
            clear hK K
            try simp only [pz]
            refine ord_op rfl ?_ (fun K hK => ?_)
            rfl
            go_simp
            refine (Size_c y _ (by omega) (by omega) (by omega)).mono ?_
            rintro e W2 ⟨rfl, hb2⟩
            rw [HSY.out]
            try (replace hBc := hBc.trans (hb2.mono hBc.size))
            try (replace hI7 := hI7.below hb2)
            have hS2 := Cells2.below hS1 hb2
            refine hK _ _ hS2 ?_
            clear hK K
            try simp only [pz]
            repeat (first
              | (refine ord_skip rfl ?_ ?_; rfl; simp only [pz])
              | (refine ord_take (v := ?_) rfl ?_ (fun W hW => ?_) ?_; rotate_left; rfl; (obtain ⟨hz0, hz1⟩ := hW; go_simp; (first | done | with_reducible rfl)); simp only [pz]))
            refine ord_op rfl ?_ (fun K hK => ?_)
            rfl
            go_simp
            obtain ⟨bx, hbx⟩ : ∃ n, n = (W2).heap.size := ⟨_, rfl⟩
            obtain ⟨W3, hW3⟩ : ∃ Q, Q = (W2).alloc (.cells #[.int .i64 (y.lo + (m1 : Int).tmod (sy : Int))] 3) := ⟨_, rfl⟩
            have hbb : Below (W2).heap.size (W2) W3 := by rw [hW3]; exact (Below.refl _ _).alloc (Nat.le_refl _) _
            have hsl : Sl W3 (some ⟨bx, 0, none⟩) [.int .i64 (y.lo + (m1 : Int).tmod (sy : Int))] := by rw [hW3, hbx]; exact Sl_new _ _ _
            replace hBc := hBc.trans (hbb.mono hBc.size)
            have hS3 := Cells2.below hS2 hbb
            rw [← hW3, ← hbx]
            clear hW3 hbx hbb
            refine hK _ _ hS3 ?_
            clear hK K
            try simp only [pz]
            refine ord_op rfl ?_ (fun K hK => ?_)
            rfl
            skip
            have hIc := HI6.out.below hBc
            refine wp_app elInt _ _ rfl rfl rfl hIc.mo hsl rfl (by intro u hu; simp at hu; subst hu; rfl) (by omega) (by omega) hIc.bz ?_
            intro v7 W4 hown7 hg7 hor7
            have hS4 := Cells2.wr hS3 (wr_grown hg7) (fun e => by have h3 := (HII.out.mo.lt _ e).2; omega)
            replace hOth : Cells2 bb y W4 := Cells2.wr (hOth.below hBc) (wr_grown hg7) (fun e => by have h3 := (HII.out.mo.lt _ e).2; omega)
            have hBg := (hBc.mono (show w.heap.size + 2 ≤ wb.heap.size from by omega)).grown hg7 (by have := hBc.size; omega) (fun k e => by have h1 := (hIc.mo.lt _ e).1; omega)
            rw [TX'.out] at hown7
            have hJ := hIc.appM hown7 hg7 hor7
            obtain ⟨a7, c7, rfl, -, -⟩ := own_Sl hown7
            clear hIc hown7 hg7 hor7 hsl hBc
            refine hK _ _ hS4 ?_
            clear hK K
            try simp only [pz]
            repeat (first
              | (refine ord_skip rfl ?_ ?_; rfl; simp only [pz])
              | (refine ord_take (v := ?_) rfl ?_ (fun W hW => ?_) ?_; rotate_left; rfl; (obtain ⟨hz0, hz1⟩ := hW; go_simp; (first | done | with_reducible rfl)); simp only [pz]))
            refine ord_op rfl ?_ (fun K hK => ?_)
            rfl
            go_simp
            refine (Size_c y _ (by omega) (by omega) (by omega)).mono ?_
            rintro e W5 ⟨rfl, hb5⟩
            rw [HSY.out]
            replace hJ := hJ.below hb5
            replace hOth := hOth.below hb5
            replace hBg := hBg.trans (hb5.mono (by have := hBg.size; omega))
            have hS5 := Cells2.below hS4 hb5
            refine hK _ _ hS5 ?_
            clear hK K
            try simp only [pz]
            repeat (first
              | (refine ord_skip rfl ?_ ?_; rfl; simp only [pz])
              | (refine ord_take (v := ?_) rfl ?_ (fun W hW => ?_) ?_; rotate_left; rfl; (obtain ⟨hz0, hz1⟩ := hW; go_simp; (first | done | with_reducible rfl)); simp only [pz]))
            refine ord_op rfl ?_ (fun K hK => ?_)
            rfl
            skip
            have oc := cell_blk (k := 1) hJ.blk
            have of := frozen_blk (k := 1) hJ.blk
            go_simp
            have hJ2 := hJ.put 1 (.slice a7 (M.length + 1) c7) rfl
            have hwst := Wr.setCell (fun q => q = w.heap.size + 2) W5 ⟨w.heap.size + 2, 1, none⟩ (.slice a7 (M.length + 1) c7) rfl
            replace hOth := hOth.wr hwst (fun e => by have h1 := NE.out; have : bb = w.heap.size + 2 := e; omega)
            have hS6 := Cells2.wr hS5 hwst (fun e => by have h1 := NE.out; have : bb = w.heap.size + 2 := e; omega)
            replace hBg := hBg.trans (hwst.below (n := w.heap.size + 2) (by have := hBg.size; omega) (fun q e => by have : q = w.heap.size + 2 := e; omega))
            obtain ⟨W6, hW6⟩ : ∃ Q, Q = (W5).setCell ⟨w.heap.size + 2, 1, none⟩ (.slice a7 (M.length + 1) c7) := ⟨_, rfl⟩
            rw [← hW6] at hJ2 hOth hS6 hBg ⊢
            clear hW6 oc of hwst hJ
            refine hK _ _ hS6 ?_
            clear hK K
            try simp only [pz]
            repeat (first
              | (refine ord_skip rfl ?_ ?_; rfl; simp only [pz])
              | (refine ord_take (v := ?_) rfl ?_ (fun W hW => ?_) ?_; rotate_left; rfl; (obtain ⟨hz0, hz1⟩ := hW; go_simp; (first | done | with_reducible rfl)); simp only [pz]))
            refine ord_nil ?_
            go_wp2_with fail
            go_roundw
            case rel =>
              have hex : x.size.toNat = sx := by rw [HSX.out]; rfl
              have hey : y.size.toNat = sy := by rw [HSY.out]; rfl
              have hst := HST.out
              rw [hex, hey, ← HM1.out, ← HM2.out] at hst
              refine ⟨k + 1, m2, S ++ [x.lo + ((m % sx : Nat) : Int)], M ++ [y.lo + ((m1 % sy : Nat) : Int)], _, _, by omega, by go_num, rfl, by omega, by rw [List.length_append, HSl.out]; rfl, by rw [List.length_append, HMl.out]; rfl, hJ2, ((HBB.out.trans HBa.out).trans HB6.out).trans hBg, ?_, ?_⟩
              · show _ = _
                rw [HS.out, hst, List.append_assoc]; rfl
              · show _ = _
                rw [HM.out, hst, List.append_assoc]; rfl
            case measure => simp [intOf]; omega
          · skip
            refine ord_op rfl ?_ (fun K hK => ?_)
            rfl
            go_simp
            refine (Size_c y _ (by omega) (by omega) (by omega)).mono ?_
            rintro e W7 ⟨rfl, hb7⟩
            rw [HSY.out]
            try (replace hBc := hBc.trans (hb7.mono hBc.size))
            try (replace hI7 := hI7.below hb7)
            have hS7 := Cells2.below hS0 hb7
            refine hK _ _ hS7 ?_
            clear hK K
            try simp only [pz]
            repeat (first
              | (refine ord_skip rfl ?_ ?_; rfl; simp only [pz])
              | (refine ord_take (v := ?_) rfl ?_ (fun W hW => ?_) ?_; rotate_left; rfl; (obtain ⟨hz0, hz1⟩ := hW; go_simp; (first | done | with_reducible rfl)); simp only [pz]))
            refine ord_two ?_ ?_
            · skip
              refine ord_op rfl ?_ (fun K hK => ?_)
              rfl
              skip
              have oc : (W7).cell? ⟨w.heap.size + 1 + 1, 1, none⟩ = some (.slice aM M.length cM) := (hBc.cell (p := ⟨w.heap.size + 1 + 1, 1, none⟩) (Array.getElem?_eq_some_iff.1 HI6.out.blk).1).trans (by rw [cell_blk HI6.out.blk]; rfl)
              go_simp
              obtain ⟨W8, hWj⟩ : ∃ Q, Q = W7 := ⟨_, rfl⟩
              subst hWj
              have hS8 := hS7
              clear oc
              refine hK _ _ hS8 ?_
              clear hK K
              try simp only [pz]
              refine ord_op rfl ?_ (fun K hK => ?_)
              rfl
              go_simp
              obtain ⟨bx, hbx⟩ : ∃ n, n = (W8).heap.size := ⟨_, rfl⟩
              obtain ⟨W9, hW9⟩ : ∃ Q, Q = (W8).alloc (.cells #[.int .i64 (y.lo + (m1 : Int).tmod (sy : Int))] 3) := ⟨_, rfl⟩
              have hbb : Below (W8).heap.size (W8) W9 := by rw [hW9]; exact (Below.refl _ _).alloc (Nat.le_refl _) _
              have hsl : Sl W9 (some ⟨bx, 0, none⟩) [.int .i64 (y.lo + (m1 : Int).tmod (sy : Int))] := by rw [hW9, hbx]; exact Sl_new _ _ _
              replace hBc := hBc.trans (hbb.mono hBc.size)
              have hS9 := Cells2.below hS8 hbb
              rw [← hW9, ← hbx]
              clear hW9 hbx hbb
              refine hK _ _ hS9 ?_
              clear hK K
              try simp only [pz]
              refine ord_op rfl ?_ (fun K hK => ?_)
              rfl
              skip
              have hIc := HI6.out.below hBc
              refine wp_app elInt _ _ rfl rfl rfl hIc.mo hsl rfl (by intro u hu; simp at hu; subst hu; rfl) (by omega) (by omega) hIc.bz ?_
              intro v7 W10 hown7 hg7 hor7
              have hS10 := Cells2.wr hS9 (wr_grown hg7) (fun e => by have h3 := (HII.out.mo.lt _ e).2; omega)
              replace hOth : Cells2 bb y W10 := Cells2.wr (hOth.below hBc) (wr_grown hg7) (fun e => by have h3 := (HII.out.mo.lt _ e).2; omega)
              have hBg := (hBc.mono (show w.heap.size + 2 ≤ wb.heap.size from by omega)).grown hg7 (by have := hBc.size; omega) (fun k e => by have h1 := (hIc.mo.lt _ e).1; omega)
              rw [TX'.out] at hown7
              have hJ := hIc.appM hown7 hg7 hor7
              obtain ⟨a7, c7, rfl, -, -⟩ := own_Sl hown7
              clear hIc hown7 hg7 hor7 hsl hBc
              refine hK _ _ hS10 ?_
              clear hK K
              try simp only [pz]
              repeat (first
                | (refine ord_skip rfl ?_ ?_; rfl; simp only [pz])
                | (refine ord_take (v := ?_) rfl ?_ (fun W hW => ?_) ?_; rotate_left; rfl; (obtain ⟨hz0, hz1⟩ := hW; go_simp; (first | done | with_reducible rfl)); simp only [pz]))
              refine ord_op rfl ?_ (fun K hK => ?_)
              rfl
              go_simp
              refine (Size_c y _ (by omega) (by omega) (by omega)).mono ?_
              rintro e W11 ⟨rfl, hb11⟩
              rw [HSY.out]
              replace hJ := hJ.below hb11
              replace hOth := hOth.below hb11
              replace hBg := hBg.trans (hb11.mono (by have := hBg.size; omega))
              have hS11 := Cells2.below hS10 hb11
              refine hK _ _ hS11 ?_
              clear hK K
              try simp only [pz]
              repeat (first
                | (refine ord_skip rfl ?_ ?_; rfl; simp only [pz])
                | (refine ord_take (v := ?_) rfl ?_ (fun W hW => ?_) ?_; rotate_left; rfl; (obtain ⟨hz0, hz1⟩ := hW; go_simp; (first | done | with_reducible rfl)); simp only [pz]))
              refine ord_op rfl ?_ (fun K hK => ?_)
              rfl
              skip
              have oc := cell_blk (k := 1) hJ.blk
              have of := frozen_blk (k := 1) hJ.blk
              go_simp
              have hJ2 := hJ.put 1 (.slice a7 (M.length + 1) c7) rfl
              have hwst := Wr.setCell (fun q => q = w.heap.size + 2) W11 ⟨w.heap.size + 2, 1, none⟩ (.slice a7 (M.length + 1) c7) rfl
              replace hOth := hOth.wr hwst (fun e => by have h1 := NE.out; have : bb = w.heap.size + 2 := e; omega)
              have hS12 := Cells2.wr hS11 hwst (fun e => by have h1 := NE.out; have : bb = w.heap.size + 2 := e; omega)
              replace hBg := hBg.trans (hwst.below (n := w.heap.size + 2) (by have := hBg.size; omega) (fun q e => by have : q = w.heap.size + 2 := e; omega))
              obtain ⟨W12, hW12⟩ : ∃ Q, Q = (W11).setCell ⟨w.heap.size + 2, 1, none⟩ (.slice a7 (M.length + 1) c7) := ⟨_, rfl⟩
              rw [← hW12] at hJ2 hOth hS12 hBg ⊢
              clear hW12 oc of hwst hJ
              refine hK _ _ hS12 ?_
              clear hK K
              try simp only [pz]
              repeat (first
                | (refine ord_skip rfl ?_ ?_; rfl; simp only [pz])
                | (refine ord_take (v := ?_) rfl ?_ (fun W hW => ?_) ?_; rotate_left; rfl; (obtain ⟨hz0, hz1⟩ := hW; go_simp; (first | done | with_reducible rfl)); simp only [pz]))
              refine ord_nil ?_
              go_wp2_with fail
              go_roundw
              case rel =>
                have hex : x.size.toNat = sx := by rw [HSX.out]; rfl
                have hey : y.size.toNat = sy := by rw [HSY.out]; rfl
                have hst := HST.out
                rw [hex, hey, ← HM1.out, ← HM2.out] at hst
                refine ⟨k + 1, m2, S ++ [x.lo + ((m % sx : Nat) : Int)], M ++ [y.lo + ((m1 % sy : Nat) : Int)], _, _, by omega, by go_num, rfl, by omega, by rw [List.length_append, HSl.out]; rfl, by rw [List.length_append, HMl.out]; rfl, hJ2, ((HBB.out.trans HBa.out).trans HB6.out).trans hBg, ?_, ?_⟩
                · show _ = _
                  rw [HS.out, hst, List.append_assoc]; rfl
                · show _ = _
                  rw [HM.out, hst, List.append_assoc]; rfl
              case measure => simp [intOf]; omega
            · skip
              refine ord_op rfl ?_ (fun K hK => ?_)
              rfl
              go_simp
              obtain ⟨bx, hbx⟩ : ∃ n, n = (W7).heap.size := ⟨_, rfl⟩
              obtain ⟨W13, hW13⟩ : ∃ Q, Q = (W7).alloc (.cells #[.int .i64 (y.lo + (m1 : Int).tmod (sy : Int))] 3) := ⟨_, rfl⟩
              have hbb : Below (W7).heap.size (W7) W13 := by rw [hW13]; exact (Below.refl _ _).alloc (Nat.le_refl _) _
              have hsl : Sl W13 (some ⟨bx, 0, none⟩) [.int .i64 (y.lo + (m1 : Int).tmod (sy : Int))] := by rw [hW13, hbx]; exact Sl_new _ _ _
              replace hBc := hBc.trans (hbb.mono hBc.size)
              have hS13 := Cells2.below hS7 hbb
              rw [← hW13, ← hbx]
              clear hW13 hbx hbb
              refine hK _ _ hS13 ?_
              clear hK K
              try simp only [pz]
              refine ord_op rfl ?_ (fun K hK => ?_)
              rfl
              skip
              have oc : (W13).cell? ⟨w.heap.size + 1 + 1, 1, none⟩ = some (.slice aM M.length cM) := (hBc.cell (p := ⟨w.heap.size + 1 + 1, 1, none⟩) (Array.getElem?_eq_some_iff.1 HI6.out.blk).1).trans (by rw [cell_blk HI6.out.blk]; rfl)
              go_simp
              obtain ⟨W14, hWj⟩ : ∃ Q, Q = W13 := ⟨_, rfl⟩
              subst hWj
              have hS14 := hS13
              clear oc
              refine hK _ _ hS14 ?_
              clear hK K
              try simp only [pz]
              refine ord_op rfl ?_ (fun K hK => ?_)
              rfl
              skip
              have hIc := HI6.out.below hBc
              refine wp_app elInt _ _ rfl rfl rfl hIc.mo hsl rfl (by intro u hu; simp at hu; subst hu; rfl) (by omega) (by omega) hIc.bz ?_
              intro v7 W15 hown7 hg7 hor7
              have hS15 := Cells2.wr hS14 (wr_grown hg7) (fun e => by have h3 := (HII.out.mo.lt _ e).2; omega)
              replace hOth : Cells2 bb y W15 := Cells2.wr (hOth.below hBc) (wr_grown hg7) (fun e => by have h3 := (HII.out.mo.lt _ e).2; omega)
              have hBg := (hBc.mono (show w.heap.size + 2 ≤ wb.heap.size from by omega)).grown hg7 (by have := hBc.size; omega) (fun k e => by have h1 := (hIc.mo.lt _ e).1; omega)
              rw [TX'.out] at hown7
              have hJ := hIc.appM hown7 hg7 hor7
              obtain ⟨a7, c7, rfl, -, -⟩ := own_Sl hown7
              clear hIc hown7 hg7 hor7 hsl hBc
              refine hK _ _ hS15 ?_
              clear hK K
              try simp only [pz]
              repeat (first
                | (refine ord_skip rfl ?_ ?_; rfl; simp only [pz])
                | (refine ord_take (v := ?_) rfl ?_ (fun W hW => ?_) ?_; rotate_left; rfl; (obtain ⟨hz0, hz1⟩ := hW; go_simp; (first | done | with_reducible rfl)); simp only [pz]))
              refine ord_op rfl ?_ (fun K hK => ?_)
              rfl
              go_simp
              refine (Size_c y _ (by omega) (by omega) (by omega)).mono ?_
              rintro e W16 ⟨rfl, hb16⟩
              rw [HSY.out]
              replace hJ := hJ.below hb16
              replace hOth := hOth.below hb16
              replace hBg := hBg.trans (hb16.mono (by have := hBg.size; omega))
              have hS16 := Cells2.below hS15 hb16
              refine hK _ _ hS16 ?_
              clear hK K
              try simp only [pz]
              repeat (first
                | (refine ord_skip rfl ?_ ?_; rfl; simp only [pz])
                | (refine ord_take (v := ?_) rfl ?_ (fun W hW => ?_) ?_; rotate_left; rfl; (obtain ⟨hz0, hz1⟩ := hW; go_simp; (first | done | with_reducible rfl)); simp only [pz]))
              refine ord_op rfl ?_ (fun K hK => ?_)
              rfl
              skip
              have oc := cell_blk (k := 1) hJ.blk
              have of := frozen_blk (k := 1) hJ.blk
              go_simp
              have hJ2 := hJ.put 1 (.slice a7 (M.length + 1) c7) rfl
              have hwst := Wr.setCell (fun q => q = w.heap.size + 2) W16 ⟨w.heap.size + 2, 1, none⟩ (.slice a7 (M.length + 1) c7) rfl
              replace hOth := hOth.wr hwst (fun e => by have h1 := NE.out; have : bb = w.heap.size + 2 := e; omega)
              have hS17 := Cells2.wr hS16 hwst (fun e => by have h1 := NE.out; have : bb = w.heap.size + 2 := e; omega)
              replace hBg := hBg.trans (hwst.below (n := w.heap.size + 2) (by have := hBg.size; omega) (fun q e => by have : q = w.heap.size + 2 := e; omega))
              obtain ⟨W17, hW17⟩ : ∃ Q, Q = (W16).setCell ⟨w.heap.size + 2, 1, none⟩ (.slice a7 (M.length + 1) c7) := ⟨_, rfl⟩
              rw [← hW17] at hJ2 hOth hS17 hBg ⊢
              clear hW17 oc of hwst hJ
              refine hK _ _ hS17 ?_
              clear hK K
              try simp only [pz]
              repeat (first
                | (refine ord_skip rfl ?_ ?_; rfl; simp only [pz])
                | (refine ord_take (v := ?_) rfl ?_ (fun W hW => ?_) ?_; rotate_left; rfl; (obtain ⟨hz0, hz1⟩ := hW; go_simp; (first | done | with_reducible rfl)); simp only [pz]))
              refine ord_nil ?_
              go_wp2_with fail
              go_roundw
              case rel =>
                have hex : x.size.toNat = sx := by rw [HSX.out]; rfl
                have hey : y.size.toNat = sy := by rw [HSY.out]; rfl
                have hst := HST.out
                rw [hex, hey, ← HM1.out, ← HM2.out] at hst
                refine ⟨k + 1, m2, S ++ [x.lo + ((m % sx : Nat) : Int)], M ++ [y.lo + ((m1 % sy : Nat) : Int)], _, _, by omega, by go_num, rfl, by omega, by rw [List.length_append, HSl.out]; rfl, by rw [List.length_append, HMl.out]; rfl, hJ2, ((HBB.out.trans HBa.out).trans HB6.out).trans hBg, ?_, ?_⟩
                · show _ = _
                  rw [HS.out, hst, List.append_assoc]; rfl
                · show _ = _
                  rw [HM.out, hst, List.append_assoc]; rfl
              case measure => simp [intOf]; omega
    · have hek : k = r.salt.length := by omega
      have HEK := Lib.hid hek
      have t0 := cell_blk (k := 0) HII.out.blk
      have t1 := cell_blk (k := 1) HII.out.blk
      have hR := ((HBB.out.block (w.heap.size + 1) (by omega)).trans HQ1.out)
      have g0 := cell_blk (k := 0) hR
      have g1 := cell_blk (k := 1) hR
      have gf := fun j => frozen_blk (k := j) hR
      have hst := store2 hR (.slice aS S.length cS) (.slice aM M.length cM)
      have HSTT := Lib.hid hst
      obtain ⟨_, _, hes, -, hsS⟩ := own_Sl HII.out.so
      cases hes
      obtain ⟨_, _, hem, -, hsM⟩ := own_Sl HII.out.mo
      cases hem
      have HSS := Lib.hid hsS
      have HSM := Lib.hid hsM
      clear hst hR hek hsS hsM
      go_wp2_with fail
      obtain ⟨hR2, hwr⟩ := HSTT.out
      obtain ⟨Wf, hWf⟩ : ∃ Q, Q = (wr.setCell ⟨w.heap.size + 1, 0, none⟩ (.slice aS S.length cS)).setCell ⟨w.heap.size + 1, 1, none⟩ (.slice aM M.length cM) := ⟨_, rfl⟩
      rw [← hWf] at hR2 hwr ⊢
      clear hWf
      have q0 := cell_blk (k := 0) hR2
      have q1 := cell_blk (k := 1) hR2
      have hts : (nthT r n).salt = S := by
        have := HS.out
        rw [HEK.out, List.drop_length, nthF] at this
        · simpa using this
        · intro a l b l2 h; cases h
      have htm : (nthT r n).mud = M := by
        have := HM.out
        rw [HEK.out, List.drop_length, nthF] at this
        · simpa using this
        · intro a l b l2 h; cases h
      have hsq : ∀ ad, aS = some ad → ¬ ad.block = w.heap.size + 1 := fun ad e => by have := own_sep HII.out.so ad e; omega
      have hmq : ∀ ad, aM = some ad → ¬ ad.block = w.heap.size + 1 := fun ad e => by have := own_sep HII.out.mo ad e; omega
      refine bodyPost_ret (v := .agg #[.slice aS S.length cS, .slice aM M.length cM]) (by simp [results, Try.results61, go_sem, q0, q1]) rfl ⟨⟨aS, cS, aM, cM⟩, by show _ = Ending.returned (.agg #[.slice aS (nthT r n).salt.length cS, .slice aM (nthT r n).mud.length cM]); rw [hts, htm], ⟨by rw [hts]; exact HSS.out.wr hwr hsq, by rw [htm]; exact HSM.out.wr hwr hmq⟩, HBw.out.trans (hwr.below HBw.out.size (fun q e => by have : q = w.heap.size + 1 := e; omega)), fun ad e => by
        rcases e with e | e
        · have := own_sep HII.out.so ad e; omega
        · have := own_sep HII.out.mo ad e; omega⟩
end Go.Proofs.Ytgglfngkomgadaa
