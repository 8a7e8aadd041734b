/- Walks of the laws: a river with some of its gauges. -/
import Derived.Test.YtgglfngkomgadaaJL
import Derived.Test.YtgglfngkomgadaaJT
namespace Go.Proofs.Ytgglfngkomgadaa
open Go.RowKit Go.Shelf
set_option linter.unusedVariables false
set_option linter.unusedSimpArgs false
set_option maxRecDepth 100000

/-- Those of the first gauges that are named by bits. -/
def someK (gs : List Gg) (m : Nat) : Nat → List Gg
  | 0 => []
  | k + 1 => if m.testBit k then someK gs m k ++ [gs.getD k default] else someK gs m k
def someR (r : Riv) (m : Nat) : Riv := { r with gauges := someK r.gauges m r.gauges.length }
theorem someK_len (gs : List Gg) (m : Nat) : ∀ k, (someK gs m k).length ≤ k
  | 0 => by simp [someK]
  | k + 1 => by
    have ih := someK_len gs m k
    simp only [someK]
    split
    · rw [List.length_append, List.length_singleton]; omega
    · omega
abbrev rG26 (r : Riv) (A : RA) (v : Value) : Obj := .cells #[.int .i64 r.last, .slice A.sa r.salt.length A.sc, .slice A.ma r.mud.length A.mc, .int .i64 r.sweet, .int .i64 r.clear, .int .i64 r.size, .int .i64 r.start, .int .i64 r.draw, .slice A.ua r.use.length A.uc, v] 26 (0, 0)
abbrev zero26 : Obj := .cells #[.int .i64 0, .slice none 0 0, .slice none 0 0, .int .i64 0, .int .i64 0, .int .i64 0, .int .i64 0, .int .i64 0, .slice none 0 0, .slice none 0 0] 26
def RetSome (r : Riv) (w : World) (e : Ending) (w' : World) : Prop := ∃ A', e = .returned (rivV r A') ∧ Rd w' r A' ∧ Below w.heap.size w w'
/-- What a round reads: the own box's list, the river's, a gauge. -/
structure SmS (q b o : Nat) (v7 v9 : Value) (x : Gg) (W : World) : Prop where
  c9 : W.cell? ⟨q, 9, none⟩ = some v9
  d0 : W.cell? ⟨b, o, none⟩ = some (.int .i64 x.day)
  d1 : W.cell? ⟨b, o + 1, none⟩ = some (.bool x.mud)
  d2 : W.cell? ⟨b, o + 2, none⟩ = some (.int .i64 x.rd.lo)
  d3 : W.cell? ⟨b, o + 3, none⟩ = some (.int .i64 x.rd.hi)
theorem SmS.wr {q b o : Nat} {v7 v9 : Value} {x : Gg} {W W' : World} {C : Nat → Prop} (h : SmS q b o v7 v9 x W) (hw : Wr C W W') (h1 : ¬ C q) (h2 : ¬ C b) : SmS q b o v7 v9 x W' :=
  ⟨hw.cell h1 h.c9, hw.cell h2 h.d0, hw.cell h2 h.d1, hw.cell h2 h.d2, hw.cell h2 h.d3⟩
theorem two_small : ∀ m : Nat, m < 64 → ∀ k : Nat, k ≤ 6 → (m / 2 ^ k) % 2 = if m.testBit k then 1 else 0 := fun m hm k hk => (bits_facts m hm k hk).2.1

set_option maxHeartbeats 6000000 in
theorem some_c (r : Riv) (A : RA) (m : Nat) (w : World) (hr : Rd w r A) (hm : m < 64) (hg : r.gauges.length ≤ 5) :
    Calls Try.prog 64 #[rivV r A, .int .i64 m] w (RetSome (someR r m) w) := by
  obtain ⟨R, hR⟩ : ∃ R, R = someR r m := ⟨_, rfl⟩
  have HR := Lib.hid hR
  rw [← hR]
  clear hR
  have hb0 : Below w.heap.size w (((w.alloc (rO26 r A)).alloc zero26).alloc (rG26 r A (.slice none 0 0))) := (((Below.refl w.heap.size w).alloc (Nat.le_refl _) (rO26 r A)).alloc (by simp) zero26).alloc (by simp; omega) (rG26 r A (.slice none 0 0))
  have hbx : BoxR w.heap.size r A (((w.alloc (rO26 r A)).alloc zero26).alloc (rG26 r A (.slice none 0 0))) := ((box_new w r A).below ((Below.refl _ _).alloc (Nat.le_refl _) _)).below ((Below.refl _ _).alloc (Nat.le_refl _) _)
  have hR4 : (((w.alloc (rO26 r A)).alloc zero26).alloc (rG26 r A (.slice none 0 0))).heap[w.heap.size + 1]? = some (.cells #[.int .i64 0, .slice none 0 0, .slice none 0 0, .int .i64 0, .int .i64 0, .int .i64 0, .int .i64 0, .int .i64 0, .slice none 0 0, .slice none 0 0] 26 (0, 0)) := by
    have h1 := heap_alloc_new (w.alloc (rO26 r A)) zero26
    rw [World.size_alloc] at h1
    have h2 := ((Below.refl ((w.alloc (rO26 r A)).alloc zero26).heap.size ((w.alloc (rO26 r A)).alloc zero26)).alloc (Nat.le_refl _) (rG26 r A (.slice none 0 0))).block (w.heap.size + 1) (by simp)
    exact h2.trans h1
  have hO4 : (((w.alloc (rO26 r A)).alloc zero26).alloc (rG26 r A (.slice none 0 0))).heap[w.heap.size + 1 + 1]? = some (rG26 r A (.slice none 0 0)) := by
    have h1 := heap_alloc_new ((w.alloc (rO26 r A)).alloc zero26) (rG26 r A (.slice none 0 0))
    simpa using h1
  go_enter Try.func64, Try.ntmps64
  go_wp2_with fail
  obtain ⟨wq, hwq⟩ : ∃ wq, ((w.alloc (rO26 r A)).alloc zero26).alloc (rG26 r A (.slice none 0 0)) = wq := ⟨_, rfl⟩
  rw [hwq] at hb0 hbx hR4 hO4 ⊢
  obtain ⟨ob, hob⟩ : ∃ ob, ob = w.heap.size + 1 + 1 := ⟨_, rfl⟩
  rw [← hob] at hO4 ⊢
  have HB0 := Lib.hid hb0
  have HX := Lib.hid hbx
  have HR4 := Lib.hid hR4
  have HO4 := Lib.hid hO4
  have HOB0 := Lib.hid hob
  have hzq := (Array.getElem?_eq_some_iff.1 hO4).1
  clear hwq hb0 hbx hR4 hO4 hob
  go_loopw [6] (fun i wr => ∃ (k : Nat) (sv : Value), k ≤ r.gauges.length ∧ i = .int .i64 k ∧ wr.heap[ob]? = some (rG26 r A sv) ∧ wr.ownsRow wq.heap.size 99 4 sv (someK r.gauges m k).length (ggs (someK r.gauges m k)) ∧ Wr (fun k => k = ob) wq wr) (fun i _ => r.gauges.length - (intOf i).toNat)
  case atStart => exact ⟨0, .slice none 0 0, Nat.zero_le _, rfl, HO4.out, World.ownsRow_nil _ _ _ _, Wr.refl _ _⟩
  case round =>
    obtain ⟨k, sv, hk, rfl, hob, hown, hw⟩ := hrel
    have HOB := Lib.hid hob
    have HW := Lib.hid hw
    have HOW := Lib.hid hown
    obtain ⟨asv, csv, rfl, -, -⟩ := own_Sl hown
    have hwo : ¬ (w.heap.size = ob) := by have := HOB0.out; omega
    have HBw := Lib.hid (HB0.out.trans (hw.below HB0.out.size (fun j e => by have h1 : j = ob := e; have h2 := HOB0.out; omega)))
    have hX := HX.out.wr hw hwo
    have HXr := Lib.hid hX
    have k9 := hX.k9
    have hobl : ob < wr.heap.size := (Array.getElem?_eq_some_iff.1 hob).1
    have hwz := hw.size
    have hkl := someK_len r.gauges m k
    have ew : IntKind.i64.wrap ((k : Int) + 1) = (k : Int) + 1 := IntWalk.i64_in _ (by omega)
    clear hob hown hw hX hwo
    by_cases hlt : k < r.gauges.length
    · obtain ⟨x, hx⟩ : ∃ x, r.gauges[k]? = some x := ⟨_, List.getElem?_eq_getElem hlt⟩
      have HXX := Lib.hid (show r.gauges.getD k default = x from by rw [List.getD_eq_getElem?_getD, hx]; rfl)
      have hts := two_small m hm k (by omega)
      have hcast : (m : Int) / 2 ^ k = ((m / 2 ^ k : Nat) : Int) := by simp
      cases hb : m.testBit k
      · have hm2 : m / 2 ^ k % 2 = 0 := by rw [hts, hb]; rfl
        have d2 : ((m : Int) / 2 ^ k % 2 == 1) = false := by
          rw [hcast, show ((m / 2 ^ k : Nat) : Int) % 2 = ((m / 2 ^ k % 2 : Nat) : Int) from rfl, hm2]; rfl
        have d3 : (((m : Int) / 2 ^ k).tmod 2 == 1) = false := by
          rw [hcast, show ((m / 2 ^ k : Nat) : Int).tmod 2 = ((m / 2 ^ k % 2 : Nat) : Int) from rfl, hm2]; rfl
        have HBB := Lib.hid hb
        clear hcast hm2 hb hts hx
        go_wp2_with fail
        go_roundw
        case rel =>
          refine ⟨k + 1, .slice asv (someK r.gauges m k).length csv, by omega, by go_num, HOB.out, ?_, HW.out⟩
          simp only [someK, HBB.out]
          exact HOW.out
        case measure => simp [intOf]; omega
      · have hm2 : m / 2 ^ k % 2 = 1 := by rw [hts, hb]; rfl
        have d2 : ((m : Int) / 2 ^ k % 2 == 1) = true := by
          rw [hcast, show ((m / 2 ^ k : Nat) : Int) % 2 = ((m / 2 ^ k % 2 : Nat) : Int) from rfl, hm2]; rfl
        have d3 : (((m : Int) / 2 ^ k).tmod 2 == 1) = true := by
          rw [hcast, show ((m / 2 ^ k : Nat) : Int).tmod 2 = ((m / 2 ^ k % 2 : Nat) : Int) from rfl, hm2]; rfl
        have HBB := Lib.hid hb
        obtain ⟨b, o, hao, e1, e2, e3, e4⟩ := (hr.g.below HBw.out).gg_at hx
        obtain ⟨b', o', hao', f1, -⟩ := hr.g.gg_at hx
        have hbw : b < w.heap.size := by
          have h1 := cell_lt f1
          rw [hao] at hao'
          cases hao'
          exact h1
        clear hcast hm2 hb hts hx f1 hao'
        go_wp2_with fail
        rw [hao] at k9
        have HKS := Lib.hid (show SmS w.heap.size b (o + k * 4) (.slice asv (someK r.gauges m k).length csv) (.slice (some ⟨b, o, none⟩) r.gauges.length A.gc) x wr from ⟨k9, e1, e2, e3, e4⟩)
        clear k9 e1 e2 e3 e4 hao
        refine region_o (S := SmS w.heap.size b (o + k * 4) (.slice asv (someK r.gauges m k).length csv) (.slice (some ⟨b, o, none⟩) r.gauges.length A.gc) x) (.take 0 (.take 2 (.take 3 (.take 4 (.take 5 (.take 6 (.two 1 7 (.one 7 (.one 8 (.take 9 (.one 10 .nil)))) (.one 1 (.one 8 (.take 9 (.one 10 .nil))))))))))) (by kernel_rfl) (by kernel_rfl) (fun _ _ d _ _ h => by cases d <;> exact h) (HKS.out.wr (Wr.of_below (S := fun _ => False) (Below.refl _ _).drew) (fun e => e) (fun e => e)) ?_
        intro W0 hW0 hS0
        have hBW : Below wr.heap.size wr W0 := by subst hW0; exact (Below.refl _ _).drew
        clear hW0
        have hBc := hBW
        repeat (first
          | (refine ord_skip rfl ?_ ?_; rfl; simp only [List.getElem_toArray, List.getElem_cons_zero, List.getElem_cons_succ, Act.put, List.setIfInBounds_toArray, List.set_cons_zero, List.set_cons_succ])
          | (refine ord_take (v := ?_) rfl ?_ (fun W hW => ?_) ?_; rotate_left; rfl; (obtain ⟨hz0, hz1, hz2, hz3, hz4⟩ := hW; go_simp; (first | done | with_reducible rfl)); simp only [List.getElem_toArray, List.getElem_cons_zero, List.getElem_cons_succ, Act.put, List.setIfInBounds_toArray, List.set_cons_zero, List.set_cons_succ]))
        refine ord_two ?_ ?_
        · skip
          refine ord_op rfl ?_ (fun K hK => ?_)
          rfl
          skip
          have oc : (W0).cell? ⟨ob, 9, none⟩ = some (.slice asv (someK r.gauges m k).length csv) := (hBc.cell (p := ⟨ob, 9, none⟩) hobl).trans (by rw [cell_blk HOB.out]; rfl)
          go_simp
          obtain ⟨W1, hWj⟩ : ∃ Q, Q = W0 := ⟨_, rfl⟩
          subst hWj
          have hS1 := hS0
          clear oc
          refine hK _ _ hS1 ?_
          clear hK K
          try simp only [List.getElem_toArray, List.getElem_cons_zero, List.getElem_cons_succ, Act.put, List.setIfInBounds_toArray, List.set_cons_zero, List.set_cons_succ]
          refine ord_op rfl ?_ (fun K hK => ?_)
          rfl
          go_simp
          obtain ⟨bx, hbx⟩ : ∃ n, n = (W1).heap.size := ⟨_, rfl⟩
          obtain ⟨W2, hW2⟩ : ∃ Q, Q = (W1).alloc (.cells #[.int .i64 x.day, .bool x.mud, .int .i64 x.rd.lo, .int .i64 x.rd.hi] 99) := ⟨_, rfl⟩
          have hbb : Below (W1).heap.size (W1) W2 := by rw [hW2]; exact (Below.refl _ _).alloc (Nat.le_refl _) _
          have hsl : Sl W2 (some ⟨bx, 0, none⟩) [.int .i64 x.day, .bool x.mud, .int .i64 x.rd.lo, .int .i64 x.rd.hi] := by rw [hW2, hbx]; exact Sl_new _ _ _
          replace hBc := hBc.trans (hbb.mono hBc.size)
          have hS2 := SmS.wr hS1 (Wr.of_below (S := fun _ => False) hbb) (fun e => e) (fun e => e)
          rw [← hW2, ← hbx]
          clear hW2 hbx hbb
          refine hK _ _ hS2 ?_
          clear hK K
          try simp only [List.getElem_toArray, List.getElem_cons_zero, List.getElem_cons_succ, Act.put, List.setIfInBounds_toArray, List.set_cons_zero, List.set_cons_succ]
          refine ord_op rfl ?_ (fun K hK => ?_)
          rfl
          skip
          refine wp_app elGgR _ _ rfl rfl rfl (own_below HOW.out hBc) hsl rfl (by intro u hu; simp at hu; rcases hu with rfl | rfl | rfl | rfl <;> rfl) (by omega) (by omega) (by have := hBc.size; omega) ?_
          intro v7 W3 hown7 hg7 _
          have hob7 : ∀ q, (Value.slice asv (someK r.gauges m k).length csv).ownBlock = some q → wq.heap.size ≤ q ∧ q < wr.heap.size := fun q e => HOW.out.lt q e
          have h67 := (Wr.of_below (S := fun q => (Value.slice asv (someK r.gauges m k).length csv).ownBlock = some q) hBc).trans (grown_wr hg7)
          have hOB7 := h67.blk (k := ob) (fun e => by have := hob7 _ e; omega) HOB.out
          have hS3 := SmS.wr hS2 (grown_wr hg7) (fun e => by have h1 := hob7 _ e; have h2 := HOB0.out; omega) (fun e => by have h1 := hob7 _ e; have h2 := HOB0.out; omega)
          have H67 := Lib.hid (h67.mono (S' := fun q => wq.heap.size ≤ q) (fun q e => (hob7 q e).1))
          obtain ⟨a7, c7, rfl, -, -⟩ := own_Sl hown7
          have HOW7 := Lib.hid hown7
          have HOB7 := Lib.hid hOB7
          clear hown7 hg7 hsl h67 hOB7 hob7
          refine hK _ _ hS3 ?_
          clear hK K
          try simp only [List.getElem_toArray, List.getElem_cons_zero, List.getElem_cons_succ, Act.put, List.setIfInBounds_toArray, List.set_cons_zero, List.set_cons_succ]
          repeat (first
            | (refine ord_skip rfl ?_ ?_; rfl; simp only [List.getElem_toArray, List.getElem_cons_zero, List.getElem_cons_succ, Act.put, List.setIfInBounds_toArray, List.set_cons_zero, List.set_cons_succ])
            | (refine ord_take (v := ?_) rfl ?_ (fun W hW => ?_) ?_; rotate_left; rfl; (obtain ⟨hz0, hz1, hz2, hz3, hz4⟩ := hW; go_simp; (first | done | with_reducible rfl)); simp only [List.getElem_toArray, List.getElem_cons_zero, List.getElem_cons_succ, Act.put, List.setIfInBounds_toArray, List.set_cons_zero, List.set_cons_succ]))
          refine ord_op rfl ?_ (fun K hK => ?_)
          rfl
          skip
          have oc := cell_blk (k := 9) HOB7.out
          have of := frozen_blk (k := 9) HOB7.out
          go_simp
          have hS4 := SmS.wr hS3 (Wr.setCell (fun k => k = ob) W3 ⟨ob, 9, none⟩ (.slice a7 ((someK r.gauges m k).length + 1) c7) rfl) (fun e => by have h1 : w.heap.size = ob := e; have h2 := HOB0.out; omega) (fun e => by have h1 : b = ob := e; have h2 := HOB0.out; omega)
          clear oc of
          refine hK _ _ hS4 ?_
          clear hK K
          try simp only [List.getElem_toArray, List.getElem_cons_zero, List.getElem_cons_succ, Act.put, List.setIfInBounds_toArray, List.set_cons_zero, List.set_cons_succ]
          refine ord_nil ?_
          go_wp2_with fail
          go_roundw
          case rel =>
            have e1 : someK r.gauges m (k + 1) = someK r.gauges m k ++ [x] := by simp only [someK, HBB.out, HXX.out, if_true]
            refine ⟨k + 1, .slice a7 ((someK r.gauges m k).length + 1) c7, by omega, by go_num, ?_, ?_, ?_⟩
            · rw [heap_set HOB7.out (k := 9) (.slice a7 ((someK r.gauges m k).length + 1) c7)]; rfl
            · rw [e1, List.length_append, ggs_append]
              exact own_wr HOW7.out (Wr.setCell (fun k => k = ob) _ ⟨ob, 9, none⟩ _ rfl) (fun j hj e => by have : j = ob := e; omega)
            · refine (wr_own HW.out H67.out (fun j hj => hj)).trans (Wr.setCell (fun k => k = ob) _ ⟨ob, 9, none⟩ _ rfl)
          case measure => simp [intOf]; omega
        · skip
          refine ord_op rfl ?_ (fun K hK => ?_)
          rfl
          go_simp
          obtain ⟨bx, hbx⟩ : ∃ n, n = (W0).heap.size := ⟨_, rfl⟩
          obtain ⟨W5, hW5⟩ : ∃ Q, Q = (W0).alloc (.cells #[.int .i64 x.day, .bool x.mud, .int .i64 x.rd.lo, .int .i64 x.rd.hi] 99) := ⟨_, rfl⟩
          have hbb : Below (W0).heap.size (W0) W5 := by rw [hW5]; exact (Below.refl _ _).alloc (Nat.le_refl _) _
          have hsl : Sl W5 (some ⟨bx, 0, none⟩) [.int .i64 x.day, .bool x.mud, .int .i64 x.rd.lo, .int .i64 x.rd.hi] := by rw [hW5, hbx]; exact Sl_new _ _ _
          replace hBc := hBc.trans (hbb.mono hBc.size)
          have hS5 := SmS.wr hS0 (Wr.of_below (S := fun _ => False) hbb) (fun e => e) (fun e => e)
          rw [← hW5, ← hbx]
          clear hW5 hbx hbb
          refine hK _ _ hS5 ?_
          clear hK K
          try simp only [List.getElem_toArray, List.getElem_cons_zero, List.getElem_cons_succ, Act.put, List.setIfInBounds_toArray, List.set_cons_zero, List.set_cons_succ]
          refine ord_op rfl ?_ (fun K hK => ?_)
          rfl
          skip
          have oc : (W5).cell? ⟨ob, 9, none⟩ = some (.slice asv (someK r.gauges m k).length csv) := (hBc.cell (p := ⟨ob, 9, none⟩) hobl).trans (by rw [cell_blk HOB.out]; rfl)
          go_simp
          obtain ⟨W6, hWj⟩ : ∃ Q, Q = W5 := ⟨_, rfl⟩
          subst hWj
          have hS6 := hS5
          clear oc
          refine hK _ _ hS6 ?_
          clear hK K
          try simp only [List.getElem_toArray, List.getElem_cons_zero, List.getElem_cons_succ, Act.put, List.setIfInBounds_toArray, List.set_cons_zero, List.set_cons_succ]
          refine ord_op rfl ?_ (fun K hK => ?_)
          rfl
          skip
          refine wp_app elGgR _ _ rfl rfl rfl (own_below HOW.out hBc) hsl rfl (by intro u hu; simp at hu; rcases hu with rfl | rfl | rfl | rfl <;> rfl) (by omega) (by omega) (by have := hBc.size; omega) ?_
          intro v7 W7 hown7 hg7 _
          have hob7 : ∀ q, (Value.slice asv (someK r.gauges m k).length csv).ownBlock = some q → wq.heap.size ≤ q ∧ q < wr.heap.size := fun q e => HOW.out.lt q e
          have h67 := (Wr.of_below (S := fun q => (Value.slice asv (someK r.gauges m k).length csv).ownBlock = some q) hBc).trans (grown_wr hg7)
          have hOB7 := h67.blk (k := ob) (fun e => by have := hob7 _ e; omega) HOB.out
          have hS7 := SmS.wr hS6 (grown_wr hg7) (fun e => by have h1 := hob7 _ e; have h2 := HOB0.out; omega) (fun e => by have h1 := hob7 _ e; have h2 := HOB0.out; omega)
          have H67 := Lib.hid (h67.mono (S' := fun q => wq.heap.size ≤ q) (fun q e => (hob7 q e).1))
          obtain ⟨a7, c7, rfl, -, -⟩ := own_Sl hown7
          have HOW7 := Lib.hid hown7
          have HOB7 := Lib.hid hOB7
          clear hown7 hg7 hsl h67 hOB7 hob7
          refine hK _ _ hS7 ?_
          clear hK K
          try simp only [List.getElem_toArray, List.getElem_cons_zero, List.getElem_cons_succ, Act.put, List.setIfInBounds_toArray, List.set_cons_zero, List.set_cons_succ]
          repeat (first
            | (refine ord_skip rfl ?_ ?_; rfl; simp only [List.getElem_toArray, List.getElem_cons_zero, List.getElem_cons_succ, Act.put, List.setIfInBounds_toArray, List.set_cons_zero, List.set_cons_succ])
            | (refine ord_take (v := ?_) rfl ?_ (fun W hW => ?_) ?_; rotate_left; rfl; (obtain ⟨hz0, hz1, hz2, hz3, hz4⟩ := hW; go_simp; (first | done | with_reducible rfl)); simp only [List.getElem_toArray, List.getElem_cons_zero, List.getElem_cons_succ, Act.put, List.setIfInBounds_toArray, List.set_cons_zero, List.set_cons_succ]))
          refine ord_op rfl ?_ (fun K hK => ?_)
          rfl
          skip
          have oc := cell_blk (k := 9) HOB7.out
          have of := frozen_blk (k := 9) HOB7.out
          go_simp
          have hS8 := SmS.wr hS7 (Wr.setCell (fun k => k = ob) W7 ⟨ob, 9, none⟩ (.slice a7 ((someK r.gauges m k).length + 1) c7) rfl) (fun e => by have h1 : w.heap.size = ob := e; have h2 := HOB0.out; omega) (fun e => by have h1 : b = ob := e; have h2 := HOB0.out; omega)
          clear oc of
          refine hK _ _ hS8 ?_
          clear hK K
          try simp only [List.getElem_toArray, List.getElem_cons_zero, List.getElem_cons_succ, Act.put, List.setIfInBounds_toArray, List.set_cons_zero, List.set_cons_succ]
          refine ord_nil ?_
          go_wp2_with fail
          go_roundw
          case rel =>
            have e1 : someK r.gauges m (k + 1) = someK r.gauges m k ++ [x] := by simp only [someK, HBB.out, HXX.out, if_true]
            refine ⟨k + 1, .slice a7 ((someK r.gauges m k).length + 1) c7, by omega, by go_num, ?_, ?_, ?_⟩
            · rw [heap_set HOB7.out (k := 9) (.slice a7 ((someK r.gauges m k).length + 1) c7)]; rfl
            · rw [e1, List.length_append, ggs_append]
              exact own_wr HOW7.out (Wr.setCell (fun k => k = ob) _ ⟨ob, 9, none⟩ _ rfl) (fun j hj e => by have : j = ob := e; omega)
            · refine (wr_own HW.out H67.out (fun j hj => hj)).trans (Wr.setCell (fun k => k = ob) _ ⟨ob, 9, none⟩ _ rfl)
          case measure => simp [intOf]; omega
    · have hkn : k = r.gauges.length := by omega
      have HKN := Lib.hid hkn
      have hR : R = { r with gauges := someK r.gauges m k } := by rw [HR.out, hkn]; rfl
      have hwo1 : ¬ (w.heap.size + 1 = ob) := by have := HOB0.out; omega
      have hR5 := HW.out.blk (k := w.heap.size + 1) hwo1 HR4.out
      have f0 := cell_blk (k := 0) HOB.out
      have f1 := cell_blk (k := 1) HOB.out
      have f2 := cell_blk (k := 2) HOB.out
      have f3 := cell_blk (k := 3) HOB.out
      have f4 := cell_blk (k := 4) HOB.out
      have f5 := cell_blk (k := 5) HOB.out
      have f6 := cell_blk (k := 6) HOB.out
      have f7 := cell_blk (k := 7) HOB.out
      have f8 := cell_blk (k := 8) HOB.out
      have f9 := cell_blk (k := 9) HOB.out
      have g0 := cell_blk (k := 0) hR5
      have g1 := cell_blk (k := 1) hR5
      have g2 := cell_blk (k := 2) hR5
      have g3 := cell_blk (k := 3) hR5
      have g4 := cell_blk (k := 4) hR5
      have g5 := cell_blk (k := 5) hR5
      have g6 := cell_blk (k := 6) hR5
      have g7 := cell_blk (k := 7) hR5
      have g8 := cell_blk (k := 8) hR5
      have g9 := cell_blk (k := 9) hR5
      have hRf := fun j => frozen_blk (k := j) hR5
      have hst := store10 hR5 (.int .i64 r.last) (.slice A.sa r.salt.length A.sc) (.slice A.ma r.mud.length A.mc) (.int .i64 r.sweet) (.int .i64 r.clear) (.int .i64 r.size) (.int .i64 r.start) (.int .i64 r.draw) (.slice A.ua r.use.length A.uc) (.slice asv (someK r.gauges m k).length csv)
      have HST := Lib.hid hst
      obtain ⟨_, _, hev, hnc, hsl⟩ := own_Sl HOW.out
      cases hev
      have HSG := Lib.hid hsl
      have SPG := Lib.hid (show ∀ ad, asv = some ad → w.heap.size + 2 ≤ ad.block from fun ad e => by subst e; have h1 := (HOW.out.lt ad.block rfl).1; have h2 := HB0.out.size; have h3 := HOB0.out; omega)
      have HRR := Lib.hid hR
      clear hst hR5 hwo1 hkn hsl hR
      go_wp2_with fail
      obtain ⟨hR6, hW6⟩ := HST.out
      have q0 := cell_blk (k := 0) hR6
      have q1 := cell_blk (k := 1) hR6
      have q2 := cell_blk (k := 2) hR6
      have q3 := cell_blk (k := 3) hR6
      have q4 := cell_blk (k := 4) hR6
      have q5 := cell_blk (k := 5) hR6
      have q6 := cell_blk (k := 6) hR6
      have q7 := cell_blk (k := 7) hR6
      have q8 := cell_blk (k := 8) hR6
      have q9 := cell_blk (k := 9) hR6
      refine bodyPost_ret (v := rivV { r with gauges := someK r.gauges m k } ⟨A.sa, A.sc, A.ma, A.mc, A.ua, A.uc, asv, csv⟩) (by simp [results, Try.results64, go_sem, q0, q1, q2, q3, q4, q5, q6, q7, q8, q9]) rfl ?_
      rw [HRR.out]
      refine ⟨⟨A.sa, A.sc, A.ma, A.mc, A.ua, A.uc, asv, csv⟩, rfl, ?_, HBw.out.trans (hW6.below HBw.out.size (fun j e => by have : j = w.heap.size + 1 := e; omega))⟩
      have hB6 : Below w.heap.size w _ := HBw.out.trans (hW6.below HBw.out.size (fun j e => by have : j = w.heap.size + 1 := e; omega))
      refine ⟨hr.s.below hB6, hr.m.below hB6, hr.u.below hB6, HSG.out.wr hW6 (fun ad e h => ?_)⟩
      have h1 := SPG.out ad e; have h2 : ad.block = w.heap.size + 1 := h; omega
end Go.Proofs.Ytgglfngkomgadaa
