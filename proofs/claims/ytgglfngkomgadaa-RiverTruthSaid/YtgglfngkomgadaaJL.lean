/- a river converted -/
import Derived.Test.YtgglfngkomgadaaJE
import Derived.Test.YtgglfngkomgadaaJJ
import Derived.Test.YtgglfngkomgadaaJF
/- Walks: a river, turned to the program's. -/
namespace Go.Proofs.Ytgglfngkomgadaa
open Go.RowKit Go.Shelf
set_option linter.unusedVariables false
set_option linter.unusedSimpArgs false
set_option maxRecDepth 100000

abbrev rivO26 (r : Riv) (A : RA) : Obj := .cells #[.int .i64 r.last, .slice A.sa r.salt.length A.sc, .slice A.ma r.mud.length A.mc, .int .i64 r.sweet, .int .i64 r.clear, .int .i64 r.size, .int .i64 r.start, .int .i64 r.draw, .slice A.ua r.use.length A.uc, .slice A.ga r.gauges.length A.gc] 26
theorem riv_cells26 {W : World} {bx : Nat} {r : Riv} {A : RA} (h : W.heap[bx]? = some (rivO26 r A)) :
    W.cell? ⟨bx, 0, none⟩ = some (.int .i64 r.last) ∧ W.cell? ⟨bx, 1, none⟩ = some (.slice A.sa r.salt.length A.sc) ∧ W.cell? ⟨bx, 2, none⟩ = some (.slice A.ma r.mud.length A.mc) ∧ W.cell? ⟨bx, 3, none⟩ = some (.int .i64 r.sweet) ∧ W.cell? ⟨bx, 4, none⟩ = some (.int .i64 r.clear) ∧ W.cell? ⟨bx, 5, none⟩ = some (.int .i64 r.size) ∧ W.cell? ⟨bx, 6, none⟩ = some (.int .i64 r.start) ∧ W.cell? ⟨bx, 7, none⟩ = some (.int .i64 r.draw) ∧ W.cell? ⟨bx, 8, none⟩ = some (.slice A.ua r.use.length A.uc) ∧ W.cell? ⟨bx, 9, none⟩ = some (.slice A.ga r.gauges.length A.gc) := by
  refine ⟨?_, ?_, ?_, ?_, ?_, ?_, ?_, ?_, ?_, ?_⟩ <;> (rw [cell_blk h]; rfl)
def RetRiv (r : Riv) (w : World) (e : Ending) (w' : World) : Prop := ∃ A', e = .returned (rivV r A') ∧ Rd w' r A' ∧ r.gauges.length ≤ A'.gc ∧ Below w.heap.size w w'

/-- What a round reads. -/
def RvS (q f b o : Nat) (sl v0 v1 : Value) (W : World) : Prop := W.cell? ⟨q, f, none⟩ = some sl ∧ W.cell? ⟨b, o, none⟩ = some v0 ∧ W.cell? ⟨b, o + 1, none⟩ = some v1
theorem RvS.wr {q f b o : Nat} {sl v0 v1 : Value} {W W' : World} {C : Nat → Prop} (h : RvS q f b o sl v0 v1 W) (hw : Wr C W W') (h1 : ¬ C q) (h2 : ¬ C b) : RvS q f b o sl v0 v1 W' :=
  ⟨hw.cell h1 h.1, hw.cell h2 h.2.1, hw.cell h2 h.2.2⟩
def RvG (g : Nat) (v0 v1 v2 v3 : Value) (W : World) : Prop := W.cell? ⟨g, 0, none⟩ = some v0 ∧ W.cell? ⟨g, 1, none⟩ = some v1 ∧ W.cell? ⟨g, 2, none⟩ = some v2 ∧ W.cell? ⟨g, 3, none⟩ = some v3
theorem RvG.wr {g : Nat} {v0 v1 v2 v3 : Value} {W W' : World} {C : Nat → Prop} (h : RvG g v0 v1 v2 v3 W) (hw : Wr C W W') (h1 : ¬ C g) : RvG g v0 v1 v2 v3 W' :=
  ⟨hw.cell h1 h.1, hw.cell h1 h.2.1, hw.cell h1 h.2.2.1, hw.cell h1 h.2.2.2⟩
theorem wr_own {w0 w w' : World} {ob : Nat} (h : Wr (fun k => k = ob) w0 w) (h2 : Wr (fun q => w0.heap.size ≤ q) w w') (h3 : ∀ j : Nat, w0.heap.size ≤ j → w0.heap.size ≤ j) : Wr (fun k => k = ob) w0 w' :=
  ⟨h2.os.trans h.os, h2.tape.trans h.tape, h2.output.trans h.output, Nat.le_trans h.size h2.size, fun k hk hn => (h2.block k (Nat.lt_of_lt_of_le hk h.size) (fun e => by have : w0.heap.size ≤ k := e; omega)).trans (h.block k hk hn)⟩
theorem grown_wr {w w' : World} {v : Value} (hg : w.grownBy w' v.ownBlock) : Wr (fun k => v.ownBlock = some k) w w' := wr_grown hg

set_option maxHeartbeats 12000000 in
theorem River_c (r : Riv) (A : RA) (w : World) (hr : Rd w r A) (hl1 : r.salt.length ≤ 30) (hl2 : r.mud.length ≤ 30) (hl3 : r.use.length ≤ 30) (hl4 : r.gauges.length ≤ 30) :
    Calls Try.prog 26 #[rivV r A] w (RetRiv r w) := by
  go_enter Try.func26, Try.ntmps26
  go_wp2_with fail
  obtain ⟨wq, hwq⟩ : ∃ wq, (w.alloc (rivO26 r A)).alloc (.cells #[.int .i64 0, .slice none 0 0, .slice none 0 0, .int .i64 0, .int .i64 0, .int .i64 0, .int .i64 0, .int .i64 0, .slice none 0 0, .slice none 0 0] 35) = wq := ⟨_, rfl⟩
  rw [hwq]
  have hq0 : wq.heap[w.heap.size]? = some (rivO26 r A) := by rw [← hwq, Below.heap_alloc _ _ _ (by simp)]; exact heap_alloc_new _ _
  have hq1 : wq.heap[w.heap.size + 1]? = some (.cells #[.int .i64 0, .slice none 0 0, .slice none 0 0, .int .i64 0, .int .i64 0, .int .i64 0, .int .i64 0, .int .i64 0, .slice none 0 0, .slice none 0 0] 35 (0, 0)) := by
    rw [← hwq]
    have h2 := heap_alloc_new (w.alloc (rivO26 r A)) (.cells #[.int .i64 0, .slice none 0 0, .slice none 0 0, .int .i64 0, .int .i64 0, .int .i64 0, .int .i64 0, .int .i64 0, .slice none 0 0, .slice none 0 0] 35)
    simpa using h2
  have hbq : Below w.heap.size w wq := by rw [← hwq]; exact ((Below.refl _ w).alloc (Nat.le_refl _) _).alloc (by simp) _
  have hzq : wq.heap.size = w.heap.size + 2 := by rw [← hwq]; simp
  obtain ⟨k0, k1, k2, k3, k4, k5, k6, k7, k8, k9⟩ := riv_cells26 hq0
  have hlt0 : w.heap.size < wq.heap.size := by omega
  have HQ0 := Lib.hid hq0
  have HQ1 := Lib.hid hq1
  have HZQ := Lib.hid hzq
  clear hwq hq0 hq1 hzq
  refine region_o (S := OldC wq.heap.size wq) (.take 0 (.take 1 (.take 2 (.take 3 (.take 4 (.take 5 (.take 6 (.take 7 (.take 8 (.take 9 (.take 10 (.take 11 (.take 12 (.take 13 (.two 14 16 (.take 15 (.one 16 (.one 17 .nil))) (.one 14 (.take 15 (.one 17 .nil)))))))))))))))))) (by kernel_rfl) (by kernel_rfl) (fun _ _ d _ _ h => by cases d <;> exact h) (oldR (Nat.le_refl _)) ?_
  intro W0 hW0 hS0
  have hBW : Below wq.heap.size wq W0 := by subst hW0; exact (Below.refl _ _).drew
  clear hW0
  repeat (first
    | (refine ord_skip rfl ?_ ?_; rfl; simp only [pz])
    | (refine ord_take (v := ?_) rfl ?_ (fun W hW => ?_) ?_; rotate_left; rfl; (obtain ⟨hz, hcc, hbb⟩ := hW; go_simp; (first | done | with_reducible rfl)); simp only [pz]))
  refine ord_two ?_ ?_
  · skip
    (refine ord_op rfl ?_ (fun K hK => ?_); rfl; go_simp; refine (list_c A.ua r.use A.uc _ ((hr.below (hbq.trans ((hS0).be.mono hbq.size))).u) (by omega)).mono ?_; rintro e W1 ⟨uv, rfl, hown, hb1⟩; obtain ⟨ua, uc, rfl, huc, hus⟩ := own_Sl hown; have hul : ∀ ad, ua = some ad → (W0).heap.size ≤ ad.block ∧ ad.block < W1.heap.size := (fun ad e => by subst e; exact hown.lt ad.block rfl); have hulq : ∀ ad, ua = some ad → wq.heap.size ≤ ad.block := (fun ad e => Nat.le_trans (hS0).sz (hul ad e).1); (try (have hu9 : ∀ ad, ua = some ad → ad.block ≠ ob := fun ad e => by have h1 := hul ad e; have h2 := (Array.getElem?_eq_some_iff.1 hOb).1; omega)); (try (replace hOb := (hb1.block _ (Array.getElem?_eq_some_iff.1 hOb).1).trans hOb)); clear hown; have hS1 := oldK hS0 hb1; refine hK _ _ hS1 ?_; clear hK K; try simp only [pz])
    repeat (first
      | (refine ord_skip rfl ?_ ?_; rfl; simp only [pz])
      | (refine ord_take (v := ?_) rfl ?_ (fun W hW => ?_) ?_; rotate_left; rfl; (obtain ⟨hz, hcc, hbb⟩ := hW; go_simp; (first | done | with_reducible rfl)); simp only [pz]))
    (refine ord_op rfl ?_ (fun K hK => ?_); rfl; go_simp; obtain ⟨ob, hob⟩ : ∃ n, n = (W1).heap.size := ⟨_, rfl⟩; obtain ⟨W2, hW2⟩ : ∃ Q, Q = (W1).alloc (.cells #[.int .i64 0, .slice none 0 0, .slice none 0 0, .int .i64 0, .int .i64 0, .int .i64 0, .int .i64 0, .int .i64 0, .slice none 0 0, .slice none 0 0] 35) := ⟨_, rfl⟩; have hS2 : OldC wq.heap.size wq W2 := (by rw [hW2]; exact oldA hS1 _); have hOb : W2.heap[ob]? = some (.cells #[.int .i64 0, .slice none 0 0, .slice none 0 0, .int .i64 0, .int .i64 0, .int .i64 0, .int .i64 0, .int .i64 0, .slice none 0 0, .slice none 0 0] 35 (0, 0)) := (by rw [hW2, hob]; exact heap_alloc_new _ _); have hobq : wq.heap.size ≤ ob := (by rw [hob]; exact (hS1).sz); (try (have hu9 : ∀ ad, ua = some ad → ad.block ≠ ob := fun ad e => by have h1 := hul ad e; omega)); (try (replace hus := hus.below (W := W2) (by rw [hW2]; exact (Below.refl _ _).alloc (Nat.le_refl _) _))); rw [← hW2, ← hob]; clear hW2 hob; refine hK _ _ hS2 ?_; clear hK K; try simp only [pz])
    refine ord_op rfl ?_ (fun K hK => ?_)
    rfl
    skip
    have hx0 := cell_blk (k := 0) hOb
    have hx1 := cell_blk (k := 1) hOb
    have hx2 := cell_blk (k := 2) hOb
    have hx3 := cell_blk (k := 3) hOb
    have hx4 := cell_blk (k := 4) hOb
    have hx5 := cell_blk (k := 5) hOb
    have hx6 := cell_blk (k := 6) hOb
    have hx7 := cell_blk (k := 7) hOb
    have hx8 := cell_blk (k := 8) hOb
    have hx9 := cell_blk (k := 9) hOb
    have hxf := fun j => frozen_blk (k := j) hOb
    go_simp
    obtain ⟨W3, hW3⟩ : ∃ Q, Q = ((((((((((W2).setCell ⟨ob, 0, none⟩ (.int .i64 r.last)).setCell ⟨ob, 1, none⟩ (.slice none 0 0)).setCell ⟨ob, 2, none⟩ (.slice none 0 0)).setCell ⟨ob, 3, none⟩ (.int .i64 r.sweet)).setCell ⟨ob, 4, none⟩ (.int .i64 r.clear)).setCell ⟨ob, 5, none⟩ (.int .i64 r.size)).setCell ⟨ob, 6, none⟩ (.int .i64 r.start)).setCell ⟨ob, 7, none⟩ (.int .i64 r.draw)).setCell ⟨ob, 8, none⟩ (.slice ua r.use.length uc)).setCell ⟨ob, 9, none⟩ (.slice none 0 0) := ⟨_, rfl⟩
    have hst := store10 hOb (.int .i64 r.last) (.slice none 0 0) (.slice none 0 0) (.int .i64 r.sweet) (.int .i64 r.clear) (.int .i64 r.size) (.int .i64 r.start) (.int .i64 r.draw) (.slice ua r.use.length uc) (.slice none 0 0)
    rw [← hW3] at hst
    obtain ⟨hOb2, hwr⟩ := hst
    have hS3 := oldW hS2 hwr hobq
    replace hus := hus.wr hwr (fun ad e hk => hu9 ad e hk)
    rw [← hW3]
    clear hW3 hOb hx0 hx1 hx2 hx3 hx4 hx5 hx6 hx7 hx8 hx9 hxf hwr
    refine hK _ _ hS3 ?_
    clear hK K
    try simp only [pz]
    refine ord_nil ?_
    obtain ⟨X1, hX1⟩ : ∃ Q, Q = W3 := ⟨_, rfl⟩
    subst hX1
    have HB1 := Lib.hid (hbq.trans (hS3.be.mono hbq.size))
    have HO1 := Lib.hid hOb2
    have HU := Lib.hid hus
    have HU9 := Lib.hid hu9
    have HUQ := Lib.hid hulq
    have B1 := Lib.hid ((hS3.be.block _ hlt0).trans HQ0.out)
    have R1 := Lib.hid ((hS3.be.block _ (by have := HZQ.out; omega)).trans HQ1.out)
    have hobw : w.heap.size + 2 ≤ ob := by have := HZQ.out; omega
    clear k0 k1 k2 k3 k4 k5 k6 k7 k8 k9 hOb2 hus hu9 hul
    go_wp2_with fail
    go_loopw [4] (fun i wr => ∃ (k : Nat) (sv : Value), k ≤ r.salt.length ∧ i = .int .i64 k ∧ wr.heap[ob]? = some (.cells #[.int .i64 r.last, sv, .slice none 0 0, .int .i64 r.sweet, .int .i64 r.clear, .int .i64 r.size, .int .i64 r.start, .int .i64 r.draw, .slice ua r.use.length uc, .slice none 0 0] 35 (0, 0)) ∧ wr.ownsRow X1.heap.size 49 2 sv k (rgs (r.salt.take k)) ∧ Wr (fun k => k = ob) X1 wr) (fun i _ => r.salt.length - (intOf i).toNat)
    case atStart => exact ⟨0, .slice none 0 0, Nat.zero_le _, rfl, HO1.out, World.ownsRow_nil _ _ _ _, Wr.refl _ _⟩
    case round =>
      obtain ⟨k, sv, hk, rfl, hob, hown, hw⟩ := hrel
      have HOB := Lib.hid hob
      have HW := Lib.hid hw
      have HOW := Lib.hid hown
      obtain ⟨asv, csv, rfl, hnc, hslv⟩ := own_Sl hown
      have HSL := Lib.hid hslv
      have HBw := Lib.hid (HB1.out.trans (hw.below HB1.out.size (fun j e => by have : j = ob := e; omega)))
      have hwo : ¬ (w.heap.size = ob) := by omega
      have k1 : wr.cell? ⟨w.heap.size, 1, none⟩ = some (.slice A.sa r.salt.length A.sc) := by rw [cell_blk (hw.blk (k := w.heap.size) hwo B1.out)]; rfl
      have hobl : ob < wr.heap.size := (Array.getElem?_eq_some_iff.1 hob).1
      have hxb : ob < X1.heap.size := (Array.getElem?_eq_some_iff.1 HO1.out).1
      have hxz : X1.heap.size ≤ wr.heap.size := hw.size
      clear hob hw hown hslv hwo
      by_cases hlt : k < r.salt.length
      · obtain ⟨x, hx⟩ : ∃ x, r.salt[k]? = some x := ⟨_, List.getElem?_eq_getElem hlt⟩
        have HX := Lib.hid hx
        obtain ⟨b, o, hao, d1, d2⟩ := (hr.s.below HBw.out).rg_at hx
        obtain ⟨b', o', hao', e1, e2⟩ := hr.s.rg_at hx
        have hbw : b < w.heap.size := by
          have h1 := cell_lt e1
          rw [hao] at hao'
          cases hao'
          exact h1
        rw [hao] at k1
        clear hao hao' e1 e2 hx
        have HKS : RvS w.heap.size 1 b (o + k * 2) (.slice (some ⟨b, o, none⟩) r.salt.length A.sc) (.int .i64 x.lo) (.int .i64 x.hi) wr := ⟨k1, d1, d2⟩
        have ew : IntKind.i64.wrap ((k : Int) + 1) = (k : Int) + 1 := IntWalk.i64_in _ (by omega)
        have HB0 := Lib.hid HBw.out.size
        go_wp2_with fail
        refine region_o (S := RvS w.heap.size 1 b (o + k * 2) (.slice (some ⟨b, o, none⟩) r.salt.length A.sc) (.int .i64 x.lo) (.int .i64 x.hi)) (.take 0 (.take 2 (.take 3 (.take 4 (.take 5 (.take 6 (.two 1 7 (.one 7 (.one 8 (.one 9 (.take 10 (.one 11 .nil))))) (.two 1 8 (.one 8 (.one 9 (.take 10 (.one 11 .nil)))) (.one 1 (.one 9 (.take 10 (.one 11 .nil)))))))))))) (by kernel_rfl) (by kernel_rfl) (fun _ _ d _ _ h => by cases d <;> exact h) (HKS.wr (Wr.of_below (S := fun _ => False) (Below.refl _ _).drew) (fun e => e) (fun e => e)) ?_
        intro W0 hW0 hS0
        have hBW : Below wr.heap.size wr W0 := by subst hW0; exact (Below.refl _ _).drew
        clear hW0
        have hBc := hBW
        repeat (first
          | (refine ord_skip rfl ?_ ?_; rfl; simp only [pz])
          | (refine ord_take (v := ?_) rfl ?_ (fun W hW => ?_) ?_; rotate_left; rfl; (obtain ⟨hz0, hz1, hz2⟩ := hW; go_simp; (first | done | with_reducible rfl)); simp only [pz]))
        refine ord_two ?_ ?_
        · skip
          refine ord_op rfl ?_ (fun K hK => ?_)
          rfl
          skip
          have oc : (W0).cell? ⟨ob, 1, none⟩ = some (.slice asv k csv) := (hBc.cell (p := ⟨ob, 1, none⟩) hobl).trans (by rw [cell_blk HOB.out]; rfl)
          go_simp
          obtain ⟨W1, hWj⟩ : ∃ Q, Q = W0 := ⟨_, rfl⟩
          subst hWj
          have hS1 := hS0
          clear oc
          refine hK _ _ hS1 ?_
          clear hK K
          try simp only [pz]
          refine ord_op rfl ?_ (fun K hK => ?_)
          rfl
          go_simp
          refine (to_c x _).mono ?_
          rintro e W2 ⟨rfl, hb2⟩
          replace hBc := hBc.trans (hb2.mono hBc.size)
          have hS2 := RvS.wr hS1 (Wr.of_below (S := fun _ => False) hb2) (fun e => e) (fun e => e)
          refine hK _ _ hS2 ?_
          clear hK K
          try simp only [pz]
          refine ord_op rfl ?_ (fun K hK => ?_)
          rfl
          go_simp
          obtain ⟨bx, hbx⟩ : ∃ n, n = (W2).heap.size := ⟨_, rfl⟩
          obtain ⟨W3, hW3⟩ : ∃ Q, Q = (W2).alloc (.cells #[.int .i64 x.lo, .int .i64 x.hi] 49) := ⟨_, rfl⟩
          have hbb : Below (W2).heap.size (W2) W3 := by rw [hW3]; exact (Below.refl _ _).alloc (Nat.le_refl _) _
          have hsl : Sl W3 (some ⟨bx, 0, none⟩) [.int .i64 x.lo, .int .i64 x.hi] := by rw [hW3, hbx]; exact Sl_new _ _ _
          replace hBc := hBc.trans (hbb.mono hBc.size)
          have hS3 := RvS.wr hS2 (Wr.of_below (S := fun _ => False) hbb) (fun e => e) (fun e => e)
          rw [← hW3, ← hbx]
          clear hW3 hbx hbb
          refine hK _ _ hS3 ?_
          clear hK K
          try simp only [pz]
          refine ord_op rfl ?_ (fun K hK => ?_)
          rfl
          skip
          refine wp_app elRg _ _ rfl rfl rfl (own_below HOW.out hBc) hsl rfl (by intro u hu; simp at hu; rcases hu with rfl | rfl <;> rfl) (by omega) (by omega) (by have := hBc.size; omega) ?_
          intro v7 W4 hown7 hg7 _
          have hob7 : ∀ q, (Value.slice asv k csv).ownBlock = some q → X1.heap.size ≤ q := fun q e => (HOW.out.lt q e).1
          have h67 := (Wr.of_below (S := fun q => (Value.slice asv k csv).ownBlock = some q) hBc).trans (grown_wr hg7)
          have hOB7 := h67.blk (k := ob) (fun e => by have := hob7 _ e; omega) HOB.out
          have hS4 := RvS.wr hS3 (grown_wr hg7) (fun e => by have h1 := hob7 _ e; have h2 := HB1.out.size; omega) (fun e => by have h1 := hob7 _ e; have h2 := HB1.out.size; omega)
          have h67' := h67
          have H67 := Lib.hid (h67'.mono (S' := fun q => X1.heap.size ≤ q) hob7)
          obtain ⟨a7, c7, rfl, -, -⟩ := own_Sl hown7
          have HOW7 := Lib.hid hown7
          have HOB7 := Lib.hid hOB7
          clear hown7 hg7 hsl h67 h67' hOB7 hob7
          refine hK _ _ hS4 ?_
          clear hK K
          try simp only [pz]
          repeat (first
            | (refine ord_skip rfl ?_ ?_; rfl; simp only [pz])
            | (refine ord_take (v := ?_) rfl ?_ (fun W hW => ?_) ?_; rotate_left; rfl; (obtain ⟨hz0, hz1, hz2⟩ := hW; go_simp; (first | done | with_reducible rfl)); simp only [pz]))
          refine ord_op rfl ?_ (fun K hK => ?_)
          rfl
          skip
          have oc := cell_blk (k := 1) HOB7.out
          have of := frozen_blk (k := 1) HOB7.out
          go_simp
          have hS5 := RvS.wr hS4 (Wr.setCell (fun k => k = ob) W4 ⟨ob, 1, none⟩ (.slice a7 (k + 1) c7) rfl) (fun e => by have : w.heap.size = ob := e; omega) (fun e => by have : b = ob := e; omega)
          clear oc of
          refine hK _ _ hS5 ?_
          clear hK K
          try simp only [pz]
          refine ord_nil ?_
          go_wp2_with fail
          go_roundw
          case rel =>
            refine ⟨k + 1, .slice a7 (k + 1) c7, by omega, by go_num, ?_, ?_, ?_⟩
            · rw [heap_set HOB7.out (k := 1) (.slice a7 (k + 1) c7)]; rfl
            · rw [List.take_add_one, HX.out, rgs_append]
              exact own_wr HOW7.out (Wr.setCell (fun k => k = ob) _ ⟨ob, 1, none⟩ _ rfl) (fun j hj e => by have : j = ob := e; omega)
            · refine (wr_own HW.out H67.out (fun j hj => hj)).trans (Wr.setCell (fun k => k = ob) _ ⟨ob, 1, none⟩ _ rfl)
          case measure => simp [intOf]; omega
        · skip
          refine ord_op rfl ?_ (fun K hK => ?_)
          rfl
          go_simp
          refine (to_c x _).mono ?_
          rintro e W6 ⟨rfl, hb6⟩
          replace hBc := hBc.trans (hb6.mono hBc.size)
          have hS6 := RvS.wr hS0 (Wr.of_below (S := fun _ => False) hb6) (fun e => e) (fun e => e)
          refine hK _ _ hS6 ?_
          clear hK K
          try simp only [pz]
          refine ord_two ?_ ?_
          · skip
            refine ord_op rfl ?_ (fun K hK => ?_)
            rfl
            skip
            have oc : (W6).cell? ⟨ob, 1, none⟩ = some (.slice asv k csv) := (hBc.cell (p := ⟨ob, 1, none⟩) hobl).trans (by rw [cell_blk HOB.out]; rfl)
            go_simp
            obtain ⟨W7, hWj⟩ : ∃ Q, Q = W6 := ⟨_, rfl⟩
            subst hWj
            have hS7 := hS6
            clear oc
            refine hK _ _ hS7 ?_
            clear hK K
            try simp only [pz]
            refine ord_op rfl ?_ (fun K hK => ?_)
            rfl
            go_simp
            obtain ⟨bx, hbx⟩ : ∃ n, n = (W7).heap.size := ⟨_, rfl⟩
            obtain ⟨W8, hW8⟩ : ∃ Q, Q = (W7).alloc (.cells #[.int .i64 x.lo, .int .i64 x.hi] 49) := ⟨_, rfl⟩
            have hbb : Below (W7).heap.size (W7) W8 := by rw [hW8]; exact (Below.refl _ _).alloc (Nat.le_refl _) _
            have hsl : Sl W8 (some ⟨bx, 0, none⟩) [.int .i64 x.lo, .int .i64 x.hi] := by rw [hW8, hbx]; exact Sl_new _ _ _
            replace hBc := hBc.trans (hbb.mono hBc.size)
            have hS8 := RvS.wr hS7 (Wr.of_below (S := fun _ => False) hbb) (fun e => e) (fun e => e)
            rw [← hW8, ← hbx]
            clear hW8 hbx hbb
            refine hK _ _ hS8 ?_
            clear hK K
            try simp only [pz]
            refine ord_op rfl ?_ (fun K hK => ?_)
            rfl
            skip
            refine wp_app elRg _ _ rfl rfl rfl (own_below HOW.out hBc) hsl rfl (by intro u hu; simp at hu; rcases hu with rfl | rfl <;> rfl) (by omega) (by omega) (by have := hBc.size; omega) ?_
            intro v7 W9 hown7 hg7 _
            have hob7 : ∀ q, (Value.slice asv k csv).ownBlock = some q → X1.heap.size ≤ q := fun q e => (HOW.out.lt q e).1
            have h67 := (Wr.of_below (S := fun q => (Value.slice asv k csv).ownBlock = some q) hBc).trans (grown_wr hg7)
            have hOB7 := h67.blk (k := ob) (fun e => by have := hob7 _ e; omega) HOB.out
            have hS9 := RvS.wr hS8 (grown_wr hg7) (fun e => by have h1 := hob7 _ e; have h2 := HB1.out.size; omega) (fun e => by have h1 := hob7 _ e; have h2 := HB1.out.size; omega)
            have h67' := h67
            have H67 := Lib.hid (h67'.mono (S' := fun q => X1.heap.size ≤ q) hob7)
            obtain ⟨a7, c7, rfl, -, -⟩ := own_Sl hown7
            have HOW7 := Lib.hid hown7
            have HOB7 := Lib.hid hOB7
            clear hown7 hg7 hsl h67 h67' hOB7 hob7
            refine hK _ _ hS9 ?_
            clear hK K
            try simp only [pz]
            repeat (first
              | (refine ord_skip rfl ?_ ?_; rfl; simp only [pz])
              | (refine ord_take (v := ?_) rfl ?_ (fun W hW => ?_) ?_; rotate_left; rfl; (obtain ⟨hz0, hz1, hz2⟩ := hW; go_simp; (first | done | with_reducible rfl)); simp only [pz]))
            refine ord_op rfl ?_ (fun K hK => ?_)
            rfl
            skip
            have oc := cell_blk (k := 1) HOB7.out
            have of := frozen_blk (k := 1) HOB7.out
            go_simp
            have hS10 := RvS.wr hS9 (Wr.setCell (fun k => k = ob) W9 ⟨ob, 1, none⟩ (.slice a7 (k + 1) c7) rfl) (fun e => by have : w.heap.size = ob := e; omega) (fun e => by have : b = ob := e; omega)
            clear oc of
            refine hK _ _ hS10 ?_
            clear hK K
            try simp only [pz]
            refine ord_nil ?_
            go_wp2_with fail
            go_roundw
            case rel =>
              refine ⟨k + 1, .slice a7 (k + 1) c7, by omega, by go_num, ?_, ?_, ?_⟩
              · rw [heap_set HOB7.out (k := 1) (.slice a7 (k + 1) c7)]; rfl
              · rw [List.take_add_one, HX.out, rgs_append]
                exact own_wr HOW7.out (Wr.setCell (fun k => k = ob) _ ⟨ob, 1, none⟩ _ rfl) (fun j hj e => by have : j = ob := e; omega)
              · refine (wr_own HW.out H67.out (fun j hj => hj)).trans (Wr.setCell (fun k => k = ob) _ ⟨ob, 1, none⟩ _ rfl)
            case measure => simp [intOf]; omega
          · skip
            refine ord_op rfl ?_ (fun K hK => ?_)
            rfl
            go_simp
            obtain ⟨bx, hbx⟩ : ∃ n, n = (W6).heap.size := ⟨_, rfl⟩
            obtain ⟨W11, hW11⟩ : ∃ Q, Q = (W6).alloc (.cells #[.int .i64 x.lo, .int .i64 x.hi] 49) := ⟨_, rfl⟩
            have hbb : Below (W6).heap.size (W6) W11 := by rw [hW11]; exact (Below.refl _ _).alloc (Nat.le_refl _) _
            have hsl : Sl W11 (some ⟨bx, 0, none⟩) [.int .i64 x.lo, .int .i64 x.hi] := by rw [hW11, hbx]; exact Sl_new _ _ _
            replace hBc := hBc.trans (hbb.mono hBc.size)
            have hS11 := RvS.wr hS6 (Wr.of_below (S := fun _ => False) hbb) (fun e => e) (fun e => e)
            rw [← hW11, ← hbx]
            clear hW11 hbx hbb
            refine hK _ _ hS11 ?_
            clear hK K
            try simp only [pz]
            refine ord_op rfl ?_ (fun K hK => ?_)
            rfl
            skip
            have oc : (W11).cell? ⟨ob, 1, none⟩ = some (.slice asv k csv) := (hBc.cell (p := ⟨ob, 1, none⟩) hobl).trans (by rw [cell_blk HOB.out]; rfl)
            go_simp
            obtain ⟨W12, hWj⟩ : ∃ Q, Q = W11 := ⟨_, rfl⟩
            subst hWj
            have hS12 := hS11
            clear oc
            refine hK _ _ hS12 ?_
            clear hK K
            try simp only [pz]
            refine ord_op rfl ?_ (fun K hK => ?_)
            rfl
            skip
            refine wp_app elRg _ _ rfl rfl rfl (own_below HOW.out hBc) hsl rfl (by intro u hu; simp at hu; rcases hu with rfl | rfl <;> rfl) (by omega) (by omega) (by have := hBc.size; omega) ?_
            intro v7 W13 hown7 hg7 _
            have hob7 : ∀ q, (Value.slice asv k csv).ownBlock = some q → X1.heap.size ≤ q := fun q e => (HOW.out.lt q e).1
            have h67 := (Wr.of_below (S := fun q => (Value.slice asv k csv).ownBlock = some q) hBc).trans (grown_wr hg7)
            have hOB7 := h67.blk (k := ob) (fun e => by have := hob7 _ e; omega) HOB.out
            have hS13 := RvS.wr hS12 (grown_wr hg7) (fun e => by have h1 := hob7 _ e; have h2 := HB1.out.size; omega) (fun e => by have h1 := hob7 _ e; have h2 := HB1.out.size; omega)
            have h67' := h67
            have H67 := Lib.hid (h67'.mono (S' := fun q => X1.heap.size ≤ q) hob7)
            obtain ⟨a7, c7, rfl, -, -⟩ := own_Sl hown7
            have HOW7 := Lib.hid hown7
            have HOB7 := Lib.hid hOB7
            clear hown7 hg7 hsl h67 h67' hOB7 hob7
            refine hK _ _ hS13 ?_
            clear hK K
            try simp only [pz]
            repeat (first
              | (refine ord_skip rfl ?_ ?_; rfl; simp only [pz])
              | (refine ord_take (v := ?_) rfl ?_ (fun W hW => ?_) ?_; rotate_left; rfl; (obtain ⟨hz0, hz1, hz2⟩ := hW; go_simp; (first | done | with_reducible rfl)); simp only [pz]))
            refine ord_op rfl ?_ (fun K hK => ?_)
            rfl
            skip
            have oc := cell_blk (k := 1) HOB7.out
            have of := frozen_blk (k := 1) HOB7.out
            go_simp
            have hS14 := RvS.wr hS13 (Wr.setCell (fun k => k = ob) W13 ⟨ob, 1, none⟩ (.slice a7 (k + 1) c7) rfl) (fun e => by have : w.heap.size = ob := e; omega) (fun e => by have : b = ob := e; omega)
            clear oc of
            refine hK _ _ hS14 ?_
            clear hK K
            try simp only [pz]
            refine ord_nil ?_
            go_wp2_with fail
            go_roundw
            case rel =>
              refine ⟨k + 1, .slice a7 (k + 1) c7, by omega, by go_num, ?_, ?_, ?_⟩
              · rw [heap_set HOB7.out (k := 1) (.slice a7 (k + 1) c7)]; rfl
              · rw [List.take_add_one, HX.out, rgs_append]
                exact own_wr HOW7.out (Wr.setCell (fun k => k = ob) _ ⟨ob, 1, none⟩ _ rfl) (fun j hj e => by have : j = ob := e; omega)
              · refine (wr_own HW.out H67.out (fun j hj => hj)).trans (Wr.setCell (fun k => k = ob) _ ⟨ob, 1, none⟩ _ rfl)
            case measure => simp [intOf]; omega
      · have hkn : k = r.salt.length := by omega
        have HKN := Lib.hid hkn
        obtain ⟨X2, hXX⟩ : ∃ Q, Q = wr := ⟨_, rfl⟩
        subst hXX
        obtain ⟨cS, hcS⟩ : ∃ c, c = csv := ⟨_, rfl⟩
        subst hcS
        obtain ⟨aS, haS⟩ : ∃ c, c = asv := ⟨_, rfl⟩
        subst haS
        have HO2 := Lib.hid (show X2.heap[ob]? = some (.cells #[.int .i64 r.last, .slice aS r.salt.length cS, .slice none 0 0, .int .i64 r.sweet, .int .i64 r.clear, .int .i64 r.size, .int .i64 r.start, .int .i64 r.draw, .slice ua r.use.length uc, .slice none 0 0] 35 (0, 0)) from by rw [← HKN.out]; exact HOB.out)
        have HB2 := Lib.hid HBw.out
        have hwo : ¬ (w.heap.size = ob) := by omega
        have B2 := Lib.hid (HW.out.blk (k := w.heap.size) hwo B1.out)
        have hwo1 : ¬ (w.heap.size + 1 = ob) := by omega
        have R2 := Lib.hid (HW.out.blk (k := w.heap.size + 1) hwo1 R1.out)
        have SLS := Lib.hid (show Sl X2 aS (rgs r.salt) from by have := HSL.out; rw [HKN.out, List.take_length] at this; exact this)
        have SPS := Lib.hid (show ∀ ad, aS = some ad → ad.block ≠ ob from fun ad e => by subst e; have := (HOW.out.lt ad.block rfl).1; omega)
        have HRS := Lib.hid (show ∀ ad, aS = some ad → ad.block ≥ w.heap.size + 2 from fun ad e => by subst e; have := (HOW.out.lt ad.block rfl).1; omega)
        have WX1 := Lib.hid HW.out
        clear HOB HW HOW HSL HBw hwo hwo1 hkn HKN hk hxb hxz hobl hnc
        have HRES1 := Lib.hid (show ∀ ad, aS = some ad → ad.block ≥ w.heap.size + 2 from HRS.out)
        go_wp2_with fail
        go_loopw [5] (fun i wr => ∃ (k : Nat) (sv : Value), k ≤ r.mud.length ∧ i = .int .i64 k ∧ wr.heap[ob]? = some (.cells #[.int .i64 r.last, .slice aS r.salt.length cS, sv, .int .i64 r.sweet, .int .i64 r.clear, .int .i64 r.size, .int .i64 r.start, .int .i64 r.draw, .slice ua r.use.length uc, .slice none 0 0] 35 (0, 0)) ∧ wr.ownsRow X2.heap.size 49 2 sv k (rgs (r.mud.take k)) ∧ Wr (fun k => k = ob) X2 wr) (fun i _ => r.mud.length - (intOf i).toNat)
        case atStart => exact ⟨0, .slice none 0 0, Nat.zero_le _, rfl, HO2.out, World.ownsRow_nil _ _ _ _, Wr.refl _ _⟩
        case round =>
          obtain ⟨k, sv, hk, rfl, hob, hown, hw⟩ := hrel
          have HOB := Lib.hid hob
          have HW := Lib.hid hw
          have HOW := Lib.hid hown
          obtain ⟨asv, csv, rfl, hnc, hslv⟩ := own_Sl hown
          have HSL := Lib.hid hslv
          have HBw := Lib.hid (HB2.out.trans (hw.below HB2.out.size (fun j e => by have : j = ob := e; omega)))
          have hwo : ¬ (w.heap.size = ob) := by omega
          have k1 : wr.cell? ⟨w.heap.size, 2, none⟩ = some (.slice A.ma r.mud.length A.mc) := by rw [cell_blk (hw.blk (k := w.heap.size) hwo B2.out)]; rfl
          have hobl : ob < wr.heap.size := (Array.getElem?_eq_some_iff.1 hob).1
          have hxb : ob < X2.heap.size := (Array.getElem?_eq_some_iff.1 HO2.out).1
          have hxz : X2.heap.size ≤ wr.heap.size := hw.size
          clear hob hw hown hslv hwo
          by_cases hlt : k < r.mud.length
          · obtain ⟨x, hx⟩ : ∃ x, r.mud[k]? = some x := ⟨_, List.getElem?_eq_getElem hlt⟩
            have HX := Lib.hid hx
            obtain ⟨b, o, hao, d1, d2⟩ := (hr.m.below HBw.out).rg_at hx
            obtain ⟨b', o', hao', e1, e2⟩ := hr.m.rg_at hx
            have hbw : b < w.heap.size := by
              have h1 := cell_lt e1
              rw [hao] at hao'
              cases hao'
              exact h1
            rw [hao] at k1
            clear hao hao' e1 e2 hx
            have HKS : RvS w.heap.size 2 b (o + k * 2) (.slice (some ⟨b, o, none⟩) r.mud.length A.mc) (.int .i64 x.lo) (.int .i64 x.hi) wr := ⟨k1, d1, d2⟩
            have ew : IntKind.i64.wrap ((k : Int) + 1) = (k : Int) + 1 := IntWalk.i64_in _ (by omega)
            have HB0 := Lib.hid HBw.out.size
            go_wp2_with fail
            refine region_o (S := RvS w.heap.size 2 b (o + k * 2) (.slice (some ⟨b, o, none⟩) r.mud.length A.mc) (.int .i64 x.lo) (.int .i64 x.hi)) (.take 0 (.take 2 (.take 3 (.take 4 (.take 5 (.take 6 (.two 1 7 (.one 7 (.one 8 (.one 9 (.take 10 (.one 11 .nil))))) (.two 1 8 (.one 8 (.one 9 (.take 10 (.one 11 .nil)))) (.one 1 (.one 9 (.take 10 (.one 11 .nil)))))))))))) (by kernel_rfl) (by kernel_rfl) (fun _ _ d _ _ h => by cases d <;> exact h) (HKS.wr (Wr.of_below (S := fun _ => False) (Below.refl _ _).drew) (fun e => e) (fun e => e)) ?_
            intro W0 hW0 hS0
            have hBW : Below wr.heap.size wr W0 := by subst hW0; exact (Below.refl _ _).drew
            clear hW0
            have hBc := hBW
            repeat (first
              | (refine ord_skip rfl ?_ ?_; rfl; simp only [pz])
              | (refine ord_take (v := ?_) rfl ?_ (fun W hW => ?_) ?_; rotate_left; rfl; (obtain ⟨hz0, hz1, hz2⟩ := hW; go_simp; (first | done | with_reducible rfl)); simp only [pz]))
            refine ord_two ?_ ?_
            · skip
              refine ord_op rfl ?_ (fun K hK => ?_)
              rfl
              skip
              have oc : (W0).cell? ⟨ob, 2, none⟩ = some (.slice asv k csv) := (hBc.cell (p := ⟨ob, 2, none⟩) hobl).trans (by rw [cell_blk HOB.out]; rfl)
              go_simp
              obtain ⟨W1, hWj⟩ : ∃ Q, Q = W0 := ⟨_, rfl⟩
              subst hWj
              have hS1 := hS0
              clear oc
              refine hK _ _ hS1 ?_
              clear hK K
              try simp only [pz]
              refine ord_op rfl ?_ (fun K hK => ?_)
              rfl
              go_simp
              refine (to_c x _).mono ?_
              rintro e W2 ⟨rfl, hb2⟩
              replace hBc := hBc.trans (hb2.mono hBc.size)
              have hS2 := RvS.wr hS1 (Wr.of_below (S := fun _ => False) hb2) (fun e => e) (fun e => e)
              refine hK _ _ hS2 ?_
              clear hK K
              try simp only [pz]
              refine ord_op rfl ?_ (fun K hK => ?_)
              rfl
              go_simp
              obtain ⟨bx, hbx⟩ : ∃ n, n = (W2).heap.size := ⟨_, rfl⟩
              obtain ⟨W3, hW3⟩ : ∃ Q, Q = (W2).alloc (.cells #[.int .i64 x.lo, .int .i64 x.hi] 49) := ⟨_, rfl⟩
              have hbb : Below (W2).heap.size (W2) W3 := by rw [hW3]; exact (Below.refl _ _).alloc (Nat.le_refl _) _
              have hsl : Sl W3 (some ⟨bx, 0, none⟩) [.int .i64 x.lo, .int .i64 x.hi] := by rw [hW3, hbx]; exact Sl_new _ _ _
              replace hBc := hBc.trans (hbb.mono hBc.size)
              have hS3 := RvS.wr hS2 (Wr.of_below (S := fun _ => False) hbb) (fun e => e) (fun e => e)
              rw [← hW3, ← hbx]
              clear hW3 hbx hbb
              refine hK _ _ hS3 ?_
              clear hK K
              try simp only [pz]
              refine ord_op rfl ?_ (fun K hK => ?_)
              rfl
              skip
              refine wp_app elRg _ _ rfl rfl rfl (own_below HOW.out hBc) hsl rfl (by intro u hu; simp at hu; rcases hu with rfl | rfl <;> rfl) (by omega) (by omega) (by have := hBc.size; omega) ?_
              intro v7 W4 hown7 hg7 _
              have hob7 : ∀ q, (Value.slice asv k csv).ownBlock = some q → X2.heap.size ≤ q := fun q e => (HOW.out.lt q e).1
              have h67 := (Wr.of_below (S := fun q => (Value.slice asv k csv).ownBlock = some q) hBc).trans (grown_wr hg7)
              have hOB7 := h67.blk (k := ob) (fun e => by have := hob7 _ e; omega) HOB.out
              have hS4 := RvS.wr hS3 (grown_wr hg7) (fun e => by have h1 := hob7 _ e; have h2 := HB2.out.size; omega) (fun e => by have h1 := hob7 _ e; have h2 := HB2.out.size; omega)
              have h67' := h67
              have H67 := Lib.hid (h67'.mono (S' := fun q => X2.heap.size ≤ q) hob7)
              obtain ⟨a7, c7, rfl, -, -⟩ := own_Sl hown7
              have HOW7 := Lib.hid hown7
              have HOB7 := Lib.hid hOB7
              clear hown7 hg7 hsl h67 h67' hOB7 hob7
              refine hK _ _ hS4 ?_
              clear hK K
              try simp only [pz]
              repeat (first
                | (refine ord_skip rfl ?_ ?_; rfl; simp only [pz])
                | (refine ord_take (v := ?_) rfl ?_ (fun W hW => ?_) ?_; rotate_left; rfl; (obtain ⟨hz0, hz1, hz2⟩ := hW; go_simp; (first | done | with_reducible rfl)); simp only [pz]))
              refine ord_op rfl ?_ (fun K hK => ?_)
              rfl
              skip
              have oc := cell_blk (k := 2) HOB7.out
              have of := frozen_blk (k := 2) HOB7.out
              go_simp
              have hS5 := RvS.wr hS4 (Wr.setCell (fun k => k = ob) W4 ⟨ob, 2, none⟩ (.slice a7 (k + 1) c7) rfl) (fun e => by have : w.heap.size = ob := e; omega) (fun e => by have : b = ob := e; omega)
              clear oc of
              refine hK _ _ hS5 ?_
              clear hK K
              try simp only [pz]
              refine ord_nil ?_
              go_wp2_with fail
              go_roundw
              case rel =>
                refine ⟨k + 1, .slice a7 (k + 1) c7, by omega, by go_num, ?_, ?_, ?_⟩
                · rw [heap_set HOB7.out (k := 2) (.slice a7 (k + 1) c7)]; rfl
                · rw [List.take_add_one, HX.out, rgs_append]
                  exact own_wr HOW7.out (Wr.setCell (fun k => k = ob) _ ⟨ob, 2, none⟩ _ rfl) (fun j hj e => by have : j = ob := e; omega)
                · refine (wr_own HW.out H67.out (fun j hj => hj)).trans (Wr.setCell (fun k => k = ob) _ ⟨ob, 2, none⟩ _ rfl)
              case measure => simp [intOf]; omega
            · skip
              refine ord_op rfl ?_ (fun K hK => ?_)
              rfl
              go_simp
              refine (to_c x _).mono ?_
              rintro e W6 ⟨rfl, hb6⟩
              replace hBc := hBc.trans (hb6.mono hBc.size)
              have hS6 := RvS.wr hS0 (Wr.of_below (S := fun _ => False) hb6) (fun e => e) (fun e => e)
              refine hK _ _ hS6 ?_
              clear hK K
              try simp only [pz]
              refine ord_two ?_ ?_
              · skip
                refine ord_op rfl ?_ (fun K hK => ?_)
                rfl
                skip
                have oc : (W6).cell? ⟨ob, 2, none⟩ = some (.slice asv k csv) := (hBc.cell (p := ⟨ob, 2, none⟩) hobl).trans (by rw [cell_blk HOB.out]; rfl)
                go_simp
                obtain ⟨W7, hWj⟩ : ∃ Q, Q = W6 := ⟨_, rfl⟩
                subst hWj
                have hS7 := hS6
                clear oc
                refine hK _ _ hS7 ?_
                clear hK K
                try simp only [pz]
                refine ord_op rfl ?_ (fun K hK => ?_)
                rfl
                go_simp
                obtain ⟨bx, hbx⟩ : ∃ n, n = (W7).heap.size := ⟨_, rfl⟩
                obtain ⟨W8, hW8⟩ : ∃ Q, Q = (W7).alloc (.cells #[.int .i64 x.lo, .int .i64 x.hi] 49) := ⟨_, rfl⟩
                have hbb : Below (W7).heap.size (W7) W8 := by rw [hW8]; exact (Below.refl _ _).alloc (Nat.le_refl _) _
                have hsl : Sl W8 (some ⟨bx, 0, none⟩) [.int .i64 x.lo, .int .i64 x.hi] := by rw [hW8, hbx]; exact Sl_new _ _ _
                replace hBc := hBc.trans (hbb.mono hBc.size)
                have hS8 := RvS.wr hS7 (Wr.of_below (S := fun _ => False) hbb) (fun e => e) (fun e => e)
                rw [← hW8, ← hbx]
                clear hW8 hbx hbb
                refine hK _ _ hS8 ?_
                clear hK K
                try simp only [pz]
                refine ord_op rfl ?_ (fun K hK => ?_)
                rfl
                skip
                refine wp_app elRg _ _ rfl rfl rfl (own_below HOW.out hBc) hsl rfl (by intro u hu; simp at hu; rcases hu with rfl | rfl <;> rfl) (by omega) (by omega) (by have := hBc.size; omega) ?_
                intro v7 W9 hown7 hg7 _
                have hob7 : ∀ q, (Value.slice asv k csv).ownBlock = some q → X2.heap.size ≤ q := fun q e => (HOW.out.lt q e).1
                have h67 := (Wr.of_below (S := fun q => (Value.slice asv k csv).ownBlock = some q) hBc).trans (grown_wr hg7)
                have hOB7 := h67.blk (k := ob) (fun e => by have := hob7 _ e; omega) HOB.out
                have hS9 := RvS.wr hS8 (grown_wr hg7) (fun e => by have h1 := hob7 _ e; have h2 := HB2.out.size; omega) (fun e => by have h1 := hob7 _ e; have h2 := HB2.out.size; omega)
                have h67' := h67
                have H67 := Lib.hid (h67'.mono (S' := fun q => X2.heap.size ≤ q) hob7)
                obtain ⟨a7, c7, rfl, -, -⟩ := own_Sl hown7
                have HOW7 := Lib.hid hown7
                have HOB7 := Lib.hid hOB7
                clear hown7 hg7 hsl h67 h67' hOB7 hob7
                refine hK _ _ hS9 ?_
                clear hK K
                try simp only [pz]
                repeat (first
                  | (refine ord_skip rfl ?_ ?_; rfl; simp only [pz])
                  | (refine ord_take (v := ?_) rfl ?_ (fun W hW => ?_) ?_; rotate_left; rfl; (obtain ⟨hz0, hz1, hz2⟩ := hW; go_simp; (first | done | with_reducible rfl)); simp only [pz]))
                refine ord_op rfl ?_ (fun K hK => ?_)
                rfl
                skip
                have oc := cell_blk (k := 2) HOB7.out
                have of := frozen_blk (k := 2) HOB7.out
                go_simp
                have hS10 := RvS.wr hS9 (Wr.setCell (fun k => k = ob) W9 ⟨ob, 2, none⟩ (.slice a7 (k + 1) c7) rfl) (fun e => by have : w.heap.size = ob := e; omega) (fun e => by have : b = ob := e; omega)
                clear oc of
                refine hK _ _ hS10 ?_
                clear hK K
                try simp only [pz]
                refine ord_nil ?_
                go_wp2_with fail
                go_roundw
                case rel =>
                  refine ⟨k + 1, .slice a7 (k + 1) c7, by omega, by go_num, ?_, ?_, ?_⟩
                  · rw [heap_set HOB7.out (k := 2) (.slice a7 (k + 1) c7)]; rfl
                  · rw [List.take_add_one, HX.out, rgs_append]
                    exact own_wr HOW7.out (Wr.setCell (fun k => k = ob) _ ⟨ob, 2, none⟩ _ rfl) (fun j hj e => by have : j = ob := e; omega)
                  · refine (wr_own HW.out H67.out (fun j hj => hj)).trans (Wr.setCell (fun k => k = ob) _ ⟨ob, 2, none⟩ _ rfl)
                case measure => simp [intOf]; omega
              · skip
                refine ord_op rfl ?_ (fun K hK => ?_)
                rfl
                go_simp
                obtain ⟨bx, hbx⟩ : ∃ n, n = (W6).heap.size := ⟨_, rfl⟩
                obtain ⟨W11, hW11⟩ : ∃ Q, Q = (W6).alloc (.cells #[.int .i64 x.lo, .int .i64 x.hi] 49) := ⟨_, rfl⟩
                have hbb : Below (W6).heap.size (W6) W11 := by rw [hW11]; exact (Below.refl _ _).alloc (Nat.le_refl _) _
                have hsl : Sl W11 (some ⟨bx, 0, none⟩) [.int .i64 x.lo, .int .i64 x.hi] := by rw [hW11, hbx]; exact Sl_new _ _ _
                replace hBc := hBc.trans (hbb.mono hBc.size)
                have hS11 := RvS.wr hS6 (Wr.of_below (S := fun _ => False) hbb) (fun e => e) (fun e => e)
                rw [← hW11, ← hbx]
                clear hW11 hbx hbb
                refine hK _ _ hS11 ?_
                clear hK K
                try simp only [pz]
                refine ord_op rfl ?_ (fun K hK => ?_)
                rfl
                skip
                have oc : (W11).cell? ⟨ob, 2, none⟩ = some (.slice asv k csv) := (hBc.cell (p := ⟨ob, 2, none⟩) hobl).trans (by rw [cell_blk HOB.out]; rfl)
                go_simp
                obtain ⟨W12, hWj⟩ : ∃ Q, Q = W11 := ⟨_, rfl⟩
                subst hWj
                have hS12 := hS11
                clear oc
                refine hK _ _ hS12 ?_
                clear hK K
                try simp only [pz]
                refine ord_op rfl ?_ (fun K hK => ?_)
                rfl
                skip
                refine wp_app elRg _ _ rfl rfl rfl (own_below HOW.out hBc) hsl rfl (by intro u hu; simp at hu; rcases hu with rfl | rfl <;> rfl) (by omega) (by omega) (by have := hBc.size; omega) ?_
                intro v7 W13 hown7 hg7 _
                have hob7 : ∀ q, (Value.slice asv k csv).ownBlock = some q → X2.heap.size ≤ q := fun q e => (HOW.out.lt q e).1
                have h67 := (Wr.of_below (S := fun q => (Value.slice asv k csv).ownBlock = some q) hBc).trans (grown_wr hg7)
                have hOB7 := h67.blk (k := ob) (fun e => by have := hob7 _ e; omega) HOB.out
                have hS13 := RvS.wr hS12 (grown_wr hg7) (fun e => by have h1 := hob7 _ e; have h2 := HB2.out.size; omega) (fun e => by have h1 := hob7 _ e; have h2 := HB2.out.size; omega)
                have h67' := h67
                have H67 := Lib.hid (h67'.mono (S' := fun q => X2.heap.size ≤ q) hob7)
                obtain ⟨a7, c7, rfl, -, -⟩ := own_Sl hown7
                have HOW7 := Lib.hid hown7
                have HOB7 := Lib.hid hOB7
                clear hown7 hg7 hsl h67 h67' hOB7 hob7
                refine hK _ _ hS13 ?_
                clear hK K
                try simp only [pz]
                repeat (first
                  | (refine ord_skip rfl ?_ ?_; rfl; simp only [pz])
                  | (refine ord_take (v := ?_) rfl ?_ (fun W hW => ?_) ?_; rotate_left; rfl; (obtain ⟨hz0, hz1, hz2⟩ := hW; go_simp; (first | done | with_reducible rfl)); simp only [pz]))
                refine ord_op rfl ?_ (fun K hK => ?_)
                rfl
                skip
                have oc := cell_blk (k := 2) HOB7.out
                have of := frozen_blk (k := 2) HOB7.out
                go_simp
                have hS14 := RvS.wr hS13 (Wr.setCell (fun k => k = ob) W13 ⟨ob, 2, none⟩ (.slice a7 (k + 1) c7) rfl) (fun e => by have : w.heap.size = ob := e; omega) (fun e => by have : b = ob := e; omega)
                clear oc of
                refine hK _ _ hS14 ?_
                clear hK K
                try simp only [pz]
                refine ord_nil ?_
                go_wp2_with fail
                go_roundw
                case rel =>
                  refine ⟨k + 1, .slice a7 (k + 1) c7, by omega, by go_num, ?_, ?_, ?_⟩
                  · rw [heap_set HOB7.out (k := 2) (.slice a7 (k + 1) c7)]; rfl
                  · rw [List.take_add_one, HX.out, rgs_append]
                    exact own_wr HOW7.out (Wr.setCell (fun k => k = ob) _ ⟨ob, 2, none⟩ _ rfl) (fun j hj e => by have : j = ob := e; omega)
                  · refine (wr_own HW.out H67.out (fun j hj => hj)).trans (Wr.setCell (fun k => k = ob) _ ⟨ob, 2, none⟩ _ rfl)
                case measure => simp [intOf]; omega
          · have hkn : k = r.mud.length := by omega
            have HKN := Lib.hid hkn
            obtain ⟨X3, hXX⟩ : ∃ Q, Q = wr := ⟨_, rfl⟩
            subst hXX
            obtain ⟨cM, hcM⟩ : ∃ c, c = csv := ⟨_, rfl⟩
            subst hcM
            obtain ⟨aM, haM⟩ : ∃ c, c = asv := ⟨_, rfl⟩
            subst haM
            have HO3 := Lib.hid (show X3.heap[ob]? = some (.cells #[.int .i64 r.last, .slice aS r.salt.length cS, .slice aM r.mud.length cM, .int .i64 r.sweet, .int .i64 r.clear, .int .i64 r.size, .int .i64 r.start, .int .i64 r.draw, .slice ua r.use.length uc, .slice none 0 0] 35 (0, 0)) from by rw [← HKN.out]; exact HOB.out)
            have HB3 := Lib.hid HBw.out
            have hwo : ¬ (w.heap.size = ob) := by omega
            have B3 := Lib.hid (HW.out.blk (k := w.heap.size) hwo B2.out)
            have hwo1 : ¬ (w.heap.size + 1 = ob) := by omega
            have R3 := Lib.hid (HW.out.blk (k := w.heap.size + 1) hwo1 R2.out)
            have SLM := Lib.hid (show Sl X3 aM (rgs r.mud) from by have := HSL.out; rw [HKN.out, List.take_length] at this; exact this)
            have SPM := Lib.hid (show ∀ ad, aM = some ad → ad.block ≠ ob from fun ad e => by subst e; have := (HOW.out.lt ad.block rfl).1; omega)
            have HRM := Lib.hid (show ∀ ad, aM = some ad → ad.block ≥ w.heap.size + 2 from fun ad e => by subst e; have := (HOW.out.lt ad.block rfl).1; omega)
            have WX2 := Lib.hid HW.out
            clear HOB HW HOW HSL HBw hwo hwo1 hkn HKN hk hxb hxz hobl hnc
            have HRES2 := Lib.hid (show ∀ ad, aM = some ad → ad.block ≥ w.heap.size + 2 from HRM.out)
            go_wp2_with fail
            go_loopw [6, 7] (fun i _ wr => ∃ (k : Nat) (sv : Value), k ≤ r.gauges.length ∧ i = .int .i64 k ∧ wr.heap[ob]? = some (.cells #[.int .i64 r.last, .slice aS r.salt.length cS, .slice aM r.mud.length cM, .int .i64 r.sweet, .int .i64 r.clear, .int .i64 r.size, .int .i64 r.start, .int .i64 r.draw, .slice ua r.use.length uc, sv] 35 (0, 0)) ∧ wr.ownsRow X3.heap.size 114 4 sv k (ggs (r.gauges.take k)) ∧ Wr (fun k => k = ob) X3 wr) (fun i _ _ => r.gauges.length - (intOf i).toNat)
            case atStart => exact ⟨0, .slice none 0 0, Nat.zero_le _, rfl, HO3.out, World.ownsRow_nil _ _ _ _, Wr.refl _ _⟩
            case round =>
              obtain ⟨k, sv, hk, rfl, hob, hown, hw⟩ := hrel
              have HOB := Lib.hid hob
              have HW := Lib.hid hw
              have HOW := Lib.hid hown
              obtain ⟨asv, csv, rfl, hnc, hslv⟩ := own_Sl hown
              have HSL := Lib.hid hslv
              have HBw := Lib.hid (HB3.out.trans (hw.below HB3.out.size (fun j e => by have : j = ob := e; omega)))
              have hwo : ¬ (w.heap.size = ob) := by omega
              have k1 : wr.cell? ⟨w.heap.size, 9, none⟩ = some (.slice A.ga r.gauges.length A.gc) := by rw [cell_blk (hw.blk (k := w.heap.size) hwo B3.out)]; rfl
              have hobl : ob < wr.heap.size := (Array.getElem?_eq_some_iff.1 hob).1
              have hxb : ob < X3.heap.size := (Array.getElem?_eq_some_iff.1 HO3.out).1
              have hxz : X3.heap.size ≤ wr.heap.size := hw.size
              clear hob hw hown hslv hwo
              by_cases hlt : k < r.gauges.length
              · obtain ⟨x, hx⟩ : ∃ x, r.gauges[k]? = some x := ⟨_, List.getElem?_eq_getElem hlt⟩
                have HX := Lib.hid hx
                obtain ⟨b, o, hao, d1, d2, d3, d4⟩ := (hr.g.below HBw.out).gg_at hx
                rw [hao] at k1
                clear hao hx
                have ew : IntKind.i64.wrap ((k : Int) + 1) = (k : Int) + 1 := IntWalk.i64_in _ (by omega)
                go_wp2_with fail
                obtain ⟨wg, hwg⟩ : ∃ Q, Q = wr.alloc (.cells #[.int .i64 x.day, .bool x.mud, .int .i64 x.rd.lo, .int .i64 x.rd.hi] 99) := ⟨_, rfl⟩
                have hbg : Below wr.heap.size wr wg := by rw [hwg]; exact (Below.refl _ _).alloc (Nat.le_refl _) _
                have hG : wg.heap[wr.heap.size]? = some (.cells #[.int .i64 x.day, .bool x.mud, .int .i64 x.rd.lo, .int .i64 x.rd.hi] 99 (0, 0)) := by rw [hwg]; exact heap_alloc_new _ _
                rw [← hwg]
                have HKS : RvG wr.heap.size (.int .i64 x.day) (.bool x.mud) (.int .i64 x.rd.lo) (.int .i64 x.rd.hi) wg := ⟨by rw [cell_blk hG]; rfl, by rw [cell_blk hG]; rfl, by rw [cell_blk hG]; rfl, by rw [cell_blk hG]; rfl⟩
                have HBG := Lib.hid hbg
                have hwrz : wr.heap.size < wg.heap.size := (Array.getElem?_eq_some_iff.1 hG).1
                clear hwg hG k1 d1 d2 d3 d4 hbg
                refine region_o (S := RvG wr.heap.size (.int .i64 x.day) (.bool x.mud) (.int .i64 x.rd.lo) (.int .i64 x.rd.hi)) (.take 0 (.take 2 (.take 3 (.take 4 (.take 5 (.take 6 (.take 7 (.two 1 8 (.one 8 (.take 9 (.one 10 (.one 11 (.take 12 (.one 13 .nil)))))) (.take 9 (.two 1 10 (.one 10 (.one 11 (.take 12 (.one 13 .nil)))) (.one 1 (.one 11 (.take 12 (.one 13 .nil)))))))))))))) (by kernel_rfl) (by kernel_rfl) (fun _ _ d _ _ h => by cases d <;> exact h) (HKS.wr (Wr.of_below (S := fun _ => False) (Below.refl _ _).drew) (fun e => e)) ?_
                intro W0 hW0 hS0
                have hBW : Below wg.heap.size wg W0 := by subst hW0; exact (Below.refl _ _).drew
                clear hW0
                have hBc := HBG.out.trans (hBW.mono HBG.out.size)
                repeat (first
                  | (refine ord_skip rfl ?_ ?_; rfl; simp only [pz])
                  | (refine ord_take (v := ?_) rfl ?_ (fun W hW => ?_) ?_; rotate_left; rfl; (obtain ⟨hz0, hz1, hz2, hz3⟩ := hW; go_simp; (first | done | with_reducible rfl)); simp only [pz]))
                refine ord_two ?_ ?_
                · skip
                  refine ord_op rfl ?_ (fun K hK => ?_)
                  rfl
                  skip
                  have oc : (W0).cell? ⟨ob, 9, none⟩ = some (.slice asv k csv) := (hBc.cell (p := ⟨ob, 9, none⟩) hobl).trans (by rw [cell_blk HOB.out]; rfl)
                  go_simp
                  obtain ⟨W1, hWj⟩ : ∃ Q, Q = W0 := ⟨_, rfl⟩
                  subst hWj
                  have hS1 := hS0
                  clear oc
                  refine hK _ _ hS1 ?_
                  clear hK K
                  try simp only [pz]
                  refine ord_op rfl ?_ (fun K hK => ?_)
                  rfl
                  go_simp
                  refine (to_c x.rd _).mono ?_
                  rintro e W2 ⟨rfl, hb2⟩
                  replace hBc := hBc.trans (hb2.mono hBc.size)
                  have hS2 := RvG.wr hS1 (Wr.of_below (S := fun _ => False) hb2) (fun e => e)
                  refine hK _ _ hS2 ?_
                  clear hK K
                  try simp only [pz]
                  repeat (first
                    | (refine ord_skip rfl ?_ ?_; rfl; simp only [pz])
                    | (refine ord_take (v := ?_) rfl ?_ (fun W hW => ?_) ?_; rotate_left; rfl; (obtain ⟨hz0, hz1, hz2, hz3⟩ := hW; go_simp; (first | done | with_reducible rfl)); simp only [pz]))
                  refine ord_op rfl ?_ (fun K hK => ?_)
                  rfl
                  go_simp
                  obtain ⟨bx, hbx⟩ : ∃ n, n = (W2).heap.size := ⟨_, rfl⟩
                  obtain ⟨W3, hW3⟩ : ∃ Q, Q = (W2).alloc (.cells #[.int .i64 x.day, .bool x.mud, .int .i64 x.rd.lo, .int .i64 x.rd.hi] 114) := ⟨_, rfl⟩
                  have hbb : Below (W2).heap.size (W2) W3 := by rw [hW3]; exact (Below.refl _ _).alloc (Nat.le_refl _) _
                  have hsl : Sl W3 (some ⟨bx, 0, none⟩) [.int .i64 x.day, .bool x.mud, .int .i64 x.rd.lo, .int .i64 x.rd.hi] := by rw [hW3, hbx]; exact Sl_new _ _ _
                  replace hBc := hBc.trans (hbb.mono hBc.size)
                  have hS3 := RvG.wr hS2 (Wr.of_below (S := fun _ => False) hbb) (fun e => e)
                  rw [← hW3, ← hbx]
                  clear hW3 hbx hbb
                  refine hK _ _ hS3 ?_
                  clear hK K
                  try simp only [pz]
                  refine ord_op rfl ?_ (fun K hK => ?_)
                  rfl
                  skip
                  refine wp_app elGg _ _ rfl rfl rfl (own_below HOW.out hBc) hsl rfl (by intro u hu; simp at hu; rcases hu with rfl | rfl | rfl | rfl <;> rfl) (by omega) (by omega) (by have := hBc.size; omega) ?_
                  intro v7 W4 hown7 hg7 _
                  have hob7 : ∀ q, (Value.slice asv k csv).ownBlock = some q → X3.heap.size ≤ q ∧ q < wr.heap.size := fun q e => HOW.out.lt q e
                  have h67 := (Wr.of_below (S := fun q => (Value.slice asv k csv).ownBlock = some q) hBc).trans (grown_wr hg7)
                  have hOB7 := h67.blk (k := ob) (fun e => by have := hob7 _ e; omega) HOB.out
                  have hS4 := RvG.wr hS3 (grown_wr hg7) (fun e => by have h1 := hob7 _ e; omega)
                  have H67 := Lib.hid (h67.mono (S' := fun q => X3.heap.size ≤ q) (fun q e => (hob7 q e).1))
                  obtain ⟨a7, c7, rfl, -, -⟩ := own_Sl hown7
                  have HOW7 := Lib.hid hown7
                  have HOB7 := Lib.hid hOB7
                  clear hown7 hg7 hsl h67 hOB7 hob7
                  refine hK _ _ hS4 ?_
                  clear hK K
                  try simp only [pz]
                  repeat (first
                    | (refine ord_skip rfl ?_ ?_; rfl; simp only [pz])
                    | (refine ord_take (v := ?_) rfl ?_ (fun W hW => ?_) ?_; rotate_left; rfl; (obtain ⟨hz0, hz1, hz2, hz3⟩ := hW; go_simp; (first | done | with_reducible rfl)); simp only [pz]))
                  refine ord_op rfl ?_ (fun K hK => ?_)
                  rfl
                  skip
                  have oc := cell_blk (k := 9) HOB7.out
                  have of := frozen_blk (k := 9) HOB7.out
                  go_simp
                  have hS5 := RvG.wr hS4 (Wr.setCell (fun k => k = ob) W4 ⟨ob, 9, none⟩ (.slice a7 (k + 1) c7) rfl) (fun e => by have : wr.heap.size = ob := e; omega)
                  clear oc of
                  refine hK _ _ hS5 ?_
                  clear hK K
                  try simp only [pz]
                  refine ord_nil ?_
                  go_wp2_with fail
                  go_roundw
                  case rel =>
                    refine ⟨k + 1, .slice a7 (k + 1) c7, by omega, by go_num, ?_, ?_, ?_⟩
                    · rw [heap_set HOB7.out (k := 9) (.slice a7 (k + 1) c7)]; rfl
                    · rw [List.take_add_one, HX.out, ggs_append]
                      exact own_wr HOW7.out (Wr.setCell (fun k => k = ob) _ ⟨ob, 9, none⟩ _ rfl) (fun j hj e => by have : j = ob := e; omega)
                    · refine (wr_own HW.out H67.out (fun j hj => hj)).trans (Wr.setCell (fun k => k = ob) _ ⟨ob, 9, none⟩ _ rfl)
                  case measure => simp [intOf]; omega
                · skip
                  refine ord_op rfl ?_ (fun K hK => ?_)
                  rfl
                  go_simp
                  refine (to_c x.rd _).mono ?_
                  rintro e W6 ⟨rfl, hb6⟩
                  replace hBc := hBc.trans (hb6.mono hBc.size)
                  have hS6 := RvG.wr hS0 (Wr.of_below (S := fun _ => False) hb6) (fun e => e)
                  refine hK _ _ hS6 ?_
                  clear hK K
                  try simp only [pz]
                  repeat (first
                    | (refine ord_skip rfl ?_ ?_; rfl; simp only [pz])
                    | (refine ord_take (v := ?_) rfl ?_ (fun W hW => ?_) ?_; rotate_left; rfl; (obtain ⟨hz0, hz1, hz2, hz3⟩ := hW; go_simp; (first | done | with_reducible rfl)); simp only [pz]))
                  refine ord_two ?_ ?_
                  · skip
                    refine ord_op rfl ?_ (fun K hK => ?_)
                    rfl
                    skip
                    have oc : (W6).cell? ⟨ob, 9, none⟩ = some (.slice asv k csv) := (hBc.cell (p := ⟨ob, 9, none⟩) hobl).trans (by rw [cell_blk HOB.out]; rfl)
                    go_simp
                    obtain ⟨W7, hWj⟩ : ∃ Q, Q = W6 := ⟨_, rfl⟩
                    subst hWj
                    have hS7 := hS6
                    clear oc
                    refine hK _ _ hS7 ?_
                    clear hK K
                    try simp only [pz]
                    refine ord_op rfl ?_ (fun K hK => ?_)
                    rfl
                    go_simp
                    obtain ⟨bx, hbx⟩ : ∃ n, n = (W7).heap.size := ⟨_, rfl⟩
                    obtain ⟨W8, hW8⟩ : ∃ Q, Q = (W7).alloc (.cells #[.int .i64 x.day, .bool x.mud, .int .i64 x.rd.lo, .int .i64 x.rd.hi] 114) := ⟨_, rfl⟩
                    have hbb : Below (W7).heap.size (W7) W8 := by rw [hW8]; exact (Below.refl _ _).alloc (Nat.le_refl _) _
                    have hsl : Sl W8 (some ⟨bx, 0, none⟩) [.int .i64 x.day, .bool x.mud, .int .i64 x.rd.lo, .int .i64 x.rd.hi] := by rw [hW8, hbx]; exact Sl_new _ _ _
                    replace hBc := hBc.trans (hbb.mono hBc.size)
                    have hS8 := RvG.wr hS7 (Wr.of_below (S := fun _ => False) hbb) (fun e => e)
                    rw [← hW8, ← hbx]
                    clear hW8 hbx hbb
                    refine hK _ _ hS8 ?_
                    clear hK K
                    try simp only [pz]
                    refine ord_op rfl ?_ (fun K hK => ?_)
                    rfl
                    skip
                    refine wp_app elGg _ _ rfl rfl rfl (own_below HOW.out hBc) hsl rfl (by intro u hu; simp at hu; rcases hu with rfl | rfl | rfl | rfl <;> rfl) (by omega) (by omega) (by have := hBc.size; omega) ?_
                    intro v7 W9 hown7 hg7 _
                    have hob7 : ∀ q, (Value.slice asv k csv).ownBlock = some q → X3.heap.size ≤ q ∧ q < wr.heap.size := fun q e => HOW.out.lt q e
                    have h67 := (Wr.of_below (S := fun q => (Value.slice asv k csv).ownBlock = some q) hBc).trans (grown_wr hg7)
                    have hOB7 := h67.blk (k := ob) (fun e => by have := hob7 _ e; omega) HOB.out
                    have hS9 := RvG.wr hS8 (grown_wr hg7) (fun e => by have h1 := hob7 _ e; omega)
                    have H67 := Lib.hid (h67.mono (S' := fun q => X3.heap.size ≤ q) (fun q e => (hob7 q e).1))
                    obtain ⟨a7, c7, rfl, -, -⟩ := own_Sl hown7
                    have HOW7 := Lib.hid hown7
                    have HOB7 := Lib.hid hOB7
                    clear hown7 hg7 hsl h67 hOB7 hob7
                    refine hK _ _ hS9 ?_
                    clear hK K
                    try simp only [pz]
                    repeat (first
                      | (refine ord_skip rfl ?_ ?_; rfl; simp only [pz])
                      | (refine ord_take (v := ?_) rfl ?_ (fun W hW => ?_) ?_; rotate_left; rfl; (obtain ⟨hz0, hz1, hz2, hz3⟩ := hW; go_simp; (first | done | with_reducible rfl)); simp only [pz]))
                    refine ord_op rfl ?_ (fun K hK => ?_)
                    rfl
                    skip
                    have oc := cell_blk (k := 9) HOB7.out
                    have of := frozen_blk (k := 9) HOB7.out
                    go_simp
                    have hS10 := RvG.wr hS9 (Wr.setCell (fun k => k = ob) W9 ⟨ob, 9, none⟩ (.slice a7 (k + 1) c7) rfl) (fun e => by have : wr.heap.size = ob := e; omega)
                    clear oc of
                    refine hK _ _ hS10 ?_
                    clear hK K
                    try simp only [pz]
                    refine ord_nil ?_
                    go_wp2_with fail
                    go_roundw
                    case rel =>
                      refine ⟨k + 1, .slice a7 (k + 1) c7, by omega, by go_num, ?_, ?_, ?_⟩
                      · rw [heap_set HOB7.out (k := 9) (.slice a7 (k + 1) c7)]; rfl
                      · rw [List.take_add_one, HX.out, ggs_append]
                        exact own_wr HOW7.out (Wr.setCell (fun k => k = ob) _ ⟨ob, 9, none⟩ _ rfl) (fun j hj e => by have : j = ob := e; omega)
                      · refine (wr_own HW.out H67.out (fun j hj => hj)).trans (Wr.setCell (fun k => k = ob) _ ⟨ob, 9, none⟩ _ rfl)
                    case measure => simp [intOf]; omega
                  · skip
                    refine ord_op rfl ?_ (fun K hK => ?_)
                    rfl
                    go_simp
                    obtain ⟨bx, hbx⟩ : ∃ n, n = (W6).heap.size := ⟨_, rfl⟩
                    obtain ⟨W11, hW11⟩ : ∃ Q, Q = (W6).alloc (.cells #[.int .i64 x.day, .bool x.mud, .int .i64 x.rd.lo, .int .i64 x.rd.hi] 114) := ⟨_, rfl⟩
                    have hbb : Below (W6).heap.size (W6) W11 := by rw [hW11]; exact (Below.refl _ _).alloc (Nat.le_refl _) _
                    have hsl : Sl W11 (some ⟨bx, 0, none⟩) [.int .i64 x.day, .bool x.mud, .int .i64 x.rd.lo, .int .i64 x.rd.hi] := by rw [hW11, hbx]; exact Sl_new _ _ _
                    replace hBc := hBc.trans (hbb.mono hBc.size)
                    have hS11 := RvG.wr hS6 (Wr.of_below (S := fun _ => False) hbb) (fun e => e)
                    rw [← hW11, ← hbx]
                    clear hW11 hbx hbb
                    refine hK _ _ hS11 ?_
                    clear hK K
                    try simp only [pz]
                    refine ord_op rfl ?_ (fun K hK => ?_)
                    rfl
                    skip
                    have oc : (W11).cell? ⟨ob, 9, none⟩ = some (.slice asv k csv) := (hBc.cell (p := ⟨ob, 9, none⟩) hobl).trans (by rw [cell_blk HOB.out]; rfl)
                    go_simp
                    obtain ⟨W12, hWj⟩ : ∃ Q, Q = W11 := ⟨_, rfl⟩
                    subst hWj
                    have hS12 := hS11
                    clear oc
                    refine hK _ _ hS12 ?_
                    clear hK K
                    try simp only [pz]
                    refine ord_op rfl ?_ (fun K hK => ?_)
                    rfl
                    skip
                    refine wp_app elGg _ _ rfl rfl rfl (own_below HOW.out hBc) hsl rfl (by intro u hu; simp at hu; rcases hu with rfl | rfl | rfl | rfl <;> rfl) (by omega) (by omega) (by have := hBc.size; omega) ?_
                    intro v7 W13 hown7 hg7 _
                    have hob7 : ∀ q, (Value.slice asv k csv).ownBlock = some q → X3.heap.size ≤ q ∧ q < wr.heap.size := fun q e => HOW.out.lt q e
                    have h67 := (Wr.of_below (S := fun q => (Value.slice asv k csv).ownBlock = some q) hBc).trans (grown_wr hg7)
                    have hOB7 := h67.blk (k := ob) (fun e => by have := hob7 _ e; omega) HOB.out
                    have hS13 := RvG.wr hS12 (grown_wr hg7) (fun e => by have h1 := hob7 _ e; omega)
                    have H67 := Lib.hid (h67.mono (S' := fun q => X3.heap.size ≤ q) (fun q e => (hob7 q e).1))
                    obtain ⟨a7, c7, rfl, -, -⟩ := own_Sl hown7
                    have HOW7 := Lib.hid hown7
                    have HOB7 := Lib.hid hOB7
                    clear hown7 hg7 hsl h67 hOB7 hob7
                    refine hK _ _ hS13 ?_
                    clear hK K
                    try simp only [pz]
                    repeat (first
                      | (refine ord_skip rfl ?_ ?_; rfl; simp only [pz])
                      | (refine ord_take (v := ?_) rfl ?_ (fun W hW => ?_) ?_; rotate_left; rfl; (obtain ⟨hz0, hz1, hz2, hz3⟩ := hW; go_simp; (first | done | with_reducible rfl)); simp only [pz]))
                    refine ord_op rfl ?_ (fun K hK => ?_)
                    rfl
                    skip
                    have oc := cell_blk (k := 9) HOB7.out
                    have of := frozen_blk (k := 9) HOB7.out
                    go_simp
                    have hS14 := RvG.wr hS13 (Wr.setCell (fun k => k = ob) W13 ⟨ob, 9, none⟩ (.slice a7 (k + 1) c7) rfl) (fun e => by have : wr.heap.size = ob := e; omega)
                    clear oc of
                    refine hK _ _ hS14 ?_
                    clear hK K
                    try simp only [pz]
                    refine ord_nil ?_
                    go_wp2_with fail
                    go_roundw
                    case rel =>
                      refine ⟨k + 1, .slice a7 (k + 1) c7, by omega, by go_num, ?_, ?_, ?_⟩
                      · rw [heap_set HOB7.out (k := 9) (.slice a7 (k + 1) c7)]; rfl
                      · rw [List.take_add_one, HX.out, ggs_append]
                        exact own_wr HOW7.out (Wr.setCell (fun k => k = ob) _ ⟨ob, 9, none⟩ _ rfl) (fun j hj e => by have : j = ob := e; omega)
                      · refine (wr_own HW.out H67.out (fun j hj => hj)).trans (Wr.setCell (fun k => k = ob) _ ⟨ob, 9, none⟩ _ rfl)
                    case measure => simp [intOf]; omega
              · have hkn : k = r.gauges.length := by omega
                have HKN := Lib.hid hkn
                have hO4 : wr.heap[ob]? = some (.cells #[.int .i64 r.last, .slice aS r.salt.length cS, .slice aM r.mud.length cM, .int .i64 r.sweet, .int .i64 r.clear, .int .i64 r.size, .int .i64 r.start, .int .i64 r.draw, .slice ua r.use.length uc, .slice asv r.gauges.length csv] 35 (0, 0)) := by rw [← HKN.out]; exact HOB.out
                have f0 := cell_blk (k := 0) hO4
                have f1 := cell_blk (k := 1) hO4
                have f2 := cell_blk (k := 2) hO4
                have f3 := cell_blk (k := 3) hO4
                have f4 := cell_blk (k := 4) hO4
                have f5 := cell_blk (k := 5) hO4
                have f6 := cell_blk (k := 6) hO4
                have f7 := cell_blk (k := 7) hO4
                have f8 := cell_blk (k := 8) hO4
                have f9 := cell_blk (k := 9) hO4

                have hwo1 : ¬ (w.heap.size + 1 = ob) := by omega
                have hR4 := HW.out.blk (k := w.heap.size + 1) hwo1 R3.out
                have g0 := cell_blk (k := 0) hR4
                have g1 := cell_blk (k := 1) hR4
                have g2 := cell_blk (k := 2) hR4
                have g3 := cell_blk (k := 3) hR4
                have g4 := cell_blk (k := 4) hR4
                have g5 := cell_blk (k := 5) hR4
                have g6 := cell_blk (k := 6) hR4
                have g7 := cell_blk (k := 7) hR4
                have g8 := cell_blk (k := 8) hR4
                have g9 := cell_blk (k := 9) hR4

                have hRf := fun j => frozen_blk (k := j) hR4
                have hst := store10 hR4 (.int .i64 r.last) (.slice aS r.salt.length cS) (.slice aM r.mud.length cM) (.int .i64 r.sweet) (.int .i64 r.clear) (.int .i64 r.size) (.int .i64 r.start) (.int .i64 r.draw) (.slice ua r.use.length uc) (.slice asv r.gauges.length csv)
                have HST := Lib.hid hst
                have HSG := Lib.hid (show Sl wr asv (ggs r.gauges) from by have := HSL.out; rw [HKN.out, List.take_length] at this; exact this)
                have SPG := Lib.hid (show ∀ ad, asv = some ad → ad.block ≠ ob ∧ w.heap.size + 2 ≤ ad.block from fun ad e => by subst e; have := (HOW.out.lt ad.block rfl).1; exact ⟨by omega, by omega⟩)
                clear hst hO4 hR4 hwo1 hkn
                go_wp2_with fail
                obtain ⟨hR5, hW5⟩ := HST.out
                have q0 := cell_blk (k := 0) hR5
                have q1 := cell_blk (k := 1) hR5
                have q2 := cell_blk (k := 2) hR5
                have q3 := cell_blk (k := 3) hR5
                have q4 := cell_blk (k := 4) hR5
                have q5 := cell_blk (k := 5) hR5
                have q6 := cell_blk (k := 6) hR5
                have q7 := cell_blk (k := 7) hR5
                have q8 := cell_blk (k := 8) hR5
                have q9 := cell_blk (k := 9) hR5

                refine bodyPost_ret (v := rivV r ⟨aS, cS, aM, cM, ua, uc, asv, csv⟩) (by simp [results, Try.results26, go_sem, q0, q1, q2, q3, q4, q5, q6, q7, q8, q9]) rfl ⟨⟨aS, cS, aM, cM, ua, uc, asv, csv⟩, rfl, ?_, by rw [← HKN.out]; exact hnc, HBw.out.trans (hW5.below HBw.out.size (fun j e => by have : j = w.heap.size + 1 := e; omega))⟩
                refine ⟨?_, ?_, ?_, ?_⟩
                · refine (((SLS.out.wr WX2.out (fun ad e h => SPS.out ad e h)).wr HW.out (fun ad e h => SPS.out ad e h))).wr hW5 (fun ad e h => ?_)
                  have h1 := HRES1.out ad e; have h2 : ad.block = w.heap.size + 1 := h; omega
                · refine (SLM.out.wr HW.out (fun ad e h => SPM.out ad e h)).wr hW5 (fun ad e h => ?_)
                  have h1 := HRES2.out ad e; have h2 : ad.block = w.heap.size + 1 := h; omega
                · refine (((HU.out.wr WX1.out (fun ad e h => HU9.out ad e h)).wr WX2.out (fun ad e h => HU9.out ad e h)).wr HW.out (fun ad e h => HU9.out ad e h)).wr hW5 (fun ad e h => ?_)
                  have h1 := HUQ.out ad e; have h2 : ad.block = w.heap.size + 1 := h; have h3 := HZQ.out; omega
                · refine HSG.out.wr hW5 (fun ad e h => ?_)
                  have h1 := (SPG.out ad e).2; have h2 : ad.block = w.heap.size + 1 := h; omega
  · skip
    (refine ord_op rfl ?_ (fun K hK => ?_); rfl; go_simp; obtain ⟨ob, hob⟩ : ∃ n, n = (W0).heap.size := ⟨_, rfl⟩; obtain ⟨W4, hW4⟩ : ∃ Q, Q = (W0).alloc (.cells #[.int .i64 0, .slice none 0 0, .slice none 0 0, .int .i64 0, .int .i64 0, .int .i64 0, .int .i64 0, .int .i64 0, .slice none 0 0, .slice none 0 0] 35) := ⟨_, rfl⟩; have hS4 : OldC wq.heap.size wq W4 := (by rw [hW4]; exact oldA hS0 _); have hOb : W4.heap[ob]? = some (.cells #[.int .i64 0, .slice none 0 0, .slice none 0 0, .int .i64 0, .int .i64 0, .int .i64 0, .int .i64 0, .int .i64 0, .slice none 0 0, .slice none 0 0] 35 (0, 0)) := (by rw [hW4, hob]; exact heap_alloc_new _ _); have hobq : wq.heap.size ≤ ob := (by rw [hob]; exact (hS0).sz); (try (have hu9 : ∀ ad, ua = some ad → ad.block ≠ ob := fun ad e => by have h1 := hul ad e; omega)); (try (replace hus := hus.below (W := W4) (by rw [hW4]; exact (Below.refl _ _).alloc (Nat.le_refl _) _))); rw [← hW4, ← hob]; clear hW4 hob; refine hK _ _ hS4 ?_; clear hK K; try simp only [pz])
    (refine ord_op rfl ?_ (fun K hK => ?_); rfl; go_simp; refine (list_c A.ua r.use A.uc _ ((hr.below (hbq.trans ((hS4).be.mono hbq.size))).u) (by omega)).mono ?_; rintro e W5 ⟨uv, rfl, hown, hb5⟩; obtain ⟨ua, uc, rfl, huc, hus⟩ := own_Sl hown; have hul : ∀ ad, ua = some ad → (W4).heap.size ≤ ad.block ∧ ad.block < W5.heap.size := (fun ad e => by subst e; exact hown.lt ad.block rfl); have hulq : ∀ ad, ua = some ad → wq.heap.size ≤ ad.block := (fun ad e => Nat.le_trans (hS4).sz (hul ad e).1); (try (have hu9 : ∀ ad, ua = some ad → ad.block ≠ ob := fun ad e => by have h1 := hul ad e; have h2 := (Array.getElem?_eq_some_iff.1 hOb).1; omega)); (try (replace hOb := (hb5.block _ (Array.getElem?_eq_some_iff.1 hOb).1).trans hOb)); clear hown; have hS5 := oldK hS4 hb5; refine hK _ _ hS5 ?_; clear hK K; try simp only [pz])
    repeat (first
      | (refine ord_skip rfl ?_ ?_; rfl; simp only [pz])
      | (refine ord_take (v := ?_) rfl ?_ (fun W hW => ?_) ?_; rotate_left; rfl; (obtain ⟨hz, hcc, hbb⟩ := hW; go_simp; (first | done | with_reducible rfl)); simp only [pz]))
    refine ord_op rfl ?_ (fun K hK => ?_)
    rfl
    skip
    have hx0 := cell_blk (k := 0) hOb
    have hx1 := cell_blk (k := 1) hOb
    have hx2 := cell_blk (k := 2) hOb
    have hx3 := cell_blk (k := 3) hOb
    have hx4 := cell_blk (k := 4) hOb
    have hx5 := cell_blk (k := 5) hOb
    have hx6 := cell_blk (k := 6) hOb
    have hx7 := cell_blk (k := 7) hOb
    have hx8 := cell_blk (k := 8) hOb
    have hx9 := cell_blk (k := 9) hOb
    have hxf := fun j => frozen_blk (k := j) hOb
    go_simp
    obtain ⟨W6, hW6⟩ : ∃ Q, Q = ((((((((((W5).setCell ⟨ob, 0, none⟩ (.int .i64 r.last)).setCell ⟨ob, 1, none⟩ (.slice none 0 0)).setCell ⟨ob, 2, none⟩ (.slice none 0 0)).setCell ⟨ob, 3, none⟩ (.int .i64 r.sweet)).setCell ⟨ob, 4, none⟩ (.int .i64 r.clear)).setCell ⟨ob, 5, none⟩ (.int .i64 r.size)).setCell ⟨ob, 6, none⟩ (.int .i64 r.start)).setCell ⟨ob, 7, none⟩ (.int .i64 r.draw)).setCell ⟨ob, 8, none⟩ (.slice ua r.use.length uc)).setCell ⟨ob, 9, none⟩ (.slice none 0 0) := ⟨_, rfl⟩
    have hst := store10 hOb (.int .i64 r.last) (.slice none 0 0) (.slice none 0 0) (.int .i64 r.sweet) (.int .i64 r.clear) (.int .i64 r.size) (.int .i64 r.start) (.int .i64 r.draw) (.slice ua r.use.length uc) (.slice none 0 0)
    rw [← hW6] at hst
    obtain ⟨hOb2, hwr⟩ := hst
    have hS6 := oldW hS5 hwr hobq
    replace hus := hus.wr hwr (fun ad e hk => hu9 ad e hk)
    rw [← hW6]
    clear hW6 hOb hx0 hx1 hx2 hx3 hx4 hx5 hx6 hx7 hx8 hx9 hxf hwr
    refine hK _ _ hS6 ?_
    clear hK K
    try simp only [pz]
    refine ord_nil ?_
    obtain ⟨X1, hX1⟩ : ∃ Q, Q = W6 := ⟨_, rfl⟩
    subst hX1
    have HB1 := Lib.hid (hbq.trans (hS6.be.mono hbq.size))
    have HO1 := Lib.hid hOb2
    have HU := Lib.hid hus
    have HU9 := Lib.hid hu9
    have HUQ := Lib.hid hulq
    have B1 := Lib.hid ((hS6.be.block _ hlt0).trans HQ0.out)
    have R1 := Lib.hid ((hS6.be.block _ (by have := HZQ.out; omega)).trans HQ1.out)
    have hobw : w.heap.size + 2 ≤ ob := by have := HZQ.out; omega
    clear k0 k1 k2 k3 k4 k5 k6 k7 k8 k9 hOb2 hus hu9 hul
    go_wp2_with fail
    go_loopw [4] (fun i wr => ∃ (k : Nat) (sv : Value), k ≤ r.salt.length ∧ i = .int .i64 k ∧ wr.heap[ob]? = some (.cells #[.int .i64 r.last, sv, .slice none 0 0, .int .i64 r.sweet, .int .i64 r.clear, .int .i64 r.size, .int .i64 r.start, .int .i64 r.draw, .slice ua r.use.length uc, .slice none 0 0] 35 (0, 0)) ∧ wr.ownsRow X1.heap.size 49 2 sv k (rgs (r.salt.take k)) ∧ Wr (fun k => k = ob) X1 wr) (fun i _ => r.salt.length - (intOf i).toNat)
    case atStart => exact ⟨0, .slice none 0 0, Nat.zero_le _, rfl, HO1.out, World.ownsRow_nil _ _ _ _, Wr.refl _ _⟩
    case round =>
      obtain ⟨k, sv, hk, rfl, hob, hown, hw⟩ := hrel
      have HOB := Lib.hid hob
      have HW := Lib.hid hw
      have HOW := Lib.hid hown
      obtain ⟨asv, csv, rfl, hnc, hslv⟩ := own_Sl hown
      have HSL := Lib.hid hslv
      have HBw := Lib.hid (HB1.out.trans (hw.below HB1.out.size (fun j e => by have : j = ob := e; omega)))
      have hwo : ¬ (w.heap.size = ob) := by omega
      have k1 : wr.cell? ⟨w.heap.size, 1, none⟩ = some (.slice A.sa r.salt.length A.sc) := by rw [cell_blk (hw.blk (k := w.heap.size) hwo B1.out)]; rfl
      have hobl : ob < wr.heap.size := (Array.getElem?_eq_some_iff.1 hob).1
      have hxb : ob < X1.heap.size := (Array.getElem?_eq_some_iff.1 HO1.out).1
      have hxz : X1.heap.size ≤ wr.heap.size := hw.size
      clear hob hw hown hslv hwo
      by_cases hlt : k < r.salt.length
      · obtain ⟨x, hx⟩ : ∃ x, r.salt[k]? = some x := ⟨_, List.getElem?_eq_getElem hlt⟩
        have HX := Lib.hid hx
        obtain ⟨b, o, hao, d1, d2⟩ := (hr.s.below HBw.out).rg_at hx
        obtain ⟨b', o', hao', e1, e2⟩ := hr.s.rg_at hx
        have hbw : b < w.heap.size := by
          have h1 := cell_lt e1
          rw [hao] at hao'
          cases hao'
          exact h1
        rw [hao] at k1
        clear hao hao' e1 e2 hx
        have HKS : RvS w.heap.size 1 b (o + k * 2) (.slice (some ⟨b, o, none⟩) r.salt.length A.sc) (.int .i64 x.lo) (.int .i64 x.hi) wr := ⟨k1, d1, d2⟩
        have ew : IntKind.i64.wrap ((k : Int) + 1) = (k : Int) + 1 := IntWalk.i64_in _ (by omega)
        have HB0 := Lib.hid HBw.out.size
        go_wp2_with fail
        refine region_o (S := RvS w.heap.size 1 b (o + k * 2) (.slice (some ⟨b, o, none⟩) r.salt.length A.sc) (.int .i64 x.lo) (.int .i64 x.hi)) (.take 0 (.take 2 (.take 3 (.take 4 (.take 5 (.take 6 (.two 1 7 (.one 7 (.one 8 (.one 9 (.take 10 (.one 11 .nil))))) (.two 1 8 (.one 8 (.one 9 (.take 10 (.one 11 .nil)))) (.one 1 (.one 9 (.take 10 (.one 11 .nil)))))))))))) (by kernel_rfl) (by kernel_rfl) (fun _ _ d _ _ h => by cases d <;> exact h) (HKS.wr (Wr.of_below (S := fun _ => False) (Below.refl _ _).drew) (fun e => e) (fun e => e)) ?_
        intro W0 hW0 hS0
        have hBW : Below wr.heap.size wr W0 := by subst hW0; exact (Below.refl _ _).drew
        clear hW0
        have hBc := hBW
        repeat (first
          | (refine ord_skip rfl ?_ ?_; rfl; simp only [pz])
          | (refine ord_take (v := ?_) rfl ?_ (fun W hW => ?_) ?_; rotate_left; rfl; (obtain ⟨hz0, hz1, hz2⟩ := hW; go_simp; (first | done | with_reducible rfl)); simp only [pz]))
        refine ord_two ?_ ?_
        · skip
          refine ord_op rfl ?_ (fun K hK => ?_)
          rfl
          skip
          have oc : (W0).cell? ⟨ob, 1, none⟩ = some (.slice asv k csv) := (hBc.cell (p := ⟨ob, 1, none⟩) hobl).trans (by rw [cell_blk HOB.out]; rfl)
          go_simp
          obtain ⟨W1, hWj⟩ : ∃ Q, Q = W0 := ⟨_, rfl⟩
          subst hWj
          have hS1 := hS0
          clear oc
          refine hK _ _ hS1 ?_
          clear hK K
          try simp only [pz]
          refine ord_op rfl ?_ (fun K hK => ?_)
          rfl
          go_simp
          refine (to_c x _).mono ?_
          rintro e W2 ⟨rfl, hb2⟩
          replace hBc := hBc.trans (hb2.mono hBc.size)
          have hS2 := RvS.wr hS1 (Wr.of_below (S := fun _ => False) hb2) (fun e => e) (fun e => e)
          refine hK _ _ hS2 ?_
          clear hK K
          try simp only [pz]
          refine ord_op rfl ?_ (fun K hK => ?_)
          rfl
          go_simp
          obtain ⟨bx, hbx⟩ : ∃ n, n = (W2).heap.size := ⟨_, rfl⟩
          obtain ⟨W3, hW3⟩ : ∃ Q, Q = (W2).alloc (.cells #[.int .i64 x.lo, .int .i64 x.hi] 49) := ⟨_, rfl⟩
          have hbb : Below (W2).heap.size (W2) W3 := by rw [hW3]; exact (Below.refl _ _).alloc (Nat.le_refl _) _
          have hsl : Sl W3 (some ⟨bx, 0, none⟩) [.int .i64 x.lo, .int .i64 x.hi] := by rw [hW3, hbx]; exact Sl_new _ _ _
          replace hBc := hBc.trans (hbb.mono hBc.size)
          have hS3 := RvS.wr hS2 (Wr.of_below (S := fun _ => False) hbb) (fun e => e) (fun e => e)
          rw [← hW3, ← hbx]
          clear hW3 hbx hbb
          refine hK _ _ hS3 ?_
          clear hK K
          try simp only [pz]
          refine ord_op rfl ?_ (fun K hK => ?_)
          rfl
          skip
          refine wp_app elRg _ _ rfl rfl rfl (own_below HOW.out hBc) hsl rfl (by intro u hu; simp at hu; rcases hu with rfl | rfl <;> rfl) (by omega) (by omega) (by have := hBc.size; omega) ?_
          intro v7 W4 hown7 hg7 _
          have hob7 : ∀ q, (Value.slice asv k csv).ownBlock = some q → X1.heap.size ≤ q := fun q e => (HOW.out.lt q e).1
          have h67 := (Wr.of_below (S := fun q => (Value.slice asv k csv).ownBlock = some q) hBc).trans (grown_wr hg7)
          have hOB7 := h67.blk (k := ob) (fun e => by have := hob7 _ e; omega) HOB.out
          have hS4 := RvS.wr hS3 (grown_wr hg7) (fun e => by have h1 := hob7 _ e; have h2 := HB1.out.size; omega) (fun e => by have h1 := hob7 _ e; have h2 := HB1.out.size; omega)
          have h67' := h67
          have H67 := Lib.hid (h67'.mono (S' := fun q => X1.heap.size ≤ q) hob7)
          obtain ⟨a7, c7, rfl, -, -⟩ := own_Sl hown7
          have HOW7 := Lib.hid hown7
          have HOB7 := Lib.hid hOB7
          clear hown7 hg7 hsl h67 h67' hOB7 hob7
          refine hK _ _ hS4 ?_
          clear hK K
          try simp only [pz]
          repeat (first
            | (refine ord_skip rfl ?_ ?_; rfl; simp only [pz])
            | (refine ord_take (v := ?_) rfl ?_ (fun W hW => ?_) ?_; rotate_left; rfl; (obtain ⟨hz0, hz1, hz2⟩ := hW; go_simp; (first | done | with_reducible rfl)); simp only [pz]))
          refine ord_op rfl ?_ (fun K hK => ?_)
          rfl
          skip
          have oc := cell_blk (k := 1) HOB7.out
          have of := frozen_blk (k := 1) HOB7.out
          go_simp
          have hS5 := RvS.wr hS4 (Wr.setCell (fun k => k = ob) W4 ⟨ob, 1, none⟩ (.slice a7 (k + 1) c7) rfl) (fun e => by have : w.heap.size = ob := e; omega) (fun e => by have : b = ob := e; omega)
          clear oc of
          refine hK _ _ hS5 ?_
          clear hK K
          try simp only [pz]
          refine ord_nil ?_
          go_wp2_with fail
          go_roundw
          case rel =>
            refine ⟨k + 1, .slice a7 (k + 1) c7, by omega, by go_num, ?_, ?_, ?_⟩
            · rw [heap_set HOB7.out (k := 1) (.slice a7 (k + 1) c7)]; rfl
            · rw [List.take_add_one, HX.out, rgs_append]
              exact own_wr HOW7.out (Wr.setCell (fun k => k = ob) _ ⟨ob, 1, none⟩ _ rfl) (fun j hj e => by have : j = ob := e; omega)
            · refine (wr_own HW.out H67.out (fun j hj => hj)).trans (Wr.setCell (fun k => k = ob) _ ⟨ob, 1, none⟩ _ rfl)
          case measure => simp [intOf]; omega
        · skip
          refine ord_op rfl ?_ (fun K hK => ?_)
          rfl
          go_simp
          refine (to_c x _).mono ?_
          rintro e W6 ⟨rfl, hb6⟩
          replace hBc := hBc.trans (hb6.mono hBc.size)
          have hS6 := RvS.wr hS0 (Wr.of_below (S := fun _ => False) hb6) (fun e => e) (fun e => e)
          refine hK _ _ hS6 ?_
          clear hK K
          try simp only [pz]
          refine ord_two ?_ ?_
          · skip
            refine ord_op rfl ?_ (fun K hK => ?_)
            rfl
            skip
            have oc : (W6).cell? ⟨ob, 1, none⟩ = some (.slice asv k csv) := (hBc.cell (p := ⟨ob, 1, none⟩) hobl).trans (by rw [cell_blk HOB.out]; rfl)
            go_simp
            obtain ⟨W7, hWj⟩ : ∃ Q, Q = W6 := ⟨_, rfl⟩
            subst hWj
            have hS7 := hS6
            clear oc
            refine hK _ _ hS7 ?_
            clear hK K
            try simp only [pz]
            refine ord_op rfl ?_ (fun K hK => ?_)
            rfl
            go_simp
            obtain ⟨bx, hbx⟩ : ∃ n, n = (W7).heap.size := ⟨_, rfl⟩
            obtain ⟨W8, hW8⟩ : ∃ Q, Q = (W7).alloc (.cells #[.int .i64 x.lo, .int .i64 x.hi] 49) := ⟨_, rfl⟩
            have hbb : Below (W7).heap.size (W7) W8 := by rw [hW8]; exact (Below.refl _ _).alloc (Nat.le_refl _) _
            have hsl : Sl W8 (some ⟨bx, 0, none⟩) [.int .i64 x.lo, .int .i64 x.hi] := by rw [hW8, hbx]; exact Sl_new _ _ _
            replace hBc := hBc.trans (hbb.mono hBc.size)
            have hS8 := RvS.wr hS7 (Wr.of_below (S := fun _ => False) hbb) (fun e => e) (fun e => e)
            rw [← hW8, ← hbx]
            clear hW8 hbx hbb
            refine hK _ _ hS8 ?_
            clear hK K
            try simp only [pz]
            refine ord_op rfl ?_ (fun K hK => ?_)
            rfl
            skip
            refine wp_app elRg _ _ rfl rfl rfl (own_below HOW.out hBc) hsl rfl (by intro u hu; simp at hu; rcases hu with rfl | rfl <;> rfl) (by omega) (by omega) (by have := hBc.size; omega) ?_
            intro v7 W9 hown7 hg7 _
            have hob7 : ∀ q, (Value.slice asv k csv).ownBlock = some q → X1.heap.size ≤ q := fun q e => (HOW.out.lt q e).1
            have h67 := (Wr.of_below (S := fun q => (Value.slice asv k csv).ownBlock = some q) hBc).trans (grown_wr hg7)
            have hOB7 := h67.blk (k := ob) (fun e => by have := hob7 _ e; omega) HOB.out
            have hS9 := RvS.wr hS8 (grown_wr hg7) (fun e => by have h1 := hob7 _ e; have h2 := HB1.out.size; omega) (fun e => by have h1 := hob7 _ e; have h2 := HB1.out.size; omega)
            have h67' := h67
            have H67 := Lib.hid (h67'.mono (S' := fun q => X1.heap.size ≤ q) hob7)
            obtain ⟨a7, c7, rfl, -, -⟩ := own_Sl hown7
            have HOW7 := Lib.hid hown7
            have HOB7 := Lib.hid hOB7
            clear hown7 hg7 hsl h67 h67' hOB7 hob7
            refine hK _ _ hS9 ?_
            clear hK K
            try simp only [pz]
            repeat (first
              | (refine ord_skip rfl ?_ ?_; rfl; simp only [pz])
              | (refine ord_take (v := ?_) rfl ?_ (fun W hW => ?_) ?_; rotate_left; rfl; (obtain ⟨hz0, hz1, hz2⟩ := hW; go_simp; (first | done | with_reducible rfl)); simp only [pz]))
            refine ord_op rfl ?_ (fun K hK => ?_)
            rfl
            skip
            have oc := cell_blk (k := 1) HOB7.out
            have of := frozen_blk (k := 1) HOB7.out
            go_simp
            have hS10 := RvS.wr hS9 (Wr.setCell (fun k => k = ob) W9 ⟨ob, 1, none⟩ (.slice a7 (k + 1) c7) rfl) (fun e => by have : w.heap.size = ob := e; omega) (fun e => by have : b = ob := e; omega)
            clear oc of
            refine hK _ _ hS10 ?_
            clear hK K
            try simp only [pz]
            refine ord_nil ?_
            go_wp2_with fail
            go_roundw
            case rel =>
              refine ⟨k + 1, .slice a7 (k + 1) c7, by omega, by go_num, ?_, ?_, ?_⟩
              · rw [heap_set HOB7.out (k := 1) (.slice a7 (k + 1) c7)]; rfl
              · rw [List.take_add_one, HX.out, rgs_append]
                exact own_wr HOW7.out (Wr.setCell (fun k => k = ob) _ ⟨ob, 1, none⟩ _ rfl) (fun j hj e => by have : j = ob := e; omega)
              · refine (wr_own HW.out H67.out (fun j hj => hj)).trans (Wr.setCell (fun k => k = ob) _ ⟨ob, 1, none⟩ _ rfl)
            case measure => simp [intOf]; omega
          · skip
            refine ord_op rfl ?_ (fun K hK => ?_)
            rfl
            go_simp
            obtain ⟨bx, hbx⟩ : ∃ n, n = (W6).heap.size := ⟨_, rfl⟩
            obtain ⟨W11, hW11⟩ : ∃ Q, Q = (W6).alloc (.cells #[.int .i64 x.lo, .int .i64 x.hi] 49) := ⟨_, rfl⟩
            have hbb : Below (W6).heap.size (W6) W11 := by rw [hW11]; exact (Below.refl _ _).alloc (Nat.le_refl _) _
            have hsl : Sl W11 (some ⟨bx, 0, none⟩) [.int .i64 x.lo, .int .i64 x.hi] := by rw [hW11, hbx]; exact Sl_new _ _ _
            replace hBc := hBc.trans (hbb.mono hBc.size)
            have hS11 := RvS.wr hS6 (Wr.of_below (S := fun _ => False) hbb) (fun e => e) (fun e => e)
            rw [← hW11, ← hbx]
            clear hW11 hbx hbb
            refine hK _ _ hS11 ?_
            clear hK K
            try simp only [pz]
            refine ord_op rfl ?_ (fun K hK => ?_)
            rfl
            skip
            have oc : (W11).cell? ⟨ob, 1, none⟩ = some (.slice asv k csv) := (hBc.cell (p := ⟨ob, 1, none⟩) hobl).trans (by rw [cell_blk HOB.out]; rfl)
            go_simp
            obtain ⟨W12, hWj⟩ : ∃ Q, Q = W11 := ⟨_, rfl⟩
            subst hWj
            have hS12 := hS11
            clear oc
            refine hK _ _ hS12 ?_
            clear hK K
            try simp only [pz]
            refine ord_op rfl ?_ (fun K hK => ?_)
            rfl
            skip
            refine wp_app elRg _ _ rfl rfl rfl (own_below HOW.out hBc) hsl rfl (by intro u hu; simp at hu; rcases hu with rfl | rfl <;> rfl) (by omega) (by omega) (by have := hBc.size; omega) ?_
            intro v7 W13 hown7 hg7 _
            have hob7 : ∀ q, (Value.slice asv k csv).ownBlock = some q → X1.heap.size ≤ q := fun q e => (HOW.out.lt q e).1
            have h67 := (Wr.of_below (S := fun q => (Value.slice asv k csv).ownBlock = some q) hBc).trans (grown_wr hg7)
            have hOB7 := h67.blk (k := ob) (fun e => by have := hob7 _ e; omega) HOB.out
            have hS13 := RvS.wr hS12 (grown_wr hg7) (fun e => by have h1 := hob7 _ e; have h2 := HB1.out.size; omega) (fun e => by have h1 := hob7 _ e; have h2 := HB1.out.size; omega)
            have h67' := h67
            have H67 := Lib.hid (h67'.mono (S' := fun q => X1.heap.size ≤ q) hob7)
            obtain ⟨a7, c7, rfl, -, -⟩ := own_Sl hown7
            have HOW7 := Lib.hid hown7
            have HOB7 := Lib.hid hOB7
            clear hown7 hg7 hsl h67 h67' hOB7 hob7
            refine hK _ _ hS13 ?_
            clear hK K
            try simp only [pz]
            repeat (first
              | (refine ord_skip rfl ?_ ?_; rfl; simp only [pz])
              | (refine ord_take (v := ?_) rfl ?_ (fun W hW => ?_) ?_; rotate_left; rfl; (obtain ⟨hz0, hz1, hz2⟩ := hW; go_simp; (first | done | with_reducible rfl)); simp only [pz]))
            refine ord_op rfl ?_ (fun K hK => ?_)
            rfl
            skip
            have oc := cell_blk (k := 1) HOB7.out
            have of := frozen_blk (k := 1) HOB7.out
            go_simp
            have hS14 := RvS.wr hS13 (Wr.setCell (fun k => k = ob) W13 ⟨ob, 1, none⟩ (.slice a7 (k + 1) c7) rfl) (fun e => by have : w.heap.size = ob := e; omega) (fun e => by have : b = ob := e; omega)
            clear oc of
            refine hK _ _ hS14 ?_
            clear hK K
            try simp only [pz]
            refine ord_nil ?_
            go_wp2_with fail
            go_roundw
            case rel =>
              refine ⟨k + 1, .slice a7 (k + 1) c7, by omega, by go_num, ?_, ?_, ?_⟩
              · rw [heap_set HOB7.out (k := 1) (.slice a7 (k + 1) c7)]; rfl
              · rw [List.take_add_one, HX.out, rgs_append]
                exact own_wr HOW7.out (Wr.setCell (fun k => k = ob) _ ⟨ob, 1, none⟩ _ rfl) (fun j hj e => by have : j = ob := e; omega)
              · refine (wr_own HW.out H67.out (fun j hj => hj)).trans (Wr.setCell (fun k => k = ob) _ ⟨ob, 1, none⟩ _ rfl)
            case measure => simp [intOf]; omega
      · have hkn : k = r.salt.length := by omega
        have HKN := Lib.hid hkn
        obtain ⟨X2, hXX⟩ : ∃ Q, Q = wr := ⟨_, rfl⟩
        subst hXX
        obtain ⟨cS, hcS⟩ : ∃ c, c = csv := ⟨_, rfl⟩
        subst hcS
        obtain ⟨aS, haS⟩ : ∃ c, c = asv := ⟨_, rfl⟩
        subst haS
        have HO2 := Lib.hid (show X2.heap[ob]? = some (.cells #[.int .i64 r.last, .slice aS r.salt.length cS, .slice none 0 0, .int .i64 r.sweet, .int .i64 r.clear, .int .i64 r.size, .int .i64 r.start, .int .i64 r.draw, .slice ua r.use.length uc, .slice none 0 0] 35 (0, 0)) from by rw [← HKN.out]; exact HOB.out)
        have HB2 := Lib.hid HBw.out
        have hwo : ¬ (w.heap.size = ob) := by omega
        have B2 := Lib.hid (HW.out.blk (k := w.heap.size) hwo B1.out)
        have hwo1 : ¬ (w.heap.size + 1 = ob) := by omega
        have R2 := Lib.hid (HW.out.blk (k := w.heap.size + 1) hwo1 R1.out)
        have SLS := Lib.hid (show Sl X2 aS (rgs r.salt) from by have := HSL.out; rw [HKN.out, List.take_length] at this; exact this)
        have SPS := Lib.hid (show ∀ ad, aS = some ad → ad.block ≠ ob from fun ad e => by subst e; have := (HOW.out.lt ad.block rfl).1; omega)
        have HRS := Lib.hid (show ∀ ad, aS = some ad → ad.block ≥ w.heap.size + 2 from fun ad e => by subst e; have := (HOW.out.lt ad.block rfl).1; omega)
        have WX1 := Lib.hid HW.out
        clear HOB HW HOW HSL HBw hwo hwo1 hkn HKN hk hxb hxz hobl hnc
        have HRES1 := Lib.hid (show ∀ ad, aS = some ad → ad.block ≥ w.heap.size + 2 from HRS.out)
        go_wp2_with fail
        go_loopw [5] (fun i wr => ∃ (k : Nat) (sv : Value), k ≤ r.mud.length ∧ i = .int .i64 k ∧ wr.heap[ob]? = some (.cells #[.int .i64 r.last, .slice aS r.salt.length cS, sv, .int .i64 r.sweet, .int .i64 r.clear, .int .i64 r.size, .int .i64 r.start, .int .i64 r.draw, .slice ua r.use.length uc, .slice none 0 0] 35 (0, 0)) ∧ wr.ownsRow X2.heap.size 49 2 sv k (rgs (r.mud.take k)) ∧ Wr (fun k => k = ob) X2 wr) (fun i _ => r.mud.length - (intOf i).toNat)
        case atStart => exact ⟨0, .slice none 0 0, Nat.zero_le _, rfl, HO2.out, World.ownsRow_nil _ _ _ _, Wr.refl _ _⟩
        case round =>
          obtain ⟨k, sv, hk, rfl, hob, hown, hw⟩ := hrel
          have HOB := Lib.hid hob
          have HW := Lib.hid hw
          have HOW := Lib.hid hown
          obtain ⟨asv, csv, rfl, hnc, hslv⟩ := own_Sl hown
          have HSL := Lib.hid hslv
          have HBw := Lib.hid (HB2.out.trans (hw.below HB2.out.size (fun j e => by have : j = ob := e; omega)))
          have hwo : ¬ (w.heap.size = ob) := by omega
          have k1 : wr.cell? ⟨w.heap.size, 2, none⟩ = some (.slice A.ma r.mud.length A.mc) := by rw [cell_blk (hw.blk (k := w.heap.size) hwo B2.out)]; rfl
          have hobl : ob < wr.heap.size := (Array.getElem?_eq_some_iff.1 hob).1
          have hxb : ob < X2.heap.size := (Array.getElem?_eq_some_iff.1 HO2.out).1
          have hxz : X2.heap.size ≤ wr.heap.size := hw.size
          clear hob hw hown hslv hwo
          by_cases hlt : k < r.mud.length
          · obtain ⟨x, hx⟩ : ∃ x, r.mud[k]? = some x := ⟨_, List.getElem?_eq_getElem hlt⟩
            have HX := Lib.hid hx
            obtain ⟨b, o, hao, d1, d2⟩ := (hr.m.below HBw.out).rg_at hx
            obtain ⟨b', o', hao', e1, e2⟩ := hr.m.rg_at hx
            have hbw : b < w.heap.size := by
              have h1 := cell_lt e1
              rw [hao] at hao'
              cases hao'
              exact h1
            rw [hao] at k1
            clear hao hao' e1 e2 hx
            have HKS : RvS w.heap.size 2 b (o + k * 2) (.slice (some ⟨b, o, none⟩) r.mud.length A.mc) (.int .i64 x.lo) (.int .i64 x.hi) wr := ⟨k1, d1, d2⟩
            have ew : IntKind.i64.wrap ((k : Int) + 1) = (k : Int) + 1 := IntWalk.i64_in _ (by omega)
            have HB0 := Lib.hid HBw.out.size
            go_wp2_with fail
            refine region_o (S := RvS w.heap.size 2 b (o + k * 2) (.slice (some ⟨b, o, none⟩) r.mud.length A.mc) (.int .i64 x.lo) (.int .i64 x.hi)) (.take 0 (.take 2 (.take 3 (.take 4 (.take 5 (.take 6 (.two 1 7 (.one 7 (.one 8 (.one 9 (.take 10 (.one 11 .nil))))) (.two 1 8 (.one 8 (.one 9 (.take 10 (.one 11 .nil)))) (.one 1 (.one 9 (.take 10 (.one 11 .nil)))))))))))) (by kernel_rfl) (by kernel_rfl) (fun _ _ d _ _ h => by cases d <;> exact h) (HKS.wr (Wr.of_below (S := fun _ => False) (Below.refl _ _).drew) (fun e => e) (fun e => e)) ?_
            intro W0 hW0 hS0
            have hBW : Below wr.heap.size wr W0 := by subst hW0; exact (Below.refl _ _).drew
            clear hW0
            have hBc := hBW
            repeat (first
              | (refine ord_skip rfl ?_ ?_; rfl; simp only [pz])
              | (refine ord_take (v := ?_) rfl ?_ (fun W hW => ?_) ?_; rotate_left; rfl; (obtain ⟨hz0, hz1, hz2⟩ := hW; go_simp; (first | done | with_reducible rfl)); simp only [pz]))
            refine ord_two ?_ ?_
            · skip
              refine ord_op rfl ?_ (fun K hK => ?_)
              rfl
              skip
              have oc : (W0).cell? ⟨ob, 2, none⟩ = some (.slice asv k csv) := (hBc.cell (p := ⟨ob, 2, none⟩) hobl).trans (by rw [cell_blk HOB.out]; rfl)
              go_simp
              obtain ⟨W1, hWj⟩ : ∃ Q, Q = W0 := ⟨_, rfl⟩
              subst hWj
              have hS1 := hS0
              clear oc
              refine hK _ _ hS1 ?_
              clear hK K
              try simp only [pz]
              refine ord_op rfl ?_ (fun K hK => ?_)
              rfl
              go_simp
              refine (to_c x _).mono ?_
              rintro e W2 ⟨rfl, hb2⟩
              replace hBc := hBc.trans (hb2.mono hBc.size)
              have hS2 := RvS.wr hS1 (Wr.of_below (S := fun _ => False) hb2) (fun e => e) (fun e => e)
              refine hK _ _ hS2 ?_
              clear hK K
              try simp only [pz]
              refine ord_op rfl ?_ (fun K hK => ?_)
              rfl
              go_simp
              obtain ⟨bx, hbx⟩ : ∃ n, n = (W2).heap.size := ⟨_, rfl⟩
              obtain ⟨W3, hW3⟩ : ∃ Q, Q = (W2).alloc (.cells #[.int .i64 x.lo, .int .i64 x.hi] 49) := ⟨_, rfl⟩
              have hbb : Below (W2).heap.size (W2) W3 := by rw [hW3]; exact (Below.refl _ _).alloc (Nat.le_refl _) _
              have hsl : Sl W3 (some ⟨bx, 0, none⟩) [.int .i64 x.lo, .int .i64 x.hi] := by rw [hW3, hbx]; exact Sl_new _ _ _
              replace hBc := hBc.trans (hbb.mono hBc.size)
              have hS3 := RvS.wr hS2 (Wr.of_below (S := fun _ => False) hbb) (fun e => e) (fun e => e)
              rw [← hW3, ← hbx]
              clear hW3 hbx hbb
              refine hK _ _ hS3 ?_
              clear hK K
              try simp only [pz]
              refine ord_op rfl ?_ (fun K hK => ?_)
              rfl
              skip
              refine wp_app elRg _ _ rfl rfl rfl (own_below HOW.out hBc) hsl rfl (by intro u hu; simp at hu; rcases hu with rfl | rfl <;> rfl) (by omega) (by omega) (by have := hBc.size; omega) ?_
              intro v7 W4 hown7 hg7 _
              have hob7 : ∀ q, (Value.slice asv k csv).ownBlock = some q → X2.heap.size ≤ q := fun q e => (HOW.out.lt q e).1
              have h67 := (Wr.of_below (S := fun q => (Value.slice asv k csv).ownBlock = some q) hBc).trans (grown_wr hg7)
              have hOB7 := h67.blk (k := ob) (fun e => by have := hob7 _ e; omega) HOB.out
              have hS4 := RvS.wr hS3 (grown_wr hg7) (fun e => by have h1 := hob7 _ e; have h2 := HB2.out.size; omega) (fun e => by have h1 := hob7 _ e; have h2 := HB2.out.size; omega)
              have h67' := h67
              have H67 := Lib.hid (h67'.mono (S' := fun q => X2.heap.size ≤ q) hob7)
              obtain ⟨a7, c7, rfl, -, -⟩ := own_Sl hown7
              have HOW7 := Lib.hid hown7
              have HOB7 := Lib.hid hOB7
              clear hown7 hg7 hsl h67 h67' hOB7 hob7
              refine hK _ _ hS4 ?_
              clear hK K
              try simp only [pz]
              repeat (first
                | (refine ord_skip rfl ?_ ?_; rfl; simp only [pz])
                | (refine ord_take (v := ?_) rfl ?_ (fun W hW => ?_) ?_; rotate_left; rfl; (obtain ⟨hz0, hz1, hz2⟩ := hW; go_simp; (first | done | with_reducible rfl)); simp only [pz]))
              refine ord_op rfl ?_ (fun K hK => ?_)
              rfl
              skip
              have oc := cell_blk (k := 2) HOB7.out
              have of := frozen_blk (k := 2) HOB7.out
              go_simp
              have hS5 := RvS.wr hS4 (Wr.setCell (fun k => k = ob) W4 ⟨ob, 2, none⟩ (.slice a7 (k + 1) c7) rfl) (fun e => by have : w.heap.size = ob := e; omega) (fun e => by have : b = ob := e; omega)
              clear oc of
              refine hK _ _ hS5 ?_
              clear hK K
              try simp only [pz]
              refine ord_nil ?_
              go_wp2_with fail
              go_roundw
              case rel =>
                refine ⟨k + 1, .slice a7 (k + 1) c7, by omega, by go_num, ?_, ?_, ?_⟩
                · rw [heap_set HOB7.out (k := 2) (.slice a7 (k + 1) c7)]; rfl
                · rw [List.take_add_one, HX.out, rgs_append]
                  exact own_wr HOW7.out (Wr.setCell (fun k => k = ob) _ ⟨ob, 2, none⟩ _ rfl) (fun j hj e => by have : j = ob := e; omega)
                · refine (wr_own HW.out H67.out (fun j hj => hj)).trans (Wr.setCell (fun k => k = ob) _ ⟨ob, 2, none⟩ _ rfl)
              case measure => simp [intOf]; omega
            · skip
              refine ord_op rfl ?_ (fun K hK => ?_)
              rfl
              go_simp
              refine (to_c x _).mono ?_
              rintro e W6 ⟨rfl, hb6⟩
              replace hBc := hBc.trans (hb6.mono hBc.size)
              have hS6 := RvS.wr hS0 (Wr.of_below (S := fun _ => False) hb6) (fun e => e) (fun e => e)
              refine hK _ _ hS6 ?_
              clear hK K
              try simp only [pz]
              refine ord_two ?_ ?_
              · skip
                refine ord_op rfl ?_ (fun K hK => ?_)
                rfl
                skip
                have oc : (W6).cell? ⟨ob, 2, none⟩ = some (.slice asv k csv) := (hBc.cell (p := ⟨ob, 2, none⟩) hobl).trans (by rw [cell_blk HOB.out]; rfl)
                go_simp
                obtain ⟨W7, hWj⟩ : ∃ Q, Q = W6 := ⟨_, rfl⟩
                subst hWj
                have hS7 := hS6
                clear oc
                refine hK _ _ hS7 ?_
                clear hK K
                try simp only [pz]
                refine ord_op rfl ?_ (fun K hK => ?_)
                rfl
                go_simp
                obtain ⟨bx, hbx⟩ : ∃ n, n = (W7).heap.size := ⟨_, rfl⟩
                obtain ⟨W8, hW8⟩ : ∃ Q, Q = (W7).alloc (.cells #[.int .i64 x.lo, .int .i64 x.hi] 49) := ⟨_, rfl⟩
                have hbb : Below (W7).heap.size (W7) W8 := by rw [hW8]; exact (Below.refl _ _).alloc (Nat.le_refl _) _
                have hsl : Sl W8 (some ⟨bx, 0, none⟩) [.int .i64 x.lo, .int .i64 x.hi] := by rw [hW8, hbx]; exact Sl_new _ _ _
                replace hBc := hBc.trans (hbb.mono hBc.size)
                have hS8 := RvS.wr hS7 (Wr.of_below (S := fun _ => False) hbb) (fun e => e) (fun e => e)
                rw [← hW8, ← hbx]
                clear hW8 hbx hbb
                refine hK _ _ hS8 ?_
                clear hK K
                try simp only [pz]
                refine ord_op rfl ?_ (fun K hK => ?_)
                rfl
                skip
                refine wp_app elRg _ _ rfl rfl rfl (own_below HOW.out hBc) hsl rfl (by intro u hu; simp at hu; rcases hu with rfl | rfl <;> rfl) (by omega) (by omega) (by have := hBc.size; omega) ?_
                intro v7 W9 hown7 hg7 _
                have hob7 : ∀ q, (Value.slice asv k csv).ownBlock = some q → X2.heap.size ≤ q := fun q e => (HOW.out.lt q e).1
                have h67 := (Wr.of_below (S := fun q => (Value.slice asv k csv).ownBlock = some q) hBc).trans (grown_wr hg7)
                have hOB7 := h67.blk (k := ob) (fun e => by have := hob7 _ e; omega) HOB.out
                have hS9 := RvS.wr hS8 (grown_wr hg7) (fun e => by have h1 := hob7 _ e; have h2 := HB2.out.size; omega) (fun e => by have h1 := hob7 _ e; have h2 := HB2.out.size; omega)
                have h67' := h67
                have H67 := Lib.hid (h67'.mono (S' := fun q => X2.heap.size ≤ q) hob7)
                obtain ⟨a7, c7, rfl, -, -⟩ := own_Sl hown7
                have HOW7 := Lib.hid hown7
                have HOB7 := Lib.hid hOB7
                clear hown7 hg7 hsl h67 h67' hOB7 hob7
                refine hK _ _ hS9 ?_
                clear hK K
                try simp only [pz]
                repeat (first
                  | (refine ord_skip rfl ?_ ?_; rfl; simp only [pz])
                  | (refine ord_take (v := ?_) rfl ?_ (fun W hW => ?_) ?_; rotate_left; rfl; (obtain ⟨hz0, hz1, hz2⟩ := hW; go_simp; (first | done | with_reducible rfl)); simp only [pz]))
                refine ord_op rfl ?_ (fun K hK => ?_)
                rfl
                skip
                have oc := cell_blk (k := 2) HOB7.out
                have of := frozen_blk (k := 2) HOB7.out
                go_simp
                have hS10 := RvS.wr hS9 (Wr.setCell (fun k => k = ob) W9 ⟨ob, 2, none⟩ (.slice a7 (k + 1) c7) rfl) (fun e => by have : w.heap.size = ob := e; omega) (fun e => by have : b = ob := e; omega)
                clear oc of
                refine hK _ _ hS10 ?_
                clear hK K
                try simp only [pz]
                refine ord_nil ?_
                go_wp2_with fail
                go_roundw
                case rel =>
                  refine ⟨k + 1, .slice a7 (k + 1) c7, by omega, by go_num, ?_, ?_, ?_⟩
                  · rw [heap_set HOB7.out (k := 2) (.slice a7 (k + 1) c7)]; rfl
                  · rw [List.take_add_one, HX.out, rgs_append]
                    exact own_wr HOW7.out (Wr.setCell (fun k => k = ob) _ ⟨ob, 2, none⟩ _ rfl) (fun j hj e => by have : j = ob := e; omega)
                  · refine (wr_own HW.out H67.out (fun j hj => hj)).trans (Wr.setCell (fun k => k = ob) _ ⟨ob, 2, none⟩ _ rfl)
                case measure => simp [intOf]; omega
              · skip
                refine ord_op rfl ?_ (fun K hK => ?_)
                rfl
                go_simp
                obtain ⟨bx, hbx⟩ : ∃ n, n = (W6).heap.size := ⟨_, rfl⟩
                obtain ⟨W11, hW11⟩ : ∃ Q, Q = (W6).alloc (.cells #[.int .i64 x.lo, .int .i64 x.hi] 49) := ⟨_, rfl⟩
                have hbb : Below (W6).heap.size (W6) W11 := by rw [hW11]; exact (Below.refl _ _).alloc (Nat.le_refl _) _
                have hsl : Sl W11 (some ⟨bx, 0, none⟩) [.int .i64 x.lo, .int .i64 x.hi] := by rw [hW11, hbx]; exact Sl_new _ _ _
                replace hBc := hBc.trans (hbb.mono hBc.size)
                have hS11 := RvS.wr hS6 (Wr.of_below (S := fun _ => False) hbb) (fun e => e) (fun e => e)
                rw [← hW11, ← hbx]
                clear hW11 hbx hbb
                refine hK _ _ hS11 ?_
                clear hK K
                try simp only [pz]
                refine ord_op rfl ?_ (fun K hK => ?_)
                rfl
                skip
                have oc : (W11).cell? ⟨ob, 2, none⟩ = some (.slice asv k csv) := (hBc.cell (p := ⟨ob, 2, none⟩) hobl).trans (by rw [cell_blk HOB.out]; rfl)
                go_simp
                obtain ⟨W12, hWj⟩ : ∃ Q, Q = W11 := ⟨_, rfl⟩
                subst hWj
                have hS12 := hS11
                clear oc
                refine hK _ _ hS12 ?_
                clear hK K
                try simp only [pz]
                refine ord_op rfl ?_ (fun K hK => ?_)
                rfl
                skip
                refine wp_app elRg _ _ rfl rfl rfl (own_below HOW.out hBc) hsl rfl (by intro u hu; simp at hu; rcases hu with rfl | rfl <;> rfl) (by omega) (by omega) (by have := hBc.size; omega) ?_
                intro v7 W13 hown7 hg7 _
                have hob7 : ∀ q, (Value.slice asv k csv).ownBlock = some q → X2.heap.size ≤ q := fun q e => (HOW.out.lt q e).1
                have h67 := (Wr.of_below (S := fun q => (Value.slice asv k csv).ownBlock = some q) hBc).trans (grown_wr hg7)
                have hOB7 := h67.blk (k := ob) (fun e => by have := hob7 _ e; omega) HOB.out
                have hS13 := RvS.wr hS12 (grown_wr hg7) (fun e => by have h1 := hob7 _ e; have h2 := HB2.out.size; omega) (fun e => by have h1 := hob7 _ e; have h2 := HB2.out.size; omega)
                have h67' := h67
                have H67 := Lib.hid (h67'.mono (S' := fun q => X2.heap.size ≤ q) hob7)
                obtain ⟨a7, c7, rfl, -, -⟩ := own_Sl hown7
                have HOW7 := Lib.hid hown7
                have HOB7 := Lib.hid hOB7
                clear hown7 hg7 hsl h67 h67' hOB7 hob7
                refine hK _ _ hS13 ?_
                clear hK K
                try simp only [pz]
                repeat (first
                  | (refine ord_skip rfl ?_ ?_; rfl; simp only [pz])
                  | (refine ord_take (v := ?_) rfl ?_ (fun W hW => ?_) ?_; rotate_left; rfl; (obtain ⟨hz0, hz1, hz2⟩ := hW; go_simp; (first | done | with_reducible rfl)); simp only [pz]))
                refine ord_op rfl ?_ (fun K hK => ?_)
                rfl
                skip
                have oc := cell_blk (k := 2) HOB7.out
                have of := frozen_blk (k := 2) HOB7.out
                go_simp
                have hS14 := RvS.wr hS13 (Wr.setCell (fun k => k = ob) W13 ⟨ob, 2, none⟩ (.slice a7 (k + 1) c7) rfl) (fun e => by have : w.heap.size = ob := e; omega) (fun e => by have : b = ob := e; omega)
                clear oc of
                refine hK _ _ hS14 ?_
                clear hK K
                try simp only [pz]
                refine ord_nil ?_
                go_wp2_with fail
                go_roundw
                case rel =>
                  refine ⟨k + 1, .slice a7 (k + 1) c7, by omega, by go_num, ?_, ?_, ?_⟩
                  · rw [heap_set HOB7.out (k := 2) (.slice a7 (k + 1) c7)]; rfl
                  · rw [List.take_add_one, HX.out, rgs_append]
                    exact own_wr HOW7.out (Wr.setCell (fun k => k = ob) _ ⟨ob, 2, none⟩ _ rfl) (fun j hj e => by have : j = ob := e; omega)
                  · refine (wr_own HW.out H67.out (fun j hj => hj)).trans (Wr.setCell (fun k => k = ob) _ ⟨ob, 2, none⟩ _ rfl)
                case measure => simp [intOf]; omega
          · have hkn : k = r.mud.length := by omega
            have HKN := Lib.hid hkn
            obtain ⟨X3, hXX⟩ : ∃ Q, Q = wr := ⟨_, rfl⟩
            subst hXX
            obtain ⟨cM, hcM⟩ : ∃ c, c = csv := ⟨_, rfl⟩
            subst hcM
            obtain ⟨aM, haM⟩ : ∃ c, c = asv := ⟨_, rfl⟩
            subst haM
            have HO3 := Lib.hid (show X3.heap[ob]? = some (.cells #[.int .i64 r.last, .slice aS r.salt.length cS, .slice aM r.mud.length cM, .int .i64 r.sweet, .int .i64 r.clear, .int .i64 r.size, .int .i64 r.start, .int .i64 r.draw, .slice ua r.use.length uc, .slice none 0 0] 35 (0, 0)) from by rw [← HKN.out]; exact HOB.out)
            have HB3 := Lib.hid HBw.out
            have hwo : ¬ (w.heap.size = ob) := by omega
            have B3 := Lib.hid (HW.out.blk (k := w.heap.size) hwo B2.out)
            have hwo1 : ¬ (w.heap.size + 1 = ob) := by omega
            have R3 := Lib.hid (HW.out.blk (k := w.heap.size + 1) hwo1 R2.out)
            have SLM := Lib.hid (show Sl X3 aM (rgs r.mud) from by have := HSL.out; rw [HKN.out, List.take_length] at this; exact this)
            have SPM := Lib.hid (show ∀ ad, aM = some ad → ad.block ≠ ob from fun ad e => by subst e; have := (HOW.out.lt ad.block rfl).1; omega)
            have HRM := Lib.hid (show ∀ ad, aM = some ad → ad.block ≥ w.heap.size + 2 from fun ad e => by subst e; have := (HOW.out.lt ad.block rfl).1; omega)
            have WX2 := Lib.hid HW.out
            clear HOB HW HOW HSL HBw hwo hwo1 hkn HKN hk hxb hxz hobl hnc
            have HRES2 := Lib.hid (show ∀ ad, aM = some ad → ad.block ≥ w.heap.size + 2 from HRM.out)
            go_wp2_with fail
            go_loopw [6, 7] (fun i _ wr => ∃ (k : Nat) (sv : Value), k ≤ r.gauges.length ∧ i = .int .i64 k ∧ wr.heap[ob]? = some (.cells #[.int .i64 r.last, .slice aS r.salt.length cS, .slice aM r.mud.length cM, .int .i64 r.sweet, .int .i64 r.clear, .int .i64 r.size, .int .i64 r.start, .int .i64 r.draw, .slice ua r.use.length uc, sv] 35 (0, 0)) ∧ wr.ownsRow X3.heap.size 114 4 sv k (ggs (r.gauges.take k)) ∧ Wr (fun k => k = ob) X3 wr) (fun i _ _ => r.gauges.length - (intOf i).toNat)
            case atStart => exact ⟨0, .slice none 0 0, Nat.zero_le _, rfl, HO3.out, World.ownsRow_nil _ _ _ _, Wr.refl _ _⟩
            case round =>
              obtain ⟨k, sv, hk, rfl, hob, hown, hw⟩ := hrel
              have HOB := Lib.hid hob
              have HW := Lib.hid hw
              have HOW := Lib.hid hown
              obtain ⟨asv, csv, rfl, hnc, hslv⟩ := own_Sl hown
              have HSL := Lib.hid hslv
              have HBw := Lib.hid (HB3.out.trans (hw.below HB3.out.size (fun j e => by have : j = ob := e; omega)))
              have hwo : ¬ (w.heap.size = ob) := by omega
              have k1 : wr.cell? ⟨w.heap.size, 9, none⟩ = some (.slice A.ga r.gauges.length A.gc) := by rw [cell_blk (hw.blk (k := w.heap.size) hwo B3.out)]; rfl
              have hobl : ob < wr.heap.size := (Array.getElem?_eq_some_iff.1 hob).1
              have hxb : ob < X3.heap.size := (Array.getElem?_eq_some_iff.1 HO3.out).1
              have hxz : X3.heap.size ≤ wr.heap.size := hw.size
              clear hob hw hown hslv hwo
              by_cases hlt : k < r.gauges.length
              · obtain ⟨x, hx⟩ : ∃ x, r.gauges[k]? = some x := ⟨_, List.getElem?_eq_getElem hlt⟩
                have HX := Lib.hid hx
                obtain ⟨b, o, hao, d1, d2, d3, d4⟩ := (hr.g.below HBw.out).gg_at hx
                rw [hao] at k1
                clear hao hx
                have ew : IntKind.i64.wrap ((k : Int) + 1) = (k : Int) + 1 := IntWalk.i64_in _ (by omega)
                go_wp2_with fail
                obtain ⟨wg, hwg⟩ : ∃ Q, Q = wr.alloc (.cells #[.int .i64 x.day, .bool x.mud, .int .i64 x.rd.lo, .int .i64 x.rd.hi] 99) := ⟨_, rfl⟩
                have hbg : Below wr.heap.size wr wg := by rw [hwg]; exact (Below.refl _ _).alloc (Nat.le_refl _) _
                have hG : wg.heap[wr.heap.size]? = some (.cells #[.int .i64 x.day, .bool x.mud, .int .i64 x.rd.lo, .int .i64 x.rd.hi] 99 (0, 0)) := by rw [hwg]; exact heap_alloc_new _ _
                rw [← hwg]
                have HKS : RvG wr.heap.size (.int .i64 x.day) (.bool x.mud) (.int .i64 x.rd.lo) (.int .i64 x.rd.hi) wg := ⟨by rw [cell_blk hG]; rfl, by rw [cell_blk hG]; rfl, by rw [cell_blk hG]; rfl, by rw [cell_blk hG]; rfl⟩
                have HBG := Lib.hid hbg
                have hwrz : wr.heap.size < wg.heap.size := (Array.getElem?_eq_some_iff.1 hG).1
                clear hwg hG k1 d1 d2 d3 d4 hbg
                refine region_o (S := RvG wr.heap.size (.int .i64 x.day) (.bool x.mud) (.int .i64 x.rd.lo) (.int .i64 x.rd.hi)) (.take 0 (.take 2 (.take 3 (.take 4 (.take 5 (.take 6 (.take 7 (.two 1 8 (.one 8 (.take 9 (.one 10 (.one 11 (.take 12 (.one 13 .nil)))))) (.take 9 (.two 1 10 (.one 10 (.one 11 (.take 12 (.one 13 .nil)))) (.one 1 (.one 11 (.take 12 (.one 13 .nil)))))))))))))) (by kernel_rfl) (by kernel_rfl) (fun _ _ d _ _ h => by cases d <;> exact h) (HKS.wr (Wr.of_below (S := fun _ => False) (Below.refl _ _).drew) (fun e => e)) ?_
                intro W0 hW0 hS0
                have hBW : Below wg.heap.size wg W0 := by subst hW0; exact (Below.refl _ _).drew
                clear hW0
                have hBc := HBG.out.trans (hBW.mono HBG.out.size)
                repeat (first
                  | (refine ord_skip rfl ?_ ?_; rfl; simp only [pz])
                  | (refine ord_take (v := ?_) rfl ?_ (fun W hW => ?_) ?_; rotate_left; rfl; (obtain ⟨hz0, hz1, hz2, hz3⟩ := hW; go_simp; (first | done | with_reducible rfl)); simp only [pz]))
                refine ord_two ?_ ?_
                · skip
                  refine ord_op rfl ?_ (fun K hK => ?_)
                  rfl
                  skip
                  have oc : (W0).cell? ⟨ob, 9, none⟩ = some (.slice asv k csv) := (hBc.cell (p := ⟨ob, 9, none⟩) hobl).trans (by rw [cell_blk HOB.out]; rfl)
                  go_simp
                  obtain ⟨W1, hWj⟩ : ∃ Q, Q = W0 := ⟨_, rfl⟩
                  subst hWj
                  have hS1 := hS0
                  clear oc
                  refine hK _ _ hS1 ?_
                  clear hK K
                  try simp only [pz]
                  refine ord_op rfl ?_ (fun K hK => ?_)
                  rfl
                  go_simp
                  refine (to_c x.rd _).mono ?_
                  rintro e W2 ⟨rfl, hb2⟩
                  replace hBc := hBc.trans (hb2.mono hBc.size)
                  have hS2 := RvG.wr hS1 (Wr.of_below (S := fun _ => False) hb2) (fun e => e)
                  refine hK _ _ hS2 ?_
                  clear hK K
                  try simp only [pz]
                  repeat (first
                    | (refine ord_skip rfl ?_ ?_; rfl; simp only [pz])
                    | (refine ord_take (v := ?_) rfl ?_ (fun W hW => ?_) ?_; rotate_left; rfl; (obtain ⟨hz0, hz1, hz2, hz3⟩ := hW; go_simp; (first | done | with_reducible rfl)); simp only [pz]))
                  refine ord_op rfl ?_ (fun K hK => ?_)
                  rfl
                  go_simp
                  obtain ⟨bx, hbx⟩ : ∃ n, n = (W2).heap.size := ⟨_, rfl⟩
                  obtain ⟨W3, hW3⟩ : ∃ Q, Q = (W2).alloc (.cells #[.int .i64 x.day, .bool x.mud, .int .i64 x.rd.lo, .int .i64 x.rd.hi] 114) := ⟨_, rfl⟩
                  have hbb : Below (W2).heap.size (W2) W3 := by rw [hW3]; exact (Below.refl _ _).alloc (Nat.le_refl _) _
                  have hsl : Sl W3 (some ⟨bx, 0, none⟩) [.int .i64 x.day, .bool x.mud, .int .i64 x.rd.lo, .int .i64 x.rd.hi] := by rw [hW3, hbx]; exact Sl_new _ _ _
                  replace hBc := hBc.trans (hbb.mono hBc.size)
                  have hS3 := RvG.wr hS2 (Wr.of_below (S := fun _ => False) hbb) (fun e => e)
                  rw [← hW3, ← hbx]
                  clear hW3 hbx hbb
                  refine hK _ _ hS3 ?_
                  clear hK K
                  try simp only [pz]
                  refine ord_op rfl ?_ (fun K hK => ?_)
                  rfl
                  skip
                  refine wp_app elGg _ _ rfl rfl rfl (own_below HOW.out hBc) hsl rfl (by intro u hu; simp at hu; rcases hu with rfl | rfl | rfl | rfl <;> rfl) (by omega) (by omega) (by have := hBc.size; omega) ?_
                  intro v7 W4 hown7 hg7 _
                  have hob7 : ∀ q, (Value.slice asv k csv).ownBlock = some q → X3.heap.size ≤ q ∧ q < wr.heap.size := fun q e => HOW.out.lt q e
                  have h67 := (Wr.of_below (S := fun q => (Value.slice asv k csv).ownBlock = some q) hBc).trans (grown_wr hg7)
                  have hOB7 := h67.blk (k := ob) (fun e => by have := hob7 _ e; omega) HOB.out
                  have hS4 := RvG.wr hS3 (grown_wr hg7) (fun e => by have h1 := hob7 _ e; omega)
                  have H67 := Lib.hid (h67.mono (S' := fun q => X3.heap.size ≤ q) (fun q e => (hob7 q e).1))
                  obtain ⟨a7, c7, rfl, -, -⟩ := own_Sl hown7
                  have HOW7 := Lib.hid hown7
                  have HOB7 := Lib.hid hOB7
                  clear hown7 hg7 hsl h67 hOB7 hob7
                  refine hK _ _ hS4 ?_
                  clear hK K
                  try simp only [pz]
                  repeat (first
                    | (refine ord_skip rfl ?_ ?_; rfl; simp only [pz])
                    | (refine ord_take (v := ?_) rfl ?_ (fun W hW => ?_) ?_; rotate_left; rfl; (obtain ⟨hz0, hz1, hz2, hz3⟩ := hW; go_simp; (first | done | with_reducible rfl)); simp only [pz]))
                  refine ord_op rfl ?_ (fun K hK => ?_)
                  rfl
                  skip
                  have oc := cell_blk (k := 9) HOB7.out
                  have of := frozen_blk (k := 9) HOB7.out
                  go_simp
                  have hS5 := RvG.wr hS4 (Wr.setCell (fun k => k = ob) W4 ⟨ob, 9, none⟩ (.slice a7 (k + 1) c7) rfl) (fun e => by have : wr.heap.size = ob := e; omega)
                  clear oc of
                  refine hK _ _ hS5 ?_
                  clear hK K
                  try simp only [pz]
                  refine ord_nil ?_
                  go_wp2_with fail
                  go_roundw
                  case rel =>
                    refine ⟨k + 1, .slice a7 (k + 1) c7, by omega, by go_num, ?_, ?_, ?_⟩
                    · rw [heap_set HOB7.out (k := 9) (.slice a7 (k + 1) c7)]; rfl
                    · rw [List.take_add_one, HX.out, ggs_append]
                      exact own_wr HOW7.out (Wr.setCell (fun k => k = ob) _ ⟨ob, 9, none⟩ _ rfl) (fun j hj e => by have : j = ob := e; omega)
                    · refine (wr_own HW.out H67.out (fun j hj => hj)).trans (Wr.setCell (fun k => k = ob) _ ⟨ob, 9, none⟩ _ rfl)
                  case measure => simp [intOf]; omega
                · skip
                  refine ord_op rfl ?_ (fun K hK => ?_)
                  rfl
                  go_simp
                  refine (to_c x.rd _).mono ?_
                  rintro e W6 ⟨rfl, hb6⟩
                  replace hBc := hBc.trans (hb6.mono hBc.size)
                  have hS6 := RvG.wr hS0 (Wr.of_below (S := fun _ => False) hb6) (fun e => e)
                  refine hK _ _ hS6 ?_
                  clear hK K
                  try simp only [pz]
                  repeat (first
                    | (refine ord_skip rfl ?_ ?_; rfl; simp only [pz])
                    | (refine ord_take (v := ?_) rfl ?_ (fun W hW => ?_) ?_; rotate_left; rfl; (obtain ⟨hz0, hz1, hz2, hz3⟩ := hW; go_simp; (first | done | with_reducible rfl)); simp only [pz]))
                  refine ord_two ?_ ?_
                  · skip
                    refine ord_op rfl ?_ (fun K hK => ?_)
                    rfl
                    skip
                    have oc : (W6).cell? ⟨ob, 9, none⟩ = some (.slice asv k csv) := (hBc.cell (p := ⟨ob, 9, none⟩) hobl).trans (by rw [cell_blk HOB.out]; rfl)
                    go_simp
                    obtain ⟨W7, hWj⟩ : ∃ Q, Q = W6 := ⟨_, rfl⟩
                    subst hWj
                    have hS7 := hS6
                    clear oc
                    refine hK _ _ hS7 ?_
                    clear hK K
                    try simp only [pz]
                    refine ord_op rfl ?_ (fun K hK => ?_)
                    rfl
                    go_simp
                    obtain ⟨bx, hbx⟩ : ∃ n, n = (W7).heap.size := ⟨_, rfl⟩
                    obtain ⟨W8, hW8⟩ : ∃ Q, Q = (W7).alloc (.cells #[.int .i64 x.day, .bool x.mud, .int .i64 x.rd.lo, .int .i64 x.rd.hi] 114) := ⟨_, rfl⟩
                    have hbb : Below (W7).heap.size (W7) W8 := by rw [hW8]; exact (Below.refl _ _).alloc (Nat.le_refl _) _
                    have hsl : Sl W8 (some ⟨bx, 0, none⟩) [.int .i64 x.day, .bool x.mud, .int .i64 x.rd.lo, .int .i64 x.rd.hi] := by rw [hW8, hbx]; exact Sl_new _ _ _
                    replace hBc := hBc.trans (hbb.mono hBc.size)
                    have hS8 := RvG.wr hS7 (Wr.of_below (S := fun _ => False) hbb) (fun e => e)
                    rw [← hW8, ← hbx]
                    clear hW8 hbx hbb
                    refine hK _ _ hS8 ?_
                    clear hK K
                    try simp only [pz]
                    refine ord_op rfl ?_ (fun K hK => ?_)
                    rfl
                    skip
                    refine wp_app elGg _ _ rfl rfl rfl (own_below HOW.out hBc) hsl rfl (by intro u hu; simp at hu; rcases hu with rfl | rfl | rfl | rfl <;> rfl) (by omega) (by omega) (by have := hBc.size; omega) ?_
                    intro v7 W9 hown7 hg7 _
                    have hob7 : ∀ q, (Value.slice asv k csv).ownBlock = some q → X3.heap.size ≤ q ∧ q < wr.heap.size := fun q e => HOW.out.lt q e
                    have h67 := (Wr.of_below (S := fun q => (Value.slice asv k csv).ownBlock = some q) hBc).trans (grown_wr hg7)
                    have hOB7 := h67.blk (k := ob) (fun e => by have := hob7 _ e; omega) HOB.out
                    have hS9 := RvG.wr hS8 (grown_wr hg7) (fun e => by have h1 := hob7 _ e; omega)
                    have H67 := Lib.hid (h67.mono (S' := fun q => X3.heap.size ≤ q) (fun q e => (hob7 q e).1))
                    obtain ⟨a7, c7, rfl, -, -⟩ := own_Sl hown7
                    have HOW7 := Lib.hid hown7
                    have HOB7 := Lib.hid hOB7
                    clear hown7 hg7 hsl h67 hOB7 hob7
                    refine hK _ _ hS9 ?_
                    clear hK K
                    try simp only [pz]
                    repeat (first
                      | (refine ord_skip rfl ?_ ?_; rfl; simp only [pz])
                      | (refine ord_take (v := ?_) rfl ?_ (fun W hW => ?_) ?_; rotate_left; rfl; (obtain ⟨hz0, hz1, hz2, hz3⟩ := hW; go_simp; (first | done | with_reducible rfl)); simp only [pz]))
                    refine ord_op rfl ?_ (fun K hK => ?_)
                    rfl
                    skip
                    have oc := cell_blk (k := 9) HOB7.out
                    have of := frozen_blk (k := 9) HOB7.out
                    go_simp
                    have hS10 := RvG.wr hS9 (Wr.setCell (fun k => k = ob) W9 ⟨ob, 9, none⟩ (.slice a7 (k + 1) c7) rfl) (fun e => by have : wr.heap.size = ob := e; omega)
                    clear oc of
                    refine hK _ _ hS10 ?_
                    clear hK K
                    try simp only [pz]
                    refine ord_nil ?_
                    go_wp2_with fail
                    go_roundw
                    case rel =>
                      refine ⟨k + 1, .slice a7 (k + 1) c7, by omega, by go_num, ?_, ?_, ?_⟩
                      · rw [heap_set HOB7.out (k := 9) (.slice a7 (k + 1) c7)]; rfl
                      · rw [List.take_add_one, HX.out, ggs_append]
                        exact own_wr HOW7.out (Wr.setCell (fun k => k = ob) _ ⟨ob, 9, none⟩ _ rfl) (fun j hj e => by have : j = ob := e; omega)
                      · refine (wr_own HW.out H67.out (fun j hj => hj)).trans (Wr.setCell (fun k => k = ob) _ ⟨ob, 9, none⟩ _ rfl)
                    case measure => simp [intOf]; omega
                  · skip
                    refine ord_op rfl ?_ (fun K hK => ?_)
                    rfl
                    go_simp
                    obtain ⟨bx, hbx⟩ : ∃ n, n = (W6).heap.size := ⟨_, rfl⟩
                    obtain ⟨W11, hW11⟩ : ∃ Q, Q = (W6).alloc (.cells #[.int .i64 x.day, .bool x.mud, .int .i64 x.rd.lo, .int .i64 x.rd.hi] 114) := ⟨_, rfl⟩
                    have hbb : Below (W6).heap.size (W6) W11 := by rw [hW11]; exact (Below.refl _ _).alloc (Nat.le_refl _) _
                    have hsl : Sl W11 (some ⟨bx, 0, none⟩) [.int .i64 x.day, .bool x.mud, .int .i64 x.rd.lo, .int .i64 x.rd.hi] := by rw [hW11, hbx]; exact Sl_new _ _ _
                    replace hBc := hBc.trans (hbb.mono hBc.size)
                    have hS11 := RvG.wr hS6 (Wr.of_below (S := fun _ => False) hbb) (fun e => e)
                    rw [← hW11, ← hbx]
                    clear hW11 hbx hbb
                    refine hK _ _ hS11 ?_
                    clear hK K
                    try simp only [pz]
                    refine ord_op rfl ?_ (fun K hK => ?_)
                    rfl
                    skip
                    have oc : (W11).cell? ⟨ob, 9, none⟩ = some (.slice asv k csv) := (hBc.cell (p := ⟨ob, 9, none⟩) hobl).trans (by rw [cell_blk HOB.out]; rfl)
                    go_simp
                    obtain ⟨W12, hWj⟩ : ∃ Q, Q = W11 := ⟨_, rfl⟩
                    subst hWj
                    have hS12 := hS11
                    clear oc
                    refine hK _ _ hS12 ?_
                    clear hK K
                    try simp only [pz]
                    refine ord_op rfl ?_ (fun K hK => ?_)
                    rfl
                    skip
                    refine wp_app elGg _ _ rfl rfl rfl (own_below HOW.out hBc) hsl rfl (by intro u hu; simp at hu; rcases hu with rfl | rfl | rfl | rfl <;> rfl) (by omega) (by omega) (by have := hBc.size; omega) ?_
                    intro v7 W13 hown7 hg7 _
                    have hob7 : ∀ q, (Value.slice asv k csv).ownBlock = some q → X3.heap.size ≤ q ∧ q < wr.heap.size := fun q e => HOW.out.lt q e
                    have h67 := (Wr.of_below (S := fun q => (Value.slice asv k csv).ownBlock = some q) hBc).trans (grown_wr hg7)
                    have hOB7 := h67.blk (k := ob) (fun e => by have := hob7 _ e; omega) HOB.out
                    have hS13 := RvG.wr hS12 (grown_wr hg7) (fun e => by have h1 := hob7 _ e; omega)
                    have H67 := Lib.hid (h67.mono (S' := fun q => X3.heap.size ≤ q) (fun q e => (hob7 q e).1))
                    obtain ⟨a7, c7, rfl, -, -⟩ := own_Sl hown7
                    have HOW7 := Lib.hid hown7
                    have HOB7 := Lib.hid hOB7
                    clear hown7 hg7 hsl h67 hOB7 hob7
                    refine hK _ _ hS13 ?_
                    clear hK K
                    try simp only [pz]
                    repeat (first
                      | (refine ord_skip rfl ?_ ?_; rfl; simp only [pz])
                      | (refine ord_take (v := ?_) rfl ?_ (fun W hW => ?_) ?_; rotate_left; rfl; (obtain ⟨hz0, hz1, hz2, hz3⟩ := hW; go_simp; (first | done | with_reducible rfl)); simp only [pz]))
                    refine ord_op rfl ?_ (fun K hK => ?_)
                    rfl
                    skip
                    have oc := cell_blk (k := 9) HOB7.out
                    have of := frozen_blk (k := 9) HOB7.out
                    go_simp
                    have hS14 := RvG.wr hS13 (Wr.setCell (fun k => k = ob) W13 ⟨ob, 9, none⟩ (.slice a7 (k + 1) c7) rfl) (fun e => by have : wr.heap.size = ob := e; omega)
                    clear oc of
                    refine hK _ _ hS14 ?_
                    clear hK K
                    try simp only [pz]
                    refine ord_nil ?_
                    go_wp2_with fail
                    go_roundw
                    case rel =>
                      refine ⟨k + 1, .slice a7 (k + 1) c7, by omega, by go_num, ?_, ?_, ?_⟩
                      · rw [heap_set HOB7.out (k := 9) (.slice a7 (k + 1) c7)]; rfl
                      · rw [List.take_add_one, HX.out, ggs_append]
                        exact own_wr HOW7.out (Wr.setCell (fun k => k = ob) _ ⟨ob, 9, none⟩ _ rfl) (fun j hj e => by have : j = ob := e; omega)
                      · refine (wr_own HW.out H67.out (fun j hj => hj)).trans (Wr.setCell (fun k => k = ob) _ ⟨ob, 9, none⟩ _ rfl)
                    case measure => simp [intOf]; omega
              · have hkn : k = r.gauges.length := by omega
                have HKN := Lib.hid hkn
                have hO4 : wr.heap[ob]? = some (.cells #[.int .i64 r.last, .slice aS r.salt.length cS, .slice aM r.mud.length cM, .int .i64 r.sweet, .int .i64 r.clear, .int .i64 r.size, .int .i64 r.start, .int .i64 r.draw, .slice ua r.use.length uc, .slice asv r.gauges.length csv] 35 (0, 0)) := by rw [← HKN.out]; exact HOB.out
                have f0 := cell_blk (k := 0) hO4
                have f1 := cell_blk (k := 1) hO4
                have f2 := cell_blk (k := 2) hO4
                have f3 := cell_blk (k := 3) hO4
                have f4 := cell_blk (k := 4) hO4
                have f5 := cell_blk (k := 5) hO4
                have f6 := cell_blk (k := 6) hO4
                have f7 := cell_blk (k := 7) hO4
                have f8 := cell_blk (k := 8) hO4
                have f9 := cell_blk (k := 9) hO4

                have hwo1 : ¬ (w.heap.size + 1 = ob) := by omega
                have hR4 := HW.out.blk (k := w.heap.size + 1) hwo1 R3.out
                have g0 := cell_blk (k := 0) hR4
                have g1 := cell_blk (k := 1) hR4
                have g2 := cell_blk (k := 2) hR4
                have g3 := cell_blk (k := 3) hR4
                have g4 := cell_blk (k := 4) hR4
                have g5 := cell_blk (k := 5) hR4
                have g6 := cell_blk (k := 6) hR4
                have g7 := cell_blk (k := 7) hR4
                have g8 := cell_blk (k := 8) hR4
                have g9 := cell_blk (k := 9) hR4

                have hRf := fun j => frozen_blk (k := j) hR4
                have hst := store10 hR4 (.int .i64 r.last) (.slice aS r.salt.length cS) (.slice aM r.mud.length cM) (.int .i64 r.sweet) (.int .i64 r.clear) (.int .i64 r.size) (.int .i64 r.start) (.int .i64 r.draw) (.slice ua r.use.length uc) (.slice asv r.gauges.length csv)
                have HST := Lib.hid hst
                have HSG := Lib.hid (show Sl wr asv (ggs r.gauges) from by have := HSL.out; rw [HKN.out, List.take_length] at this; exact this)
                have SPG := Lib.hid (show ∀ ad, asv = some ad → ad.block ≠ ob ∧ w.heap.size + 2 ≤ ad.block from fun ad e => by subst e; have := (HOW.out.lt ad.block rfl).1; exact ⟨by omega, by omega⟩)
                clear hst hO4 hR4 hwo1 hkn
                go_wp2_with fail
                obtain ⟨hR5, hW5⟩ := HST.out
                have q0 := cell_blk (k := 0) hR5
                have q1 := cell_blk (k := 1) hR5
                have q2 := cell_blk (k := 2) hR5
                have q3 := cell_blk (k := 3) hR5
                have q4 := cell_blk (k := 4) hR5
                have q5 := cell_blk (k := 5) hR5
                have q6 := cell_blk (k := 6) hR5
                have q7 := cell_blk (k := 7) hR5
                have q8 := cell_blk (k := 8) hR5
                have q9 := cell_blk (k := 9) hR5

                refine bodyPost_ret (v := rivV r ⟨aS, cS, aM, cM, ua, uc, asv, csv⟩) (by simp [results, Try.results26, go_sem, q0, q1, q2, q3, q4, q5, q6, q7, q8, q9]) rfl ⟨⟨aS, cS, aM, cM, ua, uc, asv, csv⟩, rfl, ?_, by rw [← HKN.out]; exact hnc, HBw.out.trans (hW5.below HBw.out.size (fun j e => by have : j = w.heap.size + 1 := e; omega))⟩
                refine ⟨?_, ?_, ?_, ?_⟩
                · refine (((SLS.out.wr WX2.out (fun ad e h => SPS.out ad e h)).wr HW.out (fun ad e h => SPS.out ad e h))).wr hW5 (fun ad e h => ?_)
                  have h1 := HRES1.out ad e; have h2 : ad.block = w.heap.size + 1 := h; omega
                · refine (SLM.out.wr HW.out (fun ad e h => SPM.out ad e h)).wr hW5 (fun ad e h => ?_)
                  have h1 := HRES2.out ad e; have h2 : ad.block = w.heap.size + 1 := h; omega
                · refine (((HU.out.wr WX1.out (fun ad e h => HU9.out ad e h)).wr WX2.out (fun ad e h => HU9.out ad e h)).wr HW.out (fun ad e h => HU9.out ad e h)).wr hW5 (fun ad e h => ?_)
                  have h1 := HUQ.out ad e; have h2 : ad.block = w.heap.size + 1 := h; have h3 := HZQ.out; omega
                · refine HSG.out.wr hW5 (fun ad e h => ?_)
                  have h1 := (SPG.out ad e).2; have h2 : ad.block = w.heap.size + 1 := h; omega

end Go.Proofs.Ytgglfngkomgadaa
