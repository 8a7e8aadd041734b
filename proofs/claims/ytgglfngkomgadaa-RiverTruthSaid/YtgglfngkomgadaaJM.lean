/- the chapter's rivers -/
import Derived.Test.YtgglfngkomgadaaJK
import Derived.Test.YtgglfngkomgadaaJL
/- Walks: the chapter's river. -/
namespace Go.Proofs.Ytgglfngkomgadaa
open Go.RowKit Go.Shelf
set_option linter.unusedVariables false
set_option linter.unusedSimpArgs false
set_option maxRecDepth 100000

def tidalR (late last : Int) (g : Nat) : Riv := ⟨3, [⟨2, 3⟩, ⟨3, 4⟩, ⟨0, 0⟩, ⟨5, 6⟩], [⟨0, 0⟩, ⟨1, 1⟩, ⟨4, 5⟩, ⟨0, 0⟩], 3, 4, 10, 3, 6, [3, 3, late, last], [⟨1, false, ⟨4, 4⟩⟩, ⟨1, false, ⟨0, 3⟩⟩].take g⟩
def AnyW (W : World) : Prop := True
/-- What stands while the river is built. -/
structure TdI (w wq : World) (gb : Nat) (late last : Int) (o4 o9 o12 : Option Nat) (W : World) : Prop where
  b : Below wq.heap.size wq W
  z : w.heap.size < W.heap.size
  hg : w.heap.size < gb ∧ Sl W (some ⟨gb, 0, none⟩) (ggs [⟨1, false, ⟨4, 4⟩⟩, ⟨1, false, ⟨0, 3⟩⟩])
  h4 : ∀ b, o4 = some b → w.heap.size < b ∧ Sl W (some ⟨b, 0, none⟩) [.int .i64 2, .int .i64 3, .int .i64 3, .int .i64 4, .int .i64 0, .int .i64 0, .int .i64 5, .int .i64 6]
  h9 : ∀ b, o9 = some b → w.heap.size < b ∧ Sl W (some ⟨b, 0, none⟩) [.int .i64 0, .int .i64 0, .int .i64 1, .int .i64 1, .int .i64 4, .int .i64 5, .int .i64 0, .int .i64 0]
  h12 : ∀ b, o12 = some b → w.heap.size < b ∧ Sl W (some ⟨b, 0, none⟩) [.int .i64 3, .int .i64 3, .int .i64 late, .int .i64 last]
section
variable {w wq : World} {gb : Nat} {late last : Int} {o4 o9 o12 : Option Nat} {W W' : World}
theorem TdI.below (h : TdI w wq gb late last o4 o9 o12 W) (hb : Below W.heap.size W W') : TdI w wq gb late last o4 o9 o12 W' :=
  ⟨h.b.trans (hb.mono h.b.size), Nat.lt_of_lt_of_le h.z hb.size, ⟨h.hg.1, h.hg.2.below hb⟩, fun b e => ⟨(h.h4 b e).1, (h.h4 b e).2.below hb⟩, fun b e => ⟨(h.h9 b e).1, (h.h9 b e).2.below hb⟩, fun b e => ⟨(h.h12 b e).1, (h.h12 b e).2.below hb⟩⟩
theorem TdI.new4 (h : TdI w wq gb late last none o9 o12 W) : TdI w wq gb late last (some W.heap.size) o9 o12 (W.alloc (.cells #[.int .i64 2, .int .i64 3, .int .i64 3, .int .i64 4, .int .i64 0, .int .i64 0, .int .i64 5, .int .i64 6] 49)) :=
  let k := h.below ((Below.refl W.heap.size W).alloc (Nat.le_refl _) (.cells #[.int .i64 2, .int .i64 3, .int .i64 3, .int .i64 4, .int .i64 0, .int .i64 0, .int .i64 5, .int .i64 6] 49))
  ⟨k.b, k.z, k.hg, fun b e => by cases e; exact ⟨h.z, Sl_new _ _ _⟩, k.h9, k.h12⟩
theorem TdI.new9 (h : TdI w wq gb late last o4 none o12 W) : TdI w wq gb late last o4 (some W.heap.size) o12 (W.alloc (.cells #[.int .i64 0, .int .i64 0, .int .i64 1, .int .i64 1, .int .i64 4, .int .i64 5, .int .i64 0, .int .i64 0] 49)) :=
  let k := h.below ((Below.refl W.heap.size W).alloc (Nat.le_refl _) (.cells #[.int .i64 0, .int .i64 0, .int .i64 1, .int .i64 1, .int .i64 4, .int .i64 5, .int .i64 0, .int .i64 0] 49))
  ⟨k.b, k.z, k.hg, k.h4, fun b e => by cases e; exact ⟨h.z, Sl_new _ _ _⟩, k.h12⟩
theorem TdI.new12 (h : TdI w wq gb late last o4 o9 none W) : TdI w wq gb late last o4 o9 (some W.heap.size) (W.alloc (.cells #[.int .i64 3, .int .i64 3, .int .i64 late, .int .i64 last] 3)) :=
  let k := h.below ((Below.refl W.heap.size W).alloc (Nat.le_refl _) (.cells #[.int .i64 3, .int .i64 3, .int .i64 late, .int .i64 last] 3))
  ⟨k.b, k.z, k.hg, k.h4, k.h9, fun b e => by cases e; exact ⟨h.z, Sl_new _ _ _⟩⟩
end
theorem tidal_fin {late last : Int} {g : Nat} (hg : g ≤ 2) {w Wc Wf : World} {b4 b9 b12 gb : Nat} {a : Act} (q0 : Wf.cell? ⟨w.heap.size, 0, none⟩ = some (.int .i64 3)) (q1 : Wf.cell? ⟨w.heap.size, 1, none⟩ = some (.slice (some ⟨b4, 0, none⟩) 4 4)) (q2 : Wf.cell? ⟨w.heap.size, 2, none⟩ = some (.slice (some ⟨b9, 0, none⟩) 4 4)) (q3 : Wf.cell? ⟨w.heap.size, 3, none⟩ = some (.int .i64 3)) (q4 : Wf.cell? ⟨w.heap.size, 4, none⟩ = some (.int .i64 4)) (q5 : Wf.cell? ⟨w.heap.size, 5, none⟩ = some (.int .i64 10)) (q6 : Wf.cell? ⟨w.heap.size, 6, none⟩ = some (.int .i64 3)) (q7 : Wf.cell? ⟨w.heap.size, 7, none⟩ = some (.int .i64 6)) (q8 : Wf.cell? ⟨w.heap.size, 8, none⟩ = some (.slice (some ⟨b12, 0, none⟩) 4 4)) (q9 : Wf.cell? ⟨w.heap.size, 9, none⟩ = some (.slice (some ⟨gb, 0, none⟩) g 2))
    (hwr : Wr (fun k => k = w.heap.size) Wc Wf) (h4 : Sl Wc (some ⟨b4, 0, none⟩) [.int .i64 2, .int .i64 3, .int .i64 3, .int .i64 4, .int .i64 0, .int .i64 0, .int .i64 5, .int .i64 6]) (h9 : Sl Wc (some ⟨b9, 0, none⟩) [.int .i64 0, .int .i64 0, .int .i64 1, .int .i64 1, .int .i64 4, .int .i64 5, .int .i64 0, .int .i64 0]) (h12 : Sl Wc (some ⟨b12, 0, none⟩) [.int .i64 3, .int .i64 3, .int .i64 late, .int .i64 last])
    (hgs : Sl Wc (some ⟨gb, 0, none⟩) (ggs [⟨1, false, ⟨4, 4⟩⟩, ⟨1, false, ⟨0, 3⟩⟩])) (hq4 : w.heap.size < b4) (hq9 : w.heap.size < b9) (hq12 : w.heap.size < b12) (hgq : w.heap.size < gb) (hBc : Below w.heap.size w Wc)
    (hd : a.defers = []) (ha : a.tmps[6]? = some (.pointer (some ⟨w.heap.size, 0, none⟩))) :
    bodyPost Try.prog Try.f74 (RetRiv (tidalR late last g) w) .ret a Wf := by
  have hlg : (tidalR late last g).gauges.length = g := by show (List.take g _).length = g; rw [List.length_take]; simp; omega
  have hv : rivV (tidalR late last g) ⟨some ⟨b4, 0, none⟩, 4, some ⟨b9, 0, none⟩, 4, some ⟨b12, 0, none⟩, 4, some ⟨gb, 0, none⟩, 2⟩ = .agg #[.int .i64 3, .slice (some ⟨b4, 0, none⟩) 4 4, .slice (some ⟨b9, 0, none⟩) 4 4, .int .i64 3, .int .i64 4, .int .i64 10, .int .i64 3, .int .i64 6, .slice (some ⟨b12, 0, none⟩) 4 4, .slice (some ⟨gb, 0, none⟩) g 2] := by
    show Value.agg #[.int .i64 3, .slice (some ⟨b4, 0, none⟩) 4 4, .slice (some ⟨b9, 0, none⟩) 4 4, .int .i64 3, .int .i64 4, .int .i64 10, .int .i64 3, .int .i64 6, .slice (some ⟨b12, 0, none⟩) 4 4, .slice (some ⟨gb, 0, none⟩) (tidalR late last g).gauges.length 2] = _
    rw [hlg]
  have hn : ∀ {b : Nat}, w.heap.size < b → ∀ ad, (some (⟨b, 0, none⟩ : Addr)) = some ad → ¬ (ad.block = w.heap.size) := fun {b} h ad e => by cases e; show ¬ (b = w.heap.size); omega
  refine bodyPost_ret (v := rivV (tidalR late last g) ⟨some ⟨b4, 0, none⟩, 4, some ⟨b9, 0, none⟩, 4, some ⟨b12, 0, none⟩, 4, some ⟨gb, 0, none⟩, 2⟩) ?_ hd ⟨_, rfl, ⟨h4.wr hwr (hn hq4), h9.wr hwr (hn hq9), h12.wr hwr (hn hq12), (hgs.gtake g).wr hwr (hn hgq)⟩, by rw [hlg]; exact hg, hBc.trans (hwr.below hBc.size (fun k e => by have : k = w.heap.size := e; omega))⟩
  rw [hv]
  simp [results, Try.results74, go_sem, ha, q0, q1, q2, q3, q4, q5, q6, q7, q8, q9]
set_option maxHeartbeats 12000000 in
theorem tidal_c (late last : Int) (g : Nat) (hg : g ≤ 2) (w : World) :
    Calls Try.prog 74 #[.int .i64 late, .int .i64 last, .int .i64 g] w (RetRiv (tidalR late last g) w) := by
  go_enter Try.func74, Try.ntmps74
  go_wp2_with fail
  obtain ⟨wq, hwq⟩ : ∃ wq, w.alloc (.cells #[.int .i64 0, .slice none 0 0, .slice none 0 0, .int .i64 0, .int .i64 0, .int .i64 0, .int .i64 0, .int .i64 0, .slice none 0 0, .slice none 0 0] 35) = wq := ⟨_, rfl⟩
  rw [hwq]
  have hq1 : wq.heap[w.heap.size]? = some (.cells #[.int .i64 0, .slice none 0 0, .slice none 0 0, .int .i64 0, .int .i64 0, .int .i64 0, .int .i64 0, .int .i64 0, .slice none 0 0, .slice none 0 0] 35 (0, 0)) := by rw [← hwq]; exact heap_alloc_new _ _
  have hbq : Below w.heap.size w wq := by rw [← hwq]; exact (Below.refl _ w).alloc (Nat.le_refl _) _
  have hlt0 : w.heap.size < wq.heap.size := (Array.getElem?_eq_some_iff.1 hq1).1
  have HQ1 := Lib.hid hq1
  clear hwq hq1
  refine (between_c _ _ _).mono ?_
  rintro e w1 ⟨rfl, hb1⟩
  go_wp2_with fail
  refine (between_c _ _ _).mono ?_
  rintro e w2 ⟨rfl, hb2⟩
  go_wp2_with fail
  obtain ⟨Wr0, hWr0⟩ : ∃ Q, Q = w2.alloc (.cells #[.int .i64 1, .bool false, .int .i64 4, .int .i64 4, .int .i64 1, .bool false, .int .i64 0, .int .i64 3] 114) := ⟨_, rfl⟩
  obtain ⟨gb, hgb⟩ : ∃ n, n = w2.heap.size := ⟨_, rfl⟩
  have hB0 : Below wq.heap.size wq Wr0 := (hb1.trans (hb2.mono hb1.size)).trans (by rw [hWr0]; exact ((Below.refl _ _).alloc (Nat.le_refl _) _).mono (Nat.le_trans hb1.size hb2.size))
  have hgs : Sl Wr0 (some ⟨gb, 0, none⟩) (ggs [⟨1, false, ⟨4, 4⟩⟩, ⟨1, false, ⟨0, 3⟩⟩]) := by rw [hWr0, hgb]; exact Sl_new _ _ _
  have hgq : w.heap.size < gb := by have := hb1.size; have := hb2.size; omega
  rw [← hWr0, ← hgb]
  clear hWr0 hgb hb1 hb2
  refine region_o (S := AnyW) (.take 10 (.take 11 (.take 13 (.take 14 (.take 15 (.two 0 12 (.two 1 12 (.two 2 12 (.two 3 12 (.three 4 5 12 (.two 5 12 (.two 6 12 (.two 7 12 (.two 8 12 (.two 9 12 (.one 12 (.take 16 (.one 17 .nil))) (.one 9 (.take 16 (.one 17 .nil)))) (.one 8 (.one 9 (.take 16 (.one 17 .nil))))) (.one 7 (.one 8 (.one 9 (.take 16 (.one 17 .nil)))))) (.one 6 (.one 7 (.one 8 (.one 9 (.take 16 (.one 17 .nil))))))) (.one 5 (.one 6 (.one 7 (.one 8 (.one 9 (.take 16 (.one 17 .nil)))))))) (.three 4 6 12 (.two 6 12 (.two 7 12 (.two 8 12 (.two 9 12 (.one 12 (.take 16 (.one 17 .nil))) (.one 9 (.take 16 (.one 17 .nil)))) (.one 8 (.one 9 (.take 16 (.one 17 .nil))))) (.one 7 (.one 8 (.one 9 (.take 16 (.one 17 .nil)))))) (.one 6 (.one 7 (.one 8 (.one 9 (.take 16 (.one 17 .nil))))))) (.three 4 7 12 (.two 7 12 (.two 8 12 (.two 9 12 (.one 12 (.take 16 (.one 17 .nil))) (.one 9 (.take 16 (.one 17 .nil)))) (.one 8 (.one 9 (.take 16 (.one 17 .nil))))) (.one 7 (.one 8 (.one 9 (.take 16 (.one 17 .nil)))))) (.three 4 8 12 (.two 8 12 (.two 9 12 (.one 12 (.take 16 (.one 17 .nil))) (.one 9 (.take 16 (.one 17 .nil)))) (.one 8 (.one 9 (.take 16 (.one 17 .nil))))) (.three 4 9 12 (.two 9 12 (.one 12 (.take 16 (.one 17 .nil))) (.one 9 (.take 16 (.one 17 .nil)))) (.two 4 12 (.one 12 (.take 16 (.one 17 .nil))) (.one 4 (.take 16 (.one 17 .nil)))) (.two 4 9 (.one 9 (.take 16 (.one 17 .nil))) (.one 4 (.take 16 (.one 17 .nil))))) (.two 4 8 (.one 8 (.one 9 (.take 16 (.one 17 .nil)))) (.two 4 9 (.one 9 (.take 16 (.one 17 .nil))) (.one 4 (.take 16 (.one 17 .nil)))))) (.two 4 7 (.one 7 (.one 8 (.one 9 (.take 16 (.one 17 .nil))))) (.two 4 8 (.one 8 (.one 9 (.take 16 (.one 17 .nil)))) (.two 4 9 (.one 9 (.take 16 (.one 17 .nil))) (.one 4 (.take 16 (.one 17 .nil))))))) (.two 4 6 (.one 6 (.one 7 (.one 8 (.one 9 (.take 16 (.one 17 .nil)))))) (.two 4 7 (.one 7 (.one 8 (.one 9 (.take 16 (.one 17 .nil))))) (.two 4 8 (.one 8 (.one 9 (.take 16 (.one 17 .nil)))) (.two 4 9 (.one 9 (.take 16 (.one 17 .nil))) (.one 4 (.take 16 (.one 17 .nil)))))))) (.two 4 5 (.one 5 (.one 6 (.one 7 (.one 8 (.one 9 (.take 16 (.one 17 .nil))))))) (.two 4 6 (.one 6 (.one 7 (.one 8 (.one 9 (.take 16 (.one 17 .nil)))))) (.two 4 7 (.one 7 (.one 8 (.one 9 (.take 16 (.one 17 .nil))))) (.two 4 8 (.one 8 (.one 9 (.take 16 (.one 17 .nil)))) (.two 4 9 (.one 9 (.take 16 (.one 17 .nil))) (.one 4 (.take 16 (.one 17 .nil))))))))) (.one 3 (.two 4 5 (.one 5 (.one 6 (.one 7 (.one 8 (.one 9 (.take 16 (.one 17 .nil))))))) (.two 4 6 (.one 6 (.one 7 (.one 8 (.one 9 (.take 16 (.one 17 .nil)))))) (.two 4 7 (.one 7 (.one 8 (.one 9 (.take 16 (.one 17 .nil))))) (.two 4 8 (.one 8 (.one 9 (.take 16 (.one 17 .nil)))) (.two 4 9 (.one 9 (.take 16 (.one 17 .nil))) (.one 4 (.take 16 (.one 17 .nil)))))))))) (.one 2 (.one 3 (.two 4 5 (.one 5 (.one 6 (.one 7 (.one 8 (.one 9 (.take 16 (.one 17 .nil))))))) (.two 4 6 (.one 6 (.one 7 (.one 8 (.one 9 (.take 16 (.one 17 .nil)))))) (.two 4 7 (.one 7 (.one 8 (.one 9 (.take 16 (.one 17 .nil))))) (.two 4 8 (.one 8 (.one 9 (.take 16 (.one 17 .nil)))) (.two 4 9 (.one 9 (.take 16 (.one 17 .nil))) (.one 4 (.take 16 (.one 17 .nil))))))))))) (.one 1 (.one 2 (.one 3 (.two 4 5 (.one 5 (.one 6 (.one 7 (.one 8 (.one 9 (.take 16 (.one 17 .nil))))))) (.two 4 6 (.one 6 (.one 7 (.one 8 (.one 9 (.take 16 (.one 17 .nil)))))) (.two 4 7 (.one 7 (.one 8 (.one 9 (.take 16 (.one 17 .nil))))) (.two 4 8 (.one 8 (.one 9 (.take 16 (.one 17 .nil)))) (.two 4 9 (.one 9 (.take 16 (.one 17 .nil))) (.one 4 (.take 16 (.one 17 .nil)))))))))))) (.one 0 (.one 1 (.one 2 (.one 3 (.two 4 5 (.one 5 (.one 6 (.one 7 (.one 8 (.one 9 (.take 16 (.one 17 .nil))))))) (.two 4 6 (.one 6 (.one 7 (.one 8 (.one 9 (.take 16 (.one 17 .nil)))))) (.two 4 7 (.one 7 (.one 8 (.one 9 (.take 16 (.one 17 .nil))))) (.two 4 8 (.one 8 (.one 9 (.take 16 (.one 17 .nil)))) (.two 4 9 (.one 9 (.take 16 (.one 17 .nil))) (.one 4 (.take 16 (.one 17 .nil)))))))))))))))))) (by kernel_rfl) (by kernel_rfl) (fun _ _ d _ _ h => by cases d <;> exact h) trivial ?_
  intro Wc hW0 hS0
  have hb : Below Wr0.heap.size Wr0 Wc := by subst hW0; exact (Below.refl _ _).drew
  have hBc := hB0.trans (hb.mono hB0.size)
  have hI0 : TdI w wq gb late last none none none Wc := ⟨hBc, Nat.lt_of_lt_of_le hlt0 hBc.size, ⟨hgq, hgs.below hb⟩, fun b e => (by cases e), fun b e => (by cases e), fun b e => (by cases e)⟩
  clear hW0 hb hS0 hBc hgs hB0
  have hg2 : (g : Int) ≤ 2 := by omega
  generalize hG : wpOrd Try.prog _ _ AnyW = G
  have hfin : ∀ (b4 b9 b12 : Nat) (Wc : World), TdI w wq gb late last (some b4) (some b9) (some b12) Wc → G (.one 17 .nil) ⟨#[.int .i64 late, .int .i64 last, .int .i64 g, undef, undef, undef, .pointer (some ⟨w.heap.size, 0, none⟩), .slice (some ⟨gb, 0, none⟩) 2 2, .agg #[.int .i64 4, .int .i64 4], .agg #[.int .i64 1, .bool false, .int .i64 4, .int .i64 4], .agg #[.int .i64 0, .int .i64 3], .agg #[.int .i64 1, .bool false, .int .i64 0, .int .i64 3], .slice (some ⟨gb, 0, none⟩) 2 2, .agg #[.int .i64 2, .int .i64 3], .agg #[.int .i64 3, .int .i64 4], .agg #[.int .i64 0, .int .i64 0], .agg #[.int .i64 5, .int .i64 6], .slice (some ⟨b4, 0, none⟩) 4 4, .agg #[.int .i64 0, .int .i64 0], .agg #[.int .i64 1, .int .i64 1], .agg #[.int .i64 4, .int .i64 5], .agg #[.int .i64 0, .int .i64 0], .slice (some ⟨b9, 0, none⟩) 4 4, .int .i64 late, .int .i64 last, .slice (some ⟨b12, 0, none⟩) 4 4, .slice (some ⟨gb, 0, none⟩) 2 2, .int .i64 g, .slice (some ⟨gb, 0, none⟩) g 2, .agg #[.int .i64 3, .slice (some ⟨b4, 0, none⟩) 4 4, .slice (some ⟨b9, 0, none⟩) 4 4, .int .i64 3, .int .i64 4, .int .i64 10, .int .i64 3, .int .i64 6, .slice (some ⟨b12, 0, none⟩) 4 4, .slice (some ⟨gb, 0, none⟩) g 2]], []⟩ Wc := by
    intro b4 b9 b12 Wc hI
    subst hG
    obtain ⟨hBc, hz, ⟨hgq, hgs⟩, h4, h9, h12⟩ := hI
    obtain ⟨hq4, h4⟩ := h4 _ rfl
    obtain ⟨hq9, h9⟩ := h9 _ rfl
    obtain ⟨hq12, h12⟩ := h12 _ rfl
    have hR := (hBc.block _ hlt0).trans HQ1.out
    have g0 := cell_blk (k := 0) hR
    have g1 := cell_blk (k := 1) hR
    have g2 := cell_blk (k := 2) hR
    have g3 := cell_blk (k := 3) hR
    have g4 := cell_blk (k := 4) hR
    have g5 := cell_blk (k := 5) hR
    have g6 := cell_blk (k := 6) hR
    have g7 := cell_blk (k := 7) hR
    have g8 := cell_blk (k := 8) hR
    have g9 := cell_blk (k := 9) hR
    have hf := fun j => frozen_blk (k := j) hR
    have hst := store10 hR (.int .i64 3) (.slice (some ⟨b4, 0, none⟩) 4 4) (.slice (some ⟨b9, 0, none⟩) 4 4) (.int .i64 3) (.int .i64 4) (.int .i64 10) (.int .i64 3) (.int .i64 6) (.slice (some ⟨b12, 0, none⟩) 4 4) (.slice (some ⟨gb, 0, none⟩) g 2)
    have HST := Lib.hid hst
    have HBc := Lib.hid (hbq.trans (hBc.mono hbq.size))
    clear hst hR hBc
    refine ord_op rfl ?_ (fun K hK => ?_)
    rfl
    go_simp
    refine hK _ _ trivial ?_
    clear hK K
    refine ord_nil ?_
    clear g0 g1 g2 g3 g4 g5 g6 g7 g8 g9 hf
    obtain ⟨hR2, hwr⟩ := HST.out
    obtain ⟨Wf, hWf⟩ : ∃ Q, Q = ((((((((((Wc).setCell ⟨w.heap.size, 0, none⟩ (.int .i64 3)).setCell ⟨w.heap.size, 1, none⟩ (.slice (some ⟨b4, 0, none⟩) 4 4)).setCell ⟨w.heap.size, 2, none⟩ (.slice (some ⟨b9, 0, none⟩) 4 4)).setCell ⟨w.heap.size, 3, none⟩ (.int .i64 3)).setCell ⟨w.heap.size, 4, none⟩ (.int .i64 4)).setCell ⟨w.heap.size, 5, none⟩ (.int .i64 10)).setCell ⟨w.heap.size, 6, none⟩ (.int .i64 3)).setCell ⟨w.heap.size, 7, none⟩ (.int .i64 6)).setCell ⟨w.heap.size, 8, none⟩ (.slice (some ⟨b12, 0, none⟩) 4 4)).setCell ⟨w.heap.size, 9, none⟩ (.slice (some ⟨gb, 0, none⟩) g 2) := ⟨_, rfl⟩
    rw [← hWf] at hR2 hwr
    rw [← hWf]
    clear hWf HST
    have q0 := cell_blk (k := 0) hR2
    have q1 := cell_blk (k := 1) hR2
    have q2 := cell_blk (k := 2) hR2
    have q3 := cell_blk (k := 3) hR2
    have q4 := cell_blk (k := 4) hR2
    have q5 := cell_blk (k := 5) hR2
    have q6 := cell_blk (k := 6) hR2
    have q7 := cell_blk (k := 7) hR2
    have q8 := cell_blk (k := 8) hR2
    have q9 := cell_blk (k := 9) hR2
    go_wp2_with fail
    exact tidal_fin hg q0 q1 q2 q3 q4 q5 q6 q7 q8 q9 hwr h4 h9 h12 hgs hq4 hq9 hq12 hgq HBc.out rfl rfl
  have st0 : ∀ (b4 b9 b12 : Nat) (Wc : World), TdI w wq gb late last (some b4) (some b9) (some b12) Wc → G (.take 16 (.one 17 .nil)) ⟨#[.int .i64 late, .int .i64 last, .int .i64 g, undef, undef, undef, .pointer (some ⟨w.heap.size, 0, none⟩), .slice (some ⟨gb, 0, none⟩) 2 2, .agg #[.int .i64 4, .int .i64 4], .agg #[.int .i64 1, .bool false, .int .i64 4, .int .i64 4], .agg #[.int .i64 0, .int .i64 3], .agg #[.int .i64 1, .bool false, .int .i64 0, .int .i64 3], .slice (some ⟨gb, 0, none⟩) 2 2, .agg #[.int .i64 2, .int .i64 3], .agg #[.int .i64 3, .int .i64 4], .agg #[.int .i64 0, .int .i64 0], .agg #[.int .i64 5, .int .i64 6], .slice (some ⟨b4, 0, none⟩) 4 4, .agg #[.int .i64 0, .int .i64 0], .agg #[.int .i64 1, .int .i64 1], .agg #[.int .i64 4, .int .i64 5], .agg #[.int .i64 0, .int .i64 0], .slice (some ⟨b9, 0, none⟩) 4 4, .int .i64 late, .int .i64 last, .slice (some ⟨b12, 0, none⟩) 4 4, .slice (some ⟨gb, 0, none⟩) 2 2, .int .i64 g, .slice (some ⟨gb, 0, none⟩) g 2, undef], []⟩ Wc := by
    intro b4 b9 b12 Wc hI
    subst hG
    repeat (refine ord_take (v := ?_) rfl ?_ (fun W hW => ?_) ?_; rotate_left; rfl; (go_simp; (first | done | with_reducible rfl)); simp only [pz])
    exact hfin b4 b9 b12 Wc hI
  have st1 : ∀ (b4 b9 : Nat) (Wc : World), TdI w wq gb late last (some b4) (some b9) none Wc → G (.one 12 (.take 16 (.one 17 .nil))) ⟨#[.int .i64 late, .int .i64 last, .int .i64 g, undef, undef, undef, .pointer (some ⟨w.heap.size, 0, none⟩), .slice (some ⟨gb, 0, none⟩) 2 2, .agg #[.int .i64 4, .int .i64 4], .agg #[.int .i64 1, .bool false, .int .i64 4, .int .i64 4], .agg #[.int .i64 0, .int .i64 3], .agg #[.int .i64 1, .bool false, .int .i64 0, .int .i64 3], .slice (some ⟨gb, 0, none⟩) 2 2, .agg #[.int .i64 2, .int .i64 3], .agg #[.int .i64 3, .int .i64 4], .agg #[.int .i64 0, .int .i64 0], .agg #[.int .i64 5, .int .i64 6], .slice (some ⟨b4, 0, none⟩) 4 4, .agg #[.int .i64 0, .int .i64 0], .agg #[.int .i64 1, .int .i64 1], .agg #[.int .i64 4, .int .i64 5], .agg #[.int .i64 0, .int .i64 0], .slice (some ⟨b9, 0, none⟩) 4 4, .int .i64 late, .int .i64 last, undef, .slice (some ⟨gb, 0, none⟩) 2 2, .int .i64 g, .slice (some ⟨gb, 0, none⟩) g 2, undef], []⟩ Wc := by
    intro b4 b9 Wc hI
    subst hG
    · refine ord_op rfl ?_ (fun K hK => ?_)
      rfl
      go_simp
      refine hK _ _ trivial ?_
      exact st0 b4 b9 Wc.heap.size _ (hI.new12)
  have st2 : ∀ (b4 b12 : Nat) (Wc : World), TdI w wq gb late last (some b4) none (some b12) Wc → G (.one 9 (.take 16 (.one 17 .nil))) ⟨#[.int .i64 late, .int .i64 last, .int .i64 g, undef, undef, undef, .pointer (some ⟨w.heap.size, 0, none⟩), .slice (some ⟨gb, 0, none⟩) 2 2, .agg #[.int .i64 4, .int .i64 4], .agg #[.int .i64 1, .bool false, .int .i64 4, .int .i64 4], .agg #[.int .i64 0, .int .i64 3], .agg #[.int .i64 1, .bool false, .int .i64 0, .int .i64 3], .slice (some ⟨gb, 0, none⟩) 2 2, .agg #[.int .i64 2, .int .i64 3], .agg #[.int .i64 3, .int .i64 4], .agg #[.int .i64 0, .int .i64 0], .agg #[.int .i64 5, .int .i64 6], .slice (some ⟨b4, 0, none⟩) 4 4, .agg #[.int .i64 0, .int .i64 0], .agg #[.int .i64 1, .int .i64 1], .agg #[.int .i64 4, .int .i64 5], .agg #[.int .i64 0, .int .i64 0], undef, .int .i64 late, .int .i64 last, .slice (some ⟨b12, 0, none⟩) 4 4, .slice (some ⟨gb, 0, none⟩) 2 2, .int .i64 g, .slice (some ⟨gb, 0, none⟩) g 2, undef], []⟩ Wc := by
    intro b4 b12 Wc hI
    subst hG
    · refine ord_op rfl ?_ (fun K hK => ?_)
      rfl
      go_simp
      refine hK _ _ trivial ?_
      exact st0 b4 Wc.heap.size b12 _ (hI.new9)
  have st3 : ∀ (b4 : Nat) (Wc : World), TdI w wq gb late last (some b4) none none Wc → G (.two 9 12 (.one 12 (.take 16 (.one 17 .nil))) (.one 9 (.take 16 (.one 17 .nil)))) ⟨#[.int .i64 late, .int .i64 last, .int .i64 g, undef, undef, undef, .pointer (some ⟨w.heap.size, 0, none⟩), .slice (some ⟨gb, 0, none⟩) 2 2, .agg #[.int .i64 4, .int .i64 4], .agg #[.int .i64 1, .bool false, .int .i64 4, .int .i64 4], .agg #[.int .i64 0, .int .i64 3], .agg #[.int .i64 1, .bool false, .int .i64 0, .int .i64 3], .slice (some ⟨gb, 0, none⟩) 2 2, .agg #[.int .i64 2, .int .i64 3], .agg #[.int .i64 3, .int .i64 4], .agg #[.int .i64 0, .int .i64 0], .agg #[.int .i64 5, .int .i64 6], .slice (some ⟨b4, 0, none⟩) 4 4, .agg #[.int .i64 0, .int .i64 0], .agg #[.int .i64 1, .int .i64 1], .agg #[.int .i64 4, .int .i64 5], .agg #[.int .i64 0, .int .i64 0], undef, .int .i64 late, .int .i64 last, undef, .slice (some ⟨gb, 0, none⟩) 2 2, .int .i64 g, .slice (some ⟨gb, 0, none⟩) g 2, undef], []⟩ Wc := by
    intro b4 Wc hI
    subst hG
    refine ord_two ?_ ?_
    · refine ord_op rfl ?_ (fun K hK => ?_)
      rfl
      go_simp
      refine hK _ _ trivial ?_
      exact st1 b4 Wc.heap.size _ (hI.new9)
    · refine ord_op rfl ?_ (fun K hK => ?_)
      rfl
      go_simp
      refine hK _ _ trivial ?_
      exact st2 b4 Wc.heap.size _ (hI.new12)
  have st4 : ∀ (b4 b12 : Nat) (Wc : World), TdI w wq gb late last (some b4) none (some b12) Wc → G (.one 8 (.one 9 (.take 16 (.one 17 .nil)))) ⟨#[.int .i64 late, .int .i64 last, .int .i64 g, undef, undef, undef, .pointer (some ⟨w.heap.size, 0, none⟩), .slice (some ⟨gb, 0, none⟩) 2 2, .agg #[.int .i64 4, .int .i64 4], .agg #[.int .i64 1, .bool false, .int .i64 4, .int .i64 4], .agg #[.int .i64 0, .int .i64 3], .agg #[.int .i64 1, .bool false, .int .i64 0, .int .i64 3], .slice (some ⟨gb, 0, none⟩) 2 2, .agg #[.int .i64 2, .int .i64 3], .agg #[.int .i64 3, .int .i64 4], .agg #[.int .i64 0, .int .i64 0], .agg #[.int .i64 5, .int .i64 6], .slice (some ⟨b4, 0, none⟩) 4 4, .agg #[.int .i64 0, .int .i64 0], .agg #[.int .i64 1, .int .i64 1], .agg #[.int .i64 4, .int .i64 5], undef, undef, .int .i64 late, .int .i64 last, .slice (some ⟨b12, 0, none⟩) 4 4, .slice (some ⟨gb, 0, none⟩) 2 2, .int .i64 g, .slice (some ⟨gb, 0, none⟩) g 2, undef], []⟩ Wc := by
    intro b4 b12 Wc hI
    subst hG
    · refine ord_op rfl ?_ (fun K hK => ?_)
      rfl
      go_simp
      refine (between_c _ _ _).mono ?_
      rintro e Wd ⟨rfl, hb⟩
      refine hK _ _ trivial ?_
      exact st2 b4 b12 Wd (hI.below hb)
  have st5 : ∀ (b4 : Nat) (Wc : World), TdI w wq gb late last (some b4) none none Wc → G (.two 8 12 (.two 9 12 (.one 12 (.take 16 (.one 17 .nil))) (.one 9 (.take 16 (.one 17 .nil)))) (.one 8 (.one 9 (.take 16 (.one 17 .nil))))) ⟨#[.int .i64 late, .int .i64 last, .int .i64 g, undef, undef, undef, .pointer (some ⟨w.heap.size, 0, none⟩), .slice (some ⟨gb, 0, none⟩) 2 2, .agg #[.int .i64 4, .int .i64 4], .agg #[.int .i64 1, .bool false, .int .i64 4, .int .i64 4], .agg #[.int .i64 0, .int .i64 3], .agg #[.int .i64 1, .bool false, .int .i64 0, .int .i64 3], .slice (some ⟨gb, 0, none⟩) 2 2, .agg #[.int .i64 2, .int .i64 3], .agg #[.int .i64 3, .int .i64 4], .agg #[.int .i64 0, .int .i64 0], .agg #[.int .i64 5, .int .i64 6], .slice (some ⟨b4, 0, none⟩) 4 4, .agg #[.int .i64 0, .int .i64 0], .agg #[.int .i64 1, .int .i64 1], .agg #[.int .i64 4, .int .i64 5], undef, undef, .int .i64 late, .int .i64 last, undef, .slice (some ⟨gb, 0, none⟩) 2 2, .int .i64 g, .slice (some ⟨gb, 0, none⟩) g 2, undef], []⟩ Wc := by
    intro b4 Wc hI
    subst hG
    refine ord_two ?_ ?_
    · refine ord_op rfl ?_ (fun K hK => ?_)
      rfl
      go_simp
      refine (between_c _ _ _).mono ?_
      rintro e Wd ⟨rfl, hb⟩
      refine hK _ _ trivial ?_
      exact st3 b4 Wd (hI.below hb)
    · refine ord_op rfl ?_ (fun K hK => ?_)
      rfl
      go_simp
      refine hK _ _ trivial ?_
      exact st4 b4 Wc.heap.size _ (hI.new12)
  have st6 : ∀ (b4 b12 : Nat) (Wc : World), TdI w wq gb late last (some b4) none (some b12) Wc → G (.one 7 (.one 8 (.one 9 (.take 16 (.one 17 .nil))))) ⟨#[.int .i64 late, .int .i64 last, .int .i64 g, undef, undef, undef, .pointer (some ⟨w.heap.size, 0, none⟩), .slice (some ⟨gb, 0, none⟩) 2 2, .agg #[.int .i64 4, .int .i64 4], .agg #[.int .i64 1, .bool false, .int .i64 4, .int .i64 4], .agg #[.int .i64 0, .int .i64 3], .agg #[.int .i64 1, .bool false, .int .i64 0, .int .i64 3], .slice (some ⟨gb, 0, none⟩) 2 2, .agg #[.int .i64 2, .int .i64 3], .agg #[.int .i64 3, .int .i64 4], .agg #[.int .i64 0, .int .i64 0], .agg #[.int .i64 5, .int .i64 6], .slice (some ⟨b4, 0, none⟩) 4 4, .agg #[.int .i64 0, .int .i64 0], .agg #[.int .i64 1, .int .i64 1], undef, undef, undef, .int .i64 late, .int .i64 last, .slice (some ⟨b12, 0, none⟩) 4 4, .slice (some ⟨gb, 0, none⟩) 2 2, .int .i64 g, .slice (some ⟨gb, 0, none⟩) g 2, undef], []⟩ Wc := by
    intro b4 b12 Wc hI
    subst hG
    · refine ord_op rfl ?_ (fun K hK => ?_)
      rfl
      go_simp
      refine (between_c _ _ _).mono ?_
      rintro e Wd ⟨rfl, hb⟩
      refine hK _ _ trivial ?_
      exact st4 b4 b12 Wd (hI.below hb)
  have st7 : ∀ (b4 : Nat) (Wc : World), TdI w wq gb late last (some b4) none none Wc → G (.two 7 12 (.two 8 12 (.two 9 12 (.one 12 (.take 16 (.one 17 .nil))) (.one 9 (.take 16 (.one 17 .nil)))) (.one 8 (.one 9 (.take 16 (.one 17 .nil))))) (.one 7 (.one 8 (.one 9 (.take 16 (.one 17 .nil)))))) ⟨#[.int .i64 late, .int .i64 last, .int .i64 g, undef, undef, undef, .pointer (some ⟨w.heap.size, 0, none⟩), .slice (some ⟨gb, 0, none⟩) 2 2, .agg #[.int .i64 4, .int .i64 4], .agg #[.int .i64 1, .bool false, .int .i64 4, .int .i64 4], .agg #[.int .i64 0, .int .i64 3], .agg #[.int .i64 1, .bool false, .int .i64 0, .int .i64 3], .slice (some ⟨gb, 0, none⟩) 2 2, .agg #[.int .i64 2, .int .i64 3], .agg #[.int .i64 3, .int .i64 4], .agg #[.int .i64 0, .int .i64 0], .agg #[.int .i64 5, .int .i64 6], .slice (some ⟨b4, 0, none⟩) 4 4, .agg #[.int .i64 0, .int .i64 0], .agg #[.int .i64 1, .int .i64 1], undef, undef, undef, .int .i64 late, .int .i64 last, undef, .slice (some ⟨gb, 0, none⟩) 2 2, .int .i64 g, .slice (some ⟨gb, 0, none⟩) g 2, undef], []⟩ Wc := by
    intro b4 Wc hI
    subst hG
    refine ord_two ?_ ?_
    · refine ord_op rfl ?_ (fun K hK => ?_)
      rfl
      go_simp
      refine (between_c _ _ _).mono ?_
      rintro e Wd ⟨rfl, hb⟩
      refine hK _ _ trivial ?_
      exact st5 b4 Wd (hI.below hb)
    · refine ord_op rfl ?_ (fun K hK => ?_)
      rfl
      go_simp
      refine hK _ _ trivial ?_
      exact st6 b4 Wc.heap.size _ (hI.new12)
  have st8 : ∀ (b4 b12 : Nat) (Wc : World), TdI w wq gb late last (some b4) none (some b12) Wc → G (.one 6 (.one 7 (.one 8 (.one 9 (.take 16 (.one 17 .nil)))))) ⟨#[.int .i64 late, .int .i64 last, .int .i64 g, undef, undef, undef, .pointer (some ⟨w.heap.size, 0, none⟩), .slice (some ⟨gb, 0, none⟩) 2 2, .agg #[.int .i64 4, .int .i64 4], .agg #[.int .i64 1, .bool false, .int .i64 4, .int .i64 4], .agg #[.int .i64 0, .int .i64 3], .agg #[.int .i64 1, .bool false, .int .i64 0, .int .i64 3], .slice (some ⟨gb, 0, none⟩) 2 2, .agg #[.int .i64 2, .int .i64 3], .agg #[.int .i64 3, .int .i64 4], .agg #[.int .i64 0, .int .i64 0], .agg #[.int .i64 5, .int .i64 6], .slice (some ⟨b4, 0, none⟩) 4 4, .agg #[.int .i64 0, .int .i64 0], undef, undef, undef, undef, .int .i64 late, .int .i64 last, .slice (some ⟨b12, 0, none⟩) 4 4, .slice (some ⟨gb, 0, none⟩) 2 2, .int .i64 g, .slice (some ⟨gb, 0, none⟩) g 2, undef], []⟩ Wc := by
    intro b4 b12 Wc hI
    subst hG
    · refine ord_op rfl ?_ (fun K hK => ?_)
      rfl
      go_simp
      refine (between_c _ _ _).mono ?_
      rintro e Wd ⟨rfl, hb⟩
      refine hK _ _ trivial ?_
      exact st6 b4 b12 Wd (hI.below hb)
  have st9 : ∀ (b4 : Nat) (Wc : World), TdI w wq gb late last (some b4) none none Wc → G (.two 6 12 (.two 7 12 (.two 8 12 (.two 9 12 (.one 12 (.take 16 (.one 17 .nil))) (.one 9 (.take 16 (.one 17 .nil)))) (.one 8 (.one 9 (.take 16 (.one 17 .nil))))) (.one 7 (.one 8 (.one 9 (.take 16 (.one 17 .nil)))))) (.one 6 (.one 7 (.one 8 (.one 9 (.take 16 (.one 17 .nil))))))) ⟨#[.int .i64 late, .int .i64 last, .int .i64 g, undef, undef, undef, .pointer (some ⟨w.heap.size, 0, none⟩), .slice (some ⟨gb, 0, none⟩) 2 2, .agg #[.int .i64 4, .int .i64 4], .agg #[.int .i64 1, .bool false, .int .i64 4, .int .i64 4], .agg #[.int .i64 0, .int .i64 3], .agg #[.int .i64 1, .bool false, .int .i64 0, .int .i64 3], .slice (some ⟨gb, 0, none⟩) 2 2, .agg #[.int .i64 2, .int .i64 3], .agg #[.int .i64 3, .int .i64 4], .agg #[.int .i64 0, .int .i64 0], .agg #[.int .i64 5, .int .i64 6], .slice (some ⟨b4, 0, none⟩) 4 4, .agg #[.int .i64 0, .int .i64 0], undef, undef, undef, undef, .int .i64 late, .int .i64 last, undef, .slice (some ⟨gb, 0, none⟩) 2 2, .int .i64 g, .slice (some ⟨gb, 0, none⟩) g 2, undef], []⟩ Wc := by
    intro b4 Wc hI
    subst hG
    refine ord_two ?_ ?_
    · refine ord_op rfl ?_ (fun K hK => ?_)
      rfl
      go_simp
      refine (between_c _ _ _).mono ?_
      rintro e Wd ⟨rfl, hb⟩
      refine hK _ _ trivial ?_
      exact st7 b4 Wd (hI.below hb)
    · refine ord_op rfl ?_ (fun K hK => ?_)
      rfl
      go_simp
      refine hK _ _ trivial ?_
      exact st8 b4 Wc.heap.size _ (hI.new12)
  have st10 : ∀ (b4 b12 : Nat) (Wc : World), TdI w wq gb late last (some b4) none (some b12) Wc → G (.one 5 (.one 6 (.one 7 (.one 8 (.one 9 (.take 16 (.one 17 .nil))))))) ⟨#[.int .i64 late, .int .i64 last, .int .i64 g, undef, undef, undef, .pointer (some ⟨w.heap.size, 0, none⟩), .slice (some ⟨gb, 0, none⟩) 2 2, .agg #[.int .i64 4, .int .i64 4], .agg #[.int .i64 1, .bool false, .int .i64 4, .int .i64 4], .agg #[.int .i64 0, .int .i64 3], .agg #[.int .i64 1, .bool false, .int .i64 0, .int .i64 3], .slice (some ⟨gb, 0, none⟩) 2 2, .agg #[.int .i64 2, .int .i64 3], .agg #[.int .i64 3, .int .i64 4], .agg #[.int .i64 0, .int .i64 0], .agg #[.int .i64 5, .int .i64 6], .slice (some ⟨b4, 0, none⟩) 4 4, undef, undef, undef, undef, undef, .int .i64 late, .int .i64 last, .slice (some ⟨b12, 0, none⟩) 4 4, .slice (some ⟨gb, 0, none⟩) 2 2, .int .i64 g, .slice (some ⟨gb, 0, none⟩) g 2, undef], []⟩ Wc := by
    intro b4 b12 Wc hI
    subst hG
    · refine ord_op rfl ?_ (fun K hK => ?_)
      rfl
      go_simp
      refine (between_c _ _ _).mono ?_
      rintro e Wd ⟨rfl, hb⟩
      refine hK _ _ trivial ?_
      exact st8 b4 b12 Wd (hI.below hb)
  have st11 : ∀ (b4 : Nat) (Wc : World), TdI w wq gb late last (some b4) none none Wc → G (.two 5 12 (.two 6 12 (.two 7 12 (.two 8 12 (.two 9 12 (.one 12 (.take 16 (.one 17 .nil))) (.one 9 (.take 16 (.one 17 .nil)))) (.one 8 (.one 9 (.take 16 (.one 17 .nil))))) (.one 7 (.one 8 (.one 9 (.take 16 (.one 17 .nil)))))) (.one 6 (.one 7 (.one 8 (.one 9 (.take 16 (.one 17 .nil))))))) (.one 5 (.one 6 (.one 7 (.one 8 (.one 9 (.take 16 (.one 17 .nil)))))))) ⟨#[.int .i64 late, .int .i64 last, .int .i64 g, undef, undef, undef, .pointer (some ⟨w.heap.size, 0, none⟩), .slice (some ⟨gb, 0, none⟩) 2 2, .agg #[.int .i64 4, .int .i64 4], .agg #[.int .i64 1, .bool false, .int .i64 4, .int .i64 4], .agg #[.int .i64 0, .int .i64 3], .agg #[.int .i64 1, .bool false, .int .i64 0, .int .i64 3], .slice (some ⟨gb, 0, none⟩) 2 2, .agg #[.int .i64 2, .int .i64 3], .agg #[.int .i64 3, .int .i64 4], .agg #[.int .i64 0, .int .i64 0], .agg #[.int .i64 5, .int .i64 6], .slice (some ⟨b4, 0, none⟩) 4 4, undef, undef, undef, undef, undef, .int .i64 late, .int .i64 last, undef, .slice (some ⟨gb, 0, none⟩) 2 2, .int .i64 g, .slice (some ⟨gb, 0, none⟩) g 2, undef], []⟩ Wc := by
    intro b4 Wc hI
    subst hG
    refine ord_two ?_ ?_
    · refine ord_op rfl ?_ (fun K hK => ?_)
      rfl
      go_simp
      refine (between_c _ _ _).mono ?_
      rintro e Wd ⟨rfl, hb⟩
      refine hK _ _ trivial ?_
      exact st9 b4 Wd (hI.below hb)
    · refine ord_op rfl ?_ (fun K hK => ?_)
      rfl
      go_simp
      refine hK _ _ trivial ?_
      exact st10 b4 Wc.heap.size _ (hI.new12)
  have st12 : ∀ (b9 b12 : Nat) (Wc : World), TdI w wq gb late last none (some b9) (some b12) Wc → G (.one 4 (.take 16 (.one 17 .nil))) ⟨#[.int .i64 late, .int .i64 last, .int .i64 g, undef, undef, undef, .pointer (some ⟨w.heap.size, 0, none⟩), .slice (some ⟨gb, 0, none⟩) 2 2, .agg #[.int .i64 4, .int .i64 4], .agg #[.int .i64 1, .bool false, .int .i64 4, .int .i64 4], .agg #[.int .i64 0, .int .i64 3], .agg #[.int .i64 1, .bool false, .int .i64 0, .int .i64 3], .slice (some ⟨gb, 0, none⟩) 2 2, .agg #[.int .i64 2, .int .i64 3], .agg #[.int .i64 3, .int .i64 4], .agg #[.int .i64 0, .int .i64 0], .agg #[.int .i64 5, .int .i64 6], undef, .agg #[.int .i64 0, .int .i64 0], .agg #[.int .i64 1, .int .i64 1], .agg #[.int .i64 4, .int .i64 5], .agg #[.int .i64 0, .int .i64 0], .slice (some ⟨b9, 0, none⟩) 4 4, .int .i64 late, .int .i64 last, .slice (some ⟨b12, 0, none⟩) 4 4, .slice (some ⟨gb, 0, none⟩) 2 2, .int .i64 g, .slice (some ⟨gb, 0, none⟩) g 2, undef], []⟩ Wc := by
    intro b9 b12 Wc hI
    subst hG
    · refine ord_op rfl ?_ (fun K hK => ?_)
      rfl
      go_simp
      refine hK _ _ trivial ?_
      exact st0 Wc.heap.size b9 b12 _ (hI.new4)
  have st13 : ∀ (b9 : Nat) (Wc : World), TdI w wq gb late last none (some b9) none Wc → G (.two 4 12 (.one 12 (.take 16 (.one 17 .nil))) (.one 4 (.take 16 (.one 17 .nil)))) ⟨#[.int .i64 late, .int .i64 last, .int .i64 g, undef, undef, undef, .pointer (some ⟨w.heap.size, 0, none⟩), .slice (some ⟨gb, 0, none⟩) 2 2, .agg #[.int .i64 4, .int .i64 4], .agg #[.int .i64 1, .bool false, .int .i64 4, .int .i64 4], .agg #[.int .i64 0, .int .i64 3], .agg #[.int .i64 1, .bool false, .int .i64 0, .int .i64 3], .slice (some ⟨gb, 0, none⟩) 2 2, .agg #[.int .i64 2, .int .i64 3], .agg #[.int .i64 3, .int .i64 4], .agg #[.int .i64 0, .int .i64 0], .agg #[.int .i64 5, .int .i64 6], undef, .agg #[.int .i64 0, .int .i64 0], .agg #[.int .i64 1, .int .i64 1], .agg #[.int .i64 4, .int .i64 5], .agg #[.int .i64 0, .int .i64 0], .slice (some ⟨b9, 0, none⟩) 4 4, .int .i64 late, .int .i64 last, undef, .slice (some ⟨gb, 0, none⟩) 2 2, .int .i64 g, .slice (some ⟨gb, 0, none⟩) g 2, undef], []⟩ Wc := by
    intro b9 Wc hI
    subst hG
    refine ord_two ?_ ?_
    · refine ord_op rfl ?_ (fun K hK => ?_)
      rfl
      go_simp
      refine hK _ _ trivial ?_
      exact st1 Wc.heap.size b9 _ (hI.new4)
    · refine ord_op rfl ?_ (fun K hK => ?_)
      rfl
      go_simp
      refine hK _ _ trivial ?_
      exact st12 b9 Wc.heap.size _ (hI.new12)
  have st14 : ∀ (b12 : Nat) (Wc : World), TdI w wq gb late last none none (some b12) Wc → G (.two 4 9 (.one 9 (.take 16 (.one 17 .nil))) (.one 4 (.take 16 (.one 17 .nil)))) ⟨#[.int .i64 late, .int .i64 last, .int .i64 g, undef, undef, undef, .pointer (some ⟨w.heap.size, 0, none⟩), .slice (some ⟨gb, 0, none⟩) 2 2, .agg #[.int .i64 4, .int .i64 4], .agg #[.int .i64 1, .bool false, .int .i64 4, .int .i64 4], .agg #[.int .i64 0, .int .i64 3], .agg #[.int .i64 1, .bool false, .int .i64 0, .int .i64 3], .slice (some ⟨gb, 0, none⟩) 2 2, .agg #[.int .i64 2, .int .i64 3], .agg #[.int .i64 3, .int .i64 4], .agg #[.int .i64 0, .int .i64 0], .agg #[.int .i64 5, .int .i64 6], undef, .agg #[.int .i64 0, .int .i64 0], .agg #[.int .i64 1, .int .i64 1], .agg #[.int .i64 4, .int .i64 5], .agg #[.int .i64 0, .int .i64 0], undef, .int .i64 late, .int .i64 last, .slice (some ⟨b12, 0, none⟩) 4 4, .slice (some ⟨gb, 0, none⟩) 2 2, .int .i64 g, .slice (some ⟨gb, 0, none⟩) g 2, undef], []⟩ Wc := by
    intro b12 Wc hI
    subst hG
    refine ord_two ?_ ?_
    · refine ord_op rfl ?_ (fun K hK => ?_)
      rfl
      go_simp
      refine hK _ _ trivial ?_
      exact st2 Wc.heap.size b12 _ (hI.new4)
    · refine ord_op rfl ?_ (fun K hK => ?_)
      rfl
      go_simp
      refine hK _ _ trivial ?_
      exact st12 Wc.heap.size b12 _ (hI.new9)
  have st15 : ∀ (Wc : World), TdI w wq gb late last none none none Wc → G (.three 4 9 12 (.two 9 12 (.one 12 (.take 16 (.one 17 .nil))) (.one 9 (.take 16 (.one 17 .nil)))) (.two 4 12 (.one 12 (.take 16 (.one 17 .nil))) (.one 4 (.take 16 (.one 17 .nil)))) (.two 4 9 (.one 9 (.take 16 (.one 17 .nil))) (.one 4 (.take 16 (.one 17 .nil))))) ⟨#[.int .i64 late, .int .i64 last, .int .i64 g, undef, undef, undef, .pointer (some ⟨w.heap.size, 0, none⟩), .slice (some ⟨gb, 0, none⟩) 2 2, .agg #[.int .i64 4, .int .i64 4], .agg #[.int .i64 1, .bool false, .int .i64 4, .int .i64 4], .agg #[.int .i64 0, .int .i64 3], .agg #[.int .i64 1, .bool false, .int .i64 0, .int .i64 3], .slice (some ⟨gb, 0, none⟩) 2 2, .agg #[.int .i64 2, .int .i64 3], .agg #[.int .i64 3, .int .i64 4], .agg #[.int .i64 0, .int .i64 0], .agg #[.int .i64 5, .int .i64 6], undef, .agg #[.int .i64 0, .int .i64 0], .agg #[.int .i64 1, .int .i64 1], .agg #[.int .i64 4, .int .i64 5], .agg #[.int .i64 0, .int .i64 0], undef, .int .i64 late, .int .i64 last, undef, .slice (some ⟨gb, 0, none⟩) 2 2, .int .i64 g, .slice (some ⟨gb, 0, none⟩) g 2, undef], []⟩ Wc := by
    intro  Wc hI
    subst hG
    refine ord_three ?_ ?_ ?_
    · refine ord_op rfl ?_ (fun K hK => ?_)
      rfl
      go_simp
      refine hK _ _ trivial ?_
      exact st3 Wc.heap.size _ (hI.new4)
    · refine ord_op rfl ?_ (fun K hK => ?_)
      rfl
      go_simp
      refine hK _ _ trivial ?_
      exact st13 Wc.heap.size _ (hI.new9)
    · refine ord_op rfl ?_ (fun K hK => ?_)
      rfl
      go_simp
      refine hK _ _ trivial ?_
      exact st14 Wc.heap.size _ (hI.new12)
  have st16 : ∀ (b12 : Nat) (Wc : World), TdI w wq gb late last none none (some b12) Wc → G (.two 4 8 (.one 8 (.one 9 (.take 16 (.one 17 .nil)))) (.two 4 9 (.one 9 (.take 16 (.one 17 .nil))) (.one 4 (.take 16 (.one 17 .nil))))) ⟨#[.int .i64 late, .int .i64 last, .int .i64 g, undef, undef, undef, .pointer (some ⟨w.heap.size, 0, none⟩), .slice (some ⟨gb, 0, none⟩) 2 2, .agg #[.int .i64 4, .int .i64 4], .agg #[.int .i64 1, .bool false, .int .i64 4, .int .i64 4], .agg #[.int .i64 0, .int .i64 3], .agg #[.int .i64 1, .bool false, .int .i64 0, .int .i64 3], .slice (some ⟨gb, 0, none⟩) 2 2, .agg #[.int .i64 2, .int .i64 3], .agg #[.int .i64 3, .int .i64 4], .agg #[.int .i64 0, .int .i64 0], .agg #[.int .i64 5, .int .i64 6], undef, .agg #[.int .i64 0, .int .i64 0], .agg #[.int .i64 1, .int .i64 1], .agg #[.int .i64 4, .int .i64 5], undef, undef, .int .i64 late, .int .i64 last, .slice (some ⟨b12, 0, none⟩) 4 4, .slice (some ⟨gb, 0, none⟩) 2 2, .int .i64 g, .slice (some ⟨gb, 0, none⟩) g 2, undef], []⟩ Wc := by
    intro b12 Wc hI
    subst hG
    refine ord_two ?_ ?_
    · refine ord_op rfl ?_ (fun K hK => ?_)
      rfl
      go_simp
      refine hK _ _ trivial ?_
      exact st4 Wc.heap.size b12 _ (hI.new4)
    · refine ord_op rfl ?_ (fun K hK => ?_)
      rfl
      go_simp
      refine (between_c _ _ _).mono ?_
      rintro e Wd ⟨rfl, hb⟩
      refine hK _ _ trivial ?_
      exact st14 b12 Wd (hI.below hb)
  have st17 : ∀ (Wc : World), TdI w wq gb late last none none none Wc → G (.three 4 8 12 (.two 8 12 (.two 9 12 (.one 12 (.take 16 (.one 17 .nil))) (.one 9 (.take 16 (.one 17 .nil)))) (.one 8 (.one 9 (.take 16 (.one 17 .nil))))) (.three 4 9 12 (.two 9 12 (.one 12 (.take 16 (.one 17 .nil))) (.one 9 (.take 16 (.one 17 .nil)))) (.two 4 12 (.one 12 (.take 16 (.one 17 .nil))) (.one 4 (.take 16 (.one 17 .nil)))) (.two 4 9 (.one 9 (.take 16 (.one 17 .nil))) (.one 4 (.take 16 (.one 17 .nil))))) (.two 4 8 (.one 8 (.one 9 (.take 16 (.one 17 .nil)))) (.two 4 9 (.one 9 (.take 16 (.one 17 .nil))) (.one 4 (.take 16 (.one 17 .nil)))))) ⟨#[.int .i64 late, .int .i64 last, .int .i64 g, undef, undef, undef, .pointer (some ⟨w.heap.size, 0, none⟩), .slice (some ⟨gb, 0, none⟩) 2 2, .agg #[.int .i64 4, .int .i64 4], .agg #[.int .i64 1, .bool false, .int .i64 4, .int .i64 4], .agg #[.int .i64 0, .int .i64 3], .agg #[.int .i64 1, .bool false, .int .i64 0, .int .i64 3], .slice (some ⟨gb, 0, none⟩) 2 2, .agg #[.int .i64 2, .int .i64 3], .agg #[.int .i64 3, .int .i64 4], .agg #[.int .i64 0, .int .i64 0], .agg #[.int .i64 5, .int .i64 6], undef, .agg #[.int .i64 0, .int .i64 0], .agg #[.int .i64 1, .int .i64 1], .agg #[.int .i64 4, .int .i64 5], undef, undef, .int .i64 late, .int .i64 last, undef, .slice (some ⟨gb, 0, none⟩) 2 2, .int .i64 g, .slice (some ⟨gb, 0, none⟩) g 2, undef], []⟩ Wc := by
    intro  Wc hI
    subst hG
    refine ord_three ?_ ?_ ?_
    · refine ord_op rfl ?_ (fun K hK => ?_)
      rfl
      go_simp
      refine hK _ _ trivial ?_
      exact st5 Wc.heap.size _ (hI.new4)
    · refine ord_op rfl ?_ (fun K hK => ?_)
      rfl
      go_simp
      refine (between_c _ _ _).mono ?_
      rintro e Wd ⟨rfl, hb⟩
      refine hK _ _ trivial ?_
      exact st15  Wd (hI.below hb)
    · refine ord_op rfl ?_ (fun K hK => ?_)
      rfl
      go_simp
      refine hK _ _ trivial ?_
      exact st16 Wc.heap.size _ (hI.new12)
  have st18 : ∀ (b12 : Nat) (Wc : World), TdI w wq gb late last none none (some b12) Wc → G (.two 4 7 (.one 7 (.one 8 (.one 9 (.take 16 (.one 17 .nil))))) (.two 4 8 (.one 8 (.one 9 (.take 16 (.one 17 .nil)))) (.two 4 9 (.one 9 (.take 16 (.one 17 .nil))) (.one 4 (.take 16 (.one 17 .nil)))))) ⟨#[.int .i64 late, .int .i64 last, .int .i64 g, undef, undef, undef, .pointer (some ⟨w.heap.size, 0, none⟩), .slice (some ⟨gb, 0, none⟩) 2 2, .agg #[.int .i64 4, .int .i64 4], .agg #[.int .i64 1, .bool false, .int .i64 4, .int .i64 4], .agg #[.int .i64 0, .int .i64 3], .agg #[.int .i64 1, .bool false, .int .i64 0, .int .i64 3], .slice (some ⟨gb, 0, none⟩) 2 2, .agg #[.int .i64 2, .int .i64 3], .agg #[.int .i64 3, .int .i64 4], .agg #[.int .i64 0, .int .i64 0], .agg #[.int .i64 5, .int .i64 6], undef, .agg #[.int .i64 0, .int .i64 0], .agg #[.int .i64 1, .int .i64 1], undef, undef, undef, .int .i64 late, .int .i64 last, .slice (some ⟨b12, 0, none⟩) 4 4, .slice (some ⟨gb, 0, none⟩) 2 2, .int .i64 g, .slice (some ⟨gb, 0, none⟩) g 2, undef], []⟩ Wc := by
    intro b12 Wc hI
    subst hG
    refine ord_two ?_ ?_
    · refine ord_op rfl ?_ (fun K hK => ?_)
      rfl
      go_simp
      refine hK _ _ trivial ?_
      exact st6 Wc.heap.size b12 _ (hI.new4)
    · refine ord_op rfl ?_ (fun K hK => ?_)
      rfl
      go_simp
      refine (between_c _ _ _).mono ?_
      rintro e Wd ⟨rfl, hb⟩
      refine hK _ _ trivial ?_
      exact st16 b12 Wd (hI.below hb)
  have st19 : ∀ (Wc : World), TdI w wq gb late last none none none Wc → G (.three 4 7 12 (.two 7 12 (.two 8 12 (.two 9 12 (.one 12 (.take 16 (.one 17 .nil))) (.one 9 (.take 16 (.one 17 .nil)))) (.one 8 (.one 9 (.take 16 (.one 17 .nil))))) (.one 7 (.one 8 (.one 9 (.take 16 (.one 17 .nil)))))) (.three 4 8 12 (.two 8 12 (.two 9 12 (.one 12 (.take 16 (.one 17 .nil))) (.one 9 (.take 16 (.one 17 .nil)))) (.one 8 (.one 9 (.take 16 (.one 17 .nil))))) (.three 4 9 12 (.two 9 12 (.one 12 (.take 16 (.one 17 .nil))) (.one 9 (.take 16 (.one 17 .nil)))) (.two 4 12 (.one 12 (.take 16 (.one 17 .nil))) (.one 4 (.take 16 (.one 17 .nil)))) (.two 4 9 (.one 9 (.take 16 (.one 17 .nil))) (.one 4 (.take 16 (.one 17 .nil))))) (.two 4 8 (.one 8 (.one 9 (.take 16 (.one 17 .nil)))) (.two 4 9 (.one 9 (.take 16 (.one 17 .nil))) (.one 4 (.take 16 (.one 17 .nil)))))) (.two 4 7 (.one 7 (.one 8 (.one 9 (.take 16 (.one 17 .nil))))) (.two 4 8 (.one 8 (.one 9 (.take 16 (.one 17 .nil)))) (.two 4 9 (.one 9 (.take 16 (.one 17 .nil))) (.one 4 (.take 16 (.one 17 .nil))))))) ⟨#[.int .i64 late, .int .i64 last, .int .i64 g, undef, undef, undef, .pointer (some ⟨w.heap.size, 0, none⟩), .slice (some ⟨gb, 0, none⟩) 2 2, .agg #[.int .i64 4, .int .i64 4], .agg #[.int .i64 1, .bool false, .int .i64 4, .int .i64 4], .agg #[.int .i64 0, .int .i64 3], .agg #[.int .i64 1, .bool false, .int .i64 0, .int .i64 3], .slice (some ⟨gb, 0, none⟩) 2 2, .agg #[.int .i64 2, .int .i64 3], .agg #[.int .i64 3, .int .i64 4], .agg #[.int .i64 0, .int .i64 0], .agg #[.int .i64 5, .int .i64 6], undef, .agg #[.int .i64 0, .int .i64 0], .agg #[.int .i64 1, .int .i64 1], undef, undef, undef, .int .i64 late, .int .i64 last, undef, .slice (some ⟨gb, 0, none⟩) 2 2, .int .i64 g, .slice (some ⟨gb, 0, none⟩) g 2, undef], []⟩ Wc := by
    intro  Wc hI
    subst hG
    refine ord_three ?_ ?_ ?_
    · refine ord_op rfl ?_ (fun K hK => ?_)
      rfl
      go_simp
      refine hK _ _ trivial ?_
      exact st7 Wc.heap.size _ (hI.new4)
    · refine ord_op rfl ?_ (fun K hK => ?_)
      rfl
      go_simp
      refine (between_c _ _ _).mono ?_
      rintro e Wd ⟨rfl, hb⟩
      refine hK _ _ trivial ?_
      exact st17  Wd (hI.below hb)
    · refine ord_op rfl ?_ (fun K hK => ?_)
      rfl
      go_simp
      refine hK _ _ trivial ?_
      exact st18 Wc.heap.size _ (hI.new12)
  have st20 : ∀ (b12 : Nat) (Wc : World), TdI w wq gb late last none none (some b12) Wc → G (.two 4 6 (.one 6 (.one 7 (.one 8 (.one 9 (.take 16 (.one 17 .nil)))))) (.two 4 7 (.one 7 (.one 8 (.one 9 (.take 16 (.one 17 .nil))))) (.two 4 8 (.one 8 (.one 9 (.take 16 (.one 17 .nil)))) (.two 4 9 (.one 9 (.take 16 (.one 17 .nil))) (.one 4 (.take 16 (.one 17 .nil))))))) ⟨#[.int .i64 late, .int .i64 last, .int .i64 g, undef, undef, undef, .pointer (some ⟨w.heap.size, 0, none⟩), .slice (some ⟨gb, 0, none⟩) 2 2, .agg #[.int .i64 4, .int .i64 4], .agg #[.int .i64 1, .bool false, .int .i64 4, .int .i64 4], .agg #[.int .i64 0, .int .i64 3], .agg #[.int .i64 1, .bool false, .int .i64 0, .int .i64 3], .slice (some ⟨gb, 0, none⟩) 2 2, .agg #[.int .i64 2, .int .i64 3], .agg #[.int .i64 3, .int .i64 4], .agg #[.int .i64 0, .int .i64 0], .agg #[.int .i64 5, .int .i64 6], undef, .agg #[.int .i64 0, .int .i64 0], undef, undef, undef, undef, .int .i64 late, .int .i64 last, .slice (some ⟨b12, 0, none⟩) 4 4, .slice (some ⟨gb, 0, none⟩) 2 2, .int .i64 g, .slice (some ⟨gb, 0, none⟩) g 2, undef], []⟩ Wc := by
    intro b12 Wc hI
    subst hG
    refine ord_two ?_ ?_
    · refine ord_op rfl ?_ (fun K hK => ?_)
      rfl
      go_simp
      refine hK _ _ trivial ?_
      exact st8 Wc.heap.size b12 _ (hI.new4)
    · refine ord_op rfl ?_ (fun K hK => ?_)
      rfl
      go_simp
      refine (between_c _ _ _).mono ?_
      rintro e Wd ⟨rfl, hb⟩
      refine hK _ _ trivial ?_
      exact st18 b12 Wd (hI.below hb)
  have st21 : ∀ (Wc : World), TdI w wq gb late last none none none Wc → G (.three 4 6 12 (.two 6 12 (.two 7 12 (.two 8 12 (.two 9 12 (.one 12 (.take 16 (.one 17 .nil))) (.one 9 (.take 16 (.one 17 .nil)))) (.one 8 (.one 9 (.take 16 (.one 17 .nil))))) (.one 7 (.one 8 (.one 9 (.take 16 (.one 17 .nil)))))) (.one 6 (.one 7 (.one 8 (.one 9 (.take 16 (.one 17 .nil))))))) (.three 4 7 12 (.two 7 12 (.two 8 12 (.two 9 12 (.one 12 (.take 16 (.one 17 .nil))) (.one 9 (.take 16 (.one 17 .nil)))) (.one 8 (.one 9 (.take 16 (.one 17 .nil))))) (.one 7 (.one 8 (.one 9 (.take 16 (.one 17 .nil)))))) (.three 4 8 12 (.two 8 12 (.two 9 12 (.one 12 (.take 16 (.one 17 .nil))) (.one 9 (.take 16 (.one 17 .nil)))) (.one 8 (.one 9 (.take 16 (.one 17 .nil))))) (.three 4 9 12 (.two 9 12 (.one 12 (.take 16 (.one 17 .nil))) (.one 9 (.take 16 (.one 17 .nil)))) (.two 4 12 (.one 12 (.take 16 (.one 17 .nil))) (.one 4 (.take 16 (.one 17 .nil)))) (.two 4 9 (.one 9 (.take 16 (.one 17 .nil))) (.one 4 (.take 16 (.one 17 .nil))))) (.two 4 8 (.one 8 (.one 9 (.take 16 (.one 17 .nil)))) (.two 4 9 (.one 9 (.take 16 (.one 17 .nil))) (.one 4 (.take 16 (.one 17 .nil)))))) (.two 4 7 (.one 7 (.one 8 (.one 9 (.take 16 (.one 17 .nil))))) (.two 4 8 (.one 8 (.one 9 (.take 16 (.one 17 .nil)))) (.two 4 9 (.one 9 (.take 16 (.one 17 .nil))) (.one 4 (.take 16 (.one 17 .nil))))))) (.two 4 6 (.one 6 (.one 7 (.one 8 (.one 9 (.take 16 (.one 17 .nil)))))) (.two 4 7 (.one 7 (.one 8 (.one 9 (.take 16 (.one 17 .nil))))) (.two 4 8 (.one 8 (.one 9 (.take 16 (.one 17 .nil)))) (.two 4 9 (.one 9 (.take 16 (.one 17 .nil))) (.one 4 (.take 16 (.one 17 .nil)))))))) ⟨#[.int .i64 late, .int .i64 last, .int .i64 g, undef, undef, undef, .pointer (some ⟨w.heap.size, 0, none⟩), .slice (some ⟨gb, 0, none⟩) 2 2, .agg #[.int .i64 4, .int .i64 4], .agg #[.int .i64 1, .bool false, .int .i64 4, .int .i64 4], .agg #[.int .i64 0, .int .i64 3], .agg #[.int .i64 1, .bool false, .int .i64 0, .int .i64 3], .slice (some ⟨gb, 0, none⟩) 2 2, .agg #[.int .i64 2, .int .i64 3], .agg #[.int .i64 3, .int .i64 4], .agg #[.int .i64 0, .int .i64 0], .agg #[.int .i64 5, .int .i64 6], undef, .agg #[.int .i64 0, .int .i64 0], undef, undef, undef, undef, .int .i64 late, .int .i64 last, undef, .slice (some ⟨gb, 0, none⟩) 2 2, .int .i64 g, .slice (some ⟨gb, 0, none⟩) g 2, undef], []⟩ Wc := by
    intro  Wc hI
    subst hG
    refine ord_three ?_ ?_ ?_
    · refine ord_op rfl ?_ (fun K hK => ?_)
      rfl
      go_simp
      refine hK _ _ trivial ?_
      exact st9 Wc.heap.size _ (hI.new4)
    · refine ord_op rfl ?_ (fun K hK => ?_)
      rfl
      go_simp
      refine (between_c _ _ _).mono ?_
      rintro e Wd ⟨rfl, hb⟩
      refine hK _ _ trivial ?_
      exact st19  Wd (hI.below hb)
    · refine ord_op rfl ?_ (fun K hK => ?_)
      rfl
      go_simp
      refine hK _ _ trivial ?_
      exact st20 Wc.heap.size _ (hI.new12)
  have st22 : ∀ (b12 : Nat) (Wc : World), TdI w wq gb late last none none (some b12) Wc → G (.two 4 5 (.one 5 (.one 6 (.one 7 (.one 8 (.one 9 (.take 16 (.one 17 .nil))))))) (.two 4 6 (.one 6 (.one 7 (.one 8 (.one 9 (.take 16 (.one 17 .nil)))))) (.two 4 7 (.one 7 (.one 8 (.one 9 (.take 16 (.one 17 .nil))))) (.two 4 8 (.one 8 (.one 9 (.take 16 (.one 17 .nil)))) (.two 4 9 (.one 9 (.take 16 (.one 17 .nil))) (.one 4 (.take 16 (.one 17 .nil)))))))) ⟨#[.int .i64 late, .int .i64 last, .int .i64 g, undef, undef, undef, .pointer (some ⟨w.heap.size, 0, none⟩), .slice (some ⟨gb, 0, none⟩) 2 2, .agg #[.int .i64 4, .int .i64 4], .agg #[.int .i64 1, .bool false, .int .i64 4, .int .i64 4], .agg #[.int .i64 0, .int .i64 3], .agg #[.int .i64 1, .bool false, .int .i64 0, .int .i64 3], .slice (some ⟨gb, 0, none⟩) 2 2, .agg #[.int .i64 2, .int .i64 3], .agg #[.int .i64 3, .int .i64 4], .agg #[.int .i64 0, .int .i64 0], .agg #[.int .i64 5, .int .i64 6], undef, undef, undef, undef, undef, undef, .int .i64 late, .int .i64 last, .slice (some ⟨b12, 0, none⟩) 4 4, .slice (some ⟨gb, 0, none⟩) 2 2, .int .i64 g, .slice (some ⟨gb, 0, none⟩) g 2, undef], []⟩ Wc := by
    intro b12 Wc hI
    subst hG
    refine ord_two ?_ ?_
    · refine ord_op rfl ?_ (fun K hK => ?_)
      rfl
      go_simp
      refine hK _ _ trivial ?_
      exact st10 Wc.heap.size b12 _ (hI.new4)
    · refine ord_op rfl ?_ (fun K hK => ?_)
      rfl
      go_simp
      refine (between_c _ _ _).mono ?_
      rintro e Wd ⟨rfl, hb⟩
      refine hK _ _ trivial ?_
      exact st20 b12 Wd (hI.below hb)
  have st23 : ∀ (Wc : World), TdI w wq gb late last none none none Wc → G (.three 4 5 12 (.two 5 12 (.two 6 12 (.two 7 12 (.two 8 12 (.two 9 12 (.one 12 (.take 16 (.one 17 .nil))) (.one 9 (.take 16 (.one 17 .nil)))) (.one 8 (.one 9 (.take 16 (.one 17 .nil))))) (.one 7 (.one 8 (.one 9 (.take 16 (.one 17 .nil)))))) (.one 6 (.one 7 (.one 8 (.one 9 (.take 16 (.one 17 .nil))))))) (.one 5 (.one 6 (.one 7 (.one 8 (.one 9 (.take 16 (.one 17 .nil)))))))) (.three 4 6 12 (.two 6 12 (.two 7 12 (.two 8 12 (.two 9 12 (.one 12 (.take 16 (.one 17 .nil))) (.one 9 (.take 16 (.one 17 .nil)))) (.one 8 (.one 9 (.take 16 (.one 17 .nil))))) (.one 7 (.one 8 (.one 9 (.take 16 (.one 17 .nil)))))) (.one 6 (.one 7 (.one 8 (.one 9 (.take 16 (.one 17 .nil))))))) (.three 4 7 12 (.two 7 12 (.two 8 12 (.two 9 12 (.one 12 (.take 16 (.one 17 .nil))) (.one 9 (.take 16 (.one 17 .nil)))) (.one 8 (.one 9 (.take 16 (.one 17 .nil))))) (.one 7 (.one 8 (.one 9 (.take 16 (.one 17 .nil)))))) (.three 4 8 12 (.two 8 12 (.two 9 12 (.one 12 (.take 16 (.one 17 .nil))) (.one 9 (.take 16 (.one 17 .nil)))) (.one 8 (.one 9 (.take 16 (.one 17 .nil))))) (.three 4 9 12 (.two 9 12 (.one 12 (.take 16 (.one 17 .nil))) (.one 9 (.take 16 (.one 17 .nil)))) (.two 4 12 (.one 12 (.take 16 (.one 17 .nil))) (.one 4 (.take 16 (.one 17 .nil)))) (.two 4 9 (.one 9 (.take 16 (.one 17 .nil))) (.one 4 (.take 16 (.one 17 .nil))))) (.two 4 8 (.one 8 (.one 9 (.take 16 (.one 17 .nil)))) (.two 4 9 (.one 9 (.take 16 (.one 17 .nil))) (.one 4 (.take 16 (.one 17 .nil)))))) (.two 4 7 (.one 7 (.one 8 (.one 9 (.take 16 (.one 17 .nil))))) (.two 4 8 (.one 8 (.one 9 (.take 16 (.one 17 .nil)))) (.two 4 9 (.one 9 (.take 16 (.one 17 .nil))) (.one 4 (.take 16 (.one 17 .nil))))))) (.two 4 6 (.one 6 (.one 7 (.one 8 (.one 9 (.take 16 (.one 17 .nil)))))) (.two 4 7 (.one 7 (.one 8 (.one 9 (.take 16 (.one 17 .nil))))) (.two 4 8 (.one 8 (.one 9 (.take 16 (.one 17 .nil)))) (.two 4 9 (.one 9 (.take 16 (.one 17 .nil))) (.one 4 (.take 16 (.one 17 .nil)))))))) (.two 4 5 (.one 5 (.one 6 (.one 7 (.one 8 (.one 9 (.take 16 (.one 17 .nil))))))) (.two 4 6 (.one 6 (.one 7 (.one 8 (.one 9 (.take 16 (.one 17 .nil)))))) (.two 4 7 (.one 7 (.one 8 (.one 9 (.take 16 (.one 17 .nil))))) (.two 4 8 (.one 8 (.one 9 (.take 16 (.one 17 .nil)))) (.two 4 9 (.one 9 (.take 16 (.one 17 .nil))) (.one 4 (.take 16 (.one 17 .nil))))))))) ⟨#[.int .i64 late, .int .i64 last, .int .i64 g, undef, undef, undef, .pointer (some ⟨w.heap.size, 0, none⟩), .slice (some ⟨gb, 0, none⟩) 2 2, .agg #[.int .i64 4, .int .i64 4], .agg #[.int .i64 1, .bool false, .int .i64 4, .int .i64 4], .agg #[.int .i64 0, .int .i64 3], .agg #[.int .i64 1, .bool false, .int .i64 0, .int .i64 3], .slice (some ⟨gb, 0, none⟩) 2 2, .agg #[.int .i64 2, .int .i64 3], .agg #[.int .i64 3, .int .i64 4], .agg #[.int .i64 0, .int .i64 0], .agg #[.int .i64 5, .int .i64 6], undef, undef, undef, undef, undef, undef, .int .i64 late, .int .i64 last, undef, .slice (some ⟨gb, 0, none⟩) 2 2, .int .i64 g, .slice (some ⟨gb, 0, none⟩) g 2, undef], []⟩ Wc := by
    intro  Wc hI
    subst hG
    refine ord_three ?_ ?_ ?_
    · refine ord_op rfl ?_ (fun K hK => ?_)
      rfl
      go_simp
      refine hK _ _ trivial ?_
      exact st11 Wc.heap.size _ (hI.new4)
    · refine ord_op rfl ?_ (fun K hK => ?_)
      rfl
      go_simp
      refine (between_c _ _ _).mono ?_
      rintro e Wd ⟨rfl, hb⟩
      refine hK _ _ trivial ?_
      exact st21  Wd (hI.below hb)
    · refine ord_op rfl ?_ (fun K hK => ?_)
      rfl
      go_simp
      refine hK _ _ trivial ?_
      exact st22 Wc.heap.size _ (hI.new12)
  have st24 : ∀ (b12 : Nat) (Wc : World), TdI w wq gb late last none none (some b12) Wc → G (.one 3 (.two 4 5 (.one 5 (.one 6 (.one 7 (.one 8 (.one 9 (.take 16 (.one 17 .nil))))))) (.two 4 6 (.one 6 (.one 7 (.one 8 (.one 9 (.take 16 (.one 17 .nil)))))) (.two 4 7 (.one 7 (.one 8 (.one 9 (.take 16 (.one 17 .nil))))) (.two 4 8 (.one 8 (.one 9 (.take 16 (.one 17 .nil)))) (.two 4 9 (.one 9 (.take 16 (.one 17 .nil))) (.one 4 (.take 16 (.one 17 .nil))))))))) ⟨#[.int .i64 late, .int .i64 last, .int .i64 g, undef, undef, undef, .pointer (some ⟨w.heap.size, 0, none⟩), .slice (some ⟨gb, 0, none⟩) 2 2, .agg #[.int .i64 4, .int .i64 4], .agg #[.int .i64 1, .bool false, .int .i64 4, .int .i64 4], .agg #[.int .i64 0, .int .i64 3], .agg #[.int .i64 1, .bool false, .int .i64 0, .int .i64 3], .slice (some ⟨gb, 0, none⟩) 2 2, .agg #[.int .i64 2, .int .i64 3], .agg #[.int .i64 3, .int .i64 4], .agg #[.int .i64 0, .int .i64 0], undef, undef, undef, undef, undef, undef, undef, .int .i64 late, .int .i64 last, .slice (some ⟨b12, 0, none⟩) 4 4, .slice (some ⟨gb, 0, none⟩) 2 2, .int .i64 g, .slice (some ⟨gb, 0, none⟩) g 2, undef], []⟩ Wc := by
    intro b12 Wc hI
    subst hG
    · refine ord_op rfl ?_ (fun K hK => ?_)
      rfl
      go_simp
      refine (between_c _ _ _).mono ?_
      rintro e Wd ⟨rfl, hb⟩
      refine hK _ _ trivial ?_
      exact st22 b12 Wd (hI.below hb)
  have st25 : ∀ (Wc : World), TdI w wq gb late last none none none Wc → G (.two 3 12 (.three 4 5 12 (.two 5 12 (.two 6 12 (.two 7 12 (.two 8 12 (.two 9 12 (.one 12 (.take 16 (.one 17 .nil))) (.one 9 (.take 16 (.one 17 .nil)))) (.one 8 (.one 9 (.take 16 (.one 17 .nil))))) (.one 7 (.one 8 (.one 9 (.take 16 (.one 17 .nil)))))) (.one 6 (.one 7 (.one 8 (.one 9 (.take 16 (.one 17 .nil))))))) (.one 5 (.one 6 (.one 7 (.one 8 (.one 9 (.take 16 (.one 17 .nil)))))))) (.three 4 6 12 (.two 6 12 (.two 7 12 (.two 8 12 (.two 9 12 (.one 12 (.take 16 (.one 17 .nil))) (.one 9 (.take 16 (.one 17 .nil)))) (.one 8 (.one 9 (.take 16 (.one 17 .nil))))) (.one 7 (.one 8 (.one 9 (.take 16 (.one 17 .nil)))))) (.one 6 (.one 7 (.one 8 (.one 9 (.take 16 (.one 17 .nil))))))) (.three 4 7 12 (.two 7 12 (.two 8 12 (.two 9 12 (.one 12 (.take 16 (.one 17 .nil))) (.one 9 (.take 16 (.one 17 .nil)))) (.one 8 (.one 9 (.take 16 (.one 17 .nil))))) (.one 7 (.one 8 (.one 9 (.take 16 (.one 17 .nil)))))) (.three 4 8 12 (.two 8 12 (.two 9 12 (.one 12 (.take 16 (.one 17 .nil))) (.one 9 (.take 16 (.one 17 .nil)))) (.one 8 (.one 9 (.take 16 (.one 17 .nil))))) (.three 4 9 12 (.two 9 12 (.one 12 (.take 16 (.one 17 .nil))) (.one 9 (.take 16 (.one 17 .nil)))) (.two 4 12 (.one 12 (.take 16 (.one 17 .nil))) (.one 4 (.take 16 (.one 17 .nil)))) (.two 4 9 (.one 9 (.take 16 (.one 17 .nil))) (.one 4 (.take 16 (.one 17 .nil))))) (.two 4 8 (.one 8 (.one 9 (.take 16 (.one 17 .nil)))) (.two 4 9 (.one 9 (.take 16 (.one 17 .nil))) (.one 4 (.take 16 (.one 17 .nil)))))) (.two 4 7 (.one 7 (.one 8 (.one 9 (.take 16 (.one 17 .nil))))) (.two 4 8 (.one 8 (.one 9 (.take 16 (.one 17 .nil)))) (.two 4 9 (.one 9 (.take 16 (.one 17 .nil))) (.one 4 (.take 16 (.one 17 .nil))))))) (.two 4 6 (.one 6 (.one 7 (.one 8 (.one 9 (.take 16 (.one 17 .nil)))))) (.two 4 7 (.one 7 (.one 8 (.one 9 (.take 16 (.one 17 .nil))))) (.two 4 8 (.one 8 (.one 9 (.take 16 (.one 17 .nil)))) (.two 4 9 (.one 9 (.take 16 (.one 17 .nil))) (.one 4 (.take 16 (.one 17 .nil)))))))) (.two 4 5 (.one 5 (.one 6 (.one 7 (.one 8 (.one 9 (.take 16 (.one 17 .nil))))))) (.two 4 6 (.one 6 (.one 7 (.one 8 (.one 9 (.take 16 (.one 17 .nil)))))) (.two 4 7 (.one 7 (.one 8 (.one 9 (.take 16 (.one 17 .nil))))) (.two 4 8 (.one 8 (.one 9 (.take 16 (.one 17 .nil)))) (.two 4 9 (.one 9 (.take 16 (.one 17 .nil))) (.one 4 (.take 16 (.one 17 .nil))))))))) (.one 3 (.two 4 5 (.one 5 (.one 6 (.one 7 (.one 8 (.one 9 (.take 16 (.one 17 .nil))))))) (.two 4 6 (.one 6 (.one 7 (.one 8 (.one 9 (.take 16 (.one 17 .nil)))))) (.two 4 7 (.one 7 (.one 8 (.one 9 (.take 16 (.one 17 .nil))))) (.two 4 8 (.one 8 (.one 9 (.take 16 (.one 17 .nil)))) (.two 4 9 (.one 9 (.take 16 (.one 17 .nil))) (.one 4 (.take 16 (.one 17 .nil)))))))))) ⟨#[.int .i64 late, .int .i64 last, .int .i64 g, undef, undef, undef, .pointer (some ⟨w.heap.size, 0, none⟩), .slice (some ⟨gb, 0, none⟩) 2 2, .agg #[.int .i64 4, .int .i64 4], .agg #[.int .i64 1, .bool false, .int .i64 4, .int .i64 4], .agg #[.int .i64 0, .int .i64 3], .agg #[.int .i64 1, .bool false, .int .i64 0, .int .i64 3], .slice (some ⟨gb, 0, none⟩) 2 2, .agg #[.int .i64 2, .int .i64 3], .agg #[.int .i64 3, .int .i64 4], .agg #[.int .i64 0, .int .i64 0], undef, undef, undef, undef, undef, undef, undef, .int .i64 late, .int .i64 last, undef, .slice (some ⟨gb, 0, none⟩) 2 2, .int .i64 g, .slice (some ⟨gb, 0, none⟩) g 2, undef], []⟩ Wc := by
    intro  Wc hI
    subst hG
    refine ord_two ?_ ?_
    · refine ord_op rfl ?_ (fun K hK => ?_)
      rfl
      go_simp
      refine (between_c _ _ _).mono ?_
      rintro e Wd ⟨rfl, hb⟩
      refine hK _ _ trivial ?_
      exact st23  Wd (hI.below hb)
    · refine ord_op rfl ?_ (fun K hK => ?_)
      rfl
      go_simp
      refine hK _ _ trivial ?_
      exact st24 Wc.heap.size _ (hI.new12)
  have st26 : ∀ (b12 : Nat) (Wc : World), TdI w wq gb late last none none (some b12) Wc → G (.one 2 (.one 3 (.two 4 5 (.one 5 (.one 6 (.one 7 (.one 8 (.one 9 (.take 16 (.one 17 .nil))))))) (.two 4 6 (.one 6 (.one 7 (.one 8 (.one 9 (.take 16 (.one 17 .nil)))))) (.two 4 7 (.one 7 (.one 8 (.one 9 (.take 16 (.one 17 .nil))))) (.two 4 8 (.one 8 (.one 9 (.take 16 (.one 17 .nil)))) (.two 4 9 (.one 9 (.take 16 (.one 17 .nil))) (.one 4 (.take 16 (.one 17 .nil)))))))))) ⟨#[.int .i64 late, .int .i64 last, .int .i64 g, undef, undef, undef, .pointer (some ⟨w.heap.size, 0, none⟩), .slice (some ⟨gb, 0, none⟩) 2 2, .agg #[.int .i64 4, .int .i64 4], .agg #[.int .i64 1, .bool false, .int .i64 4, .int .i64 4], .agg #[.int .i64 0, .int .i64 3], .agg #[.int .i64 1, .bool false, .int .i64 0, .int .i64 3], .slice (some ⟨gb, 0, none⟩) 2 2, .agg #[.int .i64 2, .int .i64 3], .agg #[.int .i64 3, .int .i64 4], undef, undef, undef, undef, undef, undef, undef, undef, .int .i64 late, .int .i64 last, .slice (some ⟨b12, 0, none⟩) 4 4, .slice (some ⟨gb, 0, none⟩) 2 2, .int .i64 g, .slice (some ⟨gb, 0, none⟩) g 2, undef], []⟩ Wc := by
    intro b12 Wc hI
    subst hG
    · refine ord_op rfl ?_ (fun K hK => ?_)
      rfl
      go_simp
      refine (between_c _ _ _).mono ?_
      rintro e Wd ⟨rfl, hb⟩
      refine hK _ _ trivial ?_
      exact st24 b12 Wd (hI.below hb)
  have st27 : ∀ (Wc : World), TdI w wq gb late last none none none Wc → G (.two 2 12 (.two 3 12 (.three 4 5 12 (.two 5 12 (.two 6 12 (.two 7 12 (.two 8 12 (.two 9 12 (.one 12 (.take 16 (.one 17 .nil))) (.one 9 (.take 16 (.one 17 .nil)))) (.one 8 (.one 9 (.take 16 (.one 17 .nil))))) (.one 7 (.one 8 (.one 9 (.take 16 (.one 17 .nil)))))) (.one 6 (.one 7 (.one 8 (.one 9 (.take 16 (.one 17 .nil))))))) (.one 5 (.one 6 (.one 7 (.one 8 (.one 9 (.take 16 (.one 17 .nil)))))))) (.three 4 6 12 (.two 6 12 (.two 7 12 (.two 8 12 (.two 9 12 (.one 12 (.take 16 (.one 17 .nil))) (.one 9 (.take 16 (.one 17 .nil)))) (.one 8 (.one 9 (.take 16 (.one 17 .nil))))) (.one 7 (.one 8 (.one 9 (.take 16 (.one 17 .nil)))))) (.one 6 (.one 7 (.one 8 (.one 9 (.take 16 (.one 17 .nil))))))) (.three 4 7 12 (.two 7 12 (.two 8 12 (.two 9 12 (.one 12 (.take 16 (.one 17 .nil))) (.one 9 (.take 16 (.one 17 .nil)))) (.one 8 (.one 9 (.take 16 (.one 17 .nil))))) (.one 7 (.one 8 (.one 9 (.take 16 (.one 17 .nil)))))) (.three 4 8 12 (.two 8 12 (.two 9 12 (.one 12 (.take 16 (.one 17 .nil))) (.one 9 (.take 16 (.one 17 .nil)))) (.one 8 (.one 9 (.take 16 (.one 17 .nil))))) (.three 4 9 12 (.two 9 12 (.one 12 (.take 16 (.one 17 .nil))) (.one 9 (.take 16 (.one 17 .nil)))) (.two 4 12 (.one 12 (.take 16 (.one 17 .nil))) (.one 4 (.take 16 (.one 17 .nil)))) (.two 4 9 (.one 9 (.take 16 (.one 17 .nil))) (.one 4 (.take 16 (.one 17 .nil))))) (.two 4 8 (.one 8 (.one 9 (.take 16 (.one 17 .nil)))) (.two 4 9 (.one 9 (.take 16 (.one 17 .nil))) (.one 4 (.take 16 (.one 17 .nil)))))) (.two 4 7 (.one 7 (.one 8 (.one 9 (.take 16 (.one 17 .nil))))) (.two 4 8 (.one 8 (.one 9 (.take 16 (.one 17 .nil)))) (.two 4 9 (.one 9 (.take 16 (.one 17 .nil))) (.one 4 (.take 16 (.one 17 .nil))))))) (.two 4 6 (.one 6 (.one 7 (.one 8 (.one 9 (.take 16 (.one 17 .nil)))))) (.two 4 7 (.one 7 (.one 8 (.one 9 (.take 16 (.one 17 .nil))))) (.two 4 8 (.one 8 (.one 9 (.take 16 (.one 17 .nil)))) (.two 4 9 (.one 9 (.take 16 (.one 17 .nil))) (.one 4 (.take 16 (.one 17 .nil)))))))) (.two 4 5 (.one 5 (.one 6 (.one 7 (.one 8 (.one 9 (.take 16 (.one 17 .nil))))))) (.two 4 6 (.one 6 (.one 7 (.one 8 (.one 9 (.take 16 (.one 17 .nil)))))) (.two 4 7 (.one 7 (.one 8 (.one 9 (.take 16 (.one 17 .nil))))) (.two 4 8 (.one 8 (.one 9 (.take 16 (.one 17 .nil)))) (.two 4 9 (.one 9 (.take 16 (.one 17 .nil))) (.one 4 (.take 16 (.one 17 .nil))))))))) (.one 3 (.two 4 5 (.one 5 (.one 6 (.one 7 (.one 8 (.one 9 (.take 16 (.one 17 .nil))))))) (.two 4 6 (.one 6 (.one 7 (.one 8 (.one 9 (.take 16 (.one 17 .nil)))))) (.two 4 7 (.one 7 (.one 8 (.one 9 (.take 16 (.one 17 .nil))))) (.two 4 8 (.one 8 (.one 9 (.take 16 (.one 17 .nil)))) (.two 4 9 (.one 9 (.take 16 (.one 17 .nil))) (.one 4 (.take 16 (.one 17 .nil)))))))))) (.one 2 (.one 3 (.two 4 5 (.one 5 (.one 6 (.one 7 (.one 8 (.one 9 (.take 16 (.one 17 .nil))))))) (.two 4 6 (.one 6 (.one 7 (.one 8 (.one 9 (.take 16 (.one 17 .nil)))))) (.two 4 7 (.one 7 (.one 8 (.one 9 (.take 16 (.one 17 .nil))))) (.two 4 8 (.one 8 (.one 9 (.take 16 (.one 17 .nil)))) (.two 4 9 (.one 9 (.take 16 (.one 17 .nil))) (.one 4 (.take 16 (.one 17 .nil))))))))))) ⟨#[.int .i64 late, .int .i64 last, .int .i64 g, undef, undef, undef, .pointer (some ⟨w.heap.size, 0, none⟩), .slice (some ⟨gb, 0, none⟩) 2 2, .agg #[.int .i64 4, .int .i64 4], .agg #[.int .i64 1, .bool false, .int .i64 4, .int .i64 4], .agg #[.int .i64 0, .int .i64 3], .agg #[.int .i64 1, .bool false, .int .i64 0, .int .i64 3], .slice (some ⟨gb, 0, none⟩) 2 2, .agg #[.int .i64 2, .int .i64 3], .agg #[.int .i64 3, .int .i64 4], undef, undef, undef, undef, undef, undef, undef, undef, .int .i64 late, .int .i64 last, undef, .slice (some ⟨gb, 0, none⟩) 2 2, .int .i64 g, .slice (some ⟨gb, 0, none⟩) g 2, undef], []⟩ Wc := by
    intro  Wc hI
    subst hG
    refine ord_two ?_ ?_
    · refine ord_op rfl ?_ (fun K hK => ?_)
      rfl
      go_simp
      refine (between_c _ _ _).mono ?_
      rintro e Wd ⟨rfl, hb⟩
      refine hK _ _ trivial ?_
      exact st25  Wd (hI.below hb)
    · refine ord_op rfl ?_ (fun K hK => ?_)
      rfl
      go_simp
      refine hK _ _ trivial ?_
      exact st26 Wc.heap.size _ (hI.new12)
  have st28 : ∀ (b12 : Nat) (Wc : World), TdI w wq gb late last none none (some b12) Wc → G (.one 1 (.one 2 (.one 3 (.two 4 5 (.one 5 (.one 6 (.one 7 (.one 8 (.one 9 (.take 16 (.one 17 .nil))))))) (.two 4 6 (.one 6 (.one 7 (.one 8 (.one 9 (.take 16 (.one 17 .nil)))))) (.two 4 7 (.one 7 (.one 8 (.one 9 (.take 16 (.one 17 .nil))))) (.two 4 8 (.one 8 (.one 9 (.take 16 (.one 17 .nil)))) (.two 4 9 (.one 9 (.take 16 (.one 17 .nil))) (.one 4 (.take 16 (.one 17 .nil))))))))))) ⟨#[.int .i64 late, .int .i64 last, .int .i64 g, undef, undef, undef, .pointer (some ⟨w.heap.size, 0, none⟩), .slice (some ⟨gb, 0, none⟩) 2 2, .agg #[.int .i64 4, .int .i64 4], .agg #[.int .i64 1, .bool false, .int .i64 4, .int .i64 4], .agg #[.int .i64 0, .int .i64 3], .agg #[.int .i64 1, .bool false, .int .i64 0, .int .i64 3], .slice (some ⟨gb, 0, none⟩) 2 2, .agg #[.int .i64 2, .int .i64 3], undef, undef, undef, undef, undef, undef, undef, undef, undef, .int .i64 late, .int .i64 last, .slice (some ⟨b12, 0, none⟩) 4 4, .slice (some ⟨gb, 0, none⟩) 2 2, .int .i64 g, .slice (some ⟨gb, 0, none⟩) g 2, undef], []⟩ Wc := by
    intro b12 Wc hI
    subst hG
    · refine ord_op rfl ?_ (fun K hK => ?_)
      rfl
      go_simp
      refine (between_c _ _ _).mono ?_
      rintro e Wd ⟨rfl, hb⟩
      refine hK _ _ trivial ?_
      exact st26 b12 Wd (hI.below hb)
  have st29 : ∀ (Wc : World), TdI w wq gb late last none none none Wc → G (.two 1 12 (.two 2 12 (.two 3 12 (.three 4 5 12 (.two 5 12 (.two 6 12 (.two 7 12 (.two 8 12 (.two 9 12 (.one 12 (.take 16 (.one 17 .nil))) (.one 9 (.take 16 (.one 17 .nil)))) (.one 8 (.one 9 (.take 16 (.one 17 .nil))))) (.one 7 (.one 8 (.one 9 (.take 16 (.one 17 .nil)))))) (.one 6 (.one 7 (.one 8 (.one 9 (.take 16 (.one 17 .nil))))))) (.one 5 (.one 6 (.one 7 (.one 8 (.one 9 (.take 16 (.one 17 .nil)))))))) (.three 4 6 12 (.two 6 12 (.two 7 12 (.two 8 12 (.two 9 12 (.one 12 (.take 16 (.one 17 .nil))) (.one 9 (.take 16 (.one 17 .nil)))) (.one 8 (.one 9 (.take 16 (.one 17 .nil))))) (.one 7 (.one 8 (.one 9 (.take 16 (.one 17 .nil)))))) (.one 6 (.one 7 (.one 8 (.one 9 (.take 16 (.one 17 .nil))))))) (.three 4 7 12 (.two 7 12 (.two 8 12 (.two 9 12 (.one 12 (.take 16 (.one 17 .nil))) (.one 9 (.take 16 (.one 17 .nil)))) (.one 8 (.one 9 (.take 16 (.one 17 .nil))))) (.one 7 (.one 8 (.one 9 (.take 16 (.one 17 .nil)))))) (.three 4 8 12 (.two 8 12 (.two 9 12 (.one 12 (.take 16 (.one 17 .nil))) (.one 9 (.take 16 (.one 17 .nil)))) (.one 8 (.one 9 (.take 16 (.one 17 .nil))))) (.three 4 9 12 (.two 9 12 (.one 12 (.take 16 (.one 17 .nil))) (.one 9 (.take 16 (.one 17 .nil)))) (.two 4 12 (.one 12 (.take 16 (.one 17 .nil))) (.one 4 (.take 16 (.one 17 .nil)))) (.two 4 9 (.one 9 (.take 16 (.one 17 .nil))) (.one 4 (.take 16 (.one 17 .nil))))) (.two 4 8 (.one 8 (.one 9 (.take 16 (.one 17 .nil)))) (.two 4 9 (.one 9 (.take 16 (.one 17 .nil))) (.one 4 (.take 16 (.one 17 .nil)))))) (.two 4 7 (.one 7 (.one 8 (.one 9 (.take 16 (.one 17 .nil))))) (.two 4 8 (.one 8 (.one 9 (.take 16 (.one 17 .nil)))) (.two 4 9 (.one 9 (.take 16 (.one 17 .nil))) (.one 4 (.take 16 (.one 17 .nil))))))) (.two 4 6 (.one 6 (.one 7 (.one 8 (.one 9 (.take 16 (.one 17 .nil)))))) (.two 4 7 (.one 7 (.one 8 (.one 9 (.take 16 (.one 17 .nil))))) (.two 4 8 (.one 8 (.one 9 (.take 16 (.one 17 .nil)))) (.two 4 9 (.one 9 (.take 16 (.one 17 .nil))) (.one 4 (.take 16 (.one 17 .nil)))))))) (.two 4 5 (.one 5 (.one 6 (.one 7 (.one 8 (.one 9 (.take 16 (.one 17 .nil))))))) (.two 4 6 (.one 6 (.one 7 (.one 8 (.one 9 (.take 16 (.one 17 .nil)))))) (.two 4 7 (.one 7 (.one 8 (.one 9 (.take 16 (.one 17 .nil))))) (.two 4 8 (.one 8 (.one 9 (.take 16 (.one 17 .nil)))) (.two 4 9 (.one 9 (.take 16 (.one 17 .nil))) (.one 4 (.take 16 (.one 17 .nil))))))))) (.one 3 (.two 4 5 (.one 5 (.one 6 (.one 7 (.one 8 (.one 9 (.take 16 (.one 17 .nil))))))) (.two 4 6 (.one 6 (.one 7 (.one 8 (.one 9 (.take 16 (.one 17 .nil)))))) (.two 4 7 (.one 7 (.one 8 (.one 9 (.take 16 (.one 17 .nil))))) (.two 4 8 (.one 8 (.one 9 (.take 16 (.one 17 .nil)))) (.two 4 9 (.one 9 (.take 16 (.one 17 .nil))) (.one 4 (.take 16 (.one 17 .nil)))))))))) (.one 2 (.one 3 (.two 4 5 (.one 5 (.one 6 (.one 7 (.one 8 (.one 9 (.take 16 (.one 17 .nil))))))) (.two 4 6 (.one 6 (.one 7 (.one 8 (.one 9 (.take 16 (.one 17 .nil)))))) (.two 4 7 (.one 7 (.one 8 (.one 9 (.take 16 (.one 17 .nil))))) (.two 4 8 (.one 8 (.one 9 (.take 16 (.one 17 .nil)))) (.two 4 9 (.one 9 (.take 16 (.one 17 .nil))) (.one 4 (.take 16 (.one 17 .nil))))))))))) (.one 1 (.one 2 (.one 3 (.two 4 5 (.one 5 (.one 6 (.one 7 (.one 8 (.one 9 (.take 16 (.one 17 .nil))))))) (.two 4 6 (.one 6 (.one 7 (.one 8 (.one 9 (.take 16 (.one 17 .nil)))))) (.two 4 7 (.one 7 (.one 8 (.one 9 (.take 16 (.one 17 .nil))))) (.two 4 8 (.one 8 (.one 9 (.take 16 (.one 17 .nil)))) (.two 4 9 (.one 9 (.take 16 (.one 17 .nil))) (.one 4 (.take 16 (.one 17 .nil)))))))))))) ⟨#[.int .i64 late, .int .i64 last, .int .i64 g, undef, undef, undef, .pointer (some ⟨w.heap.size, 0, none⟩), .slice (some ⟨gb, 0, none⟩) 2 2, .agg #[.int .i64 4, .int .i64 4], .agg #[.int .i64 1, .bool false, .int .i64 4, .int .i64 4], .agg #[.int .i64 0, .int .i64 3], .agg #[.int .i64 1, .bool false, .int .i64 0, .int .i64 3], .slice (some ⟨gb, 0, none⟩) 2 2, .agg #[.int .i64 2, .int .i64 3], undef, undef, undef, undef, undef, undef, undef, undef, undef, .int .i64 late, .int .i64 last, undef, .slice (some ⟨gb, 0, none⟩) 2 2, .int .i64 g, .slice (some ⟨gb, 0, none⟩) g 2, undef], []⟩ Wc := by
    intro  Wc hI
    subst hG
    refine ord_two ?_ ?_
    · refine ord_op rfl ?_ (fun K hK => ?_)
      rfl
      go_simp
      refine (between_c _ _ _).mono ?_
      rintro e Wd ⟨rfl, hb⟩
      refine hK _ _ trivial ?_
      exact st27  Wd (hI.below hb)
    · refine ord_op rfl ?_ (fun K hK => ?_)
      rfl
      go_simp
      refine hK _ _ trivial ?_
      exact st28 Wc.heap.size _ (hI.new12)
  have st30 : ∀ (b12 : Nat) (Wc : World), TdI w wq gb late last none none (some b12) Wc → G (.one 0 (.one 1 (.one 2 (.one 3 (.two 4 5 (.one 5 (.one 6 (.one 7 (.one 8 (.one 9 (.take 16 (.one 17 .nil))))))) (.two 4 6 (.one 6 (.one 7 (.one 8 (.one 9 (.take 16 (.one 17 .nil)))))) (.two 4 7 (.one 7 (.one 8 (.one 9 (.take 16 (.one 17 .nil))))) (.two 4 8 (.one 8 (.one 9 (.take 16 (.one 17 .nil)))) (.two 4 9 (.one 9 (.take 16 (.one 17 .nil))) (.one 4 (.take 16 (.one 17 .nil)))))))))))) ⟨#[.int .i64 late, .int .i64 last, .int .i64 g, undef, undef, undef, .pointer (some ⟨w.heap.size, 0, none⟩), .slice (some ⟨gb, 0, none⟩) 2 2, .agg #[.int .i64 4, .int .i64 4], .agg #[.int .i64 1, .bool false, .int .i64 4, .int .i64 4], .agg #[.int .i64 0, .int .i64 3], .agg #[.int .i64 1, .bool false, .int .i64 0, .int .i64 3], .slice (some ⟨gb, 0, none⟩) 2 2, undef, undef, undef, undef, undef, undef, undef, undef, undef, undef, .int .i64 late, .int .i64 last, .slice (some ⟨b12, 0, none⟩) 4 4, .slice (some ⟨gb, 0, none⟩) 2 2, .int .i64 g, .slice (some ⟨gb, 0, none⟩) g 2, undef], []⟩ Wc := by
    intro b12 Wc hI
    subst hG
    · refine ord_op rfl ?_ (fun K hK => ?_)
      rfl
      go_simp
      refine (between_c _ _ _).mono ?_
      rintro e Wd ⟨rfl, hb⟩
      refine hK _ _ trivial ?_
      exact st28 b12 Wd (hI.below hb)
  have st31 : ∀ (Wc : World), TdI w wq gb late last none none none Wc → G (.take 10 (.take 11 (.take 13 (.take 14 (.take 15 (.two 0 12 (.two 1 12 (.two 2 12 (.two 3 12 (.three 4 5 12 (.two 5 12 (.two 6 12 (.two 7 12 (.two 8 12 (.two 9 12 (.one 12 (.take 16 (.one 17 .nil))) (.one 9 (.take 16 (.one 17 .nil)))) (.one 8 (.one 9 (.take 16 (.one 17 .nil))))) (.one 7 (.one 8 (.one 9 (.take 16 (.one 17 .nil)))))) (.one 6 (.one 7 (.one 8 (.one 9 (.take 16 (.one 17 .nil))))))) (.one 5 (.one 6 (.one 7 (.one 8 (.one 9 (.take 16 (.one 17 .nil)))))))) (.three 4 6 12 (.two 6 12 (.two 7 12 (.two 8 12 (.two 9 12 (.one 12 (.take 16 (.one 17 .nil))) (.one 9 (.take 16 (.one 17 .nil)))) (.one 8 (.one 9 (.take 16 (.one 17 .nil))))) (.one 7 (.one 8 (.one 9 (.take 16 (.one 17 .nil)))))) (.one 6 (.one 7 (.one 8 (.one 9 (.take 16 (.one 17 .nil))))))) (.three 4 7 12 (.two 7 12 (.two 8 12 (.two 9 12 (.one 12 (.take 16 (.one 17 .nil))) (.one 9 (.take 16 (.one 17 .nil)))) (.one 8 (.one 9 (.take 16 (.one 17 .nil))))) (.one 7 (.one 8 (.one 9 (.take 16 (.one 17 .nil)))))) (.three 4 8 12 (.two 8 12 (.two 9 12 (.one 12 (.take 16 (.one 17 .nil))) (.one 9 (.take 16 (.one 17 .nil)))) (.one 8 (.one 9 (.take 16 (.one 17 .nil))))) (.three 4 9 12 (.two 9 12 (.one 12 (.take 16 (.one 17 .nil))) (.one 9 (.take 16 (.one 17 .nil)))) (.two 4 12 (.one 12 (.take 16 (.one 17 .nil))) (.one 4 (.take 16 (.one 17 .nil)))) (.two 4 9 (.one 9 (.take 16 (.one 17 .nil))) (.one 4 (.take 16 (.one 17 .nil))))) (.two 4 8 (.one 8 (.one 9 (.take 16 (.one 17 .nil)))) (.two 4 9 (.one 9 (.take 16 (.one 17 .nil))) (.one 4 (.take 16 (.one 17 .nil)))))) (.two 4 7 (.one 7 (.one 8 (.one 9 (.take 16 (.one 17 .nil))))) (.two 4 8 (.one 8 (.one 9 (.take 16 (.one 17 .nil)))) (.two 4 9 (.one 9 (.take 16 (.one 17 .nil))) (.one 4 (.take 16 (.one 17 .nil))))))) (.two 4 6 (.one 6 (.one 7 (.one 8 (.one 9 (.take 16 (.one 17 .nil)))))) (.two 4 7 (.one 7 (.one 8 (.one 9 (.take 16 (.one 17 .nil))))) (.two 4 8 (.one 8 (.one 9 (.take 16 (.one 17 .nil)))) (.two 4 9 (.one 9 (.take 16 (.one 17 .nil))) (.one 4 (.take 16 (.one 17 .nil)))))))) (.two 4 5 (.one 5 (.one 6 (.one 7 (.one 8 (.one 9 (.take 16 (.one 17 .nil))))))) (.two 4 6 (.one 6 (.one 7 (.one 8 (.one 9 (.take 16 (.one 17 .nil)))))) (.two 4 7 (.one 7 (.one 8 (.one 9 (.take 16 (.one 17 .nil))))) (.two 4 8 (.one 8 (.one 9 (.take 16 (.one 17 .nil)))) (.two 4 9 (.one 9 (.take 16 (.one 17 .nil))) (.one 4 (.take 16 (.one 17 .nil))))))))) (.one 3 (.two 4 5 (.one 5 (.one 6 (.one 7 (.one 8 (.one 9 (.take 16 (.one 17 .nil))))))) (.two 4 6 (.one 6 (.one 7 (.one 8 (.one 9 (.take 16 (.one 17 .nil)))))) (.two 4 7 (.one 7 (.one 8 (.one 9 (.take 16 (.one 17 .nil))))) (.two 4 8 (.one 8 (.one 9 (.take 16 (.one 17 .nil)))) (.two 4 9 (.one 9 (.take 16 (.one 17 .nil))) (.one 4 (.take 16 (.one 17 .nil)))))))))) (.one 2 (.one 3 (.two 4 5 (.one 5 (.one 6 (.one 7 (.one 8 (.one 9 (.take 16 (.one 17 .nil))))))) (.two 4 6 (.one 6 (.one 7 (.one 8 (.one 9 (.take 16 (.one 17 .nil)))))) (.two 4 7 (.one 7 (.one 8 (.one 9 (.take 16 (.one 17 .nil))))) (.two 4 8 (.one 8 (.one 9 (.take 16 (.one 17 .nil)))) (.two 4 9 (.one 9 (.take 16 (.one 17 .nil))) (.one 4 (.take 16 (.one 17 .nil))))))))))) (.one 1 (.one 2 (.one 3 (.two 4 5 (.one 5 (.one 6 (.one 7 (.one 8 (.one 9 (.take 16 (.one 17 .nil))))))) (.two 4 6 (.one 6 (.one 7 (.one 8 (.one 9 (.take 16 (.one 17 .nil)))))) (.two 4 7 (.one 7 (.one 8 (.one 9 (.take 16 (.one 17 .nil))))) (.two 4 8 (.one 8 (.one 9 (.take 16 (.one 17 .nil)))) (.two 4 9 (.one 9 (.take 16 (.one 17 .nil))) (.one 4 (.take 16 (.one 17 .nil)))))))))))) (.one 0 (.one 1 (.one 2 (.one 3 (.two 4 5 (.one 5 (.one 6 (.one 7 (.one 8 (.one 9 (.take 16 (.one 17 .nil))))))) (.two 4 6 (.one 6 (.one 7 (.one 8 (.one 9 (.take 16 (.one 17 .nil)))))) (.two 4 7 (.one 7 (.one 8 (.one 9 (.take 16 (.one 17 .nil))))) (.two 4 8 (.one 8 (.one 9 (.take 16 (.one 17 .nil)))) (.two 4 9 (.one 9 (.take 16 (.one 17 .nil))) (.one 4 (.take 16 (.one 17 .nil)))))))))))))))))) ⟨#[.int .i64 late, .int .i64 last, .int .i64 g, undef, undef, undef, .pointer (some ⟨w.heap.size, 0, none⟩), .slice (some ⟨gb, 0, none⟩) 2 2, .agg #[.int .i64 4, .int .i64 4], .agg #[.int .i64 1, .bool false, .int .i64 4, .int .i64 4], .agg #[.int .i64 0, .int .i64 3], .agg #[.int .i64 1, .bool false, .int .i64 0, .int .i64 3], .slice (some ⟨gb, 0, none⟩) 2 2, undef, undef, undef, undef, undef, undef, undef, undef, undef, undef, undef, undef, undef, undef, undef, undef, undef], []⟩ Wc := by
    intro  Wc hI
    subst hG
    repeat (refine ord_take (v := ?_) rfl ?_ (fun W hW => ?_) ?_; rotate_left; rfl; (go_simp; (first | done | with_reducible rfl)); simp only [pz])
    refine ord_two ?_ ?_
    · refine ord_op rfl ?_ (fun K hK => ?_)
      rfl
      go_simp
      refine (between_c _ _ _).mono ?_
      rintro e Wd ⟨rfl, hb⟩
      refine hK _ _ trivial ?_
      exact st29  Wd (hI.below hb)
    · refine ord_op rfl ?_ (fun K hK => ?_)
      rfl
      go_simp
      refine hK _ _ trivial ?_
      exact st30 Wc.heap.size _ (hI.new12)
  exact st31 Wc hI0
end Go.Proofs.Ytgglfngkomgadaa
/- The chapter's examples, reckoned. -/
namespace Go.Proofs.Ytgglfngkomgadaa
def tR0 : Riv := tidalR 2 1 0
def tR1 : Riv := tidalR 2 1 1
def tR2 : Riv := tidalR 2 1 2
def tS0 : Riv := tidalR 0 0 0
theorem v_play : playA tR0 [1, 2] ⟨[2, 3, 0, 5], [0, 1, 5, 0]⟩ = ([0, 3, 1, 0], 0) := by decide +kernel
theorem v_ask0 : askE tR0 (isPlanB tR0.last [0, 1]) = 0 := by decide +kernel
theorem v_tank : tanksL tR0 [0, 1] = [⟨6, 6⟩, ⟨3, 7⟩, ⟨1, 5⟩, ⟨0, 4⟩] := by decide +kernel
theorem v_good : goodA tR0 1 = (3, 0) := by decide +kernel
theorem v_lasts : lastsA tR1 [1] = (2, 0) := by decide +kernel
theorem v_dry : dryA tR0 [1] = (1, 0) := by decide +kernel
theorem v_few : fewA tR0 true (-1) = ([0], 0) := by decide +kernel
theorem v_need : needA tR0 = (9, 0) := by decide +kernel
theorem v_storm : fewA tS0 (inB 0 0 tS0.last) 0 = ([0], 0) := by decide +kernel
theorem v_first : firstA tR2 = (1, 0) := by decide +kernel
theorem v_leave : leaveA tR2 = ([0], 0) := by decide +kernel
end Go.Proofs.Ytgglfngkomgadaa
