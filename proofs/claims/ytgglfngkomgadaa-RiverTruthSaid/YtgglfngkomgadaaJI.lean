/- whether it lasts -/
import Derived.Test.YtgglfngkomgadaaJH
/- Walks: Lasts. -/
namespace Go.Proofs.Ytgglfngkomgadaa
open Go.RowKit Go.Shelf
set_option linter.unusedVariables false
set_option linter.unusedSimpArgs false
set_option maxRecDepth 100000

def lastsA (r : Riv) (xs : List Int) : Int × Int := if askE r (isPlanB r.last xs) = 0 then (verdI (fun g => decide (r.last < lackI r g (bitsN xs) r.size (-1))) (goodsL r), 0) else (0, askE r (isPlanB r.last xs))

set_option maxHeartbeats 4000000 in
theorem Lasts_err (r : Riv) (A : RA) (a : Option Addr) (xs : List Int) (c : Nat) (w : World) (hr : Rd w r A) (hl1 : r.salt.length ≤ 30) (hl2 : r.mud.length ≤ 30) (hl3 : r.use.length ≤ 30) (hl4 : r.gauges.length ≤ 30)
    (hs : Sl w a (ints xs)) (hlen : xs.length ≤ 1000) (h : askE r (isPlanB r.last xs) ≠ 0) :
    Calls Try.prog 67 #[rivV r A, .slice a xs.length c] w (RetNE (0, askE r (isPlanB r.last xs)) w) := by
  obtain ⟨E, hE⟩ : ∃ E, E = askE r (isPlanB r.last xs) := ⟨_, rfl⟩
  have HE := Lib.hid hE
  have hne : (E == 0) = false := by rw [hE]; simpa using h
  have HN := Lib.hid h
  rw [← hE]
  clear hE h
  go_enter Try.func67, Try.ntmps67
  go_wp2_with fail
  obtain ⟨wq, hwq⟩ : ∃ wq, w.alloc (rivO r A) = wq := ⟨_, rfl⟩
  rw [hwq]
  have hq0 : wq.heap[w.heap.size]? = some (rivO r A) := by rw [← hwq]; exact heap_alloc_new _ _
  have hbq : Below w.heap.size w wq := by rw [← hwq]; exact (Below.refl _ w).alloc (Nat.le_refl _) _
  have hzq : wq.heap.size = w.heap.size + 1 := by rw [← hwq]; simp
  obtain ⟨k0, k1, k2, k3, k4, k5, k6, k7, k8, k9⟩ := riv_cells hq0
  have hlt0 : w.heap.size < wq.heap.size := by omega
  clear hwq hq0
  refine region_o (S := OldC wq.heap.size wq) (.take 0 (.take 1 (.take 2 (.two 3 8 (.two 4 8 (.take 5 (.take 6 (.take 7 (.one 8 (.one 9 (.take 10 .nil)))))) (.one 4 (.take 5 (.take 6 (.take 7 (.one 9 (.take 10 .nil))))))) (.one 3 (.one 4 (.take 5 (.take 6 (.take 7 (.one 9 (.take 10 .nil))))))))))) (by kernel_rfl) (by kernel_rfl) (fun _ _ d _ _ h => by cases d <;> exact h) (oldR (Nat.le_refl _)) ?_
  intro W0 hW0 hS0
  have hBW : Below wq.heap.size wq W0 := by subst hW0; exact (Below.refl _ _).drew
  clear hW0
  repeat (first
    | (refine ord_skip rfl ?_ ?_; rfl; simp only [pz])
    | (refine ord_take (v := ?_) rfl ?_ (fun W hW => ?_) ?_; rotate_left; rfl; (obtain ⟨hz, hcc, hbb⟩ := hW; go_simp; (first | done | with_reducible rfl)); simp only [pz]))
  refine ord_two ?_ ?_
  · skip
    (refine ord_op rfl ?_ (fun K hK => ?_); rfl; go_simp; refine (isPlan_c r A a xs c _ (hs.below (hbq.trans ((hS0).be.mono hbq.size))) hlen).mono ?_; rintro e W1 ⟨rfl, hb1⟩; (try (replace hAl := (hb1.block _ (Array.getElem?_eq_some_iff.1 hAl).1).trans hAl)); (try (replace hc9 := (cell_blk (k := 0) hAl))); (try (replace hf9 := (frozen_blk (k := 0) hAl))); have hS1 := oldK hS0 hb1; refine hK _ _ hS1 ?_; clear hK K; try simp only [pz])
    refine ord_two ?_ ?_
    · skip
      (refine ord_op rfl ?_ (fun K hK => ?_); rfl; go_simp; refine (asked_err r A _ _ (hr.below (hbq.trans ((hS1).be.mono hbq.size))) hl1 hl2 hl3 hl4 HN.out).mono ?_; rintro e W2 ⟨rfl, hb2⟩; rw [← HE.out]; (try (replace hAl := (hb2.block _ (Array.getElem?_eq_some_iff.1 hAl).1).trans hAl)); (try (replace hc9 := (cell_blk (k := 0) hAl))); (try (replace hf9 := (frozen_blk (k := 0) hAl))); have hS2 := oldK hS1 hb2; refine hK _ _ hS2 ?_; clear hK K; try simp only [pz])
      repeat (first
        | (refine ord_skip rfl ?_ ?_; rfl; simp only [pz])
        | (refine ord_take (v := ?_) rfl ?_ (fun W hW => ?_) ?_; rotate_left; rfl; (obtain ⟨hz, hcc, hbb⟩ := hW; go_simp; (first | done | with_reducible rfl)); simp only [pz]))
      (refine ord_op rfl ?_ (fun K hK => ?_); rfl; go_simp; obtain ⟨bw, hbw⟩ : ∃ n, n = (W2).heap.size := ⟨_, rfl⟩; obtain ⟨W3, hW3⟩ : ∃ Q, Q = (W2).alloc (.cells #[.pointer none] 105) := ⟨_, rfl⟩; have hS3 : OldC wq.heap.size wq W3 := (by rw [hW3]; exact oldA hS2 _); have hAl : W3.heap[bw]? = some (.cells #[.pointer none] 105 (0, 0)) := (by rw [hW3, hbw]; exact heap_alloc_new _ _); have hc9 := cell_blk (k := 0) hAl; have hf9 := frozen_blk (k := 0) hAl; have hbq9 : wq.heap.size ≤ bw := (by rw [hbw]; exact (hS2).sz); rw [← hW3, ← hbw]; clear hbw hW3; refine hK _ _ hS3 ?_; clear hK K; try simp only [pz])
      (refine ord_op rfl ?_ (fun K hK => ?_); rfl; go_simp; refine hK _ _ (oldSt hS3 (p := ⟨bw, 0, none⟩) hbq9 _) ?_; have hS4 := oldSt hS3 (p := ⟨bw, 0, none⟩) hbq9 (.pointer none); obtain ⟨W4, hW4⟩ : ∃ Q, Q = (W3).setCell ⟨bw, 0, none⟩ (.pointer none) := ⟨_, rfl⟩; rw [← hW4] at hS4 ⊢; clear hW4; clear hK K; try simp only [pz])
      repeat (first
        | (refine ord_skip rfl ?_ ?_; rfl; simp only [pz])
        | (refine ord_take (v := ?_) rfl ?_ (fun W hW => ?_) ?_; rotate_left; rfl; (obtain ⟨hz, hcc, hbb⟩ := hW; go_simp; (first | done | with_reducible rfl)); simp only [pz]))
      refine ord_nil ?_
      go_wp2_with fail
      refine bodyPost_ret (v := .tuple #[.int .i64 0, .int .i64 E]) (by simp [results, Try.results67, go_sem]) rfl ⟨rfl, hbq.trans (hS4.be.mono hbq.size)⟩
    · skip
      (refine ord_op rfl ?_ (fun K hK => ?_); rfl; go_simp; obtain ⟨bw, hbw⟩ : ∃ n, n = (W1).heap.size := ⟨_, rfl⟩; obtain ⟨W5, hW5⟩ : ∃ Q, Q = (W1).alloc (.cells #[.pointer none] 105) := ⟨_, rfl⟩; have hS5 : OldC wq.heap.size wq W5 := (by rw [hW5]; exact oldA hS1 _); have hAl : W5.heap[bw]? = some (.cells #[.pointer none] 105 (0, 0)) := (by rw [hW5, hbw]; exact heap_alloc_new _ _); have hc9 := cell_blk (k := 0) hAl; have hf9 := frozen_blk (k := 0) hAl; have hbq9 : wq.heap.size ≤ bw := (by rw [hbw]; exact (hS1).sz); rw [← hW5, ← hbw]; clear hbw hW5; refine hK _ _ hS5 ?_; clear hK K; try simp only [pz])
      (refine ord_op rfl ?_ (fun K hK => ?_); rfl; go_simp; refine (asked_err r A _ _ (hr.below (hbq.trans ((hS5).be.mono hbq.size))) hl1 hl2 hl3 hl4 HN.out).mono ?_; rintro e W6 ⟨rfl, hb6⟩; rw [← HE.out]; (try (replace hAl := (hb6.block _ (Array.getElem?_eq_some_iff.1 hAl).1).trans hAl)); (try (replace hc9 := (cell_blk (k := 0) hAl))); (try (replace hf9 := (frozen_blk (k := 0) hAl))); have hS6 := oldK hS5 hb6; refine hK _ _ hS6 ?_; clear hK K; try simp only [pz])
      repeat (first
        | (refine ord_skip rfl ?_ ?_; rfl; simp only [pz])
        | (refine ord_take (v := ?_) rfl ?_ (fun W hW => ?_) ?_; rotate_left; rfl; (obtain ⟨hz, hcc, hbb⟩ := hW; go_simp; (first | done | with_reducible rfl)); simp only [pz]))
      (refine ord_op rfl ?_ (fun K hK => ?_); rfl; go_simp; refine hK _ _ (oldSt hS6 (p := ⟨bw, 0, none⟩) hbq9 _) ?_; have hS7 := oldSt hS6 (p := ⟨bw, 0, none⟩) hbq9 (.pointer none); obtain ⟨W7, hW7⟩ : ∃ Q, Q = (W6).setCell ⟨bw, 0, none⟩ (.pointer none) := ⟨_, rfl⟩; rw [← hW7] at hS7 ⊢; clear hW7; clear hK K; try simp only [pz])
      repeat (first
        | (refine ord_skip rfl ?_ ?_; rfl; simp only [pz])
        | (refine ord_take (v := ?_) rfl ?_ (fun W hW => ?_) ?_; rotate_left; rfl; (obtain ⟨hz, hcc, hbb⟩ := hW; go_simp; (first | done | with_reducible rfl)); simp only [pz]))
      refine ord_nil ?_
      go_wp2_with fail
      refine bodyPost_ret (v := .tuple #[.int .i64 0, .int .i64 E]) (by simp [results, Try.results67, go_sem]) rfl ⟨rfl, hbq.trans (hS7.be.mono hbq.size)⟩
  · skip
    (refine ord_op rfl ?_ (fun K hK => ?_); rfl; go_simp; obtain ⟨bw, hbw⟩ : ∃ n, n = (W0).heap.size := ⟨_, rfl⟩; obtain ⟨W8, hW8⟩ : ∃ Q, Q = (W0).alloc (.cells #[.pointer none] 105) := ⟨_, rfl⟩; have hS8 : OldC wq.heap.size wq W8 := (by rw [hW8]; exact oldA hS0 _); have hAl : W8.heap[bw]? = some (.cells #[.pointer none] 105 (0, 0)) := (by rw [hW8, hbw]; exact heap_alloc_new _ _); have hc9 := cell_blk (k := 0) hAl; have hf9 := frozen_blk (k := 0) hAl; have hbq9 : wq.heap.size ≤ bw := (by rw [hbw]; exact (hS0).sz); rw [← hW8, ← hbw]; clear hbw hW8; refine hK _ _ hS8 ?_; clear hK K; try simp only [pz])
    (refine ord_op rfl ?_ (fun K hK => ?_); rfl; go_simp; refine (isPlan_c r A a xs c _ (hs.below (hbq.trans ((hS8).be.mono hbq.size))) hlen).mono ?_; rintro e W9 ⟨rfl, hb9⟩; (try (replace hAl := (hb9.block _ (Array.getElem?_eq_some_iff.1 hAl).1).trans hAl)); (try (replace hc9 := (cell_blk (k := 0) hAl))); (try (replace hf9 := (frozen_blk (k := 0) hAl))); have hS9 := oldK hS8 hb9; refine hK _ _ hS9 ?_; clear hK K; try simp only [pz])
    (refine ord_op rfl ?_ (fun K hK => ?_); rfl; go_simp; refine (asked_err r A _ _ (hr.below (hbq.trans ((hS9).be.mono hbq.size))) hl1 hl2 hl3 hl4 HN.out).mono ?_; rintro e W10 ⟨rfl, hb10⟩; rw [← HE.out]; (try (replace hAl := (hb10.block _ (Array.getElem?_eq_some_iff.1 hAl).1).trans hAl)); (try (replace hc9 := (cell_blk (k := 0) hAl))); (try (replace hf9 := (frozen_blk (k := 0) hAl))); have hS10 := oldK hS9 hb10; refine hK _ _ hS10 ?_; clear hK K; try simp only [pz])
    repeat (first
      | (refine ord_skip rfl ?_ ?_; rfl; simp only [pz])
      | (refine ord_take (v := ?_) rfl ?_ (fun W hW => ?_) ?_; rotate_left; rfl; (obtain ⟨hz, hcc, hbb⟩ := hW; go_simp; (first | done | with_reducible rfl)); simp only [pz]))
    (refine ord_op rfl ?_ (fun K hK => ?_); rfl; go_simp; refine hK _ _ (oldSt hS10 (p := ⟨bw, 0, none⟩) hbq9 _) ?_; have hS11 := oldSt hS10 (p := ⟨bw, 0, none⟩) hbq9 (.pointer none); obtain ⟨W11, hW11⟩ : ∃ Q, Q = (W10).setCell ⟨bw, 0, none⟩ (.pointer none) := ⟨_, rfl⟩; rw [← hW11] at hS11 ⊢; clear hW11; clear hK K; try simp only [pz])
    repeat (first
      | (refine ord_skip rfl ?_ ?_; rfl; simp only [pz])
      | (refine ord_take (v := ?_) rfl ?_ (fun W hW => ?_) ?_; rotate_left; rfl; (obtain ⟨hz, hcc, hbb⟩ := hW; go_simp; (first | done | with_reducible rfl)); simp only [pz]))
    refine ord_nil ?_
    go_wp2_with fail
    refine bodyPost_ret (v := .tuple #[.int .i64 0, .int .i64 E]) (by simp [results, Try.results67, go_sem]) rfl ⟨rfl, hbq.trans (hS11.be.mono hbq.size)⟩


set_option maxHeartbeats 8000000 in
theorem Lasts_ok (r : Riv) (A : RA) (a : Option Addr) (xs : List Int) (c : Nat) (w : World) (hr : Rd w r A) (hl1 : r.salt.length ≤ 30) (hl2 : r.mud.length ≤ 30) (hl3 : r.use.length ≤ 30) (hl4 : r.gauges.length ≤ 30)
    (hs : Sl w a (ints xs)) (hlen : xs.length ≤ 1000) (h : askE r (isPlanB r.last xs) = 0) :
    Calls Try.prog 67 #[rivV r A, .slice a xs.length c] w (RetNE (verdI (fun g => decide (r.last < lackI r g (bitsN xs) r.size (-1))) (goodsL r), 0) w) := by
  have HOK := Lib.hid (ok_of_fault (ask_ok h).1).1
  have hxs := Lib.hid (isPlanB_in r.last HOK.out.l5 xs (ask_ok h).2.1)
  have HN := Lib.hid h
  obtain ⟨V, hV⟩ : ∃ V, V = verdI (fun g => decide (r.last < lackI r g (bitsN xs) r.size (-1))) (goodsL r) := ⟨_, rfl⟩
  have HV := Lib.hid hV
  rw [← hV]
  clear h hV
  go_enter Try.func67, Try.ntmps67
  go_wp2_with fail
  obtain ⟨wq, hwq⟩ : ∃ wq, w.alloc (rivO r A) = wq := ⟨_, rfl⟩
  rw [hwq]
  have hq0 : wq.heap[w.heap.size]? = some (rivO r A) := by rw [← hwq]; exact heap_alloc_new _ _
  have hbq : Below w.heap.size w wq := by rw [← hwq]; exact (Below.refl _ w).alloc (Nat.le_refl _) _
  have hzq : wq.heap.size = w.heap.size + 1 := by rw [← hwq]; simp
  obtain ⟨k0, k1, k2, k3, k4, k5, k6, k7, k8, k9⟩ := riv_cells hq0
  have hlt0 : w.heap.size < wq.heap.size := by omega
  clear hwq hq0
  refine region_o (S := OldC wq.heap.size wq) (.take 0 (.take 1 (.take 2 (.two 3 8 (.two 4 8 (.take 5 (.take 6 (.take 7 (.one 8 (.one 9 (.take 10 .nil)))))) (.one 4 (.take 5 (.take 6 (.take 7 (.one 9 (.take 10 .nil))))))) (.one 3 (.one 4 (.take 5 (.take 6 (.take 7 (.one 9 (.take 10 .nil))))))))))) (by kernel_rfl) (by kernel_rfl) (fun _ _ d _ _ h => by cases d <;> exact h) (oldR (Nat.le_refl _)) ?_
  intro W0 hW0 hS0
  have hBW : Below wq.heap.size wq W0 := by subst hW0; exact (Below.refl _ _).drew
  clear hW0
  repeat (first
    | (refine ord_skip rfl ?_ ?_; rfl; simp only [pz])
    | (refine ord_take (v := ?_) rfl ?_ (fun W hW => ?_) ?_; rotate_left; rfl; (obtain ⟨hz, hcc, hbb⟩ := hW; go_simp; (first | done | with_reducible rfl)); simp only [pz]))
  refine ord_two ?_ ?_
  · skip
    (refine ord_op rfl ?_ (fun K hK => ?_); rfl; go_simp; refine (isPlan_c r A a xs c _ (hs.below (hbq.trans ((hS0).be.mono hbq.size))) hlen).mono ?_; rintro e W1 ⟨rfl, hb1⟩; (try (replace hAl := (hb1.block _ (Array.getElem?_eq_some_iff.1 hAl).1).trans hAl)); (try (replace hc9 := (cell_blk (k := 0) hAl))); (try (replace hf9 := (frozen_blk (k := 0) hAl))); have hS1 := oldK hS0 hb1; refine hK _ _ hS1 ?_; clear hK K; try simp only [pz])
    refine ord_two ?_ ?_
    · skip
      (refine ord_op rfl ?_ (fun K hK => ?_); rfl; go_simp; obtain ⟨n9, hn9⟩ : ∃ n, n = (W1).heap.size := ⟨_, rfl⟩; have HN9 := Lib.hid hn9; refine (asked_ok r A _ _ (hr.below (hbq.trans ((hS1).be.mono hbq.size))) hl1 hl2 hl3 hl4 HN.out).mono ?_; rintro e W2 ⟨p, v, m, rfl, hWB, hmp, hb2⟩; rw [← hn9] at hWB; clear hn9 hmp; (try (have hbn : p ≠ bw ∧ ∀ k, v.ownBlock = some k → k ≠ bw := ⟨fun e => (by have h1 := hWB.hp; have h2 := (Array.getElem?_eq_some_iff.1 hAl).1; have h3 := HN9.out; omega), fun k hk e => (by have h1 := (hWB.own.lt k hk).1; have h2 := (Array.getElem?_eq_some_iff.1 hAl).1; have h3 := HN9.out; omega)⟩)); (try (replace hAl := (hb2.block _ (Array.getElem?_eq_some_iff.1 hAl).1).trans hAl)); (try (replace hc9 := (cell_blk (k := 0) hAl))); (try (replace hf9 := (frozen_blk (k := 0) hAl))); have hS2 := oldK hS1 hb2; refine hK _ _ hS2 ?_; clear hK K; try simp only [pz])
      repeat (first
        | (refine ord_skip rfl ?_ ?_; rfl; simp only [pz])
        | (refine ord_take (v := ?_) rfl ?_ (fun W hW => ?_) ?_; rotate_left; rfl; (obtain ⟨hz, hcc, hbb⟩ := hW; go_simp; (first | done | with_reducible rfl)); simp only [pz]))
      (refine ord_op rfl ?_ (fun K hK => ?_); rfl; go_simp; obtain ⟨bw, hbw⟩ : ∃ n, n = (W2).heap.size := ⟨_, rfl⟩; obtain ⟨W3, hW3⟩ : ∃ Q, Q = (W2).alloc (.cells #[.pointer none] 105) := ⟨_, rfl⟩; have hS3 : OldC wq.heap.size wq W3 := (by rw [hW3]; exact oldA hS2 _); have hAl : W3.heap[bw]? = some (.cells #[.pointer none] 105 (0, 0)) := (by rw [hW3, hbw]; exact heap_alloc_new _ _); have hc9 := cell_blk (k := 0) hAl; have hf9 := frozen_blk (k := 0) hAl; have hbq9 : wq.heap.size ≤ bw := (by rw [hbw]; exact (hS2).sz); (try (have hbn : p ≠ bw ∧ ∀ k, v.ownBlock = some k → k ≠ bw := ⟨fun e => (by have h1 := (Array.getElem?_eq_some_iff.1 hWB.blk).1; omega), fun k hk e => (by have h1 := (hWB.own.lt k hk).2; omega)⟩)); (try (replace hWB := hWB.below (W' := W3) (by rw [hW3]; exact (Below.refl _ _).alloc (Nat.le_refl _) _))); rw [← hW3, ← hbw]; clear hbw hW3; refine hK _ _ hS3 ?_; clear hK K; try simp only [pz])
      (refine ord_op rfl ?_ (fun K hK => ?_); rfl; go_simp; refine hK _ _ (oldSt hS3 (p := ⟨bw, 0, none⟩) hbq9 _) ?_; have hS4 := oldSt hS3 (p := ⟨bw, 0, none⟩) hbq9 (.pointer (some ⟨p, 0, none⟩)); have hst9 := Wr.setCell (fun k => k = bw) (W3) ⟨bw, 0, none⟩ (.pointer (some ⟨p, 0, none⟩)) rfl; replace hWB := hWB.wr hst9 hbn.1 hbn.2; have hAl2 := heap_set hAl (k := 0) (.pointer (some ⟨p, 0, none⟩)); clear hc9 hf9 hAl hst9; obtain ⟨W4, hW4⟩ : ∃ Q, Q = (W3).setCell ⟨bw, 0, none⟩ (.pointer (some ⟨p, 0, none⟩)) := ⟨_, rfl⟩; rw [← hW4] at hS4 hWB hAl2 ⊢; clear hW4; clear hK K; try simp only [pz])
      repeat (first
        | (refine ord_skip rfl ?_ ?_; rfl; simp only [pz])
        | (refine ord_take (v := ?_) rfl ?_ (fun W hW => ?_) ?_; rotate_left; rfl; (obtain ⟨hz, hcc, hbb⟩ := hW; go_simp; (first | done | with_reducible rfl)); simp only [pz]))
      refine ord_nil ?_
      clear hbn
      have HSx := Lib.hid hS4
      obtain ⟨Wx, hWx⟩ : ∃ Q, Q = W4 := ⟨_, rfl⟩
      subst hWx
      have hBx := hbq.trans (hS4.be.mono hbq.size)
      have hc5 := (hS4.ce _ 5 hlt0).trans k5
      have hc0 := (hS4.ce _ 0 hlt0).trans k0
      have HN9z := Lib.hid (Nat.le_refl 0)
      clear k0 k1 k2 k3 k4 k5 k6 k7 k8 k9
      go_wp2_with fail
      refine region_o (S := fun W => W.cell? ⟨w.heap.size, 5, none⟩ = some (.int .i64 r.size)) (.take 0 (.take 2 (.take 3 (.two 1 5 (.take 4 (.one 5 (.one 6 .nil))) (.one 1 (.take 4 (.one 6 .nil))))))) (by kernel_rfl) (by kernel_rfl) (fun _ _ d _ _ h => by cases d <;> exact h) (by simpa using hc5) ?_
      intro W0 hW0 hS0
      have hBW : Below Wx.heap.size Wx W0 := by subst hW0; exact (Below.refl _ _).drew
      clear hW0
      have hBc := hBW
      repeat (first
        | (refine ord_skip rfl ?_ ?_; rfl; simp only [pz])
        | (refine ord_take (v := ?_) rfl ?_ (fun W hW => ?_) ?_; rotate_left; rfl; (obtain hz0 := hW; go_simp; (first | done | with_reducible rfl)); simp only [pz]))
      refine ord_two ?_ ?_
      · skip
        (refine ord_op rfl ?_ (fun K hK => ?_); rfl; go_simp; refine (bits_c a xs c _ (hs.below (hBx.trans (hBc.mono hBx.size))) hlen hxs.out).mono ?_; rintro e w1 ⟨rfl, hb64, rfl⟩; obtain ⟨W1, hWj⟩ : ∃ Q, Q = W0 := ⟨_, rfl⟩; subst hWj; have HB64 := Lib.hid hb64; have hS1 := hS0; refine hK _ _ hS1 ?_; clear hK K; try simp only [pz])
        repeat (first
          | (refine ord_skip rfl ?_ ?_; rfl; simp only [pz])
          | (refine ord_take (v := ?_) rfl ?_ (fun W hW => ?_) ?_; rotate_left; rfl; (obtain hz0 := hW; go_simp; (first | done | with_reducible rfl)); simp only [pz]))
        (refine ord_op rfl ?_ (fun K hK => ?_); rfl; go_simp; obtain ⟨bx, hbx⟩ : ∃ n, n = (W1).heap.size := ⟨_, rfl⟩; obtain ⟨W2, hW2⟩ : ∃ Q, Q = (W1).alloc (.cells #[.int .i64 0, .int .i64 0, .int .i64 0] 126) := ⟨_, rfl⟩; have hX : W2.heap[bx]? = some (.cells #[.int .i64 0, .int .i64 0, .int .i64 0] 126 (0, 0)) := (by rw [hW2, hbx]; exact heap_alloc_new _ _); have hxz : Wx.heap.size ≤ bx := (by rw [hbx]; exact hBc.size); replace hBc : Below Wx.heap.size Wx W2 := (by rw [hW2]; exact hBc.alloc hBc.size _); have hxf := fun j => frozen_blk (k := j) hX; have hx0 := cell_blk (k := 0) hX; have hx1 := cell_blk (k := 1) hX; have hx2 := cell_blk (k := 2) hX; have hS2 : W2.cell? ⟨w.heap.size, 5, none⟩ = some (.int .i64 r.size) := (hBc.cell (p := ⟨w.heap.size, 5, none⟩) (cell_lt hc5)).trans hc5; rw [← hW2, ← hbx]; clear hW2 hbx; refine hK _ _ hS2 ?_; clear hK K; try simp only [pz])
        (refine ord_op rfl ?_ (fun K hK => ?_); rfl; go_simp; obtain ⟨W3, hW3⟩ : ∃ Q, Q = (((W2).setCell ⟨bx, 0, none⟩ (.int .i64 (bitsN xs))).setCell ⟨bx, 1, none⟩ (.int .i64 r.size)).setCell ⟨bx, 2, none⟩ (.int .i64 (-1)) := ⟨_, rfl⟩; have hX2 : W3.heap[bx]? = some (.cells #[.int .i64 (bitsN xs), .int .i64 r.size, .int .i64 (-1)] 126 (0, 0)) := (by rw [hW3, heap_set (heap_set (heap_set hX _) _) _]; rfl); replace hBc : Below Wx.heap.size Wx W3 := (by rw [hW3]; exact ((hBc.setCell (p := ⟨bx, 0, none⟩) hxz _).setCell (p := ⟨bx, 1, none⟩) hxz _).setCell (p := ⟨bx, 2, none⟩) hxz _); have hS3 : W3.cell? ⟨w.heap.size, 5, none⟩ = some (.int .i64 r.size) := (hBc.cell (p := ⟨w.heap.size, 5, none⟩) (cell_lt hc5)).trans hc5; rw [← hW3]; clear hW3 hX hx0 hx1 hx2 hxf; refine hK _ _ hS3 ?_; clear hK K; try simp only [pz])
        refine ord_nil ?_
        obtain ⟨Wy, hWy⟩ : ∃ Q, Q = W3 := ⟨_, rfl⟩
        subst hWy
        have d0 : Wy.cell? ⟨bw, 0, none⟩ = some (.pointer (some ⟨p, 0, none⟩)) := (hBc.cell (p := ⟨bw, 0, none⟩) (Array.getElem?_eq_some_iff.1 hAl2).1).trans (cell_blk (k := 0) hAl2)
        have d1 : Wy.cell? ⟨bx, 0, none⟩ = some (.int .i64 (bitsN xs)) := cell_blk (k := 0) hX2
        have d2 : Wy.cell? ⟨bx, 1, none⟩ = some (.int .i64 r.size) := cell_blk (k := 1) hX2
        have d3 : Wy.cell? ⟨bx, 2, none⟩ = some (.int .i64 (-1)) := cell_blk (k := 2) hX2
        have d4 : Wy.cell? ⟨w.heap.size, 0, none⟩ = some (.int .i64 r.last) := (hBc.cell (p := ⟨w.heap.size, 0, none⟩) (cell_lt hc0)).trans hc0
        have HBc := Lib.hid hBc
        have l1 := cell_lt d0
        have l2 := cell_lt d1
        have l3 := cell_lt d4
        clear hBc hX2 hAl2 hBW hc0 hc5 hxz
        go_wp2_with fail
        refine (verdict113_c r A n9 p m v (goodsL r) (goodsL_6 r) (goodsL_64 r) (fun g => decide (r.last < lackI r g (bitsN xs) r.size (-1))) bw bx w.heap.size _ (hWB.below HBc.out) (fun g hg W hbW => lasts1_c r A HOK.out n9 p m v (goodsL r) g (goodsL_6 r g hg) (bitsN xs) HB64.out r.size (-1) HOK.out.sz.1 HOK.out.sz.2 bw bx w.heap.size W ((hWB.below HBc.out).below hbW) (hr.below ((hBx.trans (HBc.out.mono hBx.size)).trans (hbW.mono (by have := hBx.size; have := HBc.out.size; omega)))) ((hbW.cell (p := ⟨bw, 0, none⟩) l1).trans d0) ((hbW.cell (p := ⟨bx, 0, none⟩) l2).trans d1) ((hbW.cell (p := ⟨bx, 1, none⟩) l2).trans d2) ((hbW.cell (p := ⟨bx, 2, none⟩) l2).trans d3) ((hbW.cell (p := ⟨w.heap.size, 0, none⟩) l3).trans d4))).mono ?_
        rintro e w9 ⟨rfl, hb9⟩
        rw [← HV.out]
        go_wp2_with fail
        refine bodyPost_ret (v := .tuple #[.int .i64 V, .int .i64 0]) (by simp [results, Try.results67, go_sem]) rfl ⟨rfl, (hBx.trans (HBc.out.mono hBx.size)).trans (hb9.mono (by have := hBx.size; have := HBc.out.size; omega))⟩
      · skip
        (refine ord_op rfl ?_ (fun K hK => ?_); rfl; go_simp; obtain ⟨bx, hbx⟩ : ∃ n, n = (W0).heap.size := ⟨_, rfl⟩; obtain ⟨W4, hW4⟩ : ∃ Q, Q = (W0).alloc (.cells #[.int .i64 0, .int .i64 0, .int .i64 0] 126) := ⟨_, rfl⟩; have hX : W4.heap[bx]? = some (.cells #[.int .i64 0, .int .i64 0, .int .i64 0] 126 (0, 0)) := (by rw [hW4, hbx]; exact heap_alloc_new _ _); have hxz : Wx.heap.size ≤ bx := (by rw [hbx]; exact hBc.size); replace hBc : Below Wx.heap.size Wx W4 := (by rw [hW4]; exact hBc.alloc hBc.size _); have hxf := fun j => frozen_blk (k := j) hX; have hx0 := cell_blk (k := 0) hX; have hx1 := cell_blk (k := 1) hX; have hx2 := cell_blk (k := 2) hX; have hS4 : W4.cell? ⟨w.heap.size, 5, none⟩ = some (.int .i64 r.size) := (hBc.cell (p := ⟨w.heap.size, 5, none⟩) (cell_lt hc5)).trans hc5; rw [← hW4, ← hbx]; clear hW4 hbx; refine hK _ _ hS4 ?_; clear hK K; try simp only [pz])
        (refine ord_op rfl ?_ (fun K hK => ?_); rfl; go_simp; refine (bits_c a xs c _ (hs.below (hBx.trans (hBc.mono hBx.size))) hlen hxs.out).mono ?_; rintro e w1 ⟨rfl, hb64, rfl⟩; obtain ⟨W5, hWj⟩ : ∃ Q, Q = W4 := ⟨_, rfl⟩; subst hWj; have HB64 := Lib.hid hb64; have hS5 := hS4; refine hK _ _ hS5 ?_; clear hK K; try simp only [pz])
        repeat (first
          | (refine ord_skip rfl ?_ ?_; rfl; simp only [pz])
          | (refine ord_take (v := ?_) rfl ?_ (fun W hW => ?_) ?_; rotate_left; rfl; (obtain hz0 := hW; go_simp; (first | done | with_reducible rfl)); simp only [pz]))
        (refine ord_op rfl ?_ (fun K hK => ?_); rfl; go_simp; obtain ⟨W6, hW6⟩ : ∃ Q, Q = (((W5).setCell ⟨bx, 0, none⟩ (.int .i64 (bitsN xs))).setCell ⟨bx, 1, none⟩ (.int .i64 r.size)).setCell ⟨bx, 2, none⟩ (.int .i64 (-1)) := ⟨_, rfl⟩; have hX2 : W6.heap[bx]? = some (.cells #[.int .i64 (bitsN xs), .int .i64 r.size, .int .i64 (-1)] 126 (0, 0)) := (by rw [hW6, heap_set (heap_set (heap_set hX _) _) _]; rfl); replace hBc : Below Wx.heap.size Wx W6 := (by rw [hW6]; exact ((hBc.setCell (p := ⟨bx, 0, none⟩) hxz _).setCell (p := ⟨bx, 1, none⟩) hxz _).setCell (p := ⟨bx, 2, none⟩) hxz _); have hS6 : W6.cell? ⟨w.heap.size, 5, none⟩ = some (.int .i64 r.size) := (hBc.cell (p := ⟨w.heap.size, 5, none⟩) (cell_lt hc5)).trans hc5; rw [← hW6]; clear hW6 hX hx0 hx1 hx2 hxf; refine hK _ _ hS6 ?_; clear hK K; try simp only [pz])
        refine ord_nil ?_
        obtain ⟨Wy, hWy⟩ : ∃ Q, Q = W6 := ⟨_, rfl⟩
        subst hWy
        have d0 : Wy.cell? ⟨bw, 0, none⟩ = some (.pointer (some ⟨p, 0, none⟩)) := (hBc.cell (p := ⟨bw, 0, none⟩) (Array.getElem?_eq_some_iff.1 hAl2).1).trans (cell_blk (k := 0) hAl2)
        have d1 : Wy.cell? ⟨bx, 0, none⟩ = some (.int .i64 (bitsN xs)) := cell_blk (k := 0) hX2
        have d2 : Wy.cell? ⟨bx, 1, none⟩ = some (.int .i64 r.size) := cell_blk (k := 1) hX2
        have d3 : Wy.cell? ⟨bx, 2, none⟩ = some (.int .i64 (-1)) := cell_blk (k := 2) hX2
        have d4 : Wy.cell? ⟨w.heap.size, 0, none⟩ = some (.int .i64 r.last) := (hBc.cell (p := ⟨w.heap.size, 0, none⟩) (cell_lt hc0)).trans hc0
        have HBc := Lib.hid hBc
        have l1 := cell_lt d0
        have l2 := cell_lt d1
        have l3 := cell_lt d4
        clear hBc hX2 hAl2 hBW hc0 hc5 hxz
        go_wp2_with fail
        refine (verdict113_c r A n9 p m v (goodsL r) (goodsL_6 r) (goodsL_64 r) (fun g => decide (r.last < lackI r g (bitsN xs) r.size (-1))) bw bx w.heap.size _ (hWB.below HBc.out) (fun g hg W hbW => lasts1_c r A HOK.out n9 p m v (goodsL r) g (goodsL_6 r g hg) (bitsN xs) HB64.out r.size (-1) HOK.out.sz.1 HOK.out.sz.2 bw bx w.heap.size W ((hWB.below HBc.out).below hbW) (hr.below ((hBx.trans (HBc.out.mono hBx.size)).trans (hbW.mono (by have := hBx.size; have := HBc.out.size; omega)))) ((hbW.cell (p := ⟨bw, 0, none⟩) l1).trans d0) ((hbW.cell (p := ⟨bx, 0, none⟩) l2).trans d1) ((hbW.cell (p := ⟨bx, 1, none⟩) l2).trans d2) ((hbW.cell (p := ⟨bx, 2, none⟩) l2).trans d3) ((hbW.cell (p := ⟨w.heap.size, 0, none⟩) l3).trans d4))).mono ?_
        rintro e w9 ⟨rfl, hb9⟩
        rw [← HV.out]
        go_wp2_with fail
        refine bodyPost_ret (v := .tuple #[.int .i64 V, .int .i64 0]) (by simp [results, Try.results67, go_sem]) rfl ⟨rfl, (hBx.trans (HBc.out.mono hBx.size)).trans (hb9.mono (by have := hBx.size; have := HBc.out.size; omega))⟩
    · skip
      (refine ord_op rfl ?_ (fun K hK => ?_); rfl; go_simp; obtain ⟨bw, hbw⟩ : ∃ n, n = (W1).heap.size := ⟨_, rfl⟩; obtain ⟨W5, hW5⟩ : ∃ Q, Q = (W1).alloc (.cells #[.pointer none] 105) := ⟨_, rfl⟩; have hS5 : OldC wq.heap.size wq W5 := (by rw [hW5]; exact oldA hS1 _); have hAl : W5.heap[bw]? = some (.cells #[.pointer none] 105 (0, 0)) := (by rw [hW5, hbw]; exact heap_alloc_new _ _); have hc9 := cell_blk (k := 0) hAl; have hf9 := frozen_blk (k := 0) hAl; have hbq9 : wq.heap.size ≤ bw := (by rw [hbw]; exact (hS1).sz); (try (have hbn : p ≠ bw ∧ ∀ k, v.ownBlock = some k → k ≠ bw := ⟨fun e => (by have h1 := (Array.getElem?_eq_some_iff.1 hWB.blk).1; omega), fun k hk e => (by have h1 := (hWB.own.lt k hk).2; omega)⟩)); (try (replace hWB := hWB.below (W' := W5) (by rw [hW5]; exact (Below.refl _ _).alloc (Nat.le_refl _) _))); rw [← hW5, ← hbw]; clear hbw hW5; refine hK _ _ hS5 ?_; clear hK K; try simp only [pz])
      (refine ord_op rfl ?_ (fun K hK => ?_); rfl; go_simp; obtain ⟨n9, hn9⟩ : ∃ n, n = (W5).heap.size := ⟨_, rfl⟩; have HN9 := Lib.hid hn9; refine (asked_ok r A _ _ (hr.below (hbq.trans ((hS5).be.mono hbq.size))) hl1 hl2 hl3 hl4 HN.out).mono ?_; rintro e W6 ⟨p, v, m, rfl, hWB, hmp, hb6⟩; rw [← hn9] at hWB; clear hn9 hmp; (try (have hbn : p ≠ bw ∧ ∀ k, v.ownBlock = some k → k ≠ bw := ⟨fun e => (by have h1 := hWB.hp; have h2 := (Array.getElem?_eq_some_iff.1 hAl).1; have h3 := HN9.out; omega), fun k hk e => (by have h1 := (hWB.own.lt k hk).1; have h2 := (Array.getElem?_eq_some_iff.1 hAl).1; have h3 := HN9.out; omega)⟩)); (try (replace hAl := (hb6.block _ (Array.getElem?_eq_some_iff.1 hAl).1).trans hAl)); (try (replace hc9 := (cell_blk (k := 0) hAl))); (try (replace hf9 := (frozen_blk (k := 0) hAl))); have hS6 := oldK hS5 hb6; refine hK _ _ hS6 ?_; clear hK K; try simp only [pz])
      repeat (first
        | (refine ord_skip rfl ?_ ?_; rfl; simp only [pz])
        | (refine ord_take (v := ?_) rfl ?_ (fun W hW => ?_) ?_; rotate_left; rfl; (obtain ⟨hz, hcc, hbb⟩ := hW; go_simp; (first | done | with_reducible rfl)); simp only [pz]))
      (refine ord_op rfl ?_ (fun K hK => ?_); rfl; go_simp; refine hK _ _ (oldSt hS6 (p := ⟨bw, 0, none⟩) hbq9 _) ?_; have hS7 := oldSt hS6 (p := ⟨bw, 0, none⟩) hbq9 (.pointer (some ⟨p, 0, none⟩)); have hst9 := Wr.setCell (fun k => k = bw) (W6) ⟨bw, 0, none⟩ (.pointer (some ⟨p, 0, none⟩)) rfl; replace hWB := hWB.wr hst9 hbn.1 hbn.2; have hAl2 := heap_set hAl (k := 0) (.pointer (some ⟨p, 0, none⟩)); clear hc9 hf9 hAl hst9; obtain ⟨W7, hW7⟩ : ∃ Q, Q = (W6).setCell ⟨bw, 0, none⟩ (.pointer (some ⟨p, 0, none⟩)) := ⟨_, rfl⟩; rw [← hW7] at hS7 hWB hAl2 ⊢; clear hW7; clear hK K; try simp only [pz])
      repeat (first
        | (refine ord_skip rfl ?_ ?_; rfl; simp only [pz])
        | (refine ord_take (v := ?_) rfl ?_ (fun W hW => ?_) ?_; rotate_left; rfl; (obtain ⟨hz, hcc, hbb⟩ := hW; go_simp; (first | done | with_reducible rfl)); simp only [pz]))
      refine ord_nil ?_
      clear hbn
      have HSx := Lib.hid hS7
      obtain ⟨Wx, hWx⟩ : ∃ Q, Q = W7 := ⟨_, rfl⟩
      subst hWx
      have hBx := hbq.trans (hS7.be.mono hbq.size)
      have hc5 := (hS7.ce _ 5 hlt0).trans k5
      have hc0 := (hS7.ce _ 0 hlt0).trans k0
      have HN9z := Lib.hid (Nat.le_refl 0)
      clear k0 k1 k2 k3 k4 k5 k6 k7 k8 k9
      go_wp2_with fail
      refine region_o (S := fun W => W.cell? ⟨w.heap.size, 5, none⟩ = some (.int .i64 r.size)) (.take 0 (.take 2 (.take 3 (.two 1 5 (.take 4 (.one 5 (.one 6 .nil))) (.one 1 (.take 4 (.one 6 .nil))))))) (by kernel_rfl) (by kernel_rfl) (fun _ _ d _ _ h => by cases d <;> exact h) (by simpa using hc5) ?_
      intro W0 hW0 hS0
      have hBW : Below Wx.heap.size Wx W0 := by subst hW0; exact (Below.refl _ _).drew
      clear hW0
      have hBc := hBW
      repeat (first
        | (refine ord_skip rfl ?_ ?_; rfl; simp only [pz])
        | (refine ord_take (v := ?_) rfl ?_ (fun W hW => ?_) ?_; rotate_left; rfl; (obtain hz0 := hW; go_simp; (first | done | with_reducible rfl)); simp only [pz]))
      refine ord_two ?_ ?_
      · skip
        (refine ord_op rfl ?_ (fun K hK => ?_); rfl; go_simp; refine (bits_c a xs c _ (hs.below (hBx.trans (hBc.mono hBx.size))) hlen hxs.out).mono ?_; rintro e w1 ⟨rfl, hb64, rfl⟩; obtain ⟨W1, hWj⟩ : ∃ Q, Q = W0 := ⟨_, rfl⟩; subst hWj; have HB64 := Lib.hid hb64; have hS1 := hS0; refine hK _ _ hS1 ?_; clear hK K; try simp only [pz])
        repeat (first
          | (refine ord_skip rfl ?_ ?_; rfl; simp only [pz])
          | (refine ord_take (v := ?_) rfl ?_ (fun W hW => ?_) ?_; rotate_left; rfl; (obtain hz0 := hW; go_simp; (first | done | with_reducible rfl)); simp only [pz]))
        (refine ord_op rfl ?_ (fun K hK => ?_); rfl; go_simp; obtain ⟨bx, hbx⟩ : ∃ n, n = (W1).heap.size := ⟨_, rfl⟩; obtain ⟨W2, hW2⟩ : ∃ Q, Q = (W1).alloc (.cells #[.int .i64 0, .int .i64 0, .int .i64 0] 126) := ⟨_, rfl⟩; have hX : W2.heap[bx]? = some (.cells #[.int .i64 0, .int .i64 0, .int .i64 0] 126 (0, 0)) := (by rw [hW2, hbx]; exact heap_alloc_new _ _); have hxz : Wx.heap.size ≤ bx := (by rw [hbx]; exact hBc.size); replace hBc : Below Wx.heap.size Wx W2 := (by rw [hW2]; exact hBc.alloc hBc.size _); have hxf := fun j => frozen_blk (k := j) hX; have hx0 := cell_blk (k := 0) hX; have hx1 := cell_blk (k := 1) hX; have hx2 := cell_blk (k := 2) hX; have hS2 : W2.cell? ⟨w.heap.size, 5, none⟩ = some (.int .i64 r.size) := (hBc.cell (p := ⟨w.heap.size, 5, none⟩) (cell_lt hc5)).trans hc5; rw [← hW2, ← hbx]; clear hW2 hbx; refine hK _ _ hS2 ?_; clear hK K; try simp only [pz])
        (refine ord_op rfl ?_ (fun K hK => ?_); rfl; go_simp; obtain ⟨W3, hW3⟩ : ∃ Q, Q = (((W2).setCell ⟨bx, 0, none⟩ (.int .i64 (bitsN xs))).setCell ⟨bx, 1, none⟩ (.int .i64 r.size)).setCell ⟨bx, 2, none⟩ (.int .i64 (-1)) := ⟨_, rfl⟩; have hX2 : W3.heap[bx]? = some (.cells #[.int .i64 (bitsN xs), .int .i64 r.size, .int .i64 (-1)] 126 (0, 0)) := (by rw [hW3, heap_set (heap_set (heap_set hX _) _) _]; rfl); replace hBc : Below Wx.heap.size Wx W3 := (by rw [hW3]; exact ((hBc.setCell (p := ⟨bx, 0, none⟩) hxz _).setCell (p := ⟨bx, 1, none⟩) hxz _).setCell (p := ⟨bx, 2, none⟩) hxz _); have hS3 : W3.cell? ⟨w.heap.size, 5, none⟩ = some (.int .i64 r.size) := (hBc.cell (p := ⟨w.heap.size, 5, none⟩) (cell_lt hc5)).trans hc5; rw [← hW3]; clear hW3 hX hx0 hx1 hx2 hxf; refine hK _ _ hS3 ?_; clear hK K; try simp only [pz])
        refine ord_nil ?_
        obtain ⟨Wy, hWy⟩ : ∃ Q, Q = W3 := ⟨_, rfl⟩
        subst hWy
        have d0 : Wy.cell? ⟨bw, 0, none⟩ = some (.pointer (some ⟨p, 0, none⟩)) := (hBc.cell (p := ⟨bw, 0, none⟩) (Array.getElem?_eq_some_iff.1 hAl2).1).trans (cell_blk (k := 0) hAl2)
        have d1 : Wy.cell? ⟨bx, 0, none⟩ = some (.int .i64 (bitsN xs)) := cell_blk (k := 0) hX2
        have d2 : Wy.cell? ⟨bx, 1, none⟩ = some (.int .i64 r.size) := cell_blk (k := 1) hX2
        have d3 : Wy.cell? ⟨bx, 2, none⟩ = some (.int .i64 (-1)) := cell_blk (k := 2) hX2
        have d4 : Wy.cell? ⟨w.heap.size, 0, none⟩ = some (.int .i64 r.last) := (hBc.cell (p := ⟨w.heap.size, 0, none⟩) (cell_lt hc0)).trans hc0
        have HBc := Lib.hid hBc
        have l1 := cell_lt d0
        have l2 := cell_lt d1
        have l3 := cell_lt d4
        clear hBc hX2 hAl2 hBW hc0 hc5 hxz
        go_wp2_with fail
        refine (verdict113_c r A n9 p m v (goodsL r) (goodsL_6 r) (goodsL_64 r) (fun g => decide (r.last < lackI r g (bitsN xs) r.size (-1))) bw bx w.heap.size _ (hWB.below HBc.out) (fun g hg W hbW => lasts1_c r A HOK.out n9 p m v (goodsL r) g (goodsL_6 r g hg) (bitsN xs) HB64.out r.size (-1) HOK.out.sz.1 HOK.out.sz.2 bw bx w.heap.size W ((hWB.below HBc.out).below hbW) (hr.below ((hBx.trans (HBc.out.mono hBx.size)).trans (hbW.mono (by have := hBx.size; have := HBc.out.size; omega)))) ((hbW.cell (p := ⟨bw, 0, none⟩) l1).trans d0) ((hbW.cell (p := ⟨bx, 0, none⟩) l2).trans d1) ((hbW.cell (p := ⟨bx, 1, none⟩) l2).trans d2) ((hbW.cell (p := ⟨bx, 2, none⟩) l2).trans d3) ((hbW.cell (p := ⟨w.heap.size, 0, none⟩) l3).trans d4))).mono ?_
        rintro e w9 ⟨rfl, hb9⟩
        rw [← HV.out]
        go_wp2_with fail
        refine bodyPost_ret (v := .tuple #[.int .i64 V, .int .i64 0]) (by simp [results, Try.results67, go_sem]) rfl ⟨rfl, (hBx.trans (HBc.out.mono hBx.size)).trans (hb9.mono (by have := hBx.size; have := HBc.out.size; omega))⟩
      · skip
        (refine ord_op rfl ?_ (fun K hK => ?_); rfl; go_simp; obtain ⟨bx, hbx⟩ : ∃ n, n = (W0).heap.size := ⟨_, rfl⟩; obtain ⟨W4, hW4⟩ : ∃ Q, Q = (W0).alloc (.cells #[.int .i64 0, .int .i64 0, .int .i64 0] 126) := ⟨_, rfl⟩; have hX : W4.heap[bx]? = some (.cells #[.int .i64 0, .int .i64 0, .int .i64 0] 126 (0, 0)) := (by rw [hW4, hbx]; exact heap_alloc_new _ _); have hxz : Wx.heap.size ≤ bx := (by rw [hbx]; exact hBc.size); replace hBc : Below Wx.heap.size Wx W4 := (by rw [hW4]; exact hBc.alloc hBc.size _); have hxf := fun j => frozen_blk (k := j) hX; have hx0 := cell_blk (k := 0) hX; have hx1 := cell_blk (k := 1) hX; have hx2 := cell_blk (k := 2) hX; have hS4 : W4.cell? ⟨w.heap.size, 5, none⟩ = some (.int .i64 r.size) := (hBc.cell (p := ⟨w.heap.size, 5, none⟩) (cell_lt hc5)).trans hc5; rw [← hW4, ← hbx]; clear hW4 hbx; refine hK _ _ hS4 ?_; clear hK K; try simp only [pz])
        (refine ord_op rfl ?_ (fun K hK => ?_); rfl; go_simp; refine (bits_c a xs c _ (hs.below (hBx.trans (hBc.mono hBx.size))) hlen hxs.out).mono ?_; rintro e w1 ⟨rfl, hb64, rfl⟩; obtain ⟨W5, hWj⟩ : ∃ Q, Q = W4 := ⟨_, rfl⟩; subst hWj; have HB64 := Lib.hid hb64; have hS5 := hS4; refine hK _ _ hS5 ?_; clear hK K; try simp only [pz])
        repeat (first
          | (refine ord_skip rfl ?_ ?_; rfl; simp only [pz])
          | (refine ord_take (v := ?_) rfl ?_ (fun W hW => ?_) ?_; rotate_left; rfl; (obtain hz0 := hW; go_simp; (first | done | with_reducible rfl)); simp only [pz]))
        (refine ord_op rfl ?_ (fun K hK => ?_); rfl; go_simp; obtain ⟨W6, hW6⟩ : ∃ Q, Q = (((W5).setCell ⟨bx, 0, none⟩ (.int .i64 (bitsN xs))).setCell ⟨bx, 1, none⟩ (.int .i64 r.size)).setCell ⟨bx, 2, none⟩ (.int .i64 (-1)) := ⟨_, rfl⟩; have hX2 : W6.heap[bx]? = some (.cells #[.int .i64 (bitsN xs), .int .i64 r.size, .int .i64 (-1)] 126 (0, 0)) := (by rw [hW6, heap_set (heap_set (heap_set hX _) _) _]; rfl); replace hBc : Below Wx.heap.size Wx W6 := (by rw [hW6]; exact ((hBc.setCell (p := ⟨bx, 0, none⟩) hxz _).setCell (p := ⟨bx, 1, none⟩) hxz _).setCell (p := ⟨bx, 2, none⟩) hxz _); have hS6 : W6.cell? ⟨w.heap.size, 5, none⟩ = some (.int .i64 r.size) := (hBc.cell (p := ⟨w.heap.size, 5, none⟩) (cell_lt hc5)).trans hc5; rw [← hW6]; clear hW6 hX hx0 hx1 hx2 hxf; refine hK _ _ hS6 ?_; clear hK K; try simp only [pz])
        refine ord_nil ?_
        obtain ⟨Wy, hWy⟩ : ∃ Q, Q = W6 := ⟨_, rfl⟩
        subst hWy
        have d0 : Wy.cell? ⟨bw, 0, none⟩ = some (.pointer (some ⟨p, 0, none⟩)) := (hBc.cell (p := ⟨bw, 0, none⟩) (Array.getElem?_eq_some_iff.1 hAl2).1).trans (cell_blk (k := 0) hAl2)
        have d1 : Wy.cell? ⟨bx, 0, none⟩ = some (.int .i64 (bitsN xs)) := cell_blk (k := 0) hX2
        have d2 : Wy.cell? ⟨bx, 1, none⟩ = some (.int .i64 r.size) := cell_blk (k := 1) hX2
        have d3 : Wy.cell? ⟨bx, 2, none⟩ = some (.int .i64 (-1)) := cell_blk (k := 2) hX2
        have d4 : Wy.cell? ⟨w.heap.size, 0, none⟩ = some (.int .i64 r.last) := (hBc.cell (p := ⟨w.heap.size, 0, none⟩) (cell_lt hc0)).trans hc0
        have HBc := Lib.hid hBc
        have l1 := cell_lt d0
        have l2 := cell_lt d1
        have l3 := cell_lt d4
        clear hBc hX2 hAl2 hBW hc0 hc5 hxz
        go_wp2_with fail
        refine (verdict113_c r A n9 p m v (goodsL r) (goodsL_6 r) (goodsL_64 r) (fun g => decide (r.last < lackI r g (bitsN xs) r.size (-1))) bw bx w.heap.size _ (hWB.below HBc.out) (fun g hg W hbW => lasts1_c r A HOK.out n9 p m v (goodsL r) g (goodsL_6 r g hg) (bitsN xs) HB64.out r.size (-1) HOK.out.sz.1 HOK.out.sz.2 bw bx w.heap.size W ((hWB.below HBc.out).below hbW) (hr.below ((hBx.trans (HBc.out.mono hBx.size)).trans (hbW.mono (by have := hBx.size; have := HBc.out.size; omega)))) ((hbW.cell (p := ⟨bw, 0, none⟩) l1).trans d0) ((hbW.cell (p := ⟨bx, 0, none⟩) l2).trans d1) ((hbW.cell (p := ⟨bx, 1, none⟩) l2).trans d2) ((hbW.cell (p := ⟨bx, 2, none⟩) l2).trans d3) ((hbW.cell (p := ⟨w.heap.size, 0, none⟩) l3).trans d4))).mono ?_
        rintro e w9 ⟨rfl, hb9⟩
        rw [← HV.out]
        go_wp2_with fail
        refine bodyPost_ret (v := .tuple #[.int .i64 V, .int .i64 0]) (by simp [results, Try.results67, go_sem]) rfl ⟨rfl, (hBx.trans (HBc.out.mono hBx.size)).trans (hb9.mono (by have := hBx.size; have := HBc.out.size; omega))⟩
  · skip
    (refine ord_op rfl ?_ (fun K hK => ?_); rfl; go_simp; obtain ⟨bw, hbw⟩ : ∃ n, n = (W0).heap.size := ⟨_, rfl⟩; obtain ⟨W8, hW8⟩ : ∃ Q, Q = (W0).alloc (.cells #[.pointer none] 105) := ⟨_, rfl⟩; have hS8 : OldC wq.heap.size wq W8 := (by rw [hW8]; exact oldA hS0 _); have hAl : W8.heap[bw]? = some (.cells #[.pointer none] 105 (0, 0)) := (by rw [hW8, hbw]; exact heap_alloc_new _ _); have hc9 := cell_blk (k := 0) hAl; have hf9 := frozen_blk (k := 0) hAl; have hbq9 : wq.heap.size ≤ bw := (by rw [hbw]; exact (hS0).sz); (try (have hbn : p ≠ bw ∧ ∀ k, v.ownBlock = some k → k ≠ bw := ⟨fun e => (by have h1 := (Array.getElem?_eq_some_iff.1 hWB.blk).1; omega), fun k hk e => (by have h1 := (hWB.own.lt k hk).2; omega)⟩)); (try (replace hWB := hWB.below (W' := W8) (by rw [hW8]; exact (Below.refl _ _).alloc (Nat.le_refl _) _))); rw [← hW8, ← hbw]; clear hbw hW8; refine hK _ _ hS8 ?_; clear hK K; try simp only [pz])
    (refine ord_op rfl ?_ (fun K hK => ?_); rfl; go_simp; refine (isPlan_c r A a xs c _ (hs.below (hbq.trans ((hS8).be.mono hbq.size))) hlen).mono ?_; rintro e W9 ⟨rfl, hb9⟩; (try (replace hAl := (hb9.block _ (Array.getElem?_eq_some_iff.1 hAl).1).trans hAl)); (try (replace hc9 := (cell_blk (k := 0) hAl))); (try (replace hf9 := (frozen_blk (k := 0) hAl))); have hS9 := oldK hS8 hb9; refine hK _ _ hS9 ?_; clear hK K; try simp only [pz])
    (refine ord_op rfl ?_ (fun K hK => ?_); rfl; go_simp; obtain ⟨n9, hn9⟩ : ∃ n, n = (W9).heap.size := ⟨_, rfl⟩; have HN9 := Lib.hid hn9; refine (asked_ok r A _ _ (hr.below (hbq.trans ((hS9).be.mono hbq.size))) hl1 hl2 hl3 hl4 HN.out).mono ?_; rintro e W10 ⟨p, v, m, rfl, hWB, hmp, hb10⟩; rw [← hn9] at hWB; clear hn9 hmp; (try (have hbn : p ≠ bw ∧ ∀ k, v.ownBlock = some k → k ≠ bw := ⟨fun e => (by have h1 := hWB.hp; have h2 := (Array.getElem?_eq_some_iff.1 hAl).1; have h3 := HN9.out; omega), fun k hk e => (by have h1 := (hWB.own.lt k hk).1; have h2 := (Array.getElem?_eq_some_iff.1 hAl).1; have h3 := HN9.out; omega)⟩)); (try (replace hAl := (hb10.block _ (Array.getElem?_eq_some_iff.1 hAl).1).trans hAl)); (try (replace hc9 := (cell_blk (k := 0) hAl))); (try (replace hf9 := (frozen_blk (k := 0) hAl))); have hS10 := oldK hS9 hb10; refine hK _ _ hS10 ?_; clear hK K; try simp only [pz])
    repeat (first
      | (refine ord_skip rfl ?_ ?_; rfl; simp only [pz])
      | (refine ord_take (v := ?_) rfl ?_ (fun W hW => ?_) ?_; rotate_left; rfl; (obtain ⟨hz, hcc, hbb⟩ := hW; go_simp; (first | done | with_reducible rfl)); simp only [pz]))
    (refine ord_op rfl ?_ (fun K hK => ?_); rfl; go_simp; refine hK _ _ (oldSt hS10 (p := ⟨bw, 0, none⟩) hbq9 _) ?_; have hS11 := oldSt hS10 (p := ⟨bw, 0, none⟩) hbq9 (.pointer (some ⟨p, 0, none⟩)); have hst9 := Wr.setCell (fun k => k = bw) (W10) ⟨bw, 0, none⟩ (.pointer (some ⟨p, 0, none⟩)) rfl; replace hWB := hWB.wr hst9 hbn.1 hbn.2; have hAl2 := heap_set hAl (k := 0) (.pointer (some ⟨p, 0, none⟩)); clear hc9 hf9 hAl hst9; obtain ⟨W11, hW11⟩ : ∃ Q, Q = (W10).setCell ⟨bw, 0, none⟩ (.pointer (some ⟨p, 0, none⟩)) := ⟨_, rfl⟩; rw [← hW11] at hS11 hWB hAl2 ⊢; clear hW11; clear hK K; try simp only [pz])
    repeat (first
      | (refine ord_skip rfl ?_ ?_; rfl; simp only [pz])
      | (refine ord_take (v := ?_) rfl ?_ (fun W hW => ?_) ?_; rotate_left; rfl; (obtain ⟨hz, hcc, hbb⟩ := hW; go_simp; (first | done | with_reducible rfl)); simp only [pz]))
    refine ord_nil ?_
    clear hbn
    have HSx := Lib.hid hS11
    obtain ⟨Wx, hWx⟩ : ∃ Q, Q = W11 := ⟨_, rfl⟩
    subst hWx
    have hBx := hbq.trans (hS11.be.mono hbq.size)
    have hc5 := (hS11.ce _ 5 hlt0).trans k5
    have hc0 := (hS11.ce _ 0 hlt0).trans k0
    have HN9z := Lib.hid (Nat.le_refl 0)
    clear k0 k1 k2 k3 k4 k5 k6 k7 k8 k9
    go_wp2_with fail
    refine region_o (S := fun W => W.cell? ⟨w.heap.size, 5, none⟩ = some (.int .i64 r.size)) (.take 0 (.take 2 (.take 3 (.two 1 5 (.take 4 (.one 5 (.one 6 .nil))) (.one 1 (.take 4 (.one 6 .nil))))))) (by kernel_rfl) (by kernel_rfl) (fun _ _ d _ _ h => by cases d <;> exact h) (by simpa using hc5) ?_
    intro W0 hW0 hS0
    have hBW : Below Wx.heap.size Wx W0 := by subst hW0; exact (Below.refl _ _).drew
    clear hW0
    have hBc := hBW
    repeat (first
      | (refine ord_skip rfl ?_ ?_; rfl; simp only [pz])
      | (refine ord_take (v := ?_) rfl ?_ (fun W hW => ?_) ?_; rotate_left; rfl; (obtain hz0 := hW; go_simp; (first | done | with_reducible rfl)); simp only [pz]))
    refine ord_two ?_ ?_
    · skip
      (refine ord_op rfl ?_ (fun K hK => ?_); rfl; go_simp; refine (bits_c a xs c _ (hs.below (hBx.trans (hBc.mono hBx.size))) hlen hxs.out).mono ?_; rintro e w1 ⟨rfl, hb64, rfl⟩; obtain ⟨W1, hWj⟩ : ∃ Q, Q = W0 := ⟨_, rfl⟩; subst hWj; have HB64 := Lib.hid hb64; have hS1 := hS0; refine hK _ _ hS1 ?_; clear hK K; try simp only [pz])
      repeat (first
        | (refine ord_skip rfl ?_ ?_; rfl; simp only [pz])
        | (refine ord_take (v := ?_) rfl ?_ (fun W hW => ?_) ?_; rotate_left; rfl; (obtain hz0 := hW; go_simp; (first | done | with_reducible rfl)); simp only [pz]))
      (refine ord_op rfl ?_ (fun K hK => ?_); rfl; go_simp; obtain ⟨bx, hbx⟩ : ∃ n, n = (W1).heap.size := ⟨_, rfl⟩; obtain ⟨W2, hW2⟩ : ∃ Q, Q = (W1).alloc (.cells #[.int .i64 0, .int .i64 0, .int .i64 0] 126) := ⟨_, rfl⟩; have hX : W2.heap[bx]? = some (.cells #[.int .i64 0, .int .i64 0, .int .i64 0] 126 (0, 0)) := (by rw [hW2, hbx]; exact heap_alloc_new _ _); have hxz : Wx.heap.size ≤ bx := (by rw [hbx]; exact hBc.size); replace hBc : Below Wx.heap.size Wx W2 := (by rw [hW2]; exact hBc.alloc hBc.size _); have hxf := fun j => frozen_blk (k := j) hX; have hx0 := cell_blk (k := 0) hX; have hx1 := cell_blk (k := 1) hX; have hx2 := cell_blk (k := 2) hX; have hS2 : W2.cell? ⟨w.heap.size, 5, none⟩ = some (.int .i64 r.size) := (hBc.cell (p := ⟨w.heap.size, 5, none⟩) (cell_lt hc5)).trans hc5; rw [← hW2, ← hbx]; clear hW2 hbx; refine hK _ _ hS2 ?_; clear hK K; try simp only [pz])
      (refine ord_op rfl ?_ (fun K hK => ?_); rfl; go_simp; obtain ⟨W3, hW3⟩ : ∃ Q, Q = (((W2).setCell ⟨bx, 0, none⟩ (.int .i64 (bitsN xs))).setCell ⟨bx, 1, none⟩ (.int .i64 r.size)).setCell ⟨bx, 2, none⟩ (.int .i64 (-1)) := ⟨_, rfl⟩; have hX2 : W3.heap[bx]? = some (.cells #[.int .i64 (bitsN xs), .int .i64 r.size, .int .i64 (-1)] 126 (0, 0)) := (by rw [hW3, heap_set (heap_set (heap_set hX _) _) _]; rfl); replace hBc : Below Wx.heap.size Wx W3 := (by rw [hW3]; exact ((hBc.setCell (p := ⟨bx, 0, none⟩) hxz _).setCell (p := ⟨bx, 1, none⟩) hxz _).setCell (p := ⟨bx, 2, none⟩) hxz _); have hS3 : W3.cell? ⟨w.heap.size, 5, none⟩ = some (.int .i64 r.size) := (hBc.cell (p := ⟨w.heap.size, 5, none⟩) (cell_lt hc5)).trans hc5; rw [← hW3]; clear hW3 hX hx0 hx1 hx2 hxf; refine hK _ _ hS3 ?_; clear hK K; try simp only [pz])
      refine ord_nil ?_
      obtain ⟨Wy, hWy⟩ : ∃ Q, Q = W3 := ⟨_, rfl⟩
      subst hWy
      have d0 : Wy.cell? ⟨bw, 0, none⟩ = some (.pointer (some ⟨p, 0, none⟩)) := (hBc.cell (p := ⟨bw, 0, none⟩) (Array.getElem?_eq_some_iff.1 hAl2).1).trans (cell_blk (k := 0) hAl2)
      have d1 : Wy.cell? ⟨bx, 0, none⟩ = some (.int .i64 (bitsN xs)) := cell_blk (k := 0) hX2
      have d2 : Wy.cell? ⟨bx, 1, none⟩ = some (.int .i64 r.size) := cell_blk (k := 1) hX2
      have d3 : Wy.cell? ⟨bx, 2, none⟩ = some (.int .i64 (-1)) := cell_blk (k := 2) hX2
      have d4 : Wy.cell? ⟨w.heap.size, 0, none⟩ = some (.int .i64 r.last) := (hBc.cell (p := ⟨w.heap.size, 0, none⟩) (cell_lt hc0)).trans hc0
      have HBc := Lib.hid hBc
      have l1 := cell_lt d0
      have l2 := cell_lt d1
      have l3 := cell_lt d4
      clear hBc hX2 hAl2 hBW hc0 hc5 hxz
      go_wp2_with fail
      refine (verdict113_c r A n9 p m v (goodsL r) (goodsL_6 r) (goodsL_64 r) (fun g => decide (r.last < lackI r g (bitsN xs) r.size (-1))) bw bx w.heap.size _ (hWB.below HBc.out) (fun g hg W hbW => lasts1_c r A HOK.out n9 p m v (goodsL r) g (goodsL_6 r g hg) (bitsN xs) HB64.out r.size (-1) HOK.out.sz.1 HOK.out.sz.2 bw bx w.heap.size W ((hWB.below HBc.out).below hbW) (hr.below ((hBx.trans (HBc.out.mono hBx.size)).trans (hbW.mono (by have := hBx.size; have := HBc.out.size; omega)))) ((hbW.cell (p := ⟨bw, 0, none⟩) l1).trans d0) ((hbW.cell (p := ⟨bx, 0, none⟩) l2).trans d1) ((hbW.cell (p := ⟨bx, 1, none⟩) l2).trans d2) ((hbW.cell (p := ⟨bx, 2, none⟩) l2).trans d3) ((hbW.cell (p := ⟨w.heap.size, 0, none⟩) l3).trans d4))).mono ?_
      rintro e w9 ⟨rfl, hb9⟩
      rw [← HV.out]
      go_wp2_with fail
      refine bodyPost_ret (v := .tuple #[.int .i64 V, .int .i64 0]) (by simp [results, Try.results67, go_sem]) rfl ⟨rfl, (hBx.trans (HBc.out.mono hBx.size)).trans (hb9.mono (by have := hBx.size; have := HBc.out.size; omega))⟩
    · skip
      (refine ord_op rfl ?_ (fun K hK => ?_); rfl; go_simp; obtain ⟨bx, hbx⟩ : ∃ n, n = (W0).heap.size := ⟨_, rfl⟩; obtain ⟨W4, hW4⟩ : ∃ Q, Q = (W0).alloc (.cells #[.int .i64 0, .int .i64 0, .int .i64 0] 126) := ⟨_, rfl⟩; have hX : W4.heap[bx]? = some (.cells #[.int .i64 0, .int .i64 0, .int .i64 0] 126 (0, 0)) := (by rw [hW4, hbx]; exact heap_alloc_new _ _); have hxz : Wx.heap.size ≤ bx := (by rw [hbx]; exact hBc.size); replace hBc : Below Wx.heap.size Wx W4 := (by rw [hW4]; exact hBc.alloc hBc.size _); have hxf := fun j => frozen_blk (k := j) hX; have hx0 := cell_blk (k := 0) hX; have hx1 := cell_blk (k := 1) hX; have hx2 := cell_blk (k := 2) hX; have hS4 : W4.cell? ⟨w.heap.size, 5, none⟩ = some (.int .i64 r.size) := (hBc.cell (p := ⟨w.heap.size, 5, none⟩) (cell_lt hc5)).trans hc5; rw [← hW4, ← hbx]; clear hW4 hbx; refine hK _ _ hS4 ?_; clear hK K; try simp only [pz])
      (refine ord_op rfl ?_ (fun K hK => ?_); rfl; go_simp; refine (bits_c a xs c _ (hs.below (hBx.trans (hBc.mono hBx.size))) hlen hxs.out).mono ?_; rintro e w1 ⟨rfl, hb64, rfl⟩; obtain ⟨W5, hWj⟩ : ∃ Q, Q = W4 := ⟨_, rfl⟩; subst hWj; have HB64 := Lib.hid hb64; have hS5 := hS4; refine hK _ _ hS5 ?_; clear hK K; try simp only [pz])
      repeat (first
        | (refine ord_skip rfl ?_ ?_; rfl; simp only [pz])
        | (refine ord_take (v := ?_) rfl ?_ (fun W hW => ?_) ?_; rotate_left; rfl; (obtain hz0 := hW; go_simp; (first | done | with_reducible rfl)); simp only [pz]))
      (refine ord_op rfl ?_ (fun K hK => ?_); rfl; go_simp; obtain ⟨W6, hW6⟩ : ∃ Q, Q = (((W5).setCell ⟨bx, 0, none⟩ (.int .i64 (bitsN xs))).setCell ⟨bx, 1, none⟩ (.int .i64 r.size)).setCell ⟨bx, 2, none⟩ (.int .i64 (-1)) := ⟨_, rfl⟩; have hX2 : W6.heap[bx]? = some (.cells #[.int .i64 (bitsN xs), .int .i64 r.size, .int .i64 (-1)] 126 (0, 0)) := (by rw [hW6, heap_set (heap_set (heap_set hX _) _) _]; rfl); replace hBc : Below Wx.heap.size Wx W6 := (by rw [hW6]; exact ((hBc.setCell (p := ⟨bx, 0, none⟩) hxz _).setCell (p := ⟨bx, 1, none⟩) hxz _).setCell (p := ⟨bx, 2, none⟩) hxz _); have hS6 : W6.cell? ⟨w.heap.size, 5, none⟩ = some (.int .i64 r.size) := (hBc.cell (p := ⟨w.heap.size, 5, none⟩) (cell_lt hc5)).trans hc5; rw [← hW6]; clear hW6 hX hx0 hx1 hx2 hxf; refine hK _ _ hS6 ?_; clear hK K; try simp only [pz])
      refine ord_nil ?_
      obtain ⟨Wy, hWy⟩ : ∃ Q, Q = W6 := ⟨_, rfl⟩
      subst hWy
      have d0 : Wy.cell? ⟨bw, 0, none⟩ = some (.pointer (some ⟨p, 0, none⟩)) := (hBc.cell (p := ⟨bw, 0, none⟩) (Array.getElem?_eq_some_iff.1 hAl2).1).trans (cell_blk (k := 0) hAl2)
      have d1 : Wy.cell? ⟨bx, 0, none⟩ = some (.int .i64 (bitsN xs)) := cell_blk (k := 0) hX2
      have d2 : Wy.cell? ⟨bx, 1, none⟩ = some (.int .i64 r.size) := cell_blk (k := 1) hX2
      have d3 : Wy.cell? ⟨bx, 2, none⟩ = some (.int .i64 (-1)) := cell_blk (k := 2) hX2
      have d4 : Wy.cell? ⟨w.heap.size, 0, none⟩ = some (.int .i64 r.last) := (hBc.cell (p := ⟨w.heap.size, 0, none⟩) (cell_lt hc0)).trans hc0
      have HBc := Lib.hid hBc
      have l1 := cell_lt d0
      have l2 := cell_lt d1
      have l3 := cell_lt d4
      clear hBc hX2 hAl2 hBW hc0 hc5 hxz
      go_wp2_with fail
      refine (verdict113_c r A n9 p m v (goodsL r) (goodsL_6 r) (goodsL_64 r) (fun g => decide (r.last < lackI r g (bitsN xs) r.size (-1))) bw bx w.heap.size _ (hWB.below HBc.out) (fun g hg W hbW => lasts1_c r A HOK.out n9 p m v (goodsL r) g (goodsL_6 r g hg) (bitsN xs) HB64.out r.size (-1) HOK.out.sz.1 HOK.out.sz.2 bw bx w.heap.size W ((hWB.below HBc.out).below hbW) (hr.below ((hBx.trans (HBc.out.mono hBx.size)).trans (hbW.mono (by have := hBx.size; have := HBc.out.size; omega)))) ((hbW.cell (p := ⟨bw, 0, none⟩) l1).trans d0) ((hbW.cell (p := ⟨bx, 0, none⟩) l2).trans d1) ((hbW.cell (p := ⟨bx, 1, none⟩) l2).trans d2) ((hbW.cell (p := ⟨bx, 2, none⟩) l2).trans d3) ((hbW.cell (p := ⟨w.heap.size, 0, none⟩) l3).trans d4))).mono ?_
      rintro e w9 ⟨rfl, hb9⟩
      rw [← HV.out]
      go_wp2_with fail
      refine bodyPost_ret (v := .tuple #[.int .i64 V, .int .i64 0]) (by simp [results, Try.results67, go_sem]) rfl ⟨rfl, (hBx.trans (HBc.out.mono hBx.size)).trans (hb9.mono (by have := hBx.size; have := HBc.out.size; omega))⟩


theorem Lasts_c (r : Riv) (A : RA) (a : Option Addr) (xs : List Int) (c : Nat) (w : World) (hr : Rd w r A) (hl1 : r.salt.length ≤ 30) (hl2 : r.mud.length ≤ 30) (hl3 : r.use.length ≤ 30) (hl4 : r.gauges.length ≤ 30)
    (hs : Sl w a (ints xs)) (hlen : xs.length ≤ 1000) :
    Calls Try.prog 67 #[rivV r A, .slice a xs.length c] w (RetNE (lastsA r xs) w) := by
  unfold lastsA
  by_cases h : askE r (isPlanB r.last xs) = 0
  · rw [if_pos h]; exact Lasts_ok r A a xs c w hr hl1 hl2 hl3 hl4 hs hlen h
  · rw [if_neg h]; exact Lasts_err r A a xs c w hr hl1 hl2 hl3 hl4 hs hlen h
end Go.Proofs.Ytgglfngkomgadaa
