/- Walks of the laws: RiverRead. -/
import Derived.Test.YtgglfngkomgadaaL0
import Derived.Test.YtgglfngkomgadaaM8
import Derived.Test.YtgglfngkomgadaaH8
namespace Go.Proofs.Ytgglfngkomgadaa
open Go.RowKit Go.Shelf
set_option linter.unusedVariables false
set_option linter.unusedSimpArgs false
set_option maxRecDepth 100000

theorem box_blk {W : World} {q : Nat} {r : Riv} {A : RA} (h : W.heap[q]? = some (.cells #[.int .i64 r.last, .slice A.sa r.salt.length A.sc, .slice A.ma r.mud.length A.mc, .int .i64 r.sweet, .int .i64 r.clear, .int .i64 r.size, .int .i64 r.start, .int .i64 r.draw, .slice A.ua r.use.length A.uc, .slice A.ga r.gauges.length A.gc] 26 (0, 0))) : BoxR q r A W :=
  ⟨by rw [cell_blk h]; rfl, by rw [cell_blk h]; rfl, by rw [cell_blk h]; rfl, by rw [cell_blk h]; rfl, by rw [cell_blk h]; rfl, by rw [cell_blk h]; rfl, by rw [cell_blk h]; rfl, by rw [cell_blk h]; rfl, by rw [cell_blk h]; rfl, by rw [cell_blk h]; rfl⟩
theorem heap_other {W : World} {p : Addr} {v : Value} {b : Nat} {o : Obj} (h : W.heap[b]? = some o) (hn : b ≠ p.block) : (W.setCell p v).heap[b]? = some o := (Below.heap_setCell _ _ _ _ hn).trans h

theorem day_mod {r : Riv} (ok : Ok r) (d : Nat) : ∃ D : Nat, (D : Int) ≤ r.last ∧ D ≤ 5 ∧ (d : Int) % (r.last + 1) = D ∧ (d : Int).tmod (r.last + 1) = D := by
  have h0 := ok.l0; have h5 := ok.l5
  have h1 := Int.emod_nonneg (d : Int) (show r.last + 1 ≠ 0 by omega)
  have h2 := Int.emod_lt_of_pos (d : Int) (show 0 < r.last + 1 by omega)
  refine ⟨((d : Int) % (r.last + 1)).toNat, by omega, by omega, by omega, ?_⟩
  rw [Int.tmod_eq_emod_of_nonneg (by omega)]
  omega
/-- What the region of the gauges reads. -/
structure AdS (q xb : Nat) (r : Riv) (A : RA) (g : Gg) (ga : Value) (W : World) : Prop where
  bx : BoxR q r A W
  g0 : W.cell? ⟨q + 1, 0, none⟩ = some (.int .i64 g.day)
  g1 : W.cell? ⟨q + 1, 1, none⟩ = some (.bool g.mud)
  g2 : W.cell? ⟨q + 1, 2, none⟩ = some (.int .i64 g.rd.lo)
  g3 : W.cell? ⟨q + 1, 3, none⟩ = some (.int .i64 g.rd.hi)
theorem AdS.wr {q xb : Nat} {r : Riv} {A : RA} {g : Gg} {ga : Value} {W W' : World} {C : Nat → Prop} (h : AdS q xb r A g ga W) (hw : Wr C W W') (h1 : ¬ C q) (h2 : ¬ C (q + 1)) : AdS q xb r A g ga W' :=
  ⟨h.bx.wr hw h1, hw.cell h2 h.g0, hw.cell h2 h.g1, hw.cell h2 h.g2, hw.cell h2 h.g3⟩
theorem AdS.below {q xb : Nat} {r : Riv} {A : RA} {g : Gg} {ga : Value} {W W' : World} (h : AdS q xb r A g ga W) (hb : Below W.heap.size W W') : AdS q xb r A g ga W' := h.wr (Wr.of_below (S := fun _ => False) hb) (fun e => e) (fun e => e)
theorem read_start (w : World) (r : Riv) (A : RA) (g : Gg) : ∃ wq, wq = ((w.alloc (rO26 r A)).alloc (.cells #[.int .i64 g.day, .bool g.mud, .int .i64 g.rd.lo, .int .i64 g.rd.hi] 99)).alloc (rO26 r A) ∧ Below w.heap.size w wq ∧ AdS w.heap.size (w.heap.size + 1 + 1) r A g (.bool true) wq ∧ wq.heap[w.heap.size + 1 + 1]? = some (.cells #[.int .i64 r.last, .slice A.sa r.salt.length A.sc, .slice A.ma r.mud.length A.mc, .int .i64 r.sweet, .int .i64 r.clear, .int .i64 r.size, .int .i64 r.start, .int .i64 r.draw, .slice A.ua r.use.length A.uc, .slice A.ga r.gauges.length A.gc] 26 (0, 0)) ∧ w.heap.size + 1 + 1 < wq.heap.size := by
  have hb1 : Below (w.alloc (rO26 r A)).heap.size (w.alloc (rO26 r A)) ((w.alloc (rO26 r A)).alloc (.cells #[.int .i64 g.day, .bool g.mud, .int .i64 g.rd.lo, .int .i64 g.rd.hi] 99)) := al_b _ _
  have hb2 : Below ((w.alloc (rO26 r A)).alloc (.cells #[.int .i64 g.day, .bool g.mud, .int .i64 g.rd.lo, .int .i64 g.rd.hi] 99)).heap.size ((w.alloc (rO26 r A)).alloc (.cells #[.int .i64 g.day, .bool g.mud, .int .i64 g.rd.lo, .int .i64 g.rd.hi] 99)) (((w.alloc (rO26 r A)).alloc (.cells #[.int .i64 g.day, .bool g.mud, .int .i64 g.rd.lo, .int .i64 g.rd.hi] 99)).alloc (rO26 r A)) := al_b _ _
  have hg := heap_alloc_new (w.alloc (rO26 r A)) (.cells #[.int .i64 g.day, .bool g.mud, .int .i64 g.rd.lo, .int .i64 g.rd.hi] 99)
  rw [World.size_alloc] at hg
  have hg2 := (hb2.block (w.heap.size + 1) (by simp)).trans hg
  have hx := heap_alloc_new ((w.alloc (rO26 r A)).alloc (.cells #[.int .i64 g.day, .bool g.mud, .int .i64 g.rd.lo, .int .i64 g.rd.hi] 99)) (rO26 r A)
  rw [World.size_alloc, World.size_alloc] at hx
  refine ⟨_, rfl, ((al_b w (rO26 r A)).trans (hb1.mono (by simp))).trans (hb2.mono (by simp; omega)), ⟨((box_new w r A).below hb1).below hb2, by rw [cell_blk hg2]; rfl, by rw [cell_blk hg2]; rfl, by rw [cell_blk hg2]; rfl, by rw [cell_blk hg2]; rfl⟩, hx, by simp⟩
theorem own_empty (w : World) : (w.alloc (.cells #[] 99)).ownsRow w.heap.size 99 4 (.slice (some ⟨w.heap.size, 0, none⟩) 0 0) 0 [] :=
  ⟨rfl, .inr ⟨w.heap.size, 0, #[], rfl, Nat.le_refl _, heap_alloc_new w _, Nat.le_refl _, Nat.zero_le _, rfl, rfl⟩⟩

theorem inside2_c (a a' : Option Addr) (xs ys : List Rg) (c c' n n' : Nat) (w : World) (hs : Sl w a (rgs xs)) (hs' : Sl w a' (rgs ys)) (hn : n = xs.length) (hn2 : n' = ys.length) (hnn : n = n') (hlen : n ≤ 1000) (h : ∀ (k : Nat) (x y : Rg), xs[k]? = some x → ys[k]? = some y → y.lo ≤ x.lo ∧ x.hi ≤ y.hi) :
    Calls Try.prog 73 #[.slice a n c, .slice a' n' c'] w (RetB true w) := by
  subst hn
  rw [← hnn]
  exact inside_c a a' xs ys c c' w hs hs' (hnn.trans hn2) hlen h
theorem tanks_len (r : Riv) (xs : List Int) : (tanksL r xs).length = r.use.length := by simp [tanksL]
theorem add_tanks_len (r : Riv) (g : Gg) (xs : List Int) : (tanksL (addR r g) xs).length = r.use.length := by simp [tanksL, addR]
theorem Leave_len {r : Riv} (h : r.faultI = 0) : (leaveRf r (allF r)).length ≤ 6 := lvFold_len r _ _

set_option maxHeartbeats 20000000 in
theorem law21_c (r : Riv) (A : RA) (g : Gg) (b d : Nat) (w : World) (hr : Rd w r A) (hgz : r.gauges.length * 32 ≤ 140737488351232) (hbb : b < 256) (hdd : d < 256) :
    Calls Try.prog 21 #[rivV r A, .agg (ggc g).toArray, .int .u8 b, .int .u8 d] w (RetB true w) := by
  obtain ⟨wq, hwq, hB0, hS0, hX1, hxl⟩ := read_start w r A g
  have HB := Lib.hid hB0
  have HX := Lib.hid hS0.bx
  have HS0 := Lib.hid hS0
  have HX1 := Lib.hid hX1
  have HR0 := Lib.hid hr
  have HRQ := Lib.hid (hr.below hB0)
  have HWQ := Lib.hid hwq
  have hq2 := hB0.size
  have hqs : w.heap.size + 1 + 1 < wq.heap.size := hxl
  show Calls Try.prog 21 #[rivV r A, .agg #[.int .i64 g.day, .bool g.mud, .int .i64 g.rd.lo, .int .i64 g.rd.hi], .int .u8 b, .int .u8 d] w (RetB true w)
  clear hB0 hS0 hX1 hwq hr
  go_enter Try.func21, Try.ntmps21
  go_upto_region 2 with fail
  rw [← HWQ.out]
  go_cut [] (fun wc => ∃ a8 c8, wc.heap[w.heap.size + 1 + 1]? = some (.cells #[.int .i64 r.last, .slice A.sa r.salt.length A.sc, .slice A.ma r.mud.length A.mc, .int .i64 r.sweet, .int .i64 r.clear, .int .i64 r.size, .int .i64 r.start, .int .i64 r.draw, .slice A.ua r.use.length A.uc, .slice a8 (r.gauges.length + 1) c8] 26 (0, 0)) ∧ Sl wc a8 (ggs (r.gauges ++ [g])) ∧ Wr (fun k => k = w.heap.size + 1 + 1) wq wc)
  case first =>
    refine region_o (S := AdS w.heap.size (w.heap.size + 1 + 1) r A g (.bool true)) (.take 1 (.take 2 (.take 4 (.two 0 5 (.two 3 5 (.one 5 (.one 6 (.take 7 (.one 8 .nil)))) (.one 3 (.one 6 (.take 7 (.one 8 .nil))))) (.one 0 (.one 3 (.one 6 (.take 7 (.one 8 .nil))))))))) (by kernel_rfl) (by kernel_rfl) (fun _ _ d _ _ h => by cases d <;> exact h) (HS0.out.below (Below.refl _ _).drew) ?_
    intro W0 hW0 hS0
    have hBW : Below wq.heap.size wq W0 := by subst hW0; exact (Below.refl _ _).drew
    clear hW0
    repeat (first
      | (refine ord_skip rfl ?_ ?_; rfl; simp only [List.getElem_toArray, List.getElem_cons_zero, List.getElem_cons_succ, Act.put, List.setIfInBounds_toArray, List.set_cons_zero, List.set_cons_succ])
      | (refine ord_take (v := ?_) rfl ?_ (fun W hW => ?_) ?_; rotate_left; rfl; (obtain ⟨⟨k0, k1, k2, k3, k4, k5, k6, k7, k8, k9⟩, g0, g1, g2, g3⟩ := hW; go_simp; (first | done | with_reducible rfl)); simp only [List.getElem_toArray, List.getElem_cons_zero, List.getElem_cons_succ, Act.put, List.setIfInBounds_toArray, List.set_cons_zero, List.set_cons_succ]))
    refine ord_two ?_ ?_
    · skip
      refine ord_op rfl ?_ (fun K hK => ?_)
      rfl
      go_simp
      obtain ⟨eb, heb⟩ : ∃ n, n = (W0).heap.size := ⟨_, rfl⟩
      obtain ⟨W1, hW1⟩ : ∃ Q, Q = (W0).alloc (.cells #[] 99) := ⟨_, rfl⟩
      have hb : Below (W0).heap.size (W0) W1 := by rw [hW1]; exact (Below.refl _ _).alloc (Nat.le_refl _) _
      have hel : eb < W1.heap.size := by rw [heb, hW1, World.size_alloc]; omega
      (try have hne : mb ≠ eb := by rw [heb]; exact Nat.ne_of_lt hml)
      (try replace hml := Nat.lt_of_lt_of_le hml hb.size)
      have HO1 := Lib.hid (own_mono (show W1.ownsRow (W0).heap.size 99 4 (.slice (some ⟨eb, 0, none⟩) 0 0) 0 [] from by rw [hW1, heb]; exact own_empty _) hBW.size)
      (try replace HM := Lib.hid (HM.out.below hb))
      replace hBW := hBW.trans (hb.mono hBW.size)
      have hS1 := AdS.below hS0 hb
      rw [← hW1, ← heb]
      clear hW1 hb heb
      refine hK _ _ hS1 ?_
      clear hK K
      try simp only [List.getElem_toArray, List.getElem_cons_zero, List.getElem_cons_succ, Act.put, List.setIfInBounds_toArray, List.set_cons_zero, List.set_cons_succ]
      refine ord_two ?_ ?_
      · skip
        refine ord_op rfl ?_ (fun K hK => ?_)
        rfl
        skip
        refine wp_app elGgR _ _ rfl rfl rfl HO1.out (HRQ.out.g.below hBW) (len_flat ggc 4 (fun _ => rfl) r.gauges) (ones_ggs r.gauges) (by omega) (by omega) (by have := hBW.size; omega) ?_
        intro v7 W2 hown7 hg7 hor7
        rw [Nat.zero_add, List.nil_append] at hown7
        have hlt7 : ∀ k, (Value.slice (some ⟨eb, 0, none⟩) 0 0).ownBlock = some k → wq.heap.size ≤ k := fun k e => (HO1.out.lt k e).1
        have hS2 := AdS.wr hS1 (wr_grown hg7) (fun e => by have := hlt7 _ e; omega) (fun e => by have := hlt7 _ e; omega)
        (try replace HM := Lib.hid (HM.out.wr (wr_grown hg7) (fun ad e k => by cases e; have k2 : some eb = some mb := k; injection k2 with k3; exact hne k3.symm)))
        have HO2 := Lib.hid hown7
        replace hBW := hBW.grown hg7 (by have := hBW.size; omega) hlt7
        clear hown7 hg7 hor7 hlt7
        refine hK _ _ hS2 ?_
        clear hK K
        try simp only [List.getElem_toArray, List.getElem_cons_zero, List.getElem_cons_succ, Act.put, List.setIfInBounds_toArray, List.set_cons_zero, List.set_cons_succ]
        refine ord_op rfl ?_ (fun K hK => ?_)
        rfl
        go_simp
        obtain ⟨mb, hmb⟩ : ∃ n, n = (W2).heap.size := ⟨_, rfl⟩
        obtain ⟨W3, hW3⟩ : ∃ Q, Q = (W2).alloc (.cells #[.int .i64 g.day, .bool g.mud, .int .i64 g.rd.lo, .int .i64 g.rd.hi] 99) := ⟨_, rfl⟩
        have hb : Below (W2).heap.size (W2) W3 := by rw [hW3]; exact (Below.refl _ _).alloc (Nat.le_refl _) _
        have hml : mb < W3.heap.size := by rw [hmb, hW3, World.size_alloc]; omega
        (try have hne : mb ≠ eb := by rw [hmb]; exact (Nat.ne_of_lt hel).symm)
        (try replace hel := Nat.lt_of_lt_of_le hel hb.size)
        have HM := Lib.hid (show Sl W3 (some ⟨mb, 0, none⟩) (ggc g) from by rw [hW3, hmb]; exact Sl_new _ _ _)
        (try replace HO1 := Lib.hid (own_below HO1.out hb))
        (try replace HO2 := Lib.hid (own_below HO2.out hb))
        replace hBW := hBW.trans (hb.mono hBW.size)
        have hS3 := AdS.below hS2 hb
        rw [← hW3, ← hmb]
        clear hW3 hb hmb
        refine hK _ _ hS3 ?_
        clear hK K
        try simp only [List.getElem_toArray, List.getElem_cons_zero, List.getElem_cons_succ, Act.put, List.setIfInBounds_toArray, List.set_cons_zero, List.set_cons_succ]
        refine ord_op rfl ?_ (fun K hK => ?_)
        rfl
        skip
        refine wp_app elGgR _ _ rfl rfl rfl HO2.out HM.out rfl (by intro u hu; simp [ggc] at hu; rcases hu with rfl | rfl | rfl | rfl <;> rfl) (by omega) (by omega) (by have := hBW.size; omega) ?_
        intro v8 W4 hown8 hg8 hor8
        have hlt8 : ∀ k, v7.ownBlock = some k → wq.heap.size ≤ k := fun k e => (HO2.out.lt k e).1
        have hS4 := AdS.wr hS3 (wr_grown hg8) (fun e => by have := hlt8 _ e; omega) (fun e => by have := hlt8 _ e; omega)
        replace hBW := hBW.grown hg8 (by have := hBW.size; omega) hlt8
        have hown9 : W4.ownsRow wq.heap.size 99 4 v8 (r.gauges.length + 1) (ggs (r.gauges ++ [g])) := by rw [ggs_append]; exact hown8
        have hlt9 := fun k e => (hown9.lt k e).1
        obtain ⟨a8, c8, rfl, hc8, hs8⟩ := own_Sl hown9
        have HS8 := Lib.hid hs8
        have HA8 := Lib.hid (show ∀ ad, a8 = some ad → ad.block ≠ w.heap.size + 1 + 1 from fun ad e => by subst e; have := hlt9 ad.block rfl; omega)
        clear hown8 hown9 hg8 hor8 hlt8 hlt9 hs8
        refine hK _ _ hS4 ?_
        clear hK K
        try simp only [List.getElem_toArray, List.getElem_cons_zero, List.getElem_cons_succ, Act.put, List.setIfInBounds_toArray, List.set_cons_zero, List.set_cons_succ]
        repeat (first
          | (refine ord_skip rfl ?_ ?_; rfl; simp only [List.getElem_toArray, List.getElem_cons_zero, List.getElem_cons_succ, Act.put, List.setIfInBounds_toArray, List.set_cons_zero, List.set_cons_succ])
          | (refine ord_take (v := ?_) rfl ?_ (fun W hW => ?_) ?_; rotate_left; rfl; (obtain ⟨⟨k0, k1, k2, k3, k4, k5, k6, k7, k8, k9⟩, g0, g1, g2, g3⟩ := hW; go_simp; (first | done | with_reducible rfl)); simp only [List.getElem_toArray, List.getElem_cons_zero, List.getElem_cons_succ, Act.put, List.setIfInBounds_toArray, List.set_cons_zero, List.set_cons_succ]))
        refine ord_op rfl ?_ (fun K hK => ?_)
        rfl
        skip
        have hX8 := (hBW.block _ hxl).trans HX1.out
        have oc := cell_blk (k := 9) hX8
        have of := frozen_blk (k := 9) hX8
        go_simp
        obtain ⟨ws, hws⟩ : ∃ Q, Q = (W4).setCell ⟨w.heap.size + 1 + 1, 9, none⟩ (.slice a8 (r.gauges.length + 1) c8) := ⟨_, rfl⟩
        have hX9 := heap_set hX8 (k := 9) (.slice a8 (r.gauges.length + 1) c8)
        rw [← hws] at hX9
        have hwt : Wr (fun k => k = w.heap.size + 1 + 1) (W4) ws := by rw [hws]; exact Wr.setCell (fun k => k = w.heap.size + 1 + 1) _ ⟨w.heap.size + 1 + 1, 9, none⟩ _ rfl
        have hS5 := AdS.wr hS4 hwt (fun e => by have : w.heap.size = w.heap.size + 1 + 1 := e; omega) (fun e => by have : w.heap.size + 1 = w.heap.size + 1 + 1 := e; omega)
        have HX9 := Lib.hid hX9
        have HS9 := Lib.hid (HS8.out.wr hwt (fun ad e k => HA8.out ad e k))
        have HW9 := Lib.hid ((Wr.of_below (S := fun k => k = w.heap.size + 1 + 1) hBW).trans hwt)
        rw [← hws]
        clear oc of hws hX8 hX9 hwt
        refine hK _ _ hS5 ?_
        clear hK K
        try simp only [List.getElem_toArray, List.getElem_cons_zero, List.getElem_cons_succ, Act.put, List.setIfInBounds_toArray, List.set_cons_zero, List.set_cons_succ]
        refine ord_nil ?_
        go_wp2_with fail
        go_meet
        case rel => exact ⟨a8, c8, HX9.out, HS9.out, HW9.out⟩
      · skip
        refine ord_op rfl ?_ (fun K hK => ?_)
        rfl
        go_simp
        obtain ⟨mb, hmb⟩ : ∃ n, n = (W1).heap.size := ⟨_, rfl⟩
        obtain ⟨W6, hW6⟩ : ∃ Q, Q = (W1).alloc (.cells #[.int .i64 g.day, .bool g.mud, .int .i64 g.rd.lo, .int .i64 g.rd.hi] 99) := ⟨_, rfl⟩
        have hb : Below (W1).heap.size (W1) W6 := by rw [hW6]; exact (Below.refl _ _).alloc (Nat.le_refl _) _
        have hml : mb < W6.heap.size := by rw [hmb, hW6, World.size_alloc]; omega
        (try have hne : mb ≠ eb := by rw [hmb]; exact (Nat.ne_of_lt hel).symm)
        (try replace hel := Nat.lt_of_lt_of_le hel hb.size)
        have HM := Lib.hid (show Sl W6 (some ⟨mb, 0, none⟩) (ggc g) from by rw [hW6, hmb]; exact Sl_new _ _ _)
        (try replace HO1 := Lib.hid (own_below HO1.out hb))
        (try replace HO2 := Lib.hid (own_below HO2.out hb))
        replace hBW := hBW.trans (hb.mono hBW.size)
        have hS6 := AdS.below hS1 hb
        rw [← hW6, ← hmb]
        clear hW6 hb hmb
        refine hK _ _ hS6 ?_
        clear hK K
        try simp only [List.getElem_toArray, List.getElem_cons_zero, List.getElem_cons_succ, Act.put, List.setIfInBounds_toArray, List.set_cons_zero, List.set_cons_succ]
        refine ord_op rfl ?_ (fun K hK => ?_)
        rfl
        skip
        refine wp_app elGgR _ _ rfl rfl rfl HO1.out (HRQ.out.g.below hBW) (len_flat ggc 4 (fun _ => rfl) r.gauges) (ones_ggs r.gauges) (by omega) (by omega) (by have := hBW.size; omega) ?_
        intro v7 W7 hown7 hg7 hor7
        rw [Nat.zero_add, List.nil_append] at hown7
        have hlt7 : ∀ k, (Value.slice (some ⟨eb, 0, none⟩) 0 0).ownBlock = some k → wq.heap.size ≤ k := fun k e => (HO1.out.lt k e).1
        have hS7 := AdS.wr hS6 (wr_grown hg7) (fun e => by have := hlt7 _ e; omega) (fun e => by have := hlt7 _ e; omega)
        (try replace HM := Lib.hid (HM.out.wr (wr_grown hg7) (fun ad e k => by cases e; have k2 : some eb = some mb := k; injection k2 with k3; exact hne k3.symm)))
        have HO2 := Lib.hid hown7
        replace hBW := hBW.grown hg7 (by have := hBW.size; omega) hlt7
        clear hown7 hg7 hor7 hlt7
        refine hK _ _ hS7 ?_
        clear hK K
        try simp only [List.getElem_toArray, List.getElem_cons_zero, List.getElem_cons_succ, Act.put, List.setIfInBounds_toArray, List.set_cons_zero, List.set_cons_succ]
        refine ord_op rfl ?_ (fun K hK => ?_)
        rfl
        skip
        refine wp_app elGgR _ _ rfl rfl rfl HO2.out HM.out rfl (by intro u hu; simp [ggc] at hu; rcases hu with rfl | rfl | rfl | rfl <;> rfl) (by omega) (by omega) (by have := hBW.size; omega) ?_
        intro v8 W8 hown8 hg8 hor8
        have hlt8 : ∀ k, v7.ownBlock = some k → wq.heap.size ≤ k := fun k e => (HO2.out.lt k e).1
        have hS8 := AdS.wr hS7 (wr_grown hg8) (fun e => by have := hlt8 _ e; omega) (fun e => by have := hlt8 _ e; omega)
        replace hBW := hBW.grown hg8 (by have := hBW.size; omega) hlt8
        have hown9 : W8.ownsRow wq.heap.size 99 4 v8 (r.gauges.length + 1) (ggs (r.gauges ++ [g])) := by rw [ggs_append]; exact hown8
        have hlt9 := fun k e => (hown9.lt k e).1
        obtain ⟨a8, c8, rfl, hc8, hs8⟩ := own_Sl hown9
        have HS8 := Lib.hid hs8
        have HA8 := Lib.hid (show ∀ ad, a8 = some ad → ad.block ≠ w.heap.size + 1 + 1 from fun ad e => by subst e; have := hlt9 ad.block rfl; omega)
        clear hown8 hown9 hg8 hor8 hlt8 hlt9 hs8
        refine hK _ _ hS8 ?_
        clear hK K
        try simp only [List.getElem_toArray, List.getElem_cons_zero, List.getElem_cons_succ, Act.put, List.setIfInBounds_toArray, List.set_cons_zero, List.set_cons_succ]
        repeat (first
          | (refine ord_skip rfl ?_ ?_; rfl; simp only [List.getElem_toArray, List.getElem_cons_zero, List.getElem_cons_succ, Act.put, List.setIfInBounds_toArray, List.set_cons_zero, List.set_cons_succ])
          | (refine ord_take (v := ?_) rfl ?_ (fun W hW => ?_) ?_; rotate_left; rfl; (obtain ⟨⟨k0, k1, k2, k3, k4, k5, k6, k7, k8, k9⟩, g0, g1, g2, g3⟩ := hW; go_simp; (first | done | with_reducible rfl)); simp only [List.getElem_toArray, List.getElem_cons_zero, List.getElem_cons_succ, Act.put, List.setIfInBounds_toArray, List.set_cons_zero, List.set_cons_succ]))
        refine ord_op rfl ?_ (fun K hK => ?_)
        rfl
        skip
        have hX8 := (hBW.block _ hxl).trans HX1.out
        have oc := cell_blk (k := 9) hX8
        have of := frozen_blk (k := 9) hX8
        go_simp
        obtain ⟨ws, hws⟩ : ∃ Q, Q = (W8).setCell ⟨w.heap.size + 1 + 1, 9, none⟩ (.slice a8 (r.gauges.length + 1) c8) := ⟨_, rfl⟩
        have hX9 := heap_set hX8 (k := 9) (.slice a8 (r.gauges.length + 1) c8)
        rw [← hws] at hX9
        have hwt : Wr (fun k => k = w.heap.size + 1 + 1) (W8) ws := by rw [hws]; exact Wr.setCell (fun k => k = w.heap.size + 1 + 1) _ ⟨w.heap.size + 1 + 1, 9, none⟩ _ rfl
        have hS9 := AdS.wr hS8 hwt (fun e => by have : w.heap.size = w.heap.size + 1 + 1 := e; omega) (fun e => by have : w.heap.size + 1 = w.heap.size + 1 + 1 := e; omega)
        have HX9 := Lib.hid hX9
        have HS9 := Lib.hid (HS8.out.wr hwt (fun ad e k => HA8.out ad e k))
        have HW9 := Lib.hid ((Wr.of_below (S := fun k => k = w.heap.size + 1 + 1) hBW).trans hwt)
        rw [← hws]
        clear oc of hws hX8 hX9 hwt
        refine hK _ _ hS9 ?_
        clear hK K
        try simp only [List.getElem_toArray, List.getElem_cons_zero, List.getElem_cons_succ, Act.put, List.setIfInBounds_toArray, List.set_cons_zero, List.set_cons_succ]
        refine ord_nil ?_
        go_wp2_with fail
        go_meet
        case rel => exact ⟨a8, c8, HX9.out, HS9.out, HW9.out⟩
    · skip
      refine ord_op rfl ?_ (fun K hK => ?_)
      rfl
      go_simp
      obtain ⟨mb, hmb⟩ : ∃ n, n = (W0).heap.size := ⟨_, rfl⟩
      obtain ⟨W10, hW10⟩ : ∃ Q, Q = (W0).alloc (.cells #[.int .i64 g.day, .bool g.mud, .int .i64 g.rd.lo, .int .i64 g.rd.hi] 99) := ⟨_, rfl⟩
      have hb : Below (W0).heap.size (W0) W10 := by rw [hW10]; exact (Below.refl _ _).alloc (Nat.le_refl _) _
      have hml : mb < W10.heap.size := by rw [hmb, hW10, World.size_alloc]; omega
      (try have hne : mb ≠ eb := by rw [hmb]; exact (Nat.ne_of_lt hel).symm)
      (try replace hel := Nat.lt_of_lt_of_le hel hb.size)
      have HM := Lib.hid (show Sl W10 (some ⟨mb, 0, none⟩) (ggc g) from by rw [hW10, hmb]; exact Sl_new _ _ _)
      (try replace HO1 := Lib.hid (own_below HO1.out hb))
      (try replace HO2 := Lib.hid (own_below HO2.out hb))
      replace hBW := hBW.trans (hb.mono hBW.size)
      have hS10 := AdS.below hS0 hb
      rw [← hW10, ← hmb]
      clear hW10 hb hmb
      refine hK _ _ hS10 ?_
      clear hK K
      try simp only [List.getElem_toArray, List.getElem_cons_zero, List.getElem_cons_succ, Act.put, List.setIfInBounds_toArray, List.set_cons_zero, List.set_cons_succ]
      refine ord_op rfl ?_ (fun K hK => ?_)
      rfl
      go_simp
      obtain ⟨eb, heb⟩ : ∃ n, n = (W10).heap.size := ⟨_, rfl⟩
      obtain ⟨W11, hW11⟩ : ∃ Q, Q = (W10).alloc (.cells #[] 99) := ⟨_, rfl⟩
      have hb : Below (W10).heap.size (W10) W11 := by rw [hW11]; exact (Below.refl _ _).alloc (Nat.le_refl _) _
      have hel : eb < W11.heap.size := by rw [heb, hW11, World.size_alloc]; omega
      (try have hne : mb ≠ eb := by rw [heb]; exact Nat.ne_of_lt hml)
      (try replace hml := Nat.lt_of_lt_of_le hml hb.size)
      have HO1 := Lib.hid (own_mono (show W11.ownsRow (W10).heap.size 99 4 (.slice (some ⟨eb, 0, none⟩) 0 0) 0 [] from by rw [hW11, heb]; exact own_empty _) hBW.size)
      (try replace HM := Lib.hid (HM.out.below hb))
      replace hBW := hBW.trans (hb.mono hBW.size)
      have hS11 := AdS.below hS10 hb
      rw [← hW11, ← heb]
      clear hW11 hb heb
      refine hK _ _ hS11 ?_
      clear hK K
      try simp only [List.getElem_toArray, List.getElem_cons_zero, List.getElem_cons_succ, Act.put, List.setIfInBounds_toArray, List.set_cons_zero, List.set_cons_succ]
      refine ord_op rfl ?_ (fun K hK => ?_)
      rfl
      skip
      refine wp_app elGgR _ _ rfl rfl rfl HO1.out (HRQ.out.g.below hBW) (len_flat ggc 4 (fun _ => rfl) r.gauges) (ones_ggs r.gauges) (by omega) (by omega) (by have := hBW.size; omega) ?_
      intro v7 W12 hown7 hg7 hor7
      rw [Nat.zero_add, List.nil_append] at hown7
      have hlt7 : ∀ k, (Value.slice (some ⟨eb, 0, none⟩) 0 0).ownBlock = some k → wq.heap.size ≤ k := fun k e => (HO1.out.lt k e).1
      have hS12 := AdS.wr hS11 (wr_grown hg7) (fun e => by have := hlt7 _ e; omega) (fun e => by have := hlt7 _ e; omega)
      (try replace HM := Lib.hid (HM.out.wr (wr_grown hg7) (fun ad e k => by cases e; have k2 : some eb = some mb := k; injection k2 with k3; exact hne k3.symm)))
      have HO2 := Lib.hid hown7
      replace hBW := hBW.grown hg7 (by have := hBW.size; omega) hlt7
      clear hown7 hg7 hor7 hlt7
      refine hK _ _ hS12 ?_
      clear hK K
      try simp only [List.getElem_toArray, List.getElem_cons_zero, List.getElem_cons_succ, Act.put, List.setIfInBounds_toArray, List.set_cons_zero, List.set_cons_succ]
      refine ord_op rfl ?_ (fun K hK => ?_)
      rfl
      skip
      refine wp_app elGgR _ _ rfl rfl rfl HO2.out HM.out rfl (by intro u hu; simp [ggc] at hu; rcases hu with rfl | rfl | rfl | rfl <;> rfl) (by omega) (by omega) (by have := hBW.size; omega) ?_
      intro v8 W13 hown8 hg8 hor8
      have hlt8 : ∀ k, v7.ownBlock = some k → wq.heap.size ≤ k := fun k e => (HO2.out.lt k e).1
      have hS13 := AdS.wr hS12 (wr_grown hg8) (fun e => by have := hlt8 _ e; omega) (fun e => by have := hlt8 _ e; omega)
      replace hBW := hBW.grown hg8 (by have := hBW.size; omega) hlt8
      have hown9 : W13.ownsRow wq.heap.size 99 4 v8 (r.gauges.length + 1) (ggs (r.gauges ++ [g])) := by rw [ggs_append]; exact hown8
      have hlt9 := fun k e => (hown9.lt k e).1
      obtain ⟨a8, c8, rfl, hc8, hs8⟩ := own_Sl hown9
      have HS8 := Lib.hid hs8
      have HA8 := Lib.hid (show ∀ ad, a8 = some ad → ad.block ≠ w.heap.size + 1 + 1 from fun ad e => by subst e; have := hlt9 ad.block rfl; omega)
      clear hown8 hown9 hg8 hor8 hlt8 hlt9 hs8
      refine hK _ _ hS13 ?_
      clear hK K
      try simp only [List.getElem_toArray, List.getElem_cons_zero, List.getElem_cons_succ, Act.put, List.setIfInBounds_toArray, List.set_cons_zero, List.set_cons_succ]
      repeat (first
        | (refine ord_skip rfl ?_ ?_; rfl; simp only [List.getElem_toArray, List.getElem_cons_zero, List.getElem_cons_succ, Act.put, List.setIfInBounds_toArray, List.set_cons_zero, List.set_cons_succ])
        | (refine ord_take (v := ?_) rfl ?_ (fun W hW => ?_) ?_; rotate_left; rfl; (obtain ⟨⟨k0, k1, k2, k3, k4, k5, k6, k7, k8, k9⟩, g0, g1, g2, g3⟩ := hW; go_simp; (first | done | with_reducible rfl)); simp only [List.getElem_toArray, List.getElem_cons_zero, List.getElem_cons_succ, Act.put, List.setIfInBounds_toArray, List.set_cons_zero, List.set_cons_succ]))
      refine ord_op rfl ?_ (fun K hK => ?_)
      rfl
      skip
      have hX8 := (hBW.block _ hxl).trans HX1.out
      have oc := cell_blk (k := 9) hX8
      have of := frozen_blk (k := 9) hX8
      go_simp
      obtain ⟨ws, hws⟩ : ∃ Q, Q = (W13).setCell ⟨w.heap.size + 1 + 1, 9, none⟩ (.slice a8 (r.gauges.length + 1) c8) := ⟨_, rfl⟩
      have hX9 := heap_set hX8 (k := 9) (.slice a8 (r.gauges.length + 1) c8)
      rw [← hws] at hX9
      have hwt : Wr (fun k => k = w.heap.size + 1 + 1) (W13) ws := by rw [hws]; exact Wr.setCell (fun k => k = w.heap.size + 1 + 1) _ ⟨w.heap.size + 1 + 1, 9, none⟩ _ rfl
      have hS14 := AdS.wr hS13 hwt (fun e => by have : w.heap.size = w.heap.size + 1 + 1 := e; omega) (fun e => by have : w.heap.size + 1 = w.heap.size + 1 + 1 := e; omega)
      have HX9 := Lib.hid hX9
      have HS9 := Lib.hid (HS8.out.wr hwt (fun ad e k => HA8.out ad e k))
      have HW9 := Lib.hid ((Wr.of_below (S := fun k => k = w.heap.size + 1 + 1) hBW).trans hwt)
      rw [← hws]
      clear oc of hws hX8 hX9 hwt
      refine hK _ _ hS14 ?_
      clear hK K
      try simp only [List.getElem_toArray, List.getElem_cons_zero, List.getElem_cons_succ, Act.put, List.setIfInBounds_toArray, List.set_cons_zero, List.set_cons_succ]
      refine ord_nil ?_
      go_wp2_with fail
      go_meet
      case rel => exact ⟨a8, c8, HX9.out, HS9.out, HW9.out⟩
  case rest =>
    obtain ⟨a8, c8, hX9, hs9, hw9⟩ := hcut
    have hlen : (r.gauges ++ [g]).length = r.gauges.length + 1 := by rw [List.length_append]; rfl
    have HB2 := Lib.hid (HB.out.trans (hw9.below HB.out.size (fun k e => by have : k = w.heap.size + 1 + 1 := e; omega)))
    have HX2 := Lib.hid (HX.out.wr hw9 (fun e => by have : w.heap.size = w.heap.size + 1 + 1 := e; omega))
    clear HB HX HRQ HS0 HX1 HWQ
    have HB := HB2
    have HX := HX2
    have HR := Lib.hid (HR0.out.below HB.out)
    have HXX := Lib.hid (show BoxR (w.heap.size + 1 + 1) (addR r g) ⟨A.sa, A.sc, A.ma, A.mc, A.ua, A.uc, a8, c8⟩ wc from box_blk (r := addR r g) (A := ⟨A.sa, A.sc, A.ma, A.mc, A.ua, A.uc, a8, c8⟩) (by show wc.heap[w.heap.size + 1 + 1]? = some (.cells #[.int .i64 r.last, .slice A.sa r.salt.length A.sc, .slice A.ma r.mud.length A.mc, .int .i64 r.sweet, .int .i64 r.clear, .int .i64 r.size, .int .i64 r.start, .int .i64 r.draw, .slice A.ua r.use.length A.uc, .slice a8 (r.gauges ++ [g]).length c8] 26 (0, 0)); rw [hlen]; exact hX9))
    have HRX := Lib.hid (show Rd wc (addR r g) ⟨A.sa, A.sc, A.ma, A.mc, A.ua, A.uc, a8, c8⟩ from ⟨HR.out.s, HR.out.m, HR.out.u, hs9⟩)
    clear HB2 HX2 hX9 hs9 hw9 hlen hgz hq2 hqs hxl
    cases hrd : (thinB r && decide (r.faultI = 0))
    · have HRD := Lib.hid hrd
      clear hrd
      obtain ⟨k0, k1, k2, k3, k4, k5, k6, k7, k8, k9⟩ := HX.out
      obtain ⟨j0, j1, j2, j3, j4, j5, j6, j7, j8, j9⟩ := HXX.out
      go_wp2_with fail
      clear k0 k1 k2 k3 k4 k5 k6 k7 k8 k9 j0 j1 j2 j3 j4 j5 j6 j7 j8 j9
      with_reducible refine (ready_c r A _ HR.out).mono ?_
      rintro e w3 ⟨rfl, hb⟩
      replace HB := Lib.hid (HB.out.trans (hb.mono HB.out.size))
      replace HX := Lib.hid (HX.out.below hb)
      replace HR := Lib.hid (HR.out.below hb)
      replace HXX := Lib.hid (HXX.out.below hb)
      replace HRX := Lib.hid (HRX.out.below hb)
      clear hb
      rw [HRD.out]
      obtain ⟨k0, k1, k2, k3, k4, k5, k6, k7, k8, k9⟩ := HX.out
      obtain ⟨j0, j1, j2, j3, j4, j5, j6, j7, j8, j9⟩ := HXX.out
      go_wp2_with fail
      clear k0 k1 k2 k3 k4 k5 k6 k7 k8 k9 j0 j1 j2 j3 j4 j5 j6 j7 j8 j9
      with_reducible refine (awake_c _).mono ?_
      rintro e wz ⟨rfl, hbz⟩
      go_wp2_with fail
      go_ret
      exact ⟨rfl, HB.out.trans (hbz.mono HB.out.size)⟩
    · have HRD := Lib.hid hrd
      have hrd2 := Bool.and_eq_true_iff.1 hrd
      have HL := Lib.hid (thin_lens hrd2.1)
      have HZ := Lib.hid (of_decide_eq_true hrd2.2)
      have HOK := Lib.hid (ok_of_fault HZ.out).1
      clear hrd hrd2
      cases hrd : (thinB (addR r g) && decide ((addR r g).faultI = 0))
      · have HRD2 := Lib.hid hrd
        clear hrd
        obtain ⟨k0, k1, k2, k3, k4, k5, k6, k7, k8, k9⟩ := HX.out
        obtain ⟨j0, j1, j2, j3, j4, j5, j6, j7, j8, j9⟩ := HXX.out
        go_wp2_with fail
        clear k0 k1 k2 k3 k4 k5 k6 k7 k8 k9 j0 j1 j2 j3 j4 j5 j6 j7 j8 j9
        with_reducible refine (ready_c r A _ HR.out).mono ?_
        rintro e w4 ⟨rfl, hb⟩
        replace HB := Lib.hid (HB.out.trans (hb.mono HB.out.size))
        replace HX := Lib.hid (HX.out.below hb)
        replace HR := Lib.hid (HR.out.below hb)
        replace HXX := Lib.hid (HXX.out.below hb)
        replace HRX := Lib.hid (HRX.out.below hb)
        clear hb
        rw [HRD.out]
        obtain ⟨k0, k1, k2, k3, k4, k5, k6, k7, k8, k9⟩ := HX.out
        obtain ⟨j0, j1, j2, j3, j4, j5, j6, j7, j8, j9⟩ := HXX.out
        go_wp2_with fail
        clear k0 k1 k2 k3 k4 k5 k6 k7 k8 k9 j0 j1 j2 j3 j4 j5 j6 j7 j8 j9
        with_reducible refine (ready_c ((addR r g)) ⟨A.sa, A.sc, A.ma, A.mc, A.ua, A.uc, a8, c8⟩ _ HRX.out).mono ?_
        rintro e w5 ⟨rfl, hb⟩
        replace HB := Lib.hid (HB.out.trans (hb.mono HB.out.size))
        replace HX := Lib.hid (HX.out.below hb)
        replace HR := Lib.hid (HR.out.below hb)
        replace HXX := Lib.hid (HXX.out.below hb)
        replace HRX := Lib.hid (HRX.out.below hb)
        clear hb
        rw [HRD2.out]
        obtain ⟨k0, k1, k2, k3, k4, k5, k6, k7, k8, k9⟩ := HX.out
        obtain ⟨j0, j1, j2, j3, j4, j5, j6, j7, j8, j9⟩ := HXX.out
        go_wp2_with fail
        clear k0 k1 k2 k3 k4 k5 k6 k7 k8 k9 j0 j1 j2 j3 j4 j5 j6 j7 j8 j9
        with_reducible refine (awake_c _).mono ?_
        rintro e wz ⟨rfl, hbz⟩
        go_wp2_with fail
        go_ret
        exact ⟨rfl, HB.out.trans (hbz.mono HB.out.size)⟩
      · have HRD2 := Lib.hid hrd
        have hrd2 := Bool.and_eq_true_iff.1 hrd
        have HLX := Lib.hid (thin_lens hrd2.1)
        have HZX := Lib.hid (of_decide_eq_true hrd2.2)
        have hle := read_leave HZ.out HZX.out
        have hla := leave_ans HZ.out
        have hlb := leave_ans HZX.out
        have hl1 := Leave_len HZ.out
        have hl2 := Leave_len HZX.out
        have hnil := fun e => leave_nil HZX.out e
        obtain ⟨LR, hLR⟩ : ∃ L, leaveRf r (allF r) = L := ⟨_, rfl⟩
        obtain ⟨LX, hLX⟩ : ∃ L, leaveRf (addR r g) (allF (addR r g)) = L := ⟨_, rfl⟩
        rw [hLR] at hle hla hl1
        rw [hLX] at hle hlb hl2 hnil
        have HLA := Lib.hid hla
        have HLB := Lib.hid hlb
        have HLE := Lib.hid hle
        have HLS := Lib.hid (show LR.length ≤ 6 from hl1)
        clear hrd hrd2 hle hla hlb hl1 hl2 hLR hLX
        by_cases hpo : 0 < LX.length
        · have HPO := Lib.hid hpo
          clear hpo hnil
          obtain ⟨k0, k1, k2, k3, k4, k5, k6, k7, k8, k9⟩ := HX.out
          obtain ⟨j0, j1, j2, j3, j4, j5, j6, j7, j8, j9⟩ := HXX.out
          go_wp2_with fail
          clear k0 k1 k2 k3 k4 k5 k6 k7 k8 k9 j0 j1 j2 j3 j4 j5 j6 j7 j8 j9
          with_reducible refine (ready_c r A _ HR.out).mono ?_
          rintro e w6 ⟨rfl, hb⟩
          replace HB := Lib.hid (HB.out.trans (hb.mono HB.out.size))
          replace HX := Lib.hid (HX.out.below hb)
          replace HR := Lib.hid (HR.out.below hb)
          replace HXX := Lib.hid (HXX.out.below hb)
          replace HRX := Lib.hid (HRX.out.below hb)
          clear hb
          rw [HRD.out]
          obtain ⟨k0, k1, k2, k3, k4, k5, k6, k7, k8, k9⟩ := HX.out
          obtain ⟨j0, j1, j2, j3, j4, j5, j6, j7, j8, j9⟩ := HXX.out
          go_wp2_with fail
          clear k0 k1 k2 k3 k4 k5 k6 k7 k8 k9 j0 j1 j2 j3 j4 j5 j6 j7 j8 j9
          with_reducible refine (ready_c ((addR r g)) ⟨A.sa, A.sc, A.ma, A.mc, A.ua, A.uc, a8, c8⟩ _ HRX.out).mono ?_
          rintro e w7 ⟨rfl, hb⟩
          replace HB := Lib.hid (HB.out.trans (hb.mono HB.out.size))
          replace HX := Lib.hid (HX.out.below hb)
          replace HR := Lib.hid (HR.out.below hb)
          replace HXX := Lib.hid (HXX.out.below hb)
          replace HRX := Lib.hid (HRX.out.below hb)
          clear hb
          rw [HRD2.out]
          obtain ⟨k0, k1, k2, k3, k4, k5, k6, k7, k8, k9⟩ := HX.out
          obtain ⟨j0, j1, j2, j3, j4, j5, j6, j7, j8, j9⟩ := HXX.out
          go_wp2_with fail
          clear k0 k1 k2 k3 k4 k5 k6 k7 k8 k9 j0 j1 j2 j3 j4 j5 j6 j7 j8 j9
          with_reducible refine (River_c r A _ HR.out HL.out.1 HL.out.2.1 HL.out.2.2.1 HL.out.2.2.2).mono ?_
          rintro e w8 ⟨A1, rfl, hr1, -, hb⟩
          replace HB := Lib.hid (HB.out.trans (hb.mono HB.out.size))
          replace HX := Lib.hid (HX.out.below hb)
          replace HR := Lib.hid (HR.out.below hb)
          replace HXX := Lib.hid (HXX.out.below hb)
          replace HRX := Lib.hid (HRX.out.below hb)
          clear hb
          have HR1 := Lib.hid hr1
          clear hr1
          obtain ⟨k0, k1, k2, k3, k4, k5, k6, k7, k8, k9⟩ := HX.out
          obtain ⟨j0, j1, j2, j3, j4, j5, j6, j7, j8, j9⟩ := HXX.out
          go_wp2_with fail
          clear k0 k1 k2 k3 k4 k5 k6 k7 k8 k9 j0 j1 j2 j3 j4 j5 j6 j7 j8 j9
          with_reducible refine (Leave_c r A1 _ HR1.out HL.out.1 HL.out.2.1 HL.out.2.2.1 HL.out.2.2.2).mono ?_
          rintro e w9 ⟨sa, sc, rfl, hsl, hb⟩
          replace HB := Lib.hid (HB.out.trans (hb.mono HB.out.size))
          replace HX := Lib.hid (HX.out.below hb)
          replace HR := Lib.hid (HR.out.below hb)
          replace HXX := Lib.hid (HXX.out.below hb)
          replace HRX := Lib.hid (HRX.out.below hb)
          replace HR1 := Lib.hid (HR1.out.below hb)
          clear hb
          rw [HLA.out] at hsl ⊢
          clear hsl
          obtain ⟨k0, k1, k2, k3, k4, k5, k6, k7, k8, k9⟩ := HX.out
          obtain ⟨j0, j1, j2, j3, j4, j5, j6, j7, j8, j9⟩ := HXX.out
          go_wp2_with fail
          clear k0 k1 k2 k3 k4 k5 k6 k7 k8 k9 j0 j1 j2 j3 j4 j5 j6 j7 j8 j9
          with_reducible refine (River_c (addR r g) ⟨A.sa, A.sc, A.ma, A.mc, A.ua, A.uc, a8, c8⟩ _ HRX.out HLX.out.1 HLX.out.2.1 HLX.out.2.2.1 HLX.out.2.2.2).mono ?_
          rintro e w10 ⟨A2, rfl, hr1, -, hb⟩
          replace HB := Lib.hid (HB.out.trans (hb.mono HB.out.size))
          replace HX := Lib.hid (HX.out.below hb)
          replace HR := Lib.hid (HR.out.below hb)
          replace HXX := Lib.hid (HXX.out.below hb)
          replace HRX := Lib.hid (HRX.out.below hb)
          replace HR1 := Lib.hid (HR1.out.below hb)
          clear hb
          have HR2 := Lib.hid hr1
          clear hr1
          obtain ⟨k0, k1, k2, k3, k4, k5, k6, k7, k8, k9⟩ := HX.out
          obtain ⟨j0, j1, j2, j3, j4, j5, j6, j7, j8, j9⟩ := HXX.out
          go_wp2_with fail
          clear k0 k1 k2 k3 k4 k5 k6 k7 k8 k9 j0 j1 j2 j3 j4 j5 j6 j7 j8 j9
          with_reducible refine (Leave_c ((addR r g)) A2 _ HR2.out HLX.out.1 HLX.out.2.1 HLX.out.2.2.1 HLX.out.2.2.2).mono ?_
          rintro e w11 ⟨sb, sd, rfl, hsl, hb⟩
          replace HB := Lib.hid (HB.out.trans (hb.mono HB.out.size))
          replace HX := Lib.hid (HX.out.below hb)
          replace HR := Lib.hid (HR.out.below hb)
          replace HXX := Lib.hid (HXX.out.below hb)
          replace HRX := Lib.hid (HRX.out.below hb)
          replace HR1 := Lib.hid (HR1.out.below hb)
          replace HR2 := Lib.hid (HR2.out.below hb)
          clear hb
          rw [HLB.out] at hsl ⊢
          clear hsl
          have hle1 := HLE.out.1
          have hle2 := HLE.out.2
          have hpos := HPO.out
          have hn1 : ¬ LX.length < LR.length := by omega
          have hn2 : ¬ LR.length + 1 < LX.length := by omega
          have hn3 : ¬ ((LR.length : Int) + 1 < (LX.length : Int)) := by omega
          have hw1 : IntKind.i64.wrap ((LR.length : Int) + 1) = (LR.length : Int) + 1 := IntWalk.i64_in _ (by have := HLS.out; omega)
          have hls := HLS.out
          obtain ⟨k0, k1, k2, k3, k4, k5, k6, k7, k8, k9⟩ := HX.out
          obtain ⟨j0, j1, j2, j3, j4, j5, j6, j7, j8, j9⟩ := HXX.out
          go_wp2_with fail
          clear k0 k1 k2 k3 k4 k5 k6 k7 k8 k9 j0 j1 j2 j3 j4 j5 j6 j7 j8 j9
          clear hn1 hn2 hn3 hw1 hpos
          with_reducible refine (awake_c _).mono ?_
          rintro e wz ⟨rfl, hbz⟩
          go_wp2_with fail
          go_ret
          exact ⟨rfl, HB.out.trans (hbz.mono HB.out.size)⟩
        · have HPO := Lib.hid hpo
          have hT := hnil (List.eq_nil_of_length_eq_zero (by omega))
          have hTr := hT.imp fun t ht => add_isT r g t ht
          obtain ⟨D, hDl, hD5, he1, he2⟩ := day_mod HOK.out d
          have HE1 := Lib.hid he1
          have HE2 := Lib.hid he2
          have hpm := planM_lt HOK.out b
          have hpn := plan_bits HOK.out hpm
          have hpl6 := planL_len r b
          have hfo := same_fewer (add_same r g) HZ.out HZX.out (add_isT r g) hT hpm
          have hin := same_tanks (add_same r g) HZ.out HZX.out (add_isT r g) hT (planL r b)
          have hgd := same_good (add_same r g) HZ.out HZX.out (add_isT r g) hT D
          have ha1 := (askR_ok HZ.out).2 hTr
          have ha2 := (askR_ok HZX.out).2 hT
          have hg1 := good_ans D hDl HZ.out
          have hg2 := good_ans (r := addR r g) D hDl HZX.out
          rw [if_pos ha1] at hg1
          rw [if_pos ha2] at hg2
          obtain ⟨u, hu⟩ : ∃ u, goodRf r (truthsR r) D = u := ⟨_, rfl⟩
          obtain ⟨v, hv⟩ : ∃ v, goodRf (addR r g) (truthsR (addR r g)) D = v := ⟨_, rfl⟩
          rw [hu] at hgd hg1
          rw [hv] at hgd hg2
          rw [← planL_eq] at hpn hfo
          obtain ⟨PL, hPL⟩ : ∃ L, planL r b = L := ⟨_, rfl⟩
          rw [hPL] at hpn hpl6 hfo hin
          have HPL := Lib.hid hPL
          have HFO := Lib.hid hfo
          have HIN := Lib.hid hin
          have HG1 := Lib.hid hg1
          have HG2 := Lib.hid hg2
          have HAR := Lib.hid (show askR r (isPlanB r.last PL) = 0 from by rw [hpn]; exact ha1)
          have HAX := Lib.hid (show askR (addR r g) (isPlanB (addR r g).last PL) = 0 from by rw [show isPlanB (addR r g).last PL = true from hpn]; exact ha2)
          have HTN1 := Lib.hid (show (addR r g).use.length = (tanksL (addR r g) PL).length from (add_tanks_len r g PL).symm)
          have HTN3 := Lib.hid (show (addR r g).use.length = r.use.length from rfl)
          have HTN4 := Lib.hid (show (addR r g).use.length ≤ 1000 from by show r.use.length ≤ 1000; have := HL.out.2.2.1; omega)
          have HTN2 := Lib.hid (tanks_len r PL).symm
          clear he1 he2 hpm hpn hfo hin ha1 ha2 hg1 hg2 hu hv hPL hT hTr hnil hpo
          by_cases hu3 : u = 3
          · have HV3 := Lib.hid hu3
            have HVV := Lib.hid (trivial)
            clear hgd hu3
            obtain ⟨k0, k1, k2, k3, k4, k5, k6, k7, k8, k9⟩ := HX.out
            obtain ⟨j0, j1, j2, j3, j4, j5, j6, j7, j8, j9⟩ := HXX.out
            go_wp2_with fail
            clear k0 k1 k2 k3 k4 k5 k6 k7 k8 k9 j0 j1 j2 j3 j4 j5 j6 j7 j8 j9
            with_reducible refine (ready_c r A _ HR.out).mono ?_
            rintro e w12 ⟨rfl, hb⟩
            replace HB := Lib.hid (HB.out.trans (hb.mono HB.out.size))
            replace HX := Lib.hid (HX.out.below hb)
            replace HR := Lib.hid (HR.out.below hb)
            replace HXX := Lib.hid (HXX.out.below hb)
            replace HRX := Lib.hid (HRX.out.below hb)
            clear hb
            rw [HRD.out]
            obtain ⟨k0, k1, k2, k3, k4, k5, k6, k7, k8, k9⟩ := HX.out
            obtain ⟨j0, j1, j2, j3, j4, j5, j6, j7, j8, j9⟩ := HXX.out
            go_wp2_with fail
            clear k0 k1 k2 k3 k4 k5 k6 k7 k8 k9 j0 j1 j2 j3 j4 j5 j6 j7 j8 j9
            with_reducible refine (ready_c ((addR r g)) ⟨A.sa, A.sc, A.ma, A.mc, A.ua, A.uc, a8, c8⟩ _ HRX.out).mono ?_
            rintro e w13 ⟨rfl, hb⟩
            replace HB := Lib.hid (HB.out.trans (hb.mono HB.out.size))
            replace HX := Lib.hid (HX.out.below hb)
            replace HR := Lib.hid (HR.out.below hb)
            replace HXX := Lib.hid (HXX.out.below hb)
            replace HRX := Lib.hid (HRX.out.below hb)
            clear hb
            rw [HRD2.out]
            obtain ⟨k0, k1, k2, k3, k4, k5, k6, k7, k8, k9⟩ := HX.out
            obtain ⟨j0, j1, j2, j3, j4, j5, j6, j7, j8, j9⟩ := HXX.out
            go_wp2_with fail
            clear k0 k1 k2 k3 k4 k5 k6 k7 k8 k9 j0 j1 j2 j3 j4 j5 j6 j7 j8 j9
            with_reducible refine (River_c r A _ HR.out HL.out.1 HL.out.2.1 HL.out.2.2.1 HL.out.2.2.2).mono ?_
            rintro e w14 ⟨A1, rfl, hr1, -, hb⟩
            replace HB := Lib.hid (HB.out.trans (hb.mono HB.out.size))
            replace HX := Lib.hid (HX.out.below hb)
            replace HR := Lib.hid (HR.out.below hb)
            replace HXX := Lib.hid (HXX.out.below hb)
            replace HRX := Lib.hid (HRX.out.below hb)
            clear hb
            have HR1 := Lib.hid hr1
            clear hr1
            obtain ⟨k0, k1, k2, k3, k4, k5, k6, k7, k8, k9⟩ := HX.out
            obtain ⟨j0, j1, j2, j3, j4, j5, j6, j7, j8, j9⟩ := HXX.out
            go_wp2_with fail
            clear k0 k1 k2 k3 k4 k5 k6 k7 k8 k9 j0 j1 j2 j3 j4 j5 j6 j7 j8 j9
            with_reducible refine (Leave_c r A1 _ HR1.out HL.out.1 HL.out.2.1 HL.out.2.2.1 HL.out.2.2.2).mono ?_
            rintro e w15 ⟨sa, sc, rfl, hsl, hb⟩
            replace HB := Lib.hid (HB.out.trans (hb.mono HB.out.size))
            replace HX := Lib.hid (HX.out.below hb)
            replace HR := Lib.hid (HR.out.below hb)
            replace HXX := Lib.hid (HXX.out.below hb)
            replace HRX := Lib.hid (HRX.out.below hb)
            replace HR1 := Lib.hid (HR1.out.below hb)
            clear hb
            rw [HLA.out] at hsl ⊢
            clear hsl
            obtain ⟨k0, k1, k2, k3, k4, k5, k6, k7, k8, k9⟩ := HX.out
            obtain ⟨j0, j1, j2, j3, j4, j5, j6, j7, j8, j9⟩ := HXX.out
            go_wp2_with fail
            clear k0 k1 k2 k3 k4 k5 k6 k7 k8 k9 j0 j1 j2 j3 j4 j5 j6 j7 j8 j9
            with_reducible refine (River_c (addR r g) ⟨A.sa, A.sc, A.ma, A.mc, A.ua, A.uc, a8, c8⟩ _ HRX.out HLX.out.1 HLX.out.2.1 HLX.out.2.2.1 HLX.out.2.2.2).mono ?_
            rintro e w16 ⟨A2, rfl, hr1, -, hb⟩
            replace HB := Lib.hid (HB.out.trans (hb.mono HB.out.size))
            replace HX := Lib.hid (HX.out.below hb)
            replace HR := Lib.hid (HR.out.below hb)
            replace HXX := Lib.hid (HXX.out.below hb)
            replace HRX := Lib.hid (HRX.out.below hb)
            replace HR1 := Lib.hid (HR1.out.below hb)
            clear hb
            have HR2 := Lib.hid hr1
            clear hr1
            obtain ⟨k0, k1, k2, k3, k4, k5, k6, k7, k8, k9⟩ := HX.out
            obtain ⟨j0, j1, j2, j3, j4, j5, j6, j7, j8, j9⟩ := HXX.out
            go_wp2_with fail
            clear k0 k1 k2 k3 k4 k5 k6 k7 k8 k9 j0 j1 j2 j3 j4 j5 j6 j7 j8 j9
            with_reducible refine (Leave_c ((addR r g)) A2 _ HR2.out HLX.out.1 HLX.out.2.1 HLX.out.2.2.1 HLX.out.2.2.2).mono ?_
            rintro e w17 ⟨sb, sd, rfl, hsl, hb⟩
            replace HB := Lib.hid (HB.out.trans (hb.mono HB.out.size))
            replace HX := Lib.hid (HX.out.below hb)
            replace HR := Lib.hid (HR.out.below hb)
            replace HXX := Lib.hid (HXX.out.below hb)
            replace HRX := Lib.hid (HRX.out.below hb)
            replace HR1 := Lib.hid (HR1.out.below hb)
            replace HR2 := Lib.hid (HR2.out.below hb)
            clear hb
            rw [HLB.out] at hsl ⊢
            clear hsl
            have hle1 := HLE.out.1
            have hle2 := HLE.out.2
            have hpos := HPO.out
            have hn1 : ¬ LX.length < LR.length := by omega
            have hn2 : ¬ LR.length + 1 < LX.length := by omega
            have hn3 : ¬ ((LR.length : Int) + 1 < (LX.length : Int)) := by omega
            have hw1 : IntKind.i64.wrap ((LR.length : Int) + 1) = (LR.length : Int) + 1 := IntWalk.i64_in _ (by have := HLS.out; omega)
            have hls := HLS.out
            obtain ⟨k0, k1, k2, k3, k4, k5, k6, k7, k8, k9⟩ := HX.out
            obtain ⟨j0, j1, j2, j3, j4, j5, j6, j7, j8, j9⟩ := HXX.out
            go_wp2_with fail
            clear k0 k1 k2 k3 k4 k5 k6 k7 k8 k9 j0 j1 j2 j3 j4 j5 j6 j7 j8 j9
            clear hn1 hn2 hn3 hw1 hpos
            have hl0 := HOK.out.l0
            have hl5 := HOK.out.l5
            have hlw : IntKind.i64.wrap (r.last + 1) = r.last + 1 := IntWalk.i64_in _ (by omega)
            have hlz : (r.last + 1 == 0) = false := by rw [beq_eq_false_iff_ne]; omega
            have hlz2 : ¬ r.last + 1 = 0 := by omega
            have he1 := HE1.out
            have he2 := HE2.out
            have hdw : IntKind.i64.wrap (d : Int) = (d : Int) := IntWalk.i64_in _ (by omega)
            have hwb : IntKind.i64.wrap (b : Int) = (b : Int) := IntWalk.i64_in _ (by omega)
            refine region_o (S := BoxR w.heap.size r A) (.take 0 (.take 1 (.take 2 (.take 4 (.take 5 (.take 6 (.take 7 (.take 8 (.take 9 (.one 3 (.take 10 (.take 11 .nil)))))))))))) (by kernel_rfl) (by kernel_rfl) (fun _ _ d _ _ h => by cases d <;> exact h) (HX.out.below (Below.refl _ _).drew) ?_
            intro W0 hW0 hS0
            have hBW : Below w17.heap.size w17 W0 := by subst hW0; exact (Below.refl _ _).drew
            clear hW0
            repeat (first
              | (refine ord_skip rfl ?_ ?_; rfl; simp only [List.getElem_toArray, List.getElem_cons_zero, List.getElem_cons_succ, Act.put, List.setIfInBounds_toArray, List.set_cons_zero, List.set_cons_succ])
              | (refine ord_take (v := ?_) rfl ?_ (fun W hW => ?_) ?_; rotate_left; rfl; (obtain ⟨k0, k1, k2, k3, k4, k5, k6, k7, k8, k9⟩ := hW; go_simp; (first | done | with_reducible rfl)); simp only [List.getElem_toArray, List.getElem_cons_zero, List.getElem_cons_succ, Act.put, List.setIfInBounds_toArray, List.set_cons_zero, List.set_cons_succ]))
            (refine ord_op rfl ?_ (fun K hK => ?_); rfl; go_simp; (with_reducible refine (Planned_c r A b _ HOK.out.l0 HOK.out.l5 hbb).mono ?_); rintro e W1 ⟨v, rfl, hown, hb⟩; have hS1 := BoxR.below hS0 hb; replace hBW := hBW.trans (hb.mono hBW.size); rw [HPL.out] at hown; obtain ⟨pa, pc, rfl, -, hs⟩ := own_Sl hown; have HSP := Lib.hid hs; clear hown hs; clear hb; refine hK _ _ hS1 ?_; clear hK K; try simp only [List.getElem_toArray, List.getElem_cons_zero, List.getElem_cons_succ, Act.put, List.setIfInBounds_toArray, List.set_cons_zero, List.set_cons_succ])
            repeat (first
              | (refine ord_skip rfl ?_ ?_; rfl; simp only [List.getElem_toArray, List.getElem_cons_zero, List.getElem_cons_succ, Act.put, List.setIfInBounds_toArray, List.set_cons_zero, List.set_cons_succ])
              | (refine ord_take (v := ?_) rfl ?_ (fun W hW => ?_) ?_; rotate_left; rfl; (obtain ⟨k0, k1, k2, k3, k4, k5, k6, k7, k8, k9⟩ := hW; go_simp; (first | done | with_reducible rfl)); simp only [List.getElem_toArray, List.getElem_cons_zero, List.getElem_cons_succ, Act.put, List.setIfInBounds_toArray, List.set_cons_zero, List.set_cons_succ]))
            refine ord_nil ?_
            replace HB := Lib.hid (HB.out.trans (hBW.mono HB.out.size))
            replace HX := Lib.hid (HX.out.below hBW)
            replace HR := Lib.hid (HR.out.below hBW)
            replace HXX := Lib.hid (HXX.out.below hBW)
            replace HRX := Lib.hid (HRX.out.below hBW)
            replace HR1 := Lib.hid (HR1.out.below hBW)
            replace HR2 := Lib.hid (HR2.out.below hBW)
            clear hBW
            clear hlw hlz hlz2 he1 he2 hdw hwb
            obtain ⟨k0, k1, k2, k3, k4, k5, k6, k7, k8, k9⟩ := HX.out
            obtain ⟨j0, j1, j2, j3, j4, j5, j6, j7, j8, j9⟩ := HXX.out
            go_wp2_with fail
            clear k0 k1 k2 k3 k4 k5 k6 k7 k8 k9 j0 j1 j2 j3 j4 j5 j6 j7 j8 j9
            with_reducible refine (River_c r A _ HR.out HL.out.1 HL.out.2.1 HL.out.2.2.1 HL.out.2.2.2).mono ?_
            rintro e w18 ⟨A3, rfl, hr1, -, hb⟩
            replace HB := Lib.hid (HB.out.trans (hb.mono HB.out.size))
            replace HX := Lib.hid (HX.out.below hb)
            replace HR := Lib.hid (HR.out.below hb)
            replace HXX := Lib.hid (HXX.out.below hb)
            replace HRX := Lib.hid (HRX.out.below hb)
            replace HR1 := Lib.hid (HR1.out.below hb)
            replace HR2 := Lib.hid (HR2.out.below hb)
            replace HSP := Lib.hid (HSP.out.below hb)
            clear hb
            have HR3 := Lib.hid hr1
            clear hr1
            obtain ⟨k0, k1, k2, k3, k4, k5, k6, k7, k8, k9⟩ := HX.out
            obtain ⟨j0, j1, j2, j3, j4, j5, j6, j7, j8, j9⟩ := HXX.out
            go_wp2_with fail
            clear k0 k1 k2 k3 k4 k5 k6 k7 k8 k9 j0 j1 j2 j3 j4 j5 j6 j7 j8 j9
            with_reducible refine (list_c pa PL pc _ HSP.out (by omega)).mono ?_
            rintro e w19 ⟨v, rfl, hown, hb⟩
            replace HB := Lib.hid (HB.out.trans (hb.mono HB.out.size))
            replace HX := Lib.hid (HX.out.below hb)
            replace HR := Lib.hid (HR.out.below hb)
            replace HXX := Lib.hid (HXX.out.below hb)
            replace HRX := Lib.hid (HRX.out.below hb)
            replace HR1 := Lib.hid (HR1.out.below hb)
            replace HR2 := Lib.hid (HR2.out.below hb)
            replace HSP := Lib.hid (HSP.out.below hb)
            replace HR3 := Lib.hid (HR3.out.below hb)
            clear hb
            obtain ⟨s3, cs3, rfl, -, hs2⟩ := own_Sl hown
            clear hown
            have HS3 := Lib.hid hs2
            clear hs2
            obtain ⟨k0, k1, k2, k3, k4, k5, k6, k7, k8, k9⟩ := HX.out
            obtain ⟨j0, j1, j2, j3, j4, j5, j6, j7, j8, j9⟩ := HXX.out
            go_wp2_with fail
            clear k0 k1 k2 k3 k4 k5 k6 k7 k8 k9 j0 j1 j2 j3 j4 j5 j6 j7 j8 j9
            with_reducible refine (Tank_ok_c (r) A3 s3 PL cs3 _ HR3.out HL.out HS3.out (by omega) HAR.out).mono ?_
            rintro e w20 ⟨taa, tac, rfl, hra, hb⟩
            replace HB := Lib.hid (HB.out.trans (hb.mono HB.out.size))
            replace HX := Lib.hid (HX.out.below hb)
            replace HR := Lib.hid (HR.out.below hb)
            replace HXX := Lib.hid (HXX.out.below hb)
            replace HRX := Lib.hid (HRX.out.below hb)
            replace HR1 := Lib.hid (HR1.out.below hb)
            replace HR2 := Lib.hid (HR2.out.below hb)
            replace HSP := Lib.hid (HSP.out.below hb)
            replace HR3 := Lib.hid (HR3.out.below hb)
            replace HS3 := Lib.hid (HS3.out.below hb)
            clear hb
            have Hta := Lib.hid hra
            clear hra
            obtain ⟨k0, k1, k2, k3, k4, k5, k6, k7, k8, k9⟩ := HX.out
            obtain ⟨j0, j1, j2, j3, j4, j5, j6, j7, j8, j9⟩ := HXX.out
            go_wp2_with fail
            clear k0 k1 k2 k3 k4 k5 k6 k7 k8 k9 j0 j1 j2 j3 j4 j5 j6 j7 j8 j9
            with_reducible refine (River_c (addR r g) ⟨A.sa, A.sc, A.ma, A.mc, A.ua, A.uc, a8, c8⟩ _ HRX.out HLX.out.1 HLX.out.2.1 HLX.out.2.2.1 HLX.out.2.2.2).mono ?_
            rintro e w21 ⟨A4, rfl, hr1, -, hb⟩
            replace HB := Lib.hid (HB.out.trans (hb.mono HB.out.size))
            replace HX := Lib.hid (HX.out.below hb)
            replace HR := Lib.hid (HR.out.below hb)
            replace HXX := Lib.hid (HXX.out.below hb)
            replace HRX := Lib.hid (HRX.out.below hb)
            replace HR1 := Lib.hid (HR1.out.below hb)
            replace HR2 := Lib.hid (HR2.out.below hb)
            replace HSP := Lib.hid (HSP.out.below hb)
            replace HR3 := Lib.hid (HR3.out.below hb)
            replace HS3 := Lib.hid (HS3.out.below hb)
            replace Hta := Lib.hid (Hta.out.below hb)
            clear hb
            have HR4 := Lib.hid hr1
            clear hr1
            obtain ⟨k0, k1, k2, k3, k4, k5, k6, k7, k8, k9⟩ := HX.out
            obtain ⟨j0, j1, j2, j3, j4, j5, j6, j7, j8, j9⟩ := HXX.out
            go_wp2_with fail
            clear k0 k1 k2 k3 k4 k5 k6 k7 k8 k9 j0 j1 j2 j3 j4 j5 j6 j7 j8 j9
            with_reducible refine (list_c pa PL pc _ HSP.out (by omega)).mono ?_
            rintro e w22 ⟨v, rfl, hown, hb⟩
            replace HB := Lib.hid (HB.out.trans (hb.mono HB.out.size))
            replace HX := Lib.hid (HX.out.below hb)
            replace HR := Lib.hid (HR.out.below hb)
            replace HXX := Lib.hid (HXX.out.below hb)
            replace HRX := Lib.hid (HRX.out.below hb)
            replace HR1 := Lib.hid (HR1.out.below hb)
            replace HR2 := Lib.hid (HR2.out.below hb)
            replace HSP := Lib.hid (HSP.out.below hb)
            replace HR3 := Lib.hid (HR3.out.below hb)
            replace HS3 := Lib.hid (HS3.out.below hb)
            replace Hta := Lib.hid (Hta.out.below hb)
            replace HR4 := Lib.hid (HR4.out.below hb)
            clear hb
            obtain ⟨s4, cs4, rfl, -, hs2⟩ := own_Sl hown
            clear hown
            have HS4 := Lib.hid hs2
            clear hs2
            obtain ⟨k0, k1, k2, k3, k4, k5, k6, k7, k8, k9⟩ := HX.out
            obtain ⟨j0, j1, j2, j3, j4, j5, j6, j7, j8, j9⟩ := HXX.out
            go_wp2_with fail
            clear k0 k1 k2 k3 k4 k5 k6 k7 k8 k9 j0 j1 j2 j3 j4 j5 j6 j7 j8 j9
            with_reducible refine (Tank_ok_c ((addR r g)) A4 s4 PL cs4 _ HR4.out HLX.out HS4.out (by omega) HAX.out).mono ?_
            rintro e w23 ⟨tba, tbc, rfl, hra, hb⟩
            replace HB := Lib.hid (HB.out.trans (hb.mono HB.out.size))
            replace HX := Lib.hid (HX.out.below hb)
            replace HR := Lib.hid (HR.out.below hb)
            replace HXX := Lib.hid (HXX.out.below hb)
            replace HRX := Lib.hid (HRX.out.below hb)
            replace HR1 := Lib.hid (HR1.out.below hb)
            replace HR2 := Lib.hid (HR2.out.below hb)
            replace HSP := Lib.hid (HSP.out.below hb)
            replace HR3 := Lib.hid (HR3.out.below hb)
            replace HS3 := Lib.hid (HS3.out.below hb)
            replace Hta := Lib.hid (Hta.out.below hb)
            replace HR4 := Lib.hid (HR4.out.below hb)
            replace HS4 := Lib.hid (HS4.out.below hb)
            clear hb
            have Htb := Lib.hid hra
            clear hra
            obtain ⟨k0, k1, k2, k3, k4, k5, k6, k7, k8, k9⟩ := HX.out
            obtain ⟨j0, j1, j2, j3, j4, j5, j6, j7, j8, j9⟩ := HXX.out
            go_wp2_with fail
            clear k0 k1 k2 k3 k4 k5 k6 k7 k8 k9 j0 j1 j2 j3 j4 j5 j6 j7 j8 j9
            with_reducible refine (River_c r A _ HR.out HL.out.1 HL.out.2.1 HL.out.2.2.1 HL.out.2.2.2).mono ?_
            rintro e w24 ⟨A5, rfl, hr1, -, hb⟩
            replace HB := Lib.hid (HB.out.trans (hb.mono HB.out.size))
            replace HX := Lib.hid (HX.out.below hb)
            replace HR := Lib.hid (HR.out.below hb)
            replace HXX := Lib.hid (HXX.out.below hb)
            replace HRX := Lib.hid (HRX.out.below hb)
            replace HR1 := Lib.hid (HR1.out.below hb)
            replace HR2 := Lib.hid (HR2.out.below hb)
            replace HSP := Lib.hid (HSP.out.below hb)
            replace HR3 := Lib.hid (HR3.out.below hb)
            replace HS3 := Lib.hid (HS3.out.below hb)
            replace Hta := Lib.hid (Hta.out.below hb)
            replace HR4 := Lib.hid (HR4.out.below hb)
            replace HS4 := Lib.hid (HS4.out.below hb)
            replace Htb := Lib.hid (Htb.out.below hb)
            clear hb
            have HR5 := Lib.hid hr1
            clear hr1
            obtain ⟨k0, k1, k2, k3, k4, k5, k6, k7, k8, k9⟩ := HX.out
            obtain ⟨j0, j1, j2, j3, j4, j5, j6, j7, j8, j9⟩ := HXX.out
            go_wp2_with fail
            clear k0 k1 k2 k3 k4 k5 k6 k7 k8 k9 j0 j1 j2 j3 j4 j5 j6 j7 j8 j9
            with_reducible refine (Good_c r A5 (D : Int) _ HR5.out HL.out.1 HL.out.2.1 HL.out.2.2.1 HL.out.2.2.2).mono ?_
            rintro e w25 ⟨rfl, hb⟩
            replace HB := Lib.hid (HB.out.trans (hb.mono HB.out.size))
            replace HX := Lib.hid (HX.out.below hb)
            replace HR := Lib.hid (HR.out.below hb)
            replace HXX := Lib.hid (HXX.out.below hb)
            replace HRX := Lib.hid (HRX.out.below hb)
            replace HR1 := Lib.hid (HR1.out.below hb)
            replace HR2 := Lib.hid (HR2.out.below hb)
            replace HSP := Lib.hid (HSP.out.below hb)
            replace HR3 := Lib.hid (HR3.out.below hb)
            replace HS3 := Lib.hid (HS3.out.below hb)
            replace Hta := Lib.hid (Hta.out.below hb)
            replace HR4 := Lib.hid (HR4.out.below hb)
            replace HS4 := Lib.hid (HS4.out.below hb)
            replace Htb := Lib.hid (Htb.out.below hb)
            replace HR5 := Lib.hid (HR5.out.below hb)
            clear hb
            rw [HG1.out]
            obtain ⟨k0, k1, k2, k3, k4, k5, k6, k7, k8, k9⟩ := HX.out
            obtain ⟨j0, j1, j2, j3, j4, j5, j6, j7, j8, j9⟩ := HXX.out
            go_wp2_with fail
            clear k0 k1 k2 k3 k4 k5 k6 k7 k8 k9 j0 j1 j2 j3 j4 j5 j6 j7 j8 j9
            with_reducible refine (River_c (addR r g) ⟨A.sa, A.sc, A.ma, A.mc, A.ua, A.uc, a8, c8⟩ _ HRX.out HLX.out.1 HLX.out.2.1 HLX.out.2.2.1 HLX.out.2.2.2).mono ?_
            rintro e w26 ⟨A6, rfl, hr1, -, hb⟩
            replace HB := Lib.hid (HB.out.trans (hb.mono HB.out.size))
            replace HX := Lib.hid (HX.out.below hb)
            replace HR := Lib.hid (HR.out.below hb)
            replace HXX := Lib.hid (HXX.out.below hb)
            replace HRX := Lib.hid (HRX.out.below hb)
            replace HR1 := Lib.hid (HR1.out.below hb)
            replace HR2 := Lib.hid (HR2.out.below hb)
            replace HSP := Lib.hid (HSP.out.below hb)
            replace HR3 := Lib.hid (HR3.out.below hb)
            replace HS3 := Lib.hid (HS3.out.below hb)
            replace Hta := Lib.hid (Hta.out.below hb)
            replace HR4 := Lib.hid (HR4.out.below hb)
            replace HS4 := Lib.hid (HS4.out.below hb)
            replace Htb := Lib.hid (Htb.out.below hb)
            replace HR5 := Lib.hid (HR5.out.below hb)
            clear hb
            have HR6 := Lib.hid hr1
            clear hr1
            obtain ⟨k0, k1, k2, k3, k4, k5, k6, k7, k8, k9⟩ := HX.out
            obtain ⟨j0, j1, j2, j3, j4, j5, j6, j7, j8, j9⟩ := HXX.out
            go_wp2_with fail
            clear k0 k1 k2 k3 k4 k5 k6 k7 k8 k9 j0 j1 j2 j3 j4 j5 j6 j7 j8 j9
            with_reducible refine (Good_c ((addR r g)) A6 (D : Int) _ HR6.out HLX.out.1 HLX.out.2.1 HLX.out.2.2.1 HLX.out.2.2.2).mono ?_
            rintro e w27 ⟨rfl, hb⟩
            replace HB := Lib.hid (HB.out.trans (hb.mono HB.out.size))
            replace HX := Lib.hid (HX.out.below hb)
            replace HR := Lib.hid (HR.out.below hb)
            replace HXX := Lib.hid (HXX.out.below hb)
            replace HRX := Lib.hid (HRX.out.below hb)
            replace HR1 := Lib.hid (HR1.out.below hb)
            replace HR2 := Lib.hid (HR2.out.below hb)
            replace HSP := Lib.hid (HSP.out.below hb)
            replace HR3 := Lib.hid (HR3.out.below hb)
            replace HS3 := Lib.hid (HS3.out.below hb)
            replace Hta := Lib.hid (Hta.out.below hb)
            replace HR4 := Lib.hid (HR4.out.below hb)
            replace HS4 := Lib.hid (HS4.out.below hb)
            replace Htb := Lib.hid (Htb.out.below hb)
            replace HR5 := Lib.hid (HR5.out.below hb)
            replace HR6 := Lib.hid (HR6.out.below hb)
            clear hb
            rw [HG2.out]
            obtain ⟨k0, k1, k2, k3, k4, k5, k6, k7, k8, k9⟩ := HX.out
            obtain ⟨j0, j1, j2, j3, j4, j5, j6, j7, j8, j9⟩ := HXX.out
            go_wp2_with fail
            clear k0 k1 k2 k3 k4 k5 k6 k7 k8 k9 j0 j1 j2 j3 j4 j5 j6 j7 j8 j9
            with_reducible refine (inside2_c tba taa (tanksL ((addR r g)) PL) (tanksL r PL) tbc tac ((addR r g)).use.length r.use.length _ Htb.out Hta.out HTN1.out HTN2.out HTN3.out HTN4.out HIN.out).mono ?_
            rintro e w28 ⟨rfl, hb⟩
            replace HB := Lib.hid (HB.out.trans (hb.mono HB.out.size))
            replace HX := Lib.hid (HX.out.below hb)
            replace HR := Lib.hid (HR.out.below hb)
            replace HXX := Lib.hid (HXX.out.below hb)
            replace HRX := Lib.hid (HRX.out.below hb)
            replace HR1 := Lib.hid (HR1.out.below hb)
            replace HR2 := Lib.hid (HR2.out.below hb)
            replace HSP := Lib.hid (HSP.out.below hb)
            replace HR3 := Lib.hid (HR3.out.below hb)
            replace HS3 := Lib.hid (HS3.out.below hb)
            replace Hta := Lib.hid (Hta.out.below hb)
            replace HR4 := Lib.hid (HR4.out.below hb)
            replace HS4 := Lib.hid (HS4.out.below hb)
            replace Htb := Lib.hid (Htb.out.below hb)
            replace HR5 := Lib.hid (HR5.out.below hb)
            replace HR6 := Lib.hid (HR6.out.below hb)
            clear hb
            rw [HV3.out]
            have hvv := HVV.out
            obtain ⟨k0, k1, k2, k3, k4, k5, k6, k7, k8, k9⟩ := HX.out
            obtain ⟨j0, j1, j2, j3, j4, j5, j6, j7, j8, j9⟩ := HXX.out
            go_wp2_with fail
            clear k0 k1 k2 k3 k4 k5 k6 k7 k8 k9 j0 j1 j2 j3 j4 j5 j6 j7 j8 j9
            with_reducible refine (fewer_c r A ((addR r g)) ⟨A.sa, A.sc, A.ma, A.mc, A.ua, A.uc, a8, c8⟩ pa PL pc _ HR.out HRX.out HL.out HLX.out HSP.out (by omega) HFO.out.1 HFO.out.2).mono ?_
            rintro e w29 ⟨rfl, hb⟩
            replace HB := Lib.hid (HB.out.trans (hb.mono HB.out.size))
            replace HX := Lib.hid (HX.out.below hb)
            replace HR := Lib.hid (HR.out.below hb)
            replace HXX := Lib.hid (HXX.out.below hb)
            replace HRX := Lib.hid (HRX.out.below hb)
            replace HR1 := Lib.hid (HR1.out.below hb)
            replace HR2 := Lib.hid (HR2.out.below hb)
            replace HSP := Lib.hid (HSP.out.below hb)
            replace HR3 := Lib.hid (HR3.out.below hb)
            replace HS3 := Lib.hid (HS3.out.below hb)
            replace Hta := Lib.hid (Hta.out.below hb)
            replace HR4 := Lib.hid (HR4.out.below hb)
            replace HS4 := Lib.hid (HS4.out.below hb)
            replace Htb := Lib.hid (Htb.out.below hb)
            replace HR5 := Lib.hid (HR5.out.below hb)
            replace HR6 := Lib.hid (HR6.out.below hb)
            clear hb
            obtain ⟨k0, k1, k2, k3, k4, k5, k6, k7, k8, k9⟩ := HX.out
            obtain ⟨j0, j1, j2, j3, j4, j5, j6, j7, j8, j9⟩ := HXX.out
            go_wp2_with fail
            clear k0 k1 k2 k3 k4 k5 k6 k7 k8 k9 j0 j1 j2 j3 j4 j5 j6 j7 j8 j9
            with_reducible refine (awake_c _).mono ?_
            rintro e wz ⟨rfl, hbz⟩
            go_wp2_with fail
            go_ret
            exact ⟨rfl, HB.out.trans (hbz.mono HB.out.size)⟩
          · have HV3 := Lib.hid (hgd.resolve_left hu3)
            have HVV := Lib.hid (show (u == 3) = false from by rw [beq_eq_false_iff_ne]; exact hu3)
            clear hgd hu3
            obtain ⟨k0, k1, k2, k3, k4, k5, k6, k7, k8, k9⟩ := HX.out
            obtain ⟨j0, j1, j2, j3, j4, j5, j6, j7, j8, j9⟩ := HXX.out
            go_wp2_with fail
            clear k0 k1 k2 k3 k4 k5 k6 k7 k8 k9 j0 j1 j2 j3 j4 j5 j6 j7 j8 j9
            with_reducible refine (ready_c r A _ HR.out).mono ?_
            rintro e w30 ⟨rfl, hb⟩
            replace HB := Lib.hid (HB.out.trans (hb.mono HB.out.size))
            replace HX := Lib.hid (HX.out.below hb)
            replace HR := Lib.hid (HR.out.below hb)
            replace HXX := Lib.hid (HXX.out.below hb)
            replace HRX := Lib.hid (HRX.out.below hb)
            clear hb
            rw [HRD.out]
            obtain ⟨k0, k1, k2, k3, k4, k5, k6, k7, k8, k9⟩ := HX.out
            obtain ⟨j0, j1, j2, j3, j4, j5, j6, j7, j8, j9⟩ := HXX.out
            go_wp2_with fail
            clear k0 k1 k2 k3 k4 k5 k6 k7 k8 k9 j0 j1 j2 j3 j4 j5 j6 j7 j8 j9
            with_reducible refine (ready_c ((addR r g)) ⟨A.sa, A.sc, A.ma, A.mc, A.ua, A.uc, a8, c8⟩ _ HRX.out).mono ?_
            rintro e w31 ⟨rfl, hb⟩
            replace HB := Lib.hid (HB.out.trans (hb.mono HB.out.size))
            replace HX := Lib.hid (HX.out.below hb)
            replace HR := Lib.hid (HR.out.below hb)
            replace HXX := Lib.hid (HXX.out.below hb)
            replace HRX := Lib.hid (HRX.out.below hb)
            clear hb
            rw [HRD2.out]
            obtain ⟨k0, k1, k2, k3, k4, k5, k6, k7, k8, k9⟩ := HX.out
            obtain ⟨j0, j1, j2, j3, j4, j5, j6, j7, j8, j9⟩ := HXX.out
            go_wp2_with fail
            clear k0 k1 k2 k3 k4 k5 k6 k7 k8 k9 j0 j1 j2 j3 j4 j5 j6 j7 j8 j9
            with_reducible refine (River_c r A _ HR.out HL.out.1 HL.out.2.1 HL.out.2.2.1 HL.out.2.2.2).mono ?_
            rintro e w32 ⟨A1, rfl, hr1, -, hb⟩
            replace HB := Lib.hid (HB.out.trans (hb.mono HB.out.size))
            replace HX := Lib.hid (HX.out.below hb)
            replace HR := Lib.hid (HR.out.below hb)
            replace HXX := Lib.hid (HXX.out.below hb)
            replace HRX := Lib.hid (HRX.out.below hb)
            clear hb
            have HR1 := Lib.hid hr1
            clear hr1
            obtain ⟨k0, k1, k2, k3, k4, k5, k6, k7, k8, k9⟩ := HX.out
            obtain ⟨j0, j1, j2, j3, j4, j5, j6, j7, j8, j9⟩ := HXX.out
            go_wp2_with fail
            clear k0 k1 k2 k3 k4 k5 k6 k7 k8 k9 j0 j1 j2 j3 j4 j5 j6 j7 j8 j9
            with_reducible refine (Leave_c r A1 _ HR1.out HL.out.1 HL.out.2.1 HL.out.2.2.1 HL.out.2.2.2).mono ?_
            rintro e w33 ⟨sa, sc, rfl, hsl, hb⟩
            replace HB := Lib.hid (HB.out.trans (hb.mono HB.out.size))
            replace HX := Lib.hid (HX.out.below hb)
            replace HR := Lib.hid (HR.out.below hb)
            replace HXX := Lib.hid (HXX.out.below hb)
            replace HRX := Lib.hid (HRX.out.below hb)
            replace HR1 := Lib.hid (HR1.out.below hb)
            clear hb
            rw [HLA.out] at hsl ⊢
            clear hsl
            obtain ⟨k0, k1, k2, k3, k4, k5, k6, k7, k8, k9⟩ := HX.out
            obtain ⟨j0, j1, j2, j3, j4, j5, j6, j7, j8, j9⟩ := HXX.out
            go_wp2_with fail
            clear k0 k1 k2 k3 k4 k5 k6 k7 k8 k9 j0 j1 j2 j3 j4 j5 j6 j7 j8 j9
            with_reducible refine (River_c (addR r g) ⟨A.sa, A.sc, A.ma, A.mc, A.ua, A.uc, a8, c8⟩ _ HRX.out HLX.out.1 HLX.out.2.1 HLX.out.2.2.1 HLX.out.2.2.2).mono ?_
            rintro e w34 ⟨A2, rfl, hr1, -, hb⟩
            replace HB := Lib.hid (HB.out.trans (hb.mono HB.out.size))
            replace HX := Lib.hid (HX.out.below hb)
            replace HR := Lib.hid (HR.out.below hb)
            replace HXX := Lib.hid (HXX.out.below hb)
            replace HRX := Lib.hid (HRX.out.below hb)
            replace HR1 := Lib.hid (HR1.out.below hb)
            clear hb
            have HR2 := Lib.hid hr1
            clear hr1
            obtain ⟨k0, k1, k2, k3, k4, k5, k6, k7, k8, k9⟩ := HX.out
            obtain ⟨j0, j1, j2, j3, j4, j5, j6, j7, j8, j9⟩ := HXX.out
            go_wp2_with fail
            clear k0 k1 k2 k3 k4 k5 k6 k7 k8 k9 j0 j1 j2 j3 j4 j5 j6 j7 j8 j9
            with_reducible refine (Leave_c ((addR r g)) A2 _ HR2.out HLX.out.1 HLX.out.2.1 HLX.out.2.2.1 HLX.out.2.2.2).mono ?_
            rintro e w35 ⟨sb, sd, rfl, hsl, hb⟩
            replace HB := Lib.hid (HB.out.trans (hb.mono HB.out.size))
            replace HX := Lib.hid (HX.out.below hb)
            replace HR := Lib.hid (HR.out.below hb)
            replace HXX := Lib.hid (HXX.out.below hb)
            replace HRX := Lib.hid (HRX.out.below hb)
            replace HR1 := Lib.hid (HR1.out.below hb)
            replace HR2 := Lib.hid (HR2.out.below hb)
            clear hb
            rw [HLB.out] at hsl ⊢
            clear hsl
            have hle1 := HLE.out.1
            have hle2 := HLE.out.2
            have hpos := HPO.out
            have hn1 : ¬ LX.length < LR.length := by omega
            have hn2 : ¬ LR.length + 1 < LX.length := by omega
            have hn3 : ¬ ((LR.length : Int) + 1 < (LX.length : Int)) := by omega
            have hw1 : IntKind.i64.wrap ((LR.length : Int) + 1) = (LR.length : Int) + 1 := IntWalk.i64_in _ (by have := HLS.out; omega)
            have hls := HLS.out
            obtain ⟨k0, k1, k2, k3, k4, k5, k6, k7, k8, k9⟩ := HX.out
            obtain ⟨j0, j1, j2, j3, j4, j5, j6, j7, j8, j9⟩ := HXX.out
            go_wp2_with fail
            clear k0 k1 k2 k3 k4 k5 k6 k7 k8 k9 j0 j1 j2 j3 j4 j5 j6 j7 j8 j9
            clear hn1 hn2 hn3 hw1 hpos
            have hl0 := HOK.out.l0
            have hl5 := HOK.out.l5
            have hlw : IntKind.i64.wrap (r.last + 1) = r.last + 1 := IntWalk.i64_in _ (by omega)
            have hlz : (r.last + 1 == 0) = false := by rw [beq_eq_false_iff_ne]; omega
            have hlz2 : ¬ r.last + 1 = 0 := by omega
            have he1 := HE1.out
            have he2 := HE2.out
            have hdw : IntKind.i64.wrap (d : Int) = (d : Int) := IntWalk.i64_in _ (by omega)
            have hwb : IntKind.i64.wrap (b : Int) = (b : Int) := IntWalk.i64_in _ (by omega)
            refine region_o (S := BoxR w.heap.size r A) (.take 0 (.take 1 (.take 2 (.take 4 (.take 5 (.take 6 (.take 7 (.take 8 (.take 9 (.one 3 (.take 10 (.take 11 .nil)))))))))))) (by kernel_rfl) (by kernel_rfl) (fun _ _ d _ _ h => by cases d <;> exact h) (HX.out.below (Below.refl _ _).drew) ?_
            intro W0 hW0 hS0
            have hBW : Below w35.heap.size w35 W0 := by subst hW0; exact (Below.refl _ _).drew
            clear hW0
            repeat (first
              | (refine ord_skip rfl ?_ ?_; rfl; simp only [List.getElem_toArray, List.getElem_cons_zero, List.getElem_cons_succ, Act.put, List.setIfInBounds_toArray, List.set_cons_zero, List.set_cons_succ])
              | (refine ord_take (v := ?_) rfl ?_ (fun W hW => ?_) ?_; rotate_left; rfl; (obtain ⟨k0, k1, k2, k3, k4, k5, k6, k7, k8, k9⟩ := hW; go_simp; (first | done | with_reducible rfl)); simp only [List.getElem_toArray, List.getElem_cons_zero, List.getElem_cons_succ, Act.put, List.setIfInBounds_toArray, List.set_cons_zero, List.set_cons_succ]))
            (refine ord_op rfl ?_ (fun K hK => ?_); rfl; go_simp; (with_reducible refine (Planned_c r A b _ HOK.out.l0 HOK.out.l5 hbb).mono ?_); rintro e W1 ⟨v, rfl, hown, hb⟩; have hS1 := BoxR.below hS0 hb; replace hBW := hBW.trans (hb.mono hBW.size); rw [HPL.out] at hown; obtain ⟨pa, pc, rfl, -, hs⟩ := own_Sl hown; have HSP := Lib.hid hs; clear hown hs; clear hb; refine hK _ _ hS1 ?_; clear hK K; try simp only [List.getElem_toArray, List.getElem_cons_zero, List.getElem_cons_succ, Act.put, List.setIfInBounds_toArray, List.set_cons_zero, List.set_cons_succ])
            repeat (first
              | (refine ord_skip rfl ?_ ?_; rfl; simp only [List.getElem_toArray, List.getElem_cons_zero, List.getElem_cons_succ, Act.put, List.setIfInBounds_toArray, List.set_cons_zero, List.set_cons_succ])
              | (refine ord_take (v := ?_) rfl ?_ (fun W hW => ?_) ?_; rotate_left; rfl; (obtain ⟨k0, k1, k2, k3, k4, k5, k6, k7, k8, k9⟩ := hW; go_simp; (first | done | with_reducible rfl)); simp only [List.getElem_toArray, List.getElem_cons_zero, List.getElem_cons_succ, Act.put, List.setIfInBounds_toArray, List.set_cons_zero, List.set_cons_succ]))
            refine ord_nil ?_
            replace HB := Lib.hid (HB.out.trans (hBW.mono HB.out.size))
            replace HX := Lib.hid (HX.out.below hBW)
            replace HR := Lib.hid (HR.out.below hBW)
            replace HXX := Lib.hid (HXX.out.below hBW)
            replace HRX := Lib.hid (HRX.out.below hBW)
            replace HR1 := Lib.hid (HR1.out.below hBW)
            replace HR2 := Lib.hid (HR2.out.below hBW)
            clear hBW
            clear hlw hlz hlz2 he1 he2 hdw hwb
            obtain ⟨k0, k1, k2, k3, k4, k5, k6, k7, k8, k9⟩ := HX.out
            obtain ⟨j0, j1, j2, j3, j4, j5, j6, j7, j8, j9⟩ := HXX.out
            go_wp2_with fail
            clear k0 k1 k2 k3 k4 k5 k6 k7 k8 k9 j0 j1 j2 j3 j4 j5 j6 j7 j8 j9
            with_reducible refine (River_c r A _ HR.out HL.out.1 HL.out.2.1 HL.out.2.2.1 HL.out.2.2.2).mono ?_
            rintro e w36 ⟨A3, rfl, hr1, -, hb⟩
            replace HB := Lib.hid (HB.out.trans (hb.mono HB.out.size))
            replace HX := Lib.hid (HX.out.below hb)
            replace HR := Lib.hid (HR.out.below hb)
            replace HXX := Lib.hid (HXX.out.below hb)
            replace HRX := Lib.hid (HRX.out.below hb)
            replace HR1 := Lib.hid (HR1.out.below hb)
            replace HR2 := Lib.hid (HR2.out.below hb)
            replace HSP := Lib.hid (HSP.out.below hb)
            clear hb
            have HR3 := Lib.hid hr1
            clear hr1
            obtain ⟨k0, k1, k2, k3, k4, k5, k6, k7, k8, k9⟩ := HX.out
            obtain ⟨j0, j1, j2, j3, j4, j5, j6, j7, j8, j9⟩ := HXX.out
            go_wp2_with fail
            clear k0 k1 k2 k3 k4 k5 k6 k7 k8 k9 j0 j1 j2 j3 j4 j5 j6 j7 j8 j9
            with_reducible refine (list_c pa PL pc _ HSP.out (by omega)).mono ?_
            rintro e w37 ⟨v, rfl, hown, hb⟩
            replace HB := Lib.hid (HB.out.trans (hb.mono HB.out.size))
            replace HX := Lib.hid (HX.out.below hb)
            replace HR := Lib.hid (HR.out.below hb)
            replace HXX := Lib.hid (HXX.out.below hb)
            replace HRX := Lib.hid (HRX.out.below hb)
            replace HR1 := Lib.hid (HR1.out.below hb)
            replace HR2 := Lib.hid (HR2.out.below hb)
            replace HSP := Lib.hid (HSP.out.below hb)
            replace HR3 := Lib.hid (HR3.out.below hb)
            clear hb
            obtain ⟨s3, cs3, rfl, -, hs2⟩ := own_Sl hown
            clear hown
            have HS3 := Lib.hid hs2
            clear hs2
            obtain ⟨k0, k1, k2, k3, k4, k5, k6, k7, k8, k9⟩ := HX.out
            obtain ⟨j0, j1, j2, j3, j4, j5, j6, j7, j8, j9⟩ := HXX.out
            go_wp2_with fail
            clear k0 k1 k2 k3 k4 k5 k6 k7 k8 k9 j0 j1 j2 j3 j4 j5 j6 j7 j8 j9
            with_reducible refine (Tank_ok_c (r) A3 s3 PL cs3 _ HR3.out HL.out HS3.out (by omega) HAR.out).mono ?_
            rintro e w38 ⟨taa, tac, rfl, hra, hb⟩
            replace HB := Lib.hid (HB.out.trans (hb.mono HB.out.size))
            replace HX := Lib.hid (HX.out.below hb)
            replace HR := Lib.hid (HR.out.below hb)
            replace HXX := Lib.hid (HXX.out.below hb)
            replace HRX := Lib.hid (HRX.out.below hb)
            replace HR1 := Lib.hid (HR1.out.below hb)
            replace HR2 := Lib.hid (HR2.out.below hb)
            replace HSP := Lib.hid (HSP.out.below hb)
            replace HR3 := Lib.hid (HR3.out.below hb)
            replace HS3 := Lib.hid (HS3.out.below hb)
            clear hb
            have Hta := Lib.hid hra
            clear hra
            obtain ⟨k0, k1, k2, k3, k4, k5, k6, k7, k8, k9⟩ := HX.out
            obtain ⟨j0, j1, j2, j3, j4, j5, j6, j7, j8, j9⟩ := HXX.out
            go_wp2_with fail
            clear k0 k1 k2 k3 k4 k5 k6 k7 k8 k9 j0 j1 j2 j3 j4 j5 j6 j7 j8 j9
            with_reducible refine (River_c (addR r g) ⟨A.sa, A.sc, A.ma, A.mc, A.ua, A.uc, a8, c8⟩ _ HRX.out HLX.out.1 HLX.out.2.1 HLX.out.2.2.1 HLX.out.2.2.2).mono ?_
            rintro e w39 ⟨A4, rfl, hr1, -, hb⟩
            replace HB := Lib.hid (HB.out.trans (hb.mono HB.out.size))
            replace HX := Lib.hid (HX.out.below hb)
            replace HR := Lib.hid (HR.out.below hb)
            replace HXX := Lib.hid (HXX.out.below hb)
            replace HRX := Lib.hid (HRX.out.below hb)
            replace HR1 := Lib.hid (HR1.out.below hb)
            replace HR2 := Lib.hid (HR2.out.below hb)
            replace HSP := Lib.hid (HSP.out.below hb)
            replace HR3 := Lib.hid (HR3.out.below hb)
            replace HS3 := Lib.hid (HS3.out.below hb)
            replace Hta := Lib.hid (Hta.out.below hb)
            clear hb
            have HR4 := Lib.hid hr1
            clear hr1
            obtain ⟨k0, k1, k2, k3, k4, k5, k6, k7, k8, k9⟩ := HX.out
            obtain ⟨j0, j1, j2, j3, j4, j5, j6, j7, j8, j9⟩ := HXX.out
            go_wp2_with fail
            clear k0 k1 k2 k3 k4 k5 k6 k7 k8 k9 j0 j1 j2 j3 j4 j5 j6 j7 j8 j9
            with_reducible refine (list_c pa PL pc _ HSP.out (by omega)).mono ?_
            rintro e w40 ⟨v, rfl, hown, hb⟩
            replace HB := Lib.hid (HB.out.trans (hb.mono HB.out.size))
            replace HX := Lib.hid (HX.out.below hb)
            replace HR := Lib.hid (HR.out.below hb)
            replace HXX := Lib.hid (HXX.out.below hb)
            replace HRX := Lib.hid (HRX.out.below hb)
            replace HR1 := Lib.hid (HR1.out.below hb)
            replace HR2 := Lib.hid (HR2.out.below hb)
            replace HSP := Lib.hid (HSP.out.below hb)
            replace HR3 := Lib.hid (HR3.out.below hb)
            replace HS3 := Lib.hid (HS3.out.below hb)
            replace Hta := Lib.hid (Hta.out.below hb)
            replace HR4 := Lib.hid (HR4.out.below hb)
            clear hb
            obtain ⟨s4, cs4, rfl, -, hs2⟩ := own_Sl hown
            clear hown
            have HS4 := Lib.hid hs2
            clear hs2
            obtain ⟨k0, k1, k2, k3, k4, k5, k6, k7, k8, k9⟩ := HX.out
            obtain ⟨j0, j1, j2, j3, j4, j5, j6, j7, j8, j9⟩ := HXX.out
            go_wp2_with fail
            clear k0 k1 k2 k3 k4 k5 k6 k7 k8 k9 j0 j1 j2 j3 j4 j5 j6 j7 j8 j9
            with_reducible refine (Tank_ok_c ((addR r g)) A4 s4 PL cs4 _ HR4.out HLX.out HS4.out (by omega) HAX.out).mono ?_
            rintro e w41 ⟨tba, tbc, rfl, hra, hb⟩
            replace HB := Lib.hid (HB.out.trans (hb.mono HB.out.size))
            replace HX := Lib.hid (HX.out.below hb)
            replace HR := Lib.hid (HR.out.below hb)
            replace HXX := Lib.hid (HXX.out.below hb)
            replace HRX := Lib.hid (HRX.out.below hb)
            replace HR1 := Lib.hid (HR1.out.below hb)
            replace HR2 := Lib.hid (HR2.out.below hb)
            replace HSP := Lib.hid (HSP.out.below hb)
            replace HR3 := Lib.hid (HR3.out.below hb)
            replace HS3 := Lib.hid (HS3.out.below hb)
            replace Hta := Lib.hid (Hta.out.below hb)
            replace HR4 := Lib.hid (HR4.out.below hb)
            replace HS4 := Lib.hid (HS4.out.below hb)
            clear hb
            have Htb := Lib.hid hra
            clear hra
            obtain ⟨k0, k1, k2, k3, k4, k5, k6, k7, k8, k9⟩ := HX.out
            obtain ⟨j0, j1, j2, j3, j4, j5, j6, j7, j8, j9⟩ := HXX.out
            go_wp2_with fail
            clear k0 k1 k2 k3 k4 k5 k6 k7 k8 k9 j0 j1 j2 j3 j4 j5 j6 j7 j8 j9
            with_reducible refine (River_c r A _ HR.out HL.out.1 HL.out.2.1 HL.out.2.2.1 HL.out.2.2.2).mono ?_
            rintro e w42 ⟨A5, rfl, hr1, -, hb⟩
            replace HB := Lib.hid (HB.out.trans (hb.mono HB.out.size))
            replace HX := Lib.hid (HX.out.below hb)
            replace HR := Lib.hid (HR.out.below hb)
            replace HXX := Lib.hid (HXX.out.below hb)
            replace HRX := Lib.hid (HRX.out.below hb)
            replace HR1 := Lib.hid (HR1.out.below hb)
            replace HR2 := Lib.hid (HR2.out.below hb)
            replace HSP := Lib.hid (HSP.out.below hb)
            replace HR3 := Lib.hid (HR3.out.below hb)
            replace HS3 := Lib.hid (HS3.out.below hb)
            replace Hta := Lib.hid (Hta.out.below hb)
            replace HR4 := Lib.hid (HR4.out.below hb)
            replace HS4 := Lib.hid (HS4.out.below hb)
            replace Htb := Lib.hid (Htb.out.below hb)
            clear hb
            have HR5 := Lib.hid hr1
            clear hr1
            obtain ⟨k0, k1, k2, k3, k4, k5, k6, k7, k8, k9⟩ := HX.out
            obtain ⟨j0, j1, j2, j3, j4, j5, j6, j7, j8, j9⟩ := HXX.out
            go_wp2_with fail
            clear k0 k1 k2 k3 k4 k5 k6 k7 k8 k9 j0 j1 j2 j3 j4 j5 j6 j7 j8 j9
            with_reducible refine (Good_c r A5 (D : Int) _ HR5.out HL.out.1 HL.out.2.1 HL.out.2.2.1 HL.out.2.2.2).mono ?_
            rintro e w43 ⟨rfl, hb⟩
            replace HB := Lib.hid (HB.out.trans (hb.mono HB.out.size))
            replace HX := Lib.hid (HX.out.below hb)
            replace HR := Lib.hid (HR.out.below hb)
            replace HXX := Lib.hid (HXX.out.below hb)
            replace HRX := Lib.hid (HRX.out.below hb)
            replace HR1 := Lib.hid (HR1.out.below hb)
            replace HR2 := Lib.hid (HR2.out.below hb)
            replace HSP := Lib.hid (HSP.out.below hb)
            replace HR3 := Lib.hid (HR3.out.below hb)
            replace HS3 := Lib.hid (HS3.out.below hb)
            replace Hta := Lib.hid (Hta.out.below hb)
            replace HR4 := Lib.hid (HR4.out.below hb)
            replace HS4 := Lib.hid (HS4.out.below hb)
            replace Htb := Lib.hid (Htb.out.below hb)
            replace HR5 := Lib.hid (HR5.out.below hb)
            clear hb
            rw [HG1.out]
            obtain ⟨k0, k1, k2, k3, k4, k5, k6, k7, k8, k9⟩ := HX.out
            obtain ⟨j0, j1, j2, j3, j4, j5, j6, j7, j8, j9⟩ := HXX.out
            go_wp2_with fail
            clear k0 k1 k2 k3 k4 k5 k6 k7 k8 k9 j0 j1 j2 j3 j4 j5 j6 j7 j8 j9
            with_reducible refine (River_c (addR r g) ⟨A.sa, A.sc, A.ma, A.mc, A.ua, A.uc, a8, c8⟩ _ HRX.out HLX.out.1 HLX.out.2.1 HLX.out.2.2.1 HLX.out.2.2.2).mono ?_
            rintro e w44 ⟨A6, rfl, hr1, -, hb⟩
            replace HB := Lib.hid (HB.out.trans (hb.mono HB.out.size))
            replace HX := Lib.hid (HX.out.below hb)
            replace HR := Lib.hid (HR.out.below hb)
            replace HXX := Lib.hid (HXX.out.below hb)
            replace HRX := Lib.hid (HRX.out.below hb)
            replace HR1 := Lib.hid (HR1.out.below hb)
            replace HR2 := Lib.hid (HR2.out.below hb)
            replace HSP := Lib.hid (HSP.out.below hb)
            replace HR3 := Lib.hid (HR3.out.below hb)
            replace HS3 := Lib.hid (HS3.out.below hb)
            replace Hta := Lib.hid (Hta.out.below hb)
            replace HR4 := Lib.hid (HR4.out.below hb)
            replace HS4 := Lib.hid (HS4.out.below hb)
            replace Htb := Lib.hid (Htb.out.below hb)
            replace HR5 := Lib.hid (HR5.out.below hb)
            clear hb
            have HR6 := Lib.hid hr1
            clear hr1
            obtain ⟨k0, k1, k2, k3, k4, k5, k6, k7, k8, k9⟩ := HX.out
            obtain ⟨j0, j1, j2, j3, j4, j5, j6, j7, j8, j9⟩ := HXX.out
            go_wp2_with fail
            clear k0 k1 k2 k3 k4 k5 k6 k7 k8 k9 j0 j1 j2 j3 j4 j5 j6 j7 j8 j9
            with_reducible refine (Good_c ((addR r g)) A6 (D : Int) _ HR6.out HLX.out.1 HLX.out.2.1 HLX.out.2.2.1 HLX.out.2.2.2).mono ?_
            rintro e w45 ⟨rfl, hb⟩
            replace HB := Lib.hid (HB.out.trans (hb.mono HB.out.size))
            replace HX := Lib.hid (HX.out.below hb)
            replace HR := Lib.hid (HR.out.below hb)
            replace HXX := Lib.hid (HXX.out.below hb)
            replace HRX := Lib.hid (HRX.out.below hb)
            replace HR1 := Lib.hid (HR1.out.below hb)
            replace HR2 := Lib.hid (HR2.out.below hb)
            replace HSP := Lib.hid (HSP.out.below hb)
            replace HR3 := Lib.hid (HR3.out.below hb)
            replace HS3 := Lib.hid (HS3.out.below hb)
            replace Hta := Lib.hid (Hta.out.below hb)
            replace HR4 := Lib.hid (HR4.out.below hb)
            replace HS4 := Lib.hid (HS4.out.below hb)
            replace Htb := Lib.hid (Htb.out.below hb)
            replace HR5 := Lib.hid (HR5.out.below hb)
            replace HR6 := Lib.hid (HR6.out.below hb)
            clear hb
            rw [HG2.out]
            obtain ⟨k0, k1, k2, k3, k4, k5, k6, k7, k8, k9⟩ := HX.out
            obtain ⟨j0, j1, j2, j3, j4, j5, j6, j7, j8, j9⟩ := HXX.out
            go_wp2_with fail
            clear k0 k1 k2 k3 k4 k5 k6 k7 k8 k9 j0 j1 j2 j3 j4 j5 j6 j7 j8 j9
            with_reducible refine (inside2_c tba taa (tanksL ((addR r g)) PL) (tanksL r PL) tbc tac ((addR r g)).use.length r.use.length _ Htb.out Hta.out HTN1.out HTN2.out HTN3.out HTN4.out HIN.out).mono ?_
            rintro e w46 ⟨rfl, hb⟩
            replace HB := Lib.hid (HB.out.trans (hb.mono HB.out.size))
            replace HX := Lib.hid (HX.out.below hb)
            replace HR := Lib.hid (HR.out.below hb)
            replace HXX := Lib.hid (HXX.out.below hb)
            replace HRX := Lib.hid (HRX.out.below hb)
            replace HR1 := Lib.hid (HR1.out.below hb)
            replace HR2 := Lib.hid (HR2.out.below hb)
            replace HSP := Lib.hid (HSP.out.below hb)
            replace HR3 := Lib.hid (HR3.out.below hb)
            replace HS3 := Lib.hid (HS3.out.below hb)
            replace Hta := Lib.hid (Hta.out.below hb)
            replace HR4 := Lib.hid (HR4.out.below hb)
            replace HS4 := Lib.hid (HS4.out.below hb)
            replace Htb := Lib.hid (Htb.out.below hb)
            replace HR5 := Lib.hid (HR5.out.below hb)
            replace HR6 := Lib.hid (HR6.out.below hb)
            clear hb
            rw [← HV3.out]
            have hvv := HVV.out
            obtain ⟨k0, k1, k2, k3, k4, k5, k6, k7, k8, k9⟩ := HX.out
            obtain ⟨j0, j1, j2, j3, j4, j5, j6, j7, j8, j9⟩ := HXX.out
            go_wp2_with fail
            clear k0 k1 k2 k3 k4 k5 k6 k7 k8 k9 j0 j1 j2 j3 j4 j5 j6 j7 j8 j9
            with_reducible refine (fewer_c r A ((addR r g)) ⟨A.sa, A.sc, A.ma, A.mc, A.ua, A.uc, a8, c8⟩ pa PL pc _ HR.out HRX.out HL.out HLX.out HSP.out (by omega) HFO.out.1 HFO.out.2).mono ?_
            rintro e w47 ⟨rfl, hb⟩
            replace HB := Lib.hid (HB.out.trans (hb.mono HB.out.size))
            replace HX := Lib.hid (HX.out.below hb)
            replace HR := Lib.hid (HR.out.below hb)
            replace HXX := Lib.hid (HXX.out.below hb)
            replace HRX := Lib.hid (HRX.out.below hb)
            replace HR1 := Lib.hid (HR1.out.below hb)
            replace HR2 := Lib.hid (HR2.out.below hb)
            replace HSP := Lib.hid (HSP.out.below hb)
            replace HR3 := Lib.hid (HR3.out.below hb)
            replace HS3 := Lib.hid (HS3.out.below hb)
            replace Hta := Lib.hid (Hta.out.below hb)
            replace HR4 := Lib.hid (HR4.out.below hb)
            replace HS4 := Lib.hid (HS4.out.below hb)
            replace Htb := Lib.hid (Htb.out.below hb)
            replace HR5 := Lib.hid (HR5.out.below hb)
            replace HR6 := Lib.hid (HR6.out.below hb)
            clear hb
            obtain ⟨k0, k1, k2, k3, k4, k5, k6, k7, k8, k9⟩ := HX.out
            obtain ⟨j0, j1, j2, j3, j4, j5, j6, j7, j8, j9⟩ := HXX.out
            go_wp2_with fail
            clear k0 k1 k2 k3 k4 k5 k6 k7 k8 k9 j0 j1 j2 j3 j4 j5 j6 j7 j8 j9
            with_reducible refine (awake_c _).mono ?_
            rintro e wz ⟨rfl, hbz⟩
            go_wp2_with fail
            go_ret
            exact ⟨rfl, HB.out.trans (hbz.mono HB.out.size)⟩
end Go.Proofs.Ytgglfngkomgadaa
