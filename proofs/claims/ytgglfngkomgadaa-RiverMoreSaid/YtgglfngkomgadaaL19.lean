/- Walks of the laws: RiverMore. -/
import Derived.Test.YtgglfngkomgadaaL0
import Derived.Test.YtgglfngkomgadaaM7
import Derived.Test.YtgglfngkomgadaaH8
namespace Go.Proofs.Ytgglfngkomgadaa
open Go.RowKit Go.Shelf
set_option linter.unusedVariables false
set_option linter.unusedSimpArgs false
set_option maxRecDepth 100000

theorem box_blk {W : World} {q : Nat} {r : Riv} {A : RA} (h : W.heap[q]? = some (.cells #[.int .i64 r.last, .slice A.sa r.salt.length A.sc, .slice A.ma r.mud.length A.mc, .int .i64 r.sweet, .int .i64 r.clear, .int .i64 r.size, .int .i64 r.start, .int .i64 r.draw, .slice A.ua r.use.length A.uc, .slice A.ga r.gauges.length A.gc] 26 (0, 0))) : BoxR q r A W :=
  ⟨by rw [cell_blk h]; rfl, by rw [cell_blk h]; rfl, by rw [cell_blk h]; rfl, by rw [cell_blk h]; rfl, by rw [cell_blk h]; rfl, by rw [cell_blk h]; rfl, by rw [cell_blk h]; rfl, by rw [cell_blk h]; rfl, by rw [cell_blk h]; rfl, by rw [cell_blk h]; rfl⟩
theorem heap_other {W : World} {p : Addr} {v : Value} {b : Nat} {o : Obj} (h : W.heap[b]? = some o) (hn : b ≠ p.block) : (W.setCell p v).heap[b]? = some o := (Below.heap_setCell _ _ _ _ hn).trans h

/-- Both boxes. -/
structure BbS (q q' : Nat) (r : Riv) (A : RA) (x : Riv) (A' : RA) (W : World) : Prop where
  bx : BoxR q r A W
  by' : BoxR q' x A' W
theorem BbS.below {q q' : Nat} {r : Riv} {A : RA} {x : Riv} {A' : RA} {W W' : World} (h : BbS q q' r A x A' W) (hb : Below W.heap.size W W') : BbS q q' r A x A' W' := ⟨h.bx.below hb, h.by'.below hb⟩
/-- What the store of Use reads. -/
structure UsM (q xb ub uo : Nat) (r : Riv) (A : RA) (us us' : Value) (u : Int) (W : World) : Prop where
  bx : BoxR q r A W
  k8 : W.cell? ⟨q, 8, none⟩ = some us
  x8 : W.cell? ⟨xb, 8, none⟩ = some us'
  c0 : W.cell? ⟨ub, uo, none⟩ = some (.int .i64 u)
theorem UsM.wr {q xb ub uo : Nat} {r : Riv} {A : RA} {us us' : Value} {u : Int} {W W' : World} {C : Nat → Prop} (h : UsM q xb ub uo r A us us' u W) (hw : Wr C W W') (h1 : ¬ C q) (h2 : ¬ C xb) (h3 : ¬ C ub) : UsM q xb ub uo r A us us' u W' :=
  ⟨h.bx.wr hw h1, hw.cell h1 h.k8, hw.cell h2 h.x8, hw.cell h3 h.c0⟩
theorem UsM.below {q xb ub uo : Nat} {r : Riv} {A : RA} {us us' : Value} {u : Int} {W W' : World} (h : UsM q xb ub uo r A us us' u W) (hb : Below W.heap.size W W') : UsM q xb ub uo r A us us' u W' := h.wr (Wr.of_below (S := fun _ => False) hb) (fun e => e) (fun e => e) (fun e => e)
theorem own_fz {w : World} {base : Nat} {e : TypeId} {size : Nat} {a : Option Addr} {c n : Nat} {xs : List Value} (h : w.ownsRow base e size (.slice a n c) n xs) : ∀ ad, a = some ad → ∃ arr, w.heap[ad.block]? = some (.cells arr e (0, 0)) := by
  rcases h.2 with ⟨hv, _⟩ | ⟨g, cap, cur, hv, _, hb, _⟩
  · intro ad e; cases hv; cases e
  · intro ad e; cases hv; cases e; exact ⟨cur, hb⟩
theorem own_set {W : World} {b D : Nat} {o : Nat} {xs : List Int} {v : Int} (h : Sl W (some ⟨b, o, none⟩) (ints xs)) (hD : D < xs.length) : Sl (W.setCell ⟨b, o + D, none⟩ (.int .i64 v)) (some ⟨b, o, none⟩) (ints (xs.set D v)) := by
  refine .inr ⟨b, o, rfl, fun i u hu => ?_⟩
  unfold ints at hu
  rw [List.getElem?_map, List.getElem?_set] at hu
  by_cases e : D = i
  · subst e
    simp only [if_true] at hu
    rw [if_pos hD] at hu
    simp at hu
    subst hu
    obtain ⟨x, hx⟩ : ∃ x, xs[D]? = some x := ⟨_, List.getElem?_eq_getElem hD⟩
    obtain ⟨b', o', e2, hc⟩ := h.int_at hx
    cases e2
    first | exact World.cell?_setCell_same _ _ _ hc | exact World.cell?_setCell_same _ _ hc | exact World.cell?_setCell_same _ hc
  · rw [if_neg e] at hu
    have hne : (⟨b, o + D, none⟩ : Addr) ≠ ⟨b, o + i, none⟩ := by intro e2; injection e2 with _ e3 _; omega
    have hoth : (W.setCell ⟨b, o + D, none⟩ (.int .i64 v)).cell? ⟨b, o + i, none⟩ = W.cell? ⟨b, o + i, none⟩ := by first | exact World.cell?_setCell_other _ _ _ _ hne | exact World.cell?_setCell_other _ _ _ hne | exact World.cell?_setCell_other _ _ hne | exact World.cell?_setCell_other _ hne
    rw [hoth]
    obtain ⟨x, hx, rfl⟩ := Option.map_eq_some_iff.1 hu
    obtain ⟨b', o', e2, hc⟩ := h.int_at hx
    cases e2
    exact hc
theorem mod6 (a : Nat) : ((a : Int) % 6 = 0 ∧ (a : Int).tmod 6 = 0) ∨ ((a : Int) % 6 = 1 ∧ (a : Int).tmod 6 = 1) ∨ ((a : Int) % 6 = 2 ∧ (a : Int).tmod 6 = 2) ∨ ((a : Int) % 6 = 3 ∧ (a : Int).tmod 6 = 3) ∨ ((a : Int) % 6 = 4 ∧ (a : Int).tmod 6 = 4) ∨ ((a : Int) % 6 = 5 ∧ (a : Int).tmod 6 = 5) := by
  have : (a : Int).tmod 6 = (a : Int) % 6 := Int.tmod_eq_emod_of_nonneg (by omega)
  omega
theorem mod5 (a : Nat) : ∃ n : Nat, n ≤ 4 ∧ (a : Int) % 5 = n ∧ (a : Int).tmod 5 = n := by
  have : (a : Int).tmod 5 = (a : Int) % 5 := Int.tmod_eq_emod_of_nonneg (by omega)
  exact ⟨a % 5, by omega, by omega, by omega⟩
theorem div5 {r : Riv} (ok : Ok r) (a : Nat) : ∃ m D : Nat, (D : Int) ≤ r.last ∧ (a : Int) / 5 = m ∧ (a : Int).tdiv 5 = m ∧ (m : Int) % (r.last + 1) = D ∧ (m : Int).tmod (r.last + 1) = D ∧ m ≤ a := by
  have h0 := ok.l0
  have h1 : (a : Int).tdiv 5 = (a : Int) / 5 := Int.tdiv_eq_ediv_of_nonneg (by omega)
  have h2 := Int.emod_nonneg ((a / 5 : Nat) : Int) (show r.last + 1 ≠ 0 by omega)
  have h3 := Int.emod_lt_of_pos ((a / 5 : Nat) : Int) (show 0 < r.last + 1 by omega)
  have h4 : ((a / 5 : Nat) : Int).tmod (r.last + 1) = ((a / 5 : Nat) : Int) % (r.last + 1) := Int.tmod_eq_emod_of_nonneg (by omega)
  exact ⟨a / 5, (((a / 5 : Nat) : Int) % (r.last + 1)).toNat, by omega, by omega, by omega, by omega, by omega, by omega⟩

set_option maxHeartbeats 20000000 in
theorem law19_c (r : Riv) (A : RA) (wt yn b : Nat) (w : World) (hr : Rd w r A) (hw9 : wt < 256) (hy9 : yn < 256) (hbb : b < 256) :
    Calls Try.prog 19 #[rivV r A, .int .u8 wt, .int .u8 yn, .int .u8 b] w (RetB true w) := by
  have HB := Lib.hid (al_b w (rO26 r A))
  have HX := Lib.hid (box_new w r A)
  have HR := Lib.hid hr
  clear hr
  cases hrd : (thinB r && decide (r.faultI = 0))
  · have HRD := Lib.hid hrd
    clear hrd
    go_enter Try.func19, Try.ntmps19
    go_wp2_with fail
    obtain ⟨wq, hwq⟩ : ∃ wq, w.alloc (rO26 r A) = wq := ⟨_, rfl⟩
    rw [hwq] at HB HX ⊢
    clear hwq
    replace HR := Lib.hid (HR.out.below HB.out)
    with_reducible refine (ready_c r A _ HR.out).mono ?_
    rintro e w3 ⟨rfl, hb⟩
    replace HB := Lib.hid (HB.out.trans (hb.mono HB.out.size))
    replace HX := Lib.hid (HX.out.below hb)
    replace HR := Lib.hid (HR.out.below hb)
    clear hb
    rw [HRD.out]
    obtain ⟨k0, k1, k2, k3, k4, k5, k6, k7, k8, k9⟩ := HX.out
    go_wp2_with fail
    clear k0 k1 k2 k3 k4 k5 k6 k7 k8 k9
    with_reducible refine (awake_c _).mono ?_
    rintro e wz ⟨rfl, hbz⟩
    go_wp2_with fail
    go_ret
    exact ⟨rfl, HB.out.trans (hbz.mono HB.out.size)⟩
  · have HRD := Lib.hid hrd
    have hrd2 := Bool.and_eq_true_iff.1 hrd
    have HL := Lib.hid (thin_lens hrd2.1)
    have HZ := Lib.hid (of_decide_eq_true hrd2.2)
    have HOK := Lib.hid (ok_of_fault HZ.out).1
    obtain ⟨nt, hnt⟩ : ∃ n, (truthsR r).length = n := ⟨_, rfl⟩
    have HNT := Lib.hid hnt
    clear hrd hrd2
    by_cases hn0 : nt = 0
    · subst hn0
      clear hnt
      go_enter Try.func19, Try.ntmps19
      go_wp2_with fail
      obtain ⟨wq, hwq⟩ : ∃ wq, w.alloc (rO26 r A) = wq := ⟨_, rfl⟩
      rw [hwq] at HB HX ⊢
      clear hwq
      replace HR := Lib.hid (HR.out.below HB.out)
      with_reducible refine (ready_c r A _ HR.out).mono ?_
      rintro e w3 ⟨rfl, hb⟩
      replace HB := Lib.hid (HB.out.trans (hb.mono HB.out.size))
      replace HX := Lib.hid (HX.out.below hb)
      replace HR := Lib.hid (HR.out.below hb)
      clear hb
      rw [HRD.out]
      obtain ⟨k0, k1, k2, k3, k4, k5, k6, k7, k8, k9⟩ := HX.out
      go_wp2_with fail
      clear k0 k1 k2 k3 k4 k5 k6 k7 k8 k9
      with_reducible refine (Truths_c r A _ HOK.out HR.out).mono ?_
      rintro e w4 ⟨lt, ct, rfl, htl, hb⟩
      replace HB := Lib.hid (HB.out.trans (hb.mono HB.out.size))
      replace HX := Lib.hid (HX.out.below hb)
      replace HR := Lib.hid (HR.out.below hb)
      clear hb
      clear htl
      rw [HNT.out]
      obtain ⟨k0, k1, k2, k3, k4, k5, k6, k7, k8, k9⟩ := HX.out
      go_wp2_with fail
      clear k0 k1 k2 k3 k4 k5 k6 k7 k8 k9
      with_reducible refine (awake_c _).mono ?_
      rintro e wz ⟨rfl, hbz⟩
      go_wp2_with fail
      go_ret
      exact ⟨rfl, HB.out.trans (hbz.mono HB.out.size)⟩
    · have HN0 := Lib.hid (show ((nt : Int) == 0) = false from by rw [beq_eq_false_iff_ne]; omega)
      have HA1 := Lib.hid (show askR r true = 0 from by
        have h := askR_true HZ.out
        rw [h, if_neg]
        intro e
        rw [List.isEmpty_iff] at e
        rw [e] at hnt
        exact hn0 hnt.symm)
      clear hnt hn0
      obtain ⟨n, hn4, he1, he2⟩ := mod5 yn
      have HN1 := Lib.hid he1
      have HN2 := Lib.hid he2
      have hpm := planM_lt HOK.out b
      have HR0 := Lib.hid (show Rd w r A from HR.out)
      clear he1 he2
      rcases mod6 wt with ⟨hm1, hm2⟩ | ⟨hm1, hm2⟩ | ⟨hm1, hm2⟩ | ⟨hm1, hm2⟩ | ⟨hm1, hm2⟩ | ⟨hm1, hm2⟩
      · have HM1 := Lib.hid hm1
        have HM2 := Lib.hid hm2
        have HFO := Lib.hid (show FewerOk r { r with size := min 99 (r.size + (1 + (n : Int))) } (planL r b) from by rw [planL_eq]; exact more_size HZ.out HA1.out n hpm)
        have HLX := Lib.hid (show r.salt.length ≤ 30 ∧ r.mud.length ≤ 30 ∧ r.use.length ≤ 30 ∧ r.gauges.length ≤ 30 from HL.out)
        clear hm1 hm2
        go_enter Try.func19, Try.ntmps19
        go_wp2_with fail
        obtain ⟨wq, hwq⟩ : ∃ wq, w.alloc (rO26 r A) = wq := ⟨_, rfl⟩
        rw [hwq] at HB HX ⊢
        clear hwq
        replace HR := Lib.hid (HR.out.below HB.out)
        with_reducible refine (ready_c r A _ HR.out).mono ?_
        rintro e w3 ⟨rfl, hb⟩
        replace HB := Lib.hid (HB.out.trans (hb.mono HB.out.size))
        replace HX := Lib.hid (HX.out.below hb)
        replace HR := Lib.hid (HR.out.below hb)
        clear hb
        rw [HRD.out]
        obtain ⟨k0, k1, k2, k3, k4, k5, k6, k7, k8, k9⟩ := HX.out
        go_wp2_with fail
        clear k0 k1 k2 k3 k4 k5 k6 k7 k8 k9
        with_reducible refine (Truths_c r A _ HOK.out HR.out).mono ?_
        rintro e w4 ⟨lt, ct, rfl, htl, hb⟩
        replace HB := Lib.hid (HB.out.trans (hb.mono HB.out.size))
        replace HX := Lib.hid (HX.out.below hb)
        replace HR := Lib.hid (HR.out.below hb)
        clear hb
        clear htl
        rw [HNT.out]
        have hn0 := HN0.out
        obtain ⟨k0, k1, k2, k3, k4, k5, k6, k7, k8, k9⟩ := HX.out
        go_upto_region 4 with fail
        clear hn0 k0 k1 k2 k3 k4 k5 k6 k7 k8 k9
        obtain ⟨xb, hxb⟩ : ∃ n, n = w4.heap.size := ⟨_, rfl⟩
        obtain ⟨wx, hwx⟩ : ∃ Q, Q = w4.alloc (rO26 r A) := ⟨_, rfl⟩
        have hb : Below w4.heap.size w4 wx := by rw [hwx]; exact al_b _ _
        have hX1 : wx.heap[xb]? = some (.cells #[.int .i64 r.last, .slice A.sa r.salt.length A.sc, .slice A.ma r.mud.length A.mc, .int .i64 r.sweet, .int .i64 r.clear, .int .i64 r.size, .int .i64 r.start, .int .i64 r.draw, .slice A.ua r.use.length A.uc, .slice A.ga r.gauges.length A.gc] 26 (0, 0)) := by rw [hwx, hxb]; exact heap_alloc_new _ _
        have hqx : w.heap.size < xb := by rw [hxb]; exact cell_lt HX.out.k0
        have hwx0 : w.heap.size ≤ xb := by omega
        rw [← hwx, ← hxb]
        replace HB := Lib.hid (HB.out.trans (hb.mono HB.out.size))
        replace HX := Lib.hid (HX.out.below hb)
        replace HR := Lib.hid (HR.out.below hb)
        have HX1 := Lib.hid hX1
        clear hb hwx hxb hX1
        obtain ⟨k0, k1, k2, k3, k4, k5, k6, k7, k8, k9⟩ := HX.out
        go_wp2_with fail
        clear k0 k1 k2 k3 k4 k5 k6 k7 k8 k9
        with_reducible refine (list_c A.ua r.use A.uc _ HR.out.u (by have := HL.out.2.2.1; omega)).mono ?_
        rintro e w5 ⟨v, rfl, hown, hb⟩
        replace HB := Lib.hid (HB.out.trans (hb.mono HB.out.size))
        replace HX := Lib.hid (HX.out.below hb)
        replace HR := Lib.hid (HR.out.below hb)
        have hxl : xb < wx.heap.size := (Array.getElem?_eq_some_iff.1 HX1.out).1
        replace HX1 := Lib.hid ((hb.block _ hxl).trans HX1.out)
        obtain ⟨s1, c1, rfl, -, hs1⟩ := own_Sl hown
        have hsb : ∀ ad, s1 = some ad → ad.block ≠ xb := fun ad e => by subst e; have := (hown.lt ad.block rfl).1; omega
        have hsq : ∀ ad, s1 = some ad → w.heap.size < ad.block := fun ad e => by subst e; have := (hown.lt ad.block rfl).1; omega
        have HSB := Lib.hid hsb
        have HSQ := Lib.hid hsq
        have HFZ := Lib.hid (own_fz hown)
        clear hb hown hxl hsb hsq
        have HS1 := Lib.hid hs1
        clear hs1
        have cx8 := cell_blk (k := 8) HX1.out
        have fx := fun j => frozen_blk (k := j) HX1.out
        obtain ⟨k0, k1, k2, k3, k4, k5, k6, k7, k8, k9⟩ := HX.out
        have hm1 := HM1.out
        have hm2 := HM2.out
        have hn1 := HN1.out
        have hn2 := HN2.out
        have hz1 := HOK.out.sz
        have hz2 := HOK.out.st
        have hz3 := HOK.out.dr
        have hz4 := HOK.out.sw
        have hz5 := HOK.out.cl
        clear HFZ
        have hy1 := heap_set HX1.out (k := 8) (.slice s1 r.use.length c1)
        have cy := cell_blk (k := 5) hy1
        have fy := fun j => frozen_blk (k := j) hy1
        obtain ⟨wd, hwd⟩ : ∃ Q, Q = (w5.setCell ⟨xb, 8, none⟩ (.slice s1 r.use.length c1)).setCell ⟨xb, 5, none⟩ (.int .i64 (min 99 (r.size + (1 + (n : Int))))) := ⟨_, rfl⟩
        have hy2 := heap_set hy1 (k := 5) (.int .i64 (min 99 (r.size + (1 + (n : Int)))))
        rw [← hwd] at hy2
        have hwr : Wr (fun k => k = xb) w5 wd := by rw [hwd]; exact (Wr.setCell (fun k => k = xb) _ ⟨xb, 8, none⟩ _ rfl).trans (Wr.setCell (fun k => k = xb) _ ⟨xb, 5, none⟩ _ rfl)
        have HWD := Lib.hid hwd
        have HWR := Lib.hid hwr
        have HY2 := Lib.hid hy2
        clear hwd hwr hy2
        go_upto_region 19 with fail
        rw [← HWD.out]
        clear hm1 hm2 hn1 hn2 hz1 hz2 hz3 hz4 hz5 cx8 fx hy1 cy fy k0 k1 k2 k3 k4 k5 k6 k7 k8 k9
        have hb : Below w5.heap.size w5 wd → True := fun _ => trivial
        clear hb
        replace HB := Lib.hid (HB.out.trans (HWR.out.below HB.out.size (fun k e => by have : k = xb := e; omega)))
        replace HX := Lib.hid (HX.out.wr HWR.out (by omega))
        replace HR := Lib.hid (HR0.out.below HB.out)
        have HXX := Lib.hid (show BoxR xb { r with size := min 99 (r.size + (1 + (n : Int))) } ⟨A.sa, A.sc, A.ma, A.mc, s1, c1, A.ga, A.gc⟩ wd from box_blk (r := { r with size := min 99 (r.size + (1 + (n : Int))) }) (A := ⟨A.sa, A.sc, A.ma, A.mc, s1, c1, A.ga, A.gc⟩) HY2.out)
        have HRX := Lib.hid (show Rd wd { r with size := min 99 (r.size + (1 + (n : Int))) } ⟨A.sa, A.sc, A.ma, A.mc, s1, c1, A.ga, A.gc⟩ from ⟨HR.out.s, HR.out.m, HS1.out.wr HWR.out (fun ad e k => HSB.out ad e k), HR.out.g⟩)
        clear HS1 HSB HSQ
        have HSS := Lib.hid (show BbS w.heap.size xb r A { r with size := min 99 (r.size + (1 + (n : Int))) } ⟨A.sa, A.sc, A.ma, A.mc, s1, c1, A.ga, A.gc⟩ wd from ⟨HX.out, HXX.out⟩)
        have hpb : IntKind.i64.wrap (b : Int) = (b : Int) := IntWalk.i64_in _ (by omega)
        refine region_o (S := BbS w.heap.size xb r A { r with size := min 99 (r.size + (1 + (n : Int))) } ⟨A.sa, A.sc, A.ma, A.mc, s1, c1, A.ga, A.gc⟩) (.take 0 (.take 1 (.take 2 (.take 3 (.take 4 (.one 5 (.one 6 (.take 7 (.one 8 (.take 9 (.take 10 .nil))))))))))) (by kernel_rfl) (by kernel_rfl) (fun _ _ d _ _ h => by cases d <;> exact h) (HSS.out.below (Below.refl _ _).drew) ?_
        intro W0 hW0 hS0
        have hBW : Below wd.heap.size wd W0 := by subst hW0; exact (Below.refl _ _).drew
        clear hW0
        repeat (first
          | (refine ord_skip rfl ?_ ?_; rfl; simp only [List.getElem_toArray, List.getElem_cons_zero, List.getElem_cons_succ, Act.put, List.setIfInBounds_toArray, List.set_cons_zero, List.set_cons_succ])
          | (refine ord_take (v := ?_) rfl ?_ (fun W hW => ?_) ?_; rotate_left; rfl; (obtain ⟨⟨k0, k1, k2, k3, k4, k5, k6, k7, k8, k9⟩, ⟨j0, j1, j2, j3, j4, j5, j6, j7, j8, j9⟩⟩ := hW; go_simp; (first | done | with_reducible rfl)); simp only [List.getElem_toArray, List.getElem_cons_zero, List.getElem_cons_succ, Act.put, List.setIfInBounds_toArray, List.set_cons_zero, List.set_cons_succ]))
        (refine ord_op rfl ?_ (fun K hK => ?_); rfl; go_simp; (with_reducible refine (Planned_c r A b _ HOK.out.l0 HOK.out.l5 hbb).mono ?_); rintro e W1 ⟨v, rfl, hown, hb⟩; have hS1 := BbS.below hS0 hb; replace hBW := hBW.trans (hb.mono hBW.size); obtain ⟨pa, pc, rfl, -, hs⟩ := own_Sl hown; have HSP := Lib.hid hs; clear hown hs; clear hb; refine hK _ _ hS1 ?_; clear hK K; try simp only [List.getElem_toArray, List.getElem_cons_zero, List.getElem_cons_succ, Act.put, List.setIfInBounds_toArray, List.set_cons_zero, List.set_cons_succ])
        (refine ord_op rfl ?_ (fun K hK => ?_); rfl; go_simp; (with_reducible refine (fewer_c r A { r with size := min 99 (r.size + (1 + (n : Int))) } ⟨A.sa, A.sc, A.ma, A.mc, s1, c1, A.ga, A.gc⟩ pa (planL r b) pc _ (HR.out.below hBW) (HRX.out.below hBW) HL.out HLX.out HSP.out (by have := planL_len r b; omega) HFO.out.1 HFO.out.2).mono ?_); rintro e W2 ⟨rfl, hb⟩; have hS2 := BbS.below hS1 hb; replace hBW := hBW.trans (hb.mono hBW.size); clear hb; refine hK _ _ hS2 ?_; clear hK K; try simp only [List.getElem_toArray, List.getElem_cons_zero, List.getElem_cons_succ, Act.put, List.setIfInBounds_toArray, List.set_cons_zero, List.set_cons_succ])
        repeat (first
          | (refine ord_skip rfl ?_ ?_; rfl; simp only [List.getElem_toArray, List.getElem_cons_zero, List.getElem_cons_succ, Act.put, List.setIfInBounds_toArray, List.set_cons_zero, List.set_cons_succ])
          | (refine ord_take (v := ?_) rfl ?_ (fun W hW => ?_) ?_; rotate_left; rfl; (obtain ⟨⟨k0, k1, k2, k3, k4, k5, k6, k7, k8, k9⟩, ⟨j0, j1, j2, j3, j4, j5, j6, j7, j8, j9⟩⟩ := hW; go_simp; (first | done | with_reducible rfl)); simp only [List.getElem_toArray, List.getElem_cons_zero, List.getElem_cons_succ, Act.put, List.setIfInBounds_toArray, List.set_cons_zero, List.set_cons_succ]))
        first
          | (refine ord_pass rfl ?_ hS2 ?_; rfl; simp only [List.getElem_toArray, List.getElem_cons_zero, List.getElem_cons_succ, Act.put, List.setIfInBounds_toArray, List.set_cons_zero, List.set_cons_succ]; have W3 := W2; have hS3 := hS2)
          | (refine ord_op rfl ?_ (fun K hK => ?_); rfl; go_simp; (with_reducible refine (awake_c _).mono ?_); rintro e W3 ⟨rfl, hb⟩; have hS3 := BbS.below hS2 hb; replace hBW := hBW.trans (hb.mono hBW.size); clear hb; refine hK _ _ hS3 ?_; clear hK K; try simp only [List.getElem_toArray, List.getElem_cons_zero, List.getElem_cons_succ, Act.put, List.setIfInBounds_toArray, List.set_cons_zero, List.set_cons_succ])
        repeat (first
          | (refine ord_skip rfl ?_ ?_; rfl; simp only [List.getElem_toArray, List.getElem_cons_zero, List.getElem_cons_succ, Act.put, List.setIfInBounds_toArray, List.set_cons_zero, List.set_cons_succ])
          | (refine ord_take (v := ?_) rfl ?_ (fun W hW => ?_) ?_; rotate_left; rfl; (obtain ⟨⟨k0, k1, k2, k3, k4, k5, k6, k7, k8, k9⟩, ⟨j0, j1, j2, j3, j4, j5, j6, j7, j8, j9⟩⟩ := hW; go_simp; (first | done | with_reducible rfl)); simp only [List.getElem_toArray, List.getElem_cons_zero, List.getElem_cons_succ, Act.put, List.setIfInBounds_toArray, List.set_cons_zero, List.set_cons_succ]))
        refine ord_nil ?_
        replace HB := Lib.hid (HB.out.trans (hBW.mono HB.out.size))
        replace HX := Lib.hid (HX.out.below hBW)
        replace HR := Lib.hid (HR.out.below hBW)
        replace HXX := Lib.hid (HXX.out.below hBW)
        replace HRX := Lib.hid (HRX.out.below hBW)
        clear hBW
        go_wp2_with fail
        go_ret
        exact ⟨rfl, HB.out⟩
      · have HM1 := Lib.hid hm1
        have HM2 := Lib.hid hm2
        have HFO := Lib.hid (show FewerOk r { r with start := min r.size (r.start + (1 + (n : Int))) } (planL r b) from by rw [planL_eq]; exact more_start HZ.out HA1.out n hpm)
        have HLX := Lib.hid (show r.salt.length ≤ 30 ∧ r.mud.length ≤ 30 ∧ r.use.length ≤ 30 ∧ r.gauges.length ≤ 30 from HL.out)
        clear hm1 hm2
        go_enter Try.func19, Try.ntmps19
        go_wp2_with fail
        obtain ⟨wq, hwq⟩ : ∃ wq, w.alloc (rO26 r A) = wq := ⟨_, rfl⟩
        rw [hwq] at HB HX ⊢
        clear hwq
        replace HR := Lib.hid (HR.out.below HB.out)
        with_reducible refine (ready_c r A _ HR.out).mono ?_
        rintro e w6 ⟨rfl, hb⟩
        replace HB := Lib.hid (HB.out.trans (hb.mono HB.out.size))
        replace HX := Lib.hid (HX.out.below hb)
        replace HR := Lib.hid (HR.out.below hb)
        clear hb
        rw [HRD.out]
        obtain ⟨k0, k1, k2, k3, k4, k5, k6, k7, k8, k9⟩ := HX.out
        go_wp2_with fail
        clear k0 k1 k2 k3 k4 k5 k6 k7 k8 k9
        with_reducible refine (Truths_c r A _ HOK.out HR.out).mono ?_
        rintro e w7 ⟨lt, ct, rfl, htl, hb⟩
        replace HB := Lib.hid (HB.out.trans (hb.mono HB.out.size))
        replace HX := Lib.hid (HX.out.below hb)
        replace HR := Lib.hid (HR.out.below hb)
        clear hb
        clear htl
        rw [HNT.out]
        have hn0 := HN0.out
        obtain ⟨k0, k1, k2, k3, k4, k5, k6, k7, k8, k9⟩ := HX.out
        go_upto_region 4 with fail
        clear hn0 k0 k1 k2 k3 k4 k5 k6 k7 k8 k9
        obtain ⟨xb, hxb⟩ : ∃ n, n = w7.heap.size := ⟨_, rfl⟩
        obtain ⟨wx, hwx⟩ : ∃ Q, Q = w7.alloc (rO26 r A) := ⟨_, rfl⟩
        have hb : Below w7.heap.size w7 wx := by rw [hwx]; exact al_b _ _
        have hX1 : wx.heap[xb]? = some (.cells #[.int .i64 r.last, .slice A.sa r.salt.length A.sc, .slice A.ma r.mud.length A.mc, .int .i64 r.sweet, .int .i64 r.clear, .int .i64 r.size, .int .i64 r.start, .int .i64 r.draw, .slice A.ua r.use.length A.uc, .slice A.ga r.gauges.length A.gc] 26 (0, 0)) := by rw [hwx, hxb]; exact heap_alloc_new _ _
        have hqx : w.heap.size < xb := by rw [hxb]; exact cell_lt HX.out.k0
        have hwx0 : w.heap.size ≤ xb := by omega
        rw [← hwx, ← hxb]
        replace HB := Lib.hid (HB.out.trans (hb.mono HB.out.size))
        replace HX := Lib.hid (HX.out.below hb)
        replace HR := Lib.hid (HR.out.below hb)
        have HX1 := Lib.hid hX1
        clear hb hwx hxb hX1
        obtain ⟨k0, k1, k2, k3, k4, k5, k6, k7, k8, k9⟩ := HX.out
        go_wp2_with fail
        clear k0 k1 k2 k3 k4 k5 k6 k7 k8 k9
        with_reducible refine (list_c A.ua r.use A.uc _ HR.out.u (by have := HL.out.2.2.1; omega)).mono ?_
        rintro e w8 ⟨v, rfl, hown, hb⟩
        replace HB := Lib.hid (HB.out.trans (hb.mono HB.out.size))
        replace HX := Lib.hid (HX.out.below hb)
        replace HR := Lib.hid (HR.out.below hb)
        have hxl : xb < wx.heap.size := (Array.getElem?_eq_some_iff.1 HX1.out).1
        replace HX1 := Lib.hid ((hb.block _ hxl).trans HX1.out)
        obtain ⟨s1, c1, rfl, -, hs1⟩ := own_Sl hown
        have hsb : ∀ ad, s1 = some ad → ad.block ≠ xb := fun ad e => by subst e; have := (hown.lt ad.block rfl).1; omega
        have hsq : ∀ ad, s1 = some ad → w.heap.size < ad.block := fun ad e => by subst e; have := (hown.lt ad.block rfl).1; omega
        have HSB := Lib.hid hsb
        have HSQ := Lib.hid hsq
        have HFZ := Lib.hid (own_fz hown)
        clear hb hown hxl hsb hsq
        have HS1 := Lib.hid hs1
        clear hs1
        have cx8 := cell_blk (k := 8) HX1.out
        have fx := fun j => frozen_blk (k := j) HX1.out
        obtain ⟨k0, k1, k2, k3, k4, k5, k6, k7, k8, k9⟩ := HX.out
        have hm1 := HM1.out
        have hm2 := HM2.out
        have hn1 := HN1.out
        have hn2 := HN2.out
        have hz1 := HOK.out.sz
        have hz2 := HOK.out.st
        have hz3 := HOK.out.dr
        have hz4 := HOK.out.sw
        have hz5 := HOK.out.cl
        clear HFZ
        have hy1 := heap_set HX1.out (k := 8) (.slice s1 r.use.length c1)
        have cy := cell_blk (k := 6) hy1
        have fy := fun j => frozen_blk (k := j) hy1
        obtain ⟨wd, hwd⟩ : ∃ Q, Q = (w8.setCell ⟨xb, 8, none⟩ (.slice s1 r.use.length c1)).setCell ⟨xb, 6, none⟩ (.int .i64 (min r.size (r.start + (1 + (n : Int))))) := ⟨_, rfl⟩
        have hy2 := heap_set hy1 (k := 6) (.int .i64 (min r.size (r.start + (1 + (n : Int)))))
        rw [← hwd] at hy2
        have hwr : Wr (fun k => k = xb) w8 wd := by rw [hwd]; exact (Wr.setCell (fun k => k = xb) _ ⟨xb, 8, none⟩ _ rfl).trans (Wr.setCell (fun k => k = xb) _ ⟨xb, 6, none⟩ _ rfl)
        have HWD := Lib.hid hwd
        have HWR := Lib.hid hwr
        have HY2 := Lib.hid hy2
        clear hwd hwr hy2
        go_upto_region 19 with fail
        rw [← HWD.out]
        clear hm1 hm2 hn1 hn2 hz1 hz2 hz3 hz4 hz5 cx8 fx hy1 cy fy k0 k1 k2 k3 k4 k5 k6 k7 k8 k9
        have hb : Below w8.heap.size w8 wd → True := fun _ => trivial
        clear hb
        replace HB := Lib.hid (HB.out.trans (HWR.out.below HB.out.size (fun k e => by have : k = xb := e; omega)))
        replace HX := Lib.hid (HX.out.wr HWR.out (by omega))
        replace HR := Lib.hid (HR0.out.below HB.out)
        have HXX := Lib.hid (show BoxR xb { r with start := min r.size (r.start + (1 + (n : Int))) } ⟨A.sa, A.sc, A.ma, A.mc, s1, c1, A.ga, A.gc⟩ wd from box_blk (r := { r with start := min r.size (r.start + (1 + (n : Int))) }) (A := ⟨A.sa, A.sc, A.ma, A.mc, s1, c1, A.ga, A.gc⟩) HY2.out)
        have HRX := Lib.hid (show Rd wd { r with start := min r.size (r.start + (1 + (n : Int))) } ⟨A.sa, A.sc, A.ma, A.mc, s1, c1, A.ga, A.gc⟩ from ⟨HR.out.s, HR.out.m, HS1.out.wr HWR.out (fun ad e k => HSB.out ad e k), HR.out.g⟩)
        clear HS1 HSB HSQ
        have HSS := Lib.hid (show BbS w.heap.size xb r A { r with start := min r.size (r.start + (1 + (n : Int))) } ⟨A.sa, A.sc, A.ma, A.mc, s1, c1, A.ga, A.gc⟩ wd from ⟨HX.out, HXX.out⟩)
        have hpb : IntKind.i64.wrap (b : Int) = (b : Int) := IntWalk.i64_in _ (by omega)
        refine region_o (S := BbS w.heap.size xb r A { r with start := min r.size (r.start + (1 + (n : Int))) } ⟨A.sa, A.sc, A.ma, A.mc, s1, c1, A.ga, A.gc⟩) (.take 0 (.take 1 (.take 2 (.take 3 (.take 4 (.one 5 (.one 6 (.take 7 (.one 8 (.take 9 (.take 10 .nil))))))))))) (by kernel_rfl) (by kernel_rfl) (fun _ _ d _ _ h => by cases d <;> exact h) (HSS.out.below (Below.refl _ _).drew) ?_
        intro W0 hW0 hS0
        have hBW : Below wd.heap.size wd W0 := by subst hW0; exact (Below.refl _ _).drew
        clear hW0
        repeat (first
          | (refine ord_skip rfl ?_ ?_; rfl; simp only [List.getElem_toArray, List.getElem_cons_zero, List.getElem_cons_succ, Act.put, List.setIfInBounds_toArray, List.set_cons_zero, List.set_cons_succ])
          | (refine ord_take (v := ?_) rfl ?_ (fun W hW => ?_) ?_; rotate_left; rfl; (obtain ⟨⟨k0, k1, k2, k3, k4, k5, k6, k7, k8, k9⟩, ⟨j0, j1, j2, j3, j4, j5, j6, j7, j8, j9⟩⟩ := hW; go_simp; (first | done | with_reducible rfl)); simp only [List.getElem_toArray, List.getElem_cons_zero, List.getElem_cons_succ, Act.put, List.setIfInBounds_toArray, List.set_cons_zero, List.set_cons_succ]))
        (refine ord_op rfl ?_ (fun K hK => ?_); rfl; go_simp; (with_reducible refine (Planned_c r A b _ HOK.out.l0 HOK.out.l5 hbb).mono ?_); rintro e W1 ⟨v, rfl, hown, hb⟩; have hS1 := BbS.below hS0 hb; replace hBW := hBW.trans (hb.mono hBW.size); obtain ⟨pa, pc, rfl, -, hs⟩ := own_Sl hown; have HSP := Lib.hid hs; clear hown hs; clear hb; refine hK _ _ hS1 ?_; clear hK K; try simp only [List.getElem_toArray, List.getElem_cons_zero, List.getElem_cons_succ, Act.put, List.setIfInBounds_toArray, List.set_cons_zero, List.set_cons_succ])
        (refine ord_op rfl ?_ (fun K hK => ?_); rfl; go_simp; (with_reducible refine (fewer_c r A { r with start := min r.size (r.start + (1 + (n : Int))) } ⟨A.sa, A.sc, A.ma, A.mc, s1, c1, A.ga, A.gc⟩ pa (planL r b) pc _ (HR.out.below hBW) (HRX.out.below hBW) HL.out HLX.out HSP.out (by have := planL_len r b; omega) HFO.out.1 HFO.out.2).mono ?_); rintro e W2 ⟨rfl, hb⟩; have hS2 := BbS.below hS1 hb; replace hBW := hBW.trans (hb.mono hBW.size); clear hb; refine hK _ _ hS2 ?_; clear hK K; try simp only [List.getElem_toArray, List.getElem_cons_zero, List.getElem_cons_succ, Act.put, List.setIfInBounds_toArray, List.set_cons_zero, List.set_cons_succ])
        repeat (first
          | (refine ord_skip rfl ?_ ?_; rfl; simp only [List.getElem_toArray, List.getElem_cons_zero, List.getElem_cons_succ, Act.put, List.setIfInBounds_toArray, List.set_cons_zero, List.set_cons_succ])
          | (refine ord_take (v := ?_) rfl ?_ (fun W hW => ?_) ?_; rotate_left; rfl; (obtain ⟨⟨k0, k1, k2, k3, k4, k5, k6, k7, k8, k9⟩, ⟨j0, j1, j2, j3, j4, j5, j6, j7, j8, j9⟩⟩ := hW; go_simp; (first | done | with_reducible rfl)); simp only [List.getElem_toArray, List.getElem_cons_zero, List.getElem_cons_succ, Act.put, List.setIfInBounds_toArray, List.set_cons_zero, List.set_cons_succ]))
        first
          | (refine ord_pass rfl ?_ hS2 ?_; rfl; simp only [List.getElem_toArray, List.getElem_cons_zero, List.getElem_cons_succ, Act.put, List.setIfInBounds_toArray, List.set_cons_zero, List.set_cons_succ]; have W3 := W2; have hS3 := hS2)
          | (refine ord_op rfl ?_ (fun K hK => ?_); rfl; go_simp; (with_reducible refine (awake_c _).mono ?_); rintro e W3 ⟨rfl, hb⟩; have hS3 := BbS.below hS2 hb; replace hBW := hBW.trans (hb.mono hBW.size); clear hb; refine hK _ _ hS3 ?_; clear hK K; try simp only [List.getElem_toArray, List.getElem_cons_zero, List.getElem_cons_succ, Act.put, List.setIfInBounds_toArray, List.set_cons_zero, List.set_cons_succ])
        repeat (first
          | (refine ord_skip rfl ?_ ?_; rfl; simp only [List.getElem_toArray, List.getElem_cons_zero, List.getElem_cons_succ, Act.put, List.setIfInBounds_toArray, List.set_cons_zero, List.set_cons_succ])
          | (refine ord_take (v := ?_) rfl ?_ (fun W hW => ?_) ?_; rotate_left; rfl; (obtain ⟨⟨k0, k1, k2, k3, k4, k5, k6, k7, k8, k9⟩, ⟨j0, j1, j2, j3, j4, j5, j6, j7, j8, j9⟩⟩ := hW; go_simp; (first | done | with_reducible rfl)); simp only [List.getElem_toArray, List.getElem_cons_zero, List.getElem_cons_succ, Act.put, List.setIfInBounds_toArray, List.set_cons_zero, List.set_cons_succ]))
        refine ord_nil ?_
        replace HB := Lib.hid (HB.out.trans (hBW.mono HB.out.size))
        replace HX := Lib.hid (HX.out.below hBW)
        replace HR := Lib.hid (HR.out.below hBW)
        replace HXX := Lib.hid (HXX.out.below hBW)
        replace HRX := Lib.hid (HRX.out.below hBW)
        clear hBW
        go_wp2_with fail
        go_ret
        exact ⟨rfl, HB.out⟩
      · have HM1 := Lib.hid hm1
        have HM2 := Lib.hid hm2
        have HFO := Lib.hid (show FewerOk r { r with draw := min 99 (r.draw + (1 + (n : Int))) } (planL r b) from by rw [planL_eq]; exact more_draw HZ.out HA1.out n hpm)
        have HLX := Lib.hid (show r.salt.length ≤ 30 ∧ r.mud.length ≤ 30 ∧ r.use.length ≤ 30 ∧ r.gauges.length ≤ 30 from HL.out)
        clear hm1 hm2
        go_enter Try.func19, Try.ntmps19
        go_wp2_with fail
        obtain ⟨wq, hwq⟩ : ∃ wq, w.alloc (rO26 r A) = wq := ⟨_, rfl⟩
        rw [hwq] at HB HX ⊢
        clear hwq
        replace HR := Lib.hid (HR.out.below HB.out)
        with_reducible refine (ready_c r A _ HR.out).mono ?_
        rintro e w9 ⟨rfl, hb⟩
        replace HB := Lib.hid (HB.out.trans (hb.mono HB.out.size))
        replace HX := Lib.hid (HX.out.below hb)
        replace HR := Lib.hid (HR.out.below hb)
        clear hb
        rw [HRD.out]
        obtain ⟨k0, k1, k2, k3, k4, k5, k6, k7, k8, k9⟩ := HX.out
        go_wp2_with fail
        clear k0 k1 k2 k3 k4 k5 k6 k7 k8 k9
        with_reducible refine (Truths_c r A _ HOK.out HR.out).mono ?_
        rintro e w10 ⟨lt, ct, rfl, htl, hb⟩
        replace HB := Lib.hid (HB.out.trans (hb.mono HB.out.size))
        replace HX := Lib.hid (HX.out.below hb)
        replace HR := Lib.hid (HR.out.below hb)
        clear hb
        clear htl
        rw [HNT.out]
        have hn0 := HN0.out
        obtain ⟨k0, k1, k2, k3, k4, k5, k6, k7, k8, k9⟩ := HX.out
        go_upto_region 4 with fail
        clear hn0 k0 k1 k2 k3 k4 k5 k6 k7 k8 k9
        obtain ⟨xb, hxb⟩ : ∃ n, n = w10.heap.size := ⟨_, rfl⟩
        obtain ⟨wx, hwx⟩ : ∃ Q, Q = w10.alloc (rO26 r A) := ⟨_, rfl⟩
        have hb : Below w10.heap.size w10 wx := by rw [hwx]; exact al_b _ _
        have hX1 : wx.heap[xb]? = some (.cells #[.int .i64 r.last, .slice A.sa r.salt.length A.sc, .slice A.ma r.mud.length A.mc, .int .i64 r.sweet, .int .i64 r.clear, .int .i64 r.size, .int .i64 r.start, .int .i64 r.draw, .slice A.ua r.use.length A.uc, .slice A.ga r.gauges.length A.gc] 26 (0, 0)) := by rw [hwx, hxb]; exact heap_alloc_new _ _
        have hqx : w.heap.size < xb := by rw [hxb]; exact cell_lt HX.out.k0
        have hwx0 : w.heap.size ≤ xb := by omega
        rw [← hwx, ← hxb]
        replace HB := Lib.hid (HB.out.trans (hb.mono HB.out.size))
        replace HX := Lib.hid (HX.out.below hb)
        replace HR := Lib.hid (HR.out.below hb)
        have HX1 := Lib.hid hX1
        clear hb hwx hxb hX1
        obtain ⟨k0, k1, k2, k3, k4, k5, k6, k7, k8, k9⟩ := HX.out
        go_wp2_with fail
        clear k0 k1 k2 k3 k4 k5 k6 k7 k8 k9
        with_reducible refine (list_c A.ua r.use A.uc _ HR.out.u (by have := HL.out.2.2.1; omega)).mono ?_
        rintro e w11 ⟨v, rfl, hown, hb⟩
        replace HB := Lib.hid (HB.out.trans (hb.mono HB.out.size))
        replace HX := Lib.hid (HX.out.below hb)
        replace HR := Lib.hid (HR.out.below hb)
        have hxl : xb < wx.heap.size := (Array.getElem?_eq_some_iff.1 HX1.out).1
        replace HX1 := Lib.hid ((hb.block _ hxl).trans HX1.out)
        obtain ⟨s1, c1, rfl, -, hs1⟩ := own_Sl hown
        have hsb : ∀ ad, s1 = some ad → ad.block ≠ xb := fun ad e => by subst e; have := (hown.lt ad.block rfl).1; omega
        have hsq : ∀ ad, s1 = some ad → w.heap.size < ad.block := fun ad e => by subst e; have := (hown.lt ad.block rfl).1; omega
        have HSB := Lib.hid hsb
        have HSQ := Lib.hid hsq
        have HFZ := Lib.hid (own_fz hown)
        clear hb hown hxl hsb hsq
        have HS1 := Lib.hid hs1
        clear hs1
        have cx8 := cell_blk (k := 8) HX1.out
        have fx := fun j => frozen_blk (k := j) HX1.out
        obtain ⟨k0, k1, k2, k3, k4, k5, k6, k7, k8, k9⟩ := HX.out
        have hm1 := HM1.out
        have hm2 := HM2.out
        have hn1 := HN1.out
        have hn2 := HN2.out
        have hz1 := HOK.out.sz
        have hz2 := HOK.out.st
        have hz3 := HOK.out.dr
        have hz4 := HOK.out.sw
        have hz5 := HOK.out.cl
        clear HFZ
        have hy1 := heap_set HX1.out (k := 8) (.slice s1 r.use.length c1)
        have cy := cell_blk (k := 7) hy1
        have fy := fun j => frozen_blk (k := j) hy1
        obtain ⟨wd, hwd⟩ : ∃ Q, Q = (w11.setCell ⟨xb, 8, none⟩ (.slice s1 r.use.length c1)).setCell ⟨xb, 7, none⟩ (.int .i64 (min 99 (r.draw + (1 + (n : Int))))) := ⟨_, rfl⟩
        have hy2 := heap_set hy1 (k := 7) (.int .i64 (min 99 (r.draw + (1 + (n : Int)))))
        rw [← hwd] at hy2
        have hwr : Wr (fun k => k = xb) w11 wd := by rw [hwd]; exact (Wr.setCell (fun k => k = xb) _ ⟨xb, 8, none⟩ _ rfl).trans (Wr.setCell (fun k => k = xb) _ ⟨xb, 7, none⟩ _ rfl)
        have HWD := Lib.hid hwd
        have HWR := Lib.hid hwr
        have HY2 := Lib.hid hy2
        clear hwd hwr hy2
        go_upto_region 19 with fail
        rw [← HWD.out]
        clear hm1 hm2 hn1 hn2 hz1 hz2 hz3 hz4 hz5 cx8 fx hy1 cy fy k0 k1 k2 k3 k4 k5 k6 k7 k8 k9
        have hb : Below w11.heap.size w11 wd → True := fun _ => trivial
        clear hb
        replace HB := Lib.hid (HB.out.trans (HWR.out.below HB.out.size (fun k e => by have : k = xb := e; omega)))
        replace HX := Lib.hid (HX.out.wr HWR.out (by omega))
        replace HR := Lib.hid (HR0.out.below HB.out)
        have HXX := Lib.hid (show BoxR xb { r with draw := min 99 (r.draw + (1 + (n : Int))) } ⟨A.sa, A.sc, A.ma, A.mc, s1, c1, A.ga, A.gc⟩ wd from box_blk (r := { r with draw := min 99 (r.draw + (1 + (n : Int))) }) (A := ⟨A.sa, A.sc, A.ma, A.mc, s1, c1, A.ga, A.gc⟩) HY2.out)
        have HRX := Lib.hid (show Rd wd { r with draw := min 99 (r.draw + (1 + (n : Int))) } ⟨A.sa, A.sc, A.ma, A.mc, s1, c1, A.ga, A.gc⟩ from ⟨HR.out.s, HR.out.m, HS1.out.wr HWR.out (fun ad e k => HSB.out ad e k), HR.out.g⟩)
        clear HS1 HSB HSQ
        have HSS := Lib.hid (show BbS w.heap.size xb r A { r with draw := min 99 (r.draw + (1 + (n : Int))) } ⟨A.sa, A.sc, A.ma, A.mc, s1, c1, A.ga, A.gc⟩ wd from ⟨HX.out, HXX.out⟩)
        have hpb : IntKind.i64.wrap (b : Int) = (b : Int) := IntWalk.i64_in _ (by omega)
        refine region_o (S := BbS w.heap.size xb r A { r with draw := min 99 (r.draw + (1 + (n : Int))) } ⟨A.sa, A.sc, A.ma, A.mc, s1, c1, A.ga, A.gc⟩) (.take 0 (.take 1 (.take 2 (.take 3 (.take 4 (.one 5 (.one 6 (.take 7 (.one 8 (.take 9 (.take 10 .nil))))))))))) (by kernel_rfl) (by kernel_rfl) (fun _ _ d _ _ h => by cases d <;> exact h) (HSS.out.below (Below.refl _ _).drew) ?_
        intro W0 hW0 hS0
        have hBW : Below wd.heap.size wd W0 := by subst hW0; exact (Below.refl _ _).drew
        clear hW0
        repeat (first
          | (refine ord_skip rfl ?_ ?_; rfl; simp only [List.getElem_toArray, List.getElem_cons_zero, List.getElem_cons_succ, Act.put, List.setIfInBounds_toArray, List.set_cons_zero, List.set_cons_succ])
          | (refine ord_take (v := ?_) rfl ?_ (fun W hW => ?_) ?_; rotate_left; rfl; (obtain ⟨⟨k0, k1, k2, k3, k4, k5, k6, k7, k8, k9⟩, ⟨j0, j1, j2, j3, j4, j5, j6, j7, j8, j9⟩⟩ := hW; go_simp; (first | done | with_reducible rfl)); simp only [List.getElem_toArray, List.getElem_cons_zero, List.getElem_cons_succ, Act.put, List.setIfInBounds_toArray, List.set_cons_zero, List.set_cons_succ]))
        (refine ord_op rfl ?_ (fun K hK => ?_); rfl; go_simp; (with_reducible refine (Planned_c r A b _ HOK.out.l0 HOK.out.l5 hbb).mono ?_); rintro e W1 ⟨v, rfl, hown, hb⟩; have hS1 := BbS.below hS0 hb; replace hBW := hBW.trans (hb.mono hBW.size); obtain ⟨pa, pc, rfl, -, hs⟩ := own_Sl hown; have HSP := Lib.hid hs; clear hown hs; clear hb; refine hK _ _ hS1 ?_; clear hK K; try simp only [List.getElem_toArray, List.getElem_cons_zero, List.getElem_cons_succ, Act.put, List.setIfInBounds_toArray, List.set_cons_zero, List.set_cons_succ])
        (refine ord_op rfl ?_ (fun K hK => ?_); rfl; go_simp; (with_reducible refine (fewer_c r A { r with draw := min 99 (r.draw + (1 + (n : Int))) } ⟨A.sa, A.sc, A.ma, A.mc, s1, c1, A.ga, A.gc⟩ pa (planL r b) pc _ (HR.out.below hBW) (HRX.out.below hBW) HL.out HLX.out HSP.out (by have := planL_len r b; omega) HFO.out.1 HFO.out.2).mono ?_); rintro e W2 ⟨rfl, hb⟩; have hS2 := BbS.below hS1 hb; replace hBW := hBW.trans (hb.mono hBW.size); clear hb; refine hK _ _ hS2 ?_; clear hK K; try simp only [List.getElem_toArray, List.getElem_cons_zero, List.getElem_cons_succ, Act.put, List.setIfInBounds_toArray, List.set_cons_zero, List.set_cons_succ])
        repeat (first
          | (refine ord_skip rfl ?_ ?_; rfl; simp only [List.getElem_toArray, List.getElem_cons_zero, List.getElem_cons_succ, Act.put, List.setIfInBounds_toArray, List.set_cons_zero, List.set_cons_succ])
          | (refine ord_take (v := ?_) rfl ?_ (fun W hW => ?_) ?_; rotate_left; rfl; (obtain ⟨⟨k0, k1, k2, k3, k4, k5, k6, k7, k8, k9⟩, ⟨j0, j1, j2, j3, j4, j5, j6, j7, j8, j9⟩⟩ := hW; go_simp; (first | done | with_reducible rfl)); simp only [List.getElem_toArray, List.getElem_cons_zero, List.getElem_cons_succ, Act.put, List.setIfInBounds_toArray, List.set_cons_zero, List.set_cons_succ]))
        first
          | (refine ord_pass rfl ?_ hS2 ?_; rfl; simp only [List.getElem_toArray, List.getElem_cons_zero, List.getElem_cons_succ, Act.put, List.setIfInBounds_toArray, List.set_cons_zero, List.set_cons_succ]; have W3 := W2; have hS3 := hS2)
          | (refine ord_op rfl ?_ (fun K hK => ?_); rfl; go_simp; (with_reducible refine (awake_c _).mono ?_); rintro e W3 ⟨rfl, hb⟩; have hS3 := BbS.below hS2 hb; replace hBW := hBW.trans (hb.mono hBW.size); clear hb; refine hK _ _ hS3 ?_; clear hK K; try simp only [List.getElem_toArray, List.getElem_cons_zero, List.getElem_cons_succ, Act.put, List.setIfInBounds_toArray, List.set_cons_zero, List.set_cons_succ])
        repeat (first
          | (refine ord_skip rfl ?_ ?_; rfl; simp only [List.getElem_toArray, List.getElem_cons_zero, List.getElem_cons_succ, Act.put, List.setIfInBounds_toArray, List.set_cons_zero, List.set_cons_succ])
          | (refine ord_take (v := ?_) rfl ?_ (fun W hW => ?_) ?_; rotate_left; rfl; (obtain ⟨⟨k0, k1, k2, k3, k4, k5, k6, k7, k8, k9⟩, ⟨j0, j1, j2, j3, j4, j5, j6, j7, j8, j9⟩⟩ := hW; go_simp; (first | done | with_reducible rfl)); simp only [List.getElem_toArray, List.getElem_cons_zero, List.getElem_cons_succ, Act.put, List.setIfInBounds_toArray, List.set_cons_zero, List.set_cons_succ]))
        refine ord_nil ?_
        replace HB := Lib.hid (HB.out.trans (hBW.mono HB.out.size))
        replace HX := Lib.hid (HX.out.below hBW)
        replace HR := Lib.hid (HR.out.below hBW)
        replace HXX := Lib.hid (HXX.out.below hBW)
        replace HRX := Lib.hid (HRX.out.below hBW)
        clear hBW
        go_wp2_with fail
        go_ret
        exact ⟨rfl, HB.out⟩
      · have HM1 := Lib.hid hm1
        have HM2 := Lib.hid hm2
        obtain ⟨m5, D, hDl, hf1, hf2, hf3, hf4, hf5⟩ := div5 HOK.out yn
        have hDu0 : D < r.use.length := by have := HOK.out.nu; omega
        have HFO := Lib.hid (show FewerOk r { r with use := r.use.set D (max 0 (r.use.getD D 0 - (1 + (n : Int)))) } (planL r b) from by rw [planL_eq]; exact more_use HZ.out HA1.out n D hDu0 hpm)
        have HLX := Lib.hid (show r.salt.length ≤ 30 ∧ r.mud.length ≤ 30 ∧ (r.use.set D (max 0 (r.use.getD D 0 - (1 + (n : Int))))).length ≤ 30 ∧ r.gauges.length ≤ 30 from ⟨HL.out.1, HL.out.2.1, by rw [List.length_set]; exact HL.out.2.2.1, HL.out.2.2.2⟩)
        have HE3 := Lib.hid hf1
        have HE4 := Lib.hid hf2
        have HE5 := Lib.hid hf3
        have HE6 := Lib.hid hf4
        clear hf1 hf2 hf3 hf4
        clear hm1 hm2
        go_enter Try.func19, Try.ntmps19
        go_wp2_with fail
        obtain ⟨wq, hwq⟩ : ∃ wq, w.alloc (rO26 r A) = wq := ⟨_, rfl⟩
        rw [hwq] at HB HX ⊢
        clear hwq
        replace HR := Lib.hid (HR.out.below HB.out)
        with_reducible refine (ready_c r A _ HR.out).mono ?_
        rintro e w12 ⟨rfl, hb⟩
        replace HB := Lib.hid (HB.out.trans (hb.mono HB.out.size))
        replace HX := Lib.hid (HX.out.below hb)
        replace HR := Lib.hid (HR.out.below hb)
        clear hb
        rw [HRD.out]
        obtain ⟨k0, k1, k2, k3, k4, k5, k6, k7, k8, k9⟩ := HX.out
        go_wp2_with fail
        clear k0 k1 k2 k3 k4 k5 k6 k7 k8 k9
        with_reducible refine (Truths_c r A _ HOK.out HR.out).mono ?_
        rintro e w13 ⟨lt, ct, rfl, htl, hb⟩
        replace HB := Lib.hid (HB.out.trans (hb.mono HB.out.size))
        replace HX := Lib.hid (HX.out.below hb)
        replace HR := Lib.hid (HR.out.below hb)
        clear hb
        clear htl
        rw [HNT.out]
        have hn0 := HN0.out
        obtain ⟨k0, k1, k2, k3, k4, k5, k6, k7, k8, k9⟩ := HX.out
        go_upto_region 4 with fail
        clear hn0 k0 k1 k2 k3 k4 k5 k6 k7 k8 k9
        obtain ⟨xb, hxb⟩ : ∃ n, n = w13.heap.size := ⟨_, rfl⟩
        obtain ⟨wx, hwx⟩ : ∃ Q, Q = w13.alloc (rO26 r A) := ⟨_, rfl⟩
        have hb : Below w13.heap.size w13 wx := by rw [hwx]; exact al_b _ _
        have hX1 : wx.heap[xb]? = some (.cells #[.int .i64 r.last, .slice A.sa r.salt.length A.sc, .slice A.ma r.mud.length A.mc, .int .i64 r.sweet, .int .i64 r.clear, .int .i64 r.size, .int .i64 r.start, .int .i64 r.draw, .slice A.ua r.use.length A.uc, .slice A.ga r.gauges.length A.gc] 26 (0, 0)) := by rw [hwx, hxb]; exact heap_alloc_new _ _
        have hqx : w.heap.size < xb := by rw [hxb]; exact cell_lt HX.out.k0
        have hwx0 : w.heap.size ≤ xb := by omega
        rw [← hwx, ← hxb]
        replace HB := Lib.hid (HB.out.trans (hb.mono HB.out.size))
        replace HX := Lib.hid (HX.out.below hb)
        replace HR := Lib.hid (HR.out.below hb)
        have HX1 := Lib.hid hX1
        clear hb hwx hxb hX1
        obtain ⟨k0, k1, k2, k3, k4, k5, k6, k7, k8, k9⟩ := HX.out
        go_wp2_with fail
        clear k0 k1 k2 k3 k4 k5 k6 k7 k8 k9
        with_reducible refine (list_c A.ua r.use A.uc _ HR.out.u (by have := HL.out.2.2.1; omega)).mono ?_
        rintro e w14 ⟨v, rfl, hown, hb⟩
        replace HB := Lib.hid (HB.out.trans (hb.mono HB.out.size))
        replace HX := Lib.hid (HX.out.below hb)
        replace HR := Lib.hid (HR.out.below hb)
        have hxl : xb < wx.heap.size := (Array.getElem?_eq_some_iff.1 HX1.out).1
        replace HX1 := Lib.hid ((hb.block _ hxl).trans HX1.out)
        obtain ⟨s1, c1, rfl, -, hs1⟩ := own_Sl hown
        have hsb : ∀ ad, s1 = some ad → ad.block ≠ xb := fun ad e => by subst e; have := (hown.lt ad.block rfl).1; omega
        have hsq : ∀ ad, s1 = some ad → w.heap.size < ad.block := fun ad e => by subst e; have := (hown.lt ad.block rfl).1; omega
        have HSB := Lib.hid hsb
        have HSQ := Lib.hid hsq
        have HFZ := Lib.hid (own_fz hown)
        clear hb hown hxl hsb hsq
        have HS1 := Lib.hid hs1
        clear hs1
        have cx8 := cell_blk (k := 8) HX1.out
        have fx := fun j => frozen_blk (k := j) HX1.out
        obtain ⟨k0, k1, k2, k3, k4, k5, k6, k7, k8, k9⟩ := HX.out
        have hm1 := HM1.out
        have hm2 := HM2.out
        have hn1 := HN1.out
        have hn2 := HN2.out
        have hz1 := HOK.out.sz
        have hz2 := HOK.out.st
        have hz3 := HOK.out.dr
        have hz4 := HOK.out.sw
        have hz5 := HOK.out.cl
        have hn3 := HE3.out
        have hn4 := HE4.out
        have hn5 := HE5.out
        have hn6 := HE6.out
        have hl0 := HOK.out.l0
        have hl5 := HOK.out.l5
        have hlz : (r.last + 1 == 0) = false := by rw [beq_eq_false_iff_ne]; omega
        have hlz2 : ¬ r.last + 1 = 0 := by omega
        obtain ⟨wy, hwy⟩ : ∃ Q, Q = (w14.setCell ⟨xb, 8, none⟩ (.slice s1 r.use.length c1)) := ⟨_, rfl⟩
        have hy1 := heap_set HX1.out (k := 8) (.slice s1 r.use.length c1)
        rw [← hwy] at hy1
        have hwr : Wr (fun k => k = xb) w14 wy := by rw [hwy]; exact Wr.setCell (fun k => k = xb) _ ⟨xb, 8, none⟩ _ rfl
        have HWY := Lib.hid hwy
        have HWR := Lib.hid hwr
        have HY1 := Lib.hid hy1
        clear hwy hwr hy1
        go_upto_region 16 with fail
        rw [← HWY.out]
        clear hm1 hm2 hn1 hn2 hz1 hz2 hz3 hz4 hz5 cx8 fx hn3 hn4 hn5 hn6 hlz hlz2 k0 k1 k2 k3 k4 k5 k6 k7 k8 k9
        replace HB := Lib.hid (HB.out.trans (HWR.out.below HB.out.size (fun k e => by have : k = xb := e; omega)))
        replace HX := Lib.hid (HX.out.wr HWR.out (by omega))
        replace HR := Lib.hid (HR0.out.below HB.out)
        replace HS1 := Lib.hid (HS1.out.wr HWR.out (fun ad e k => HSB.out ad e k))
        have hDu : D < r.use.length := by have := HOK.out.nu; omega
        obtain ⟨u, hu⟩ : ∃ u, r.use[D]? = some u := ⟨_, List.getElem?_eq_getElem hDu⟩
        have HUU := Lib.hid (show r.use.getD D 0 = u from by rw [List.getD_eq_getElem?_getD, hu]; rfl)
        have hub := use_bd HOK.out D
        rw [HUU.out] at hub
        obtain ⟨sb, so, rfl, e1⟩ := HS1.out.int_at hu
        obtain ⟨ub, uo, hua, e2⟩ := HR.out.u.int_at hu
        have hk8 := HX.out.k8
        rw [hua] at hk8
        have hub9 : ub < w.heap.size := by
          obtain ⟨ub9, uo9, hu9, e9⟩ := HR0.out.u.int_at hu
          rw [hua] at hu9
          cases hu9
          exact cell_lt e9
        have hsq2 : w.heap.size < sb := HSQ.out _ rfl
        have hsb2 : sb ≠ xb := HSB.out _ rfl
        obtain ⟨arr, hfz⟩ := HFZ.out _ rfl
        have hfz2 := HWR.out.blk (k := sb) hsb2 hfz
        have hsl : sb < wy.heap.size := cell_lt e1
        have HFZ2 := Lib.hid hfz2
        have HSS := Lib.hid (show UsM w.heap.size xb ub (uo + D) r A (.slice (some ⟨ub, uo, none⟩) r.use.length A.uc) (.slice (some ⟨sb, so, none⟩) r.use.length c1) u wy from ⟨HX.out, hk8, by rw [cell_blk HY1.out]; rfl, e2⟩)
        have esub : IntKind.i64.wrap (u - (1 + (n : Int))) = u - (1 + (n : Int)) := IntWalk.i64_in _ (by omega)
        have HC1 := Lib.hid e1
        clear hu hua hk8 e1 e2 hfz hfz2 HFZ HSQ HSB
        refine region_o (S := UsM w.heap.size xb ub (uo + D) r A (.slice (some ⟨ub, uo, none⟩) r.use.length A.uc) (.slice (some ⟨sb, so, none⟩) r.use.length c1) u) (.take 0 (.take 1 (.take 2 (.take 3 (.take 4 (.take 5 (.take 6 (.take 7 (.take 8 (.take 9 (.take 10 (.take 11 (.one 12 .nil))))))))))))) (by kernel_rfl) (by kernel_rfl) (fun _ _ d _ _ h => by cases d <;> exact h) (HSS.out.below (Below.refl _ _).drew) ?_
        intro W0 hW0 hS0
        have hBW : Below wy.heap.size wy W0 := by subst hW0; exact (Below.refl _ _).drew
        clear hW0
        repeat (first
          | (refine ord_skip rfl ?_ ?_; rfl; simp only [List.getElem_toArray, List.getElem_cons_zero, List.getElem_cons_succ, Act.put, List.setIfInBounds_toArray, List.set_cons_zero, List.set_cons_succ])
          | (refine ord_take (v := ?_) rfl ?_ (fun W hW => ?_) ?_; rotate_left; rfl; (obtain ⟨⟨k0, k1, k2, k3, k4, k5, k6, k7, -, k9⟩, k8, x8, c0⟩ := hW; go_simp; (first | done | with_reducible rfl)); simp only [List.getElem_toArray, List.getElem_cons_zero, List.getElem_cons_succ, Act.put, List.setIfInBounds_toArray, List.set_cons_zero, List.set_cons_succ]))
        refine ord_op rfl ?_ (fun K hK => ?_)
        rfl
        skip
        have oc : (W0).cell? ⟨sb, so + D, none⟩ = some (.int .i64 u) := (hBW.cell (p := ⟨sb, so + D, none⟩) hsl).trans HC1.out
        have of : (W0).frozen? ⟨sb, so + D, none⟩ = false := frozen_blk ((hBW.block _ hsl).trans HFZ2.out)
        go_simp
        obtain ⟨wv, hwv⟩ : ∃ Q, Q = W0 := ⟨_, rfl⟩
        obtain ⟨ws, hws⟩ : ∃ Q, Q = (W0).setCell ⟨sb, so + D, none⟩ (.int .i64 (max 0 (u - (1 + (n : Int))))) := ⟨_, rfl⟩
        have hwt : Wr (fun k => k = sb) (W0) ws := by rw [hws]; exact Wr.setCell (fun k => k = sb) _ ⟨sb, so + D, none⟩ _ rfl
        have hS1 := UsM.wr hS0 hwt (fun e => by have : w.heap.size = sb := e; omega) (fun e => by have : xb = sb := e; omega) (fun e => by have : ub = sb := e; omega)
        have hY5 := hwt.blk (k := xb) (fun e => by have : xb = sb := e; omega) ((hBW.block xb (Array.getElem?_eq_some_iff.1 HY1.out).1).trans HY1.out)
        have hs5 : Sl ws (some ⟨sb, so, none⟩) (ints (r.use.set D (max 0 (u - (1 + (n : Int)))))) := by rw [hws]; exact own_set (HS1.out.below hBW) hDu
        have hB5 := (HB.out.trans (hBW.mono HB.out.size)).trans (hwt.below (by have := HB.out.size; have := hBW.size; omega) (fun k e => by have : k = sb := e; omega))
        have HY5 := Lib.hid hY5
        have HS5 := Lib.hid hs5
        have HB5 := Lib.hid hB5
        have HX5 := Lib.hid hS1.bx
        rw [← hws]
        clear oc of hws hwv hwt hY5 hs5 hB5
        refine hK _ _ hS1 ?_
        clear hK K
        try simp only [List.getElem_toArray, List.getElem_cons_zero, List.getElem_cons_succ, Act.put, List.setIfInBounds_toArray, List.set_cons_zero, List.set_cons_succ]
        refine ord_nil ?_
        clear HB HX HR HS1 HSS hBW
        have HB := HB5
        have HX := HX5
        have HR := Lib.hid (HR0.out.below HB.out)
        obtain ⟨US, hUS⟩ : ∃ l, r.use.set D (max 0 (u - (1 + (n : Int)))) = l := ⟨_, rfl⟩
        have hul : US.length = r.use.length := by rw [← hUS, List.length_set]
        have hfo := HFO.out
        rw [HUU.out, hUS] at hfo
        replace HFO := Lib.hid hfo
        have HLX2 := Lib.hid (show r.salt.length ≤ 30 ∧ r.mud.length ≤ 30 ∧ US.length ≤ 30 ∧ r.gauges.length ≤ 30 from ⟨HL.out.1, HL.out.2.1, by rw [hul]; exact HL.out.2.2.1, HL.out.2.2.2⟩)
        clear HLX
        have HLX := HLX2
        have hs6 := HS5.out
        rw [hUS] at hs6
        have HXX := Lib.hid (show BoxR xb { r with use := US } ⟨A.sa, A.sc, A.ma, A.mc, some ⟨sb, so, none⟩, c1, A.ga, A.gc⟩ ws from box_blk (r := { r with use := US }) (A := ⟨A.sa, A.sc, A.ma, A.mc, some ⟨sb, so, none⟩, c1, A.ga, A.gc⟩) (by show ws.heap[xb]? = some (.cells #[.int .i64 r.last, .slice A.sa r.salt.length A.sc, .slice A.ma r.mud.length A.mc, .int .i64 r.sweet, .int .i64 r.clear, .int .i64 r.size, .int .i64 r.start, .int .i64 r.draw, .slice (some ⟨sb, so, none⟩) US.length c1, .slice A.ga r.gauges.length A.gc] 26 (0, 0)); rw [hul]; exact HY5.out))
        have HRX := Lib.hid (show Rd ws { r with use := US } ⟨A.sa, A.sc, A.ma, A.mc, some ⟨sb, so, none⟩, c1, A.ga, A.gc⟩ from ⟨HR.out.s, HR.out.m, hs6, HR.out.g⟩)
        clear hUS hul hfo hs6 HLX2 HX5 HB5 HS5 HY5
        go_upto_region 19 with fail
        have HSS := Lib.hid (show BbS w.heap.size xb r A { r with use := US } ⟨A.sa, A.sc, A.ma, A.mc, some ⟨sb, so, none⟩, c1, A.ga, A.gc⟩ ws from ⟨HX.out, HXX.out⟩)
        have hpb : IntKind.i64.wrap (b : Int) = (b : Int) := IntWalk.i64_in _ (by omega)
        refine region_o (S := BbS w.heap.size xb r A { r with use := US } ⟨A.sa, A.sc, A.ma, A.mc, some ⟨sb, so, none⟩, c1, A.ga, A.gc⟩) (.take 0 (.take 1 (.take 2 (.take 3 (.take 4 (.one 5 (.one 6 (.take 7 (.one 8 (.take 9 (.take 10 .nil))))))))))) (by kernel_rfl) (by kernel_rfl) (fun _ _ d _ _ h => by cases d <;> exact h) (HSS.out.below (Below.refl _ _).drew) ?_
        intro W0 hW0 hS0
        have hBW : Below ws.heap.size ws W0 := by subst hW0; exact (Below.refl _ _).drew
        clear hW0
        repeat (first
          | (refine ord_skip rfl ?_ ?_; rfl; simp only [List.getElem_toArray, List.getElem_cons_zero, List.getElem_cons_succ, Act.put, List.setIfInBounds_toArray, List.set_cons_zero, List.set_cons_succ])
          | (refine ord_take (v := ?_) rfl ?_ (fun W hW => ?_) ?_; rotate_left; rfl; (obtain ⟨⟨k0, k1, k2, k3, k4, k5, k6, k7, k8, k9⟩, ⟨j0, j1, j2, j3, j4, j5, j6, j7, j8, j9⟩⟩ := hW; go_simp; (first | done | with_reducible rfl)); simp only [List.getElem_toArray, List.getElem_cons_zero, List.getElem_cons_succ, Act.put, List.setIfInBounds_toArray, List.set_cons_zero, List.set_cons_succ]))
        (refine ord_op rfl ?_ (fun K hK => ?_); rfl; go_simp; (with_reducible refine (Planned_c r A b _ HOK.out.l0 HOK.out.l5 hbb).mono ?_); rintro e W1 ⟨v, rfl, hown, hb⟩; have hS1 := BbS.below hS0 hb; replace hBW := hBW.trans (hb.mono hBW.size); obtain ⟨pa, pc, rfl, -, hs⟩ := own_Sl hown; have HSP := Lib.hid hs; clear hown hs; clear hb; refine hK _ _ hS1 ?_; clear hK K; try simp only [List.getElem_toArray, List.getElem_cons_zero, List.getElem_cons_succ, Act.put, List.setIfInBounds_toArray, List.set_cons_zero, List.set_cons_succ])
        (refine ord_op rfl ?_ (fun K hK => ?_); rfl; go_simp; (with_reducible refine (fewer_c r A { r with use := US } ⟨A.sa, A.sc, A.ma, A.mc, some ⟨sb, so, none⟩, c1, A.ga, A.gc⟩ pa (planL r b) pc _ (HR.out.below hBW) (HRX.out.below hBW) HL.out HLX.out HSP.out (by have := planL_len r b; omega) HFO.out.1 HFO.out.2).mono ?_); rintro e W2 ⟨rfl, hb⟩; have hS2 := BbS.below hS1 hb; replace hBW := hBW.trans (hb.mono hBW.size); clear hb; refine hK _ _ hS2 ?_; clear hK K; try simp only [List.getElem_toArray, List.getElem_cons_zero, List.getElem_cons_succ, Act.put, List.setIfInBounds_toArray, List.set_cons_zero, List.set_cons_succ])
        repeat (first
          | (refine ord_skip rfl ?_ ?_; rfl; simp only [List.getElem_toArray, List.getElem_cons_zero, List.getElem_cons_succ, Act.put, List.setIfInBounds_toArray, List.set_cons_zero, List.set_cons_succ])
          | (refine ord_take (v := ?_) rfl ?_ (fun W hW => ?_) ?_; rotate_left; rfl; (obtain ⟨⟨k0, k1, k2, k3, k4, k5, k6, k7, k8, k9⟩, ⟨j0, j1, j2, j3, j4, j5, j6, j7, j8, j9⟩⟩ := hW; go_simp; (first | done | with_reducible rfl)); simp only [List.getElem_toArray, List.getElem_cons_zero, List.getElem_cons_succ, Act.put, List.setIfInBounds_toArray, List.set_cons_zero, List.set_cons_succ]))
        first
          | (refine ord_pass rfl ?_ hS2 ?_; rfl; simp only [List.getElem_toArray, List.getElem_cons_zero, List.getElem_cons_succ, Act.put, List.setIfInBounds_toArray, List.set_cons_zero, List.set_cons_succ]; have W3 := W2; have hS3 := hS2)
          | (refine ord_op rfl ?_ (fun K hK => ?_); rfl; go_simp; (with_reducible refine (awake_c _).mono ?_); rintro e W3 ⟨rfl, hb⟩; have hS3 := BbS.below hS2 hb; replace hBW := hBW.trans (hb.mono hBW.size); clear hb; refine hK _ _ hS3 ?_; clear hK K; try simp only [List.getElem_toArray, List.getElem_cons_zero, List.getElem_cons_succ, Act.put, List.setIfInBounds_toArray, List.set_cons_zero, List.set_cons_succ])
        repeat (first
          | (refine ord_skip rfl ?_ ?_; rfl; simp only [List.getElem_toArray, List.getElem_cons_zero, List.getElem_cons_succ, Act.put, List.setIfInBounds_toArray, List.set_cons_zero, List.set_cons_succ])
          | (refine ord_take (v := ?_) rfl ?_ (fun W hW => ?_) ?_; rotate_left; rfl; (obtain ⟨⟨k0, k1, k2, k3, k4, k5, k6, k7, k8, k9⟩, ⟨j0, j1, j2, j3, j4, j5, j6, j7, j8, j9⟩⟩ := hW; go_simp; (first | done | with_reducible rfl)); simp only [List.getElem_toArray, List.getElem_cons_zero, List.getElem_cons_succ, Act.put, List.setIfInBounds_toArray, List.set_cons_zero, List.set_cons_succ]))
        refine ord_nil ?_
        replace HB := Lib.hid (HB.out.trans (hBW.mono HB.out.size))
        replace HX := Lib.hid (HX.out.below hBW)
        replace HR := Lib.hid (HR.out.below hBW)
        replace HXX := Lib.hid (HXX.out.below hBW)
        replace HRX := Lib.hid (HRX.out.below hBW)
        clear hBW
        go_wp2_with fail
        go_ret
        exact ⟨rfl, HB.out⟩
      · have HM1 := Lib.hid hm1
        have HM2 := Lib.hid hm2
        have HFO := Lib.hid (show FewerOk r { r with sweet := min 9 (r.sweet + (1 + (n : Int))) } (planL r b) from by rw [planL_eq]; exact more_sweet HZ.out HA1.out n hpm)
        have HLX := Lib.hid (show r.salt.length ≤ 30 ∧ r.mud.length ≤ 30 ∧ r.use.length ≤ 30 ∧ r.gauges.length ≤ 30 from HL.out)
        clear hm1 hm2
        go_enter Try.func19, Try.ntmps19
        go_wp2_with fail
        obtain ⟨wq, hwq⟩ : ∃ wq, w.alloc (rO26 r A) = wq := ⟨_, rfl⟩
        rw [hwq] at HB HX ⊢
        clear hwq
        replace HR := Lib.hid (HR.out.below HB.out)
        with_reducible refine (ready_c r A _ HR.out).mono ?_
        rintro e w15 ⟨rfl, hb⟩
        replace HB := Lib.hid (HB.out.trans (hb.mono HB.out.size))
        replace HX := Lib.hid (HX.out.below hb)
        replace HR := Lib.hid (HR.out.below hb)
        clear hb
        rw [HRD.out]
        obtain ⟨k0, k1, k2, k3, k4, k5, k6, k7, k8, k9⟩ := HX.out
        go_wp2_with fail
        clear k0 k1 k2 k3 k4 k5 k6 k7 k8 k9
        with_reducible refine (Truths_c r A _ HOK.out HR.out).mono ?_
        rintro e w16 ⟨lt, ct, rfl, htl, hb⟩
        replace HB := Lib.hid (HB.out.trans (hb.mono HB.out.size))
        replace HX := Lib.hid (HX.out.below hb)
        replace HR := Lib.hid (HR.out.below hb)
        clear hb
        clear htl
        rw [HNT.out]
        have hn0 := HN0.out
        obtain ⟨k0, k1, k2, k3, k4, k5, k6, k7, k8, k9⟩ := HX.out
        go_upto_region 4 with fail
        clear hn0 k0 k1 k2 k3 k4 k5 k6 k7 k8 k9
        obtain ⟨xb, hxb⟩ : ∃ n, n = w16.heap.size := ⟨_, rfl⟩
        obtain ⟨wx, hwx⟩ : ∃ Q, Q = w16.alloc (rO26 r A) := ⟨_, rfl⟩
        have hb : Below w16.heap.size w16 wx := by rw [hwx]; exact al_b _ _
        have hX1 : wx.heap[xb]? = some (.cells #[.int .i64 r.last, .slice A.sa r.salt.length A.sc, .slice A.ma r.mud.length A.mc, .int .i64 r.sweet, .int .i64 r.clear, .int .i64 r.size, .int .i64 r.start, .int .i64 r.draw, .slice A.ua r.use.length A.uc, .slice A.ga r.gauges.length A.gc] 26 (0, 0)) := by rw [hwx, hxb]; exact heap_alloc_new _ _
        have hqx : w.heap.size < xb := by rw [hxb]; exact cell_lt HX.out.k0
        have hwx0 : w.heap.size ≤ xb := by omega
        rw [← hwx, ← hxb]
        replace HB := Lib.hid (HB.out.trans (hb.mono HB.out.size))
        replace HX := Lib.hid (HX.out.below hb)
        replace HR := Lib.hid (HR.out.below hb)
        have HX1 := Lib.hid hX1
        clear hb hwx hxb hX1
        obtain ⟨k0, k1, k2, k3, k4, k5, k6, k7, k8, k9⟩ := HX.out
        go_wp2_with fail
        clear k0 k1 k2 k3 k4 k5 k6 k7 k8 k9
        with_reducible refine (list_c A.ua r.use A.uc _ HR.out.u (by have := HL.out.2.2.1; omega)).mono ?_
        rintro e w17 ⟨v, rfl, hown, hb⟩
        replace HB := Lib.hid (HB.out.trans (hb.mono HB.out.size))
        replace HX := Lib.hid (HX.out.below hb)
        replace HR := Lib.hid (HR.out.below hb)
        have hxl : xb < wx.heap.size := (Array.getElem?_eq_some_iff.1 HX1.out).1
        replace HX1 := Lib.hid ((hb.block _ hxl).trans HX1.out)
        obtain ⟨s1, c1, rfl, -, hs1⟩ := own_Sl hown
        have hsb : ∀ ad, s1 = some ad → ad.block ≠ xb := fun ad e => by subst e; have := (hown.lt ad.block rfl).1; omega
        have hsq : ∀ ad, s1 = some ad → w.heap.size < ad.block := fun ad e => by subst e; have := (hown.lt ad.block rfl).1; omega
        have HSB := Lib.hid hsb
        have HSQ := Lib.hid hsq
        have HFZ := Lib.hid (own_fz hown)
        clear hb hown hxl hsb hsq
        have HS1 := Lib.hid hs1
        clear hs1
        have cx8 := cell_blk (k := 8) HX1.out
        have fx := fun j => frozen_blk (k := j) HX1.out
        obtain ⟨k0, k1, k2, k3, k4, k5, k6, k7, k8, k9⟩ := HX.out
        have hm1 := HM1.out
        have hm2 := HM2.out
        have hn1 := HN1.out
        have hn2 := HN2.out
        have hz1 := HOK.out.sz
        have hz2 := HOK.out.st
        have hz3 := HOK.out.dr
        have hz4 := HOK.out.sw
        have hz5 := HOK.out.cl
        clear HFZ
        have hy1 := heap_set HX1.out (k := 8) (.slice s1 r.use.length c1)
        have cy := cell_blk (k := 3) hy1
        have fy := fun j => frozen_blk (k := j) hy1
        obtain ⟨wd, hwd⟩ : ∃ Q, Q = (w17.setCell ⟨xb, 8, none⟩ (.slice s1 r.use.length c1)).setCell ⟨xb, 3, none⟩ (.int .i64 (min 9 (r.sweet + (1 + (n : Int))))) := ⟨_, rfl⟩
        have hy2 := heap_set hy1 (k := 3) (.int .i64 (min 9 (r.sweet + (1 + (n : Int)))))
        rw [← hwd] at hy2
        have hwr : Wr (fun k => k = xb) w17 wd := by rw [hwd]; exact (Wr.setCell (fun k => k = xb) _ ⟨xb, 8, none⟩ _ rfl).trans (Wr.setCell (fun k => k = xb) _ ⟨xb, 3, none⟩ _ rfl)
        have HWD := Lib.hid hwd
        have HWR := Lib.hid hwr
        have HY2 := Lib.hid hy2
        clear hwd hwr hy2
        go_upto_region 19 with fail
        rw [← HWD.out]
        clear hm1 hm2 hn1 hn2 hz1 hz2 hz3 hz4 hz5 cx8 fx hy1 cy fy k0 k1 k2 k3 k4 k5 k6 k7 k8 k9
        have hb : Below w17.heap.size w17 wd → True := fun _ => trivial
        clear hb
        replace HB := Lib.hid (HB.out.trans (HWR.out.below HB.out.size (fun k e => by have : k = xb := e; omega)))
        replace HX := Lib.hid (HX.out.wr HWR.out (by omega))
        replace HR := Lib.hid (HR0.out.below HB.out)
        have HXX := Lib.hid (show BoxR xb { r with sweet := min 9 (r.sweet + (1 + (n : Int))) } ⟨A.sa, A.sc, A.ma, A.mc, s1, c1, A.ga, A.gc⟩ wd from box_blk (r := { r with sweet := min 9 (r.sweet + (1 + (n : Int))) }) (A := ⟨A.sa, A.sc, A.ma, A.mc, s1, c1, A.ga, A.gc⟩) HY2.out)
        have HRX := Lib.hid (show Rd wd { r with sweet := min 9 (r.sweet + (1 + (n : Int))) } ⟨A.sa, A.sc, A.ma, A.mc, s1, c1, A.ga, A.gc⟩ from ⟨HR.out.s, HR.out.m, HS1.out.wr HWR.out (fun ad e k => HSB.out ad e k), HR.out.g⟩)
        clear HS1 HSB HSQ
        have HSS := Lib.hid (show BbS w.heap.size xb r A { r with sweet := min 9 (r.sweet + (1 + (n : Int))) } ⟨A.sa, A.sc, A.ma, A.mc, s1, c1, A.ga, A.gc⟩ wd from ⟨HX.out, HXX.out⟩)
        have hpb : IntKind.i64.wrap (b : Int) = (b : Int) := IntWalk.i64_in _ (by omega)
        refine region_o (S := BbS w.heap.size xb r A { r with sweet := min 9 (r.sweet + (1 + (n : Int))) } ⟨A.sa, A.sc, A.ma, A.mc, s1, c1, A.ga, A.gc⟩) (.take 0 (.take 1 (.take 2 (.take 3 (.take 4 (.one 5 (.one 6 (.take 7 (.one 8 (.take 9 (.take 10 .nil))))))))))) (by kernel_rfl) (by kernel_rfl) (fun _ _ d _ _ h => by cases d <;> exact h) (HSS.out.below (Below.refl _ _).drew) ?_
        intro W0 hW0 hS0
        have hBW : Below wd.heap.size wd W0 := by subst hW0; exact (Below.refl _ _).drew
        clear hW0
        repeat (first
          | (refine ord_skip rfl ?_ ?_; rfl; simp only [List.getElem_toArray, List.getElem_cons_zero, List.getElem_cons_succ, Act.put, List.setIfInBounds_toArray, List.set_cons_zero, List.set_cons_succ])
          | (refine ord_take (v := ?_) rfl ?_ (fun W hW => ?_) ?_; rotate_left; rfl; (obtain ⟨⟨k0, k1, k2, k3, k4, k5, k6, k7, k8, k9⟩, ⟨j0, j1, j2, j3, j4, j5, j6, j7, j8, j9⟩⟩ := hW; go_simp; (first | done | with_reducible rfl)); simp only [List.getElem_toArray, List.getElem_cons_zero, List.getElem_cons_succ, Act.put, List.setIfInBounds_toArray, List.set_cons_zero, List.set_cons_succ]))
        (refine ord_op rfl ?_ (fun K hK => ?_); rfl; go_simp; (with_reducible refine (Planned_c r A b _ HOK.out.l0 HOK.out.l5 hbb).mono ?_); rintro e W1 ⟨v, rfl, hown, hb⟩; have hS1 := BbS.below hS0 hb; replace hBW := hBW.trans (hb.mono hBW.size); obtain ⟨pa, pc, rfl, -, hs⟩ := own_Sl hown; have HSP := Lib.hid hs; clear hown hs; clear hb; refine hK _ _ hS1 ?_; clear hK K; try simp only [List.getElem_toArray, List.getElem_cons_zero, List.getElem_cons_succ, Act.put, List.setIfInBounds_toArray, List.set_cons_zero, List.set_cons_succ])
        (refine ord_op rfl ?_ (fun K hK => ?_); rfl; go_simp; (with_reducible refine (fewer_c r A { r with sweet := min 9 (r.sweet + (1 + (n : Int))) } ⟨A.sa, A.sc, A.ma, A.mc, s1, c1, A.ga, A.gc⟩ pa (planL r b) pc _ (HR.out.below hBW) (HRX.out.below hBW) HL.out HLX.out HSP.out (by have := planL_len r b; omega) HFO.out.1 HFO.out.2).mono ?_); rintro e W2 ⟨rfl, hb⟩; have hS2 := BbS.below hS1 hb; replace hBW := hBW.trans (hb.mono hBW.size); clear hb; refine hK _ _ hS2 ?_; clear hK K; try simp only [List.getElem_toArray, List.getElem_cons_zero, List.getElem_cons_succ, Act.put, List.setIfInBounds_toArray, List.set_cons_zero, List.set_cons_succ])
        repeat (first
          | (refine ord_skip rfl ?_ ?_; rfl; simp only [List.getElem_toArray, List.getElem_cons_zero, List.getElem_cons_succ, Act.put, List.setIfInBounds_toArray, List.set_cons_zero, List.set_cons_succ])
          | (refine ord_take (v := ?_) rfl ?_ (fun W hW => ?_) ?_; rotate_left; rfl; (obtain ⟨⟨k0, k1, k2, k3, k4, k5, k6, k7, k8, k9⟩, ⟨j0, j1, j2, j3, j4, j5, j6, j7, j8, j9⟩⟩ := hW; go_simp; (first | done | with_reducible rfl)); simp only [List.getElem_toArray, List.getElem_cons_zero, List.getElem_cons_succ, Act.put, List.setIfInBounds_toArray, List.set_cons_zero, List.set_cons_succ]))
        first
          | (refine ord_pass rfl ?_ hS2 ?_; rfl; simp only [List.getElem_toArray, List.getElem_cons_zero, List.getElem_cons_succ, Act.put, List.setIfInBounds_toArray, List.set_cons_zero, List.set_cons_succ]; have W3 := W2; have hS3 := hS2)
          | (refine ord_op rfl ?_ (fun K hK => ?_); rfl; go_simp; (with_reducible refine (awake_c _).mono ?_); rintro e W3 ⟨rfl, hb⟩; have hS3 := BbS.below hS2 hb; replace hBW := hBW.trans (hb.mono hBW.size); clear hb; refine hK _ _ hS3 ?_; clear hK K; try simp only [List.getElem_toArray, List.getElem_cons_zero, List.getElem_cons_succ, Act.put, List.setIfInBounds_toArray, List.set_cons_zero, List.set_cons_succ])
        repeat (first
          | (refine ord_skip rfl ?_ ?_; rfl; simp only [List.getElem_toArray, List.getElem_cons_zero, List.getElem_cons_succ, Act.put, List.setIfInBounds_toArray, List.set_cons_zero, List.set_cons_succ])
          | (refine ord_take (v := ?_) rfl ?_ (fun W hW => ?_) ?_; rotate_left; rfl; (obtain ⟨⟨k0, k1, k2, k3, k4, k5, k6, k7, k8, k9⟩, ⟨j0, j1, j2, j3, j4, j5, j6, j7, j8, j9⟩⟩ := hW; go_simp; (first | done | with_reducible rfl)); simp only [List.getElem_toArray, List.getElem_cons_zero, List.getElem_cons_succ, Act.put, List.setIfInBounds_toArray, List.set_cons_zero, List.set_cons_succ]))
        refine ord_nil ?_
        replace HB := Lib.hid (HB.out.trans (hBW.mono HB.out.size))
        replace HX := Lib.hid (HX.out.below hBW)
        replace HR := Lib.hid (HR.out.below hBW)
        replace HXX := Lib.hid (HXX.out.below hBW)
        replace HRX := Lib.hid (HRX.out.below hBW)
        clear hBW
        go_wp2_with fail
        go_ret
        exact ⟨rfl, HB.out⟩
      · have HM1 := Lib.hid hm1
        have HM2 := Lib.hid hm2
        have HFO := Lib.hid (show FewerOk r { r with clear := min 9 (r.clear + (1 + (n : Int))) } (planL r b) from by rw [planL_eq]; exact more_clear HZ.out HA1.out n hpm)
        have HLX := Lib.hid (show r.salt.length ≤ 30 ∧ r.mud.length ≤ 30 ∧ r.use.length ≤ 30 ∧ r.gauges.length ≤ 30 from HL.out)
        clear hm1 hm2
        go_enter Try.func19, Try.ntmps19
        go_wp2_with fail
        obtain ⟨wq, hwq⟩ : ∃ wq, w.alloc (rO26 r A) = wq := ⟨_, rfl⟩
        rw [hwq] at HB HX ⊢
        clear hwq
        replace HR := Lib.hid (HR.out.below HB.out)
        with_reducible refine (ready_c r A _ HR.out).mono ?_
        rintro e w18 ⟨rfl, hb⟩
        replace HB := Lib.hid (HB.out.trans (hb.mono HB.out.size))
        replace HX := Lib.hid (HX.out.below hb)
        replace HR := Lib.hid (HR.out.below hb)
        clear hb
        rw [HRD.out]
        obtain ⟨k0, k1, k2, k3, k4, k5, k6, k7, k8, k9⟩ := HX.out
        go_wp2_with fail
        clear k0 k1 k2 k3 k4 k5 k6 k7 k8 k9
        with_reducible refine (Truths_c r A _ HOK.out HR.out).mono ?_
        rintro e w19 ⟨lt, ct, rfl, htl, hb⟩
        replace HB := Lib.hid (HB.out.trans (hb.mono HB.out.size))
        replace HX := Lib.hid (HX.out.below hb)
        replace HR := Lib.hid (HR.out.below hb)
        clear hb
        clear htl
        rw [HNT.out]
        have hn0 := HN0.out
        obtain ⟨k0, k1, k2, k3, k4, k5, k6, k7, k8, k9⟩ := HX.out
        go_upto_region 4 with fail
        clear hn0 k0 k1 k2 k3 k4 k5 k6 k7 k8 k9
        obtain ⟨xb, hxb⟩ : ∃ n, n = w19.heap.size := ⟨_, rfl⟩
        obtain ⟨wx, hwx⟩ : ∃ Q, Q = w19.alloc (rO26 r A) := ⟨_, rfl⟩
        have hb : Below w19.heap.size w19 wx := by rw [hwx]; exact al_b _ _
        have hX1 : wx.heap[xb]? = some (.cells #[.int .i64 r.last, .slice A.sa r.salt.length A.sc, .slice A.ma r.mud.length A.mc, .int .i64 r.sweet, .int .i64 r.clear, .int .i64 r.size, .int .i64 r.start, .int .i64 r.draw, .slice A.ua r.use.length A.uc, .slice A.ga r.gauges.length A.gc] 26 (0, 0)) := by rw [hwx, hxb]; exact heap_alloc_new _ _
        have hqx : w.heap.size < xb := by rw [hxb]; exact cell_lt HX.out.k0
        have hwx0 : w.heap.size ≤ xb := by omega
        rw [← hwx, ← hxb]
        replace HB := Lib.hid (HB.out.trans (hb.mono HB.out.size))
        replace HX := Lib.hid (HX.out.below hb)
        replace HR := Lib.hid (HR.out.below hb)
        have HX1 := Lib.hid hX1
        clear hb hwx hxb hX1
        obtain ⟨k0, k1, k2, k3, k4, k5, k6, k7, k8, k9⟩ := HX.out
        go_wp2_with fail
        clear k0 k1 k2 k3 k4 k5 k6 k7 k8 k9
        with_reducible refine (list_c A.ua r.use A.uc _ HR.out.u (by have := HL.out.2.2.1; omega)).mono ?_
        rintro e w20 ⟨v, rfl, hown, hb⟩
        replace HB := Lib.hid (HB.out.trans (hb.mono HB.out.size))
        replace HX := Lib.hid (HX.out.below hb)
        replace HR := Lib.hid (HR.out.below hb)
        have hxl : xb < wx.heap.size := (Array.getElem?_eq_some_iff.1 HX1.out).1
        replace HX1 := Lib.hid ((hb.block _ hxl).trans HX1.out)
        obtain ⟨s1, c1, rfl, -, hs1⟩ := own_Sl hown
        have hsb : ∀ ad, s1 = some ad → ad.block ≠ xb := fun ad e => by subst e; have := (hown.lt ad.block rfl).1; omega
        have hsq : ∀ ad, s1 = some ad → w.heap.size < ad.block := fun ad e => by subst e; have := (hown.lt ad.block rfl).1; omega
        have HSB := Lib.hid hsb
        have HSQ := Lib.hid hsq
        have HFZ := Lib.hid (own_fz hown)
        clear hb hown hxl hsb hsq
        have HS1 := Lib.hid hs1
        clear hs1
        have cx8 := cell_blk (k := 8) HX1.out
        have fx := fun j => frozen_blk (k := j) HX1.out
        obtain ⟨k0, k1, k2, k3, k4, k5, k6, k7, k8, k9⟩ := HX.out
        have hm1 := HM1.out
        have hm2 := HM2.out
        have hn1 := HN1.out
        have hn2 := HN2.out
        have hz1 := HOK.out.sz
        have hz2 := HOK.out.st
        have hz3 := HOK.out.dr
        have hz4 := HOK.out.sw
        have hz5 := HOK.out.cl
        clear HFZ
        have hy1 := heap_set HX1.out (k := 8) (.slice s1 r.use.length c1)
        have cy := cell_blk (k := 4) hy1
        have fy := fun j => frozen_blk (k := j) hy1
        obtain ⟨wd, hwd⟩ : ∃ Q, Q = (w20.setCell ⟨xb, 8, none⟩ (.slice s1 r.use.length c1)).setCell ⟨xb, 4, none⟩ (.int .i64 (min 9 (r.clear + (1 + (n : Int))))) := ⟨_, rfl⟩
        have hy2 := heap_set hy1 (k := 4) (.int .i64 (min 9 (r.clear + (1 + (n : Int)))))
        rw [← hwd] at hy2
        have hwr : Wr (fun k => k = xb) w20 wd := by rw [hwd]; exact (Wr.setCell (fun k => k = xb) _ ⟨xb, 8, none⟩ _ rfl).trans (Wr.setCell (fun k => k = xb) _ ⟨xb, 4, none⟩ _ rfl)
        have HWD := Lib.hid hwd
        have HWR := Lib.hid hwr
        have HY2 := Lib.hid hy2
        clear hwd hwr hy2
        go_upto_region 19 with fail
        rw [← HWD.out]
        clear hm1 hm2 hn1 hn2 hz1 hz2 hz3 hz4 hz5 cx8 fx hy1 cy fy k0 k1 k2 k3 k4 k5 k6 k7 k8 k9
        have hb : Below w20.heap.size w20 wd → True := fun _ => trivial
        clear hb
        replace HB := Lib.hid (HB.out.trans (HWR.out.below HB.out.size (fun k e => by have : k = xb := e; omega)))
        replace HX := Lib.hid (HX.out.wr HWR.out (by omega))
        replace HR := Lib.hid (HR0.out.below HB.out)
        have HXX := Lib.hid (show BoxR xb { r with clear := min 9 (r.clear + (1 + (n : Int))) } ⟨A.sa, A.sc, A.ma, A.mc, s1, c1, A.ga, A.gc⟩ wd from box_blk (r := { r with clear := min 9 (r.clear + (1 + (n : Int))) }) (A := ⟨A.sa, A.sc, A.ma, A.mc, s1, c1, A.ga, A.gc⟩) HY2.out)
        have HRX := Lib.hid (show Rd wd { r with clear := min 9 (r.clear + (1 + (n : Int))) } ⟨A.sa, A.sc, A.ma, A.mc, s1, c1, A.ga, A.gc⟩ from ⟨HR.out.s, HR.out.m, HS1.out.wr HWR.out (fun ad e k => HSB.out ad e k), HR.out.g⟩)
        clear HS1 HSB HSQ
        have HSS := Lib.hid (show BbS w.heap.size xb r A { r with clear := min 9 (r.clear + (1 + (n : Int))) } ⟨A.sa, A.sc, A.ma, A.mc, s1, c1, A.ga, A.gc⟩ wd from ⟨HX.out, HXX.out⟩)
        have hpb : IntKind.i64.wrap (b : Int) = (b : Int) := IntWalk.i64_in _ (by omega)
        refine region_o (S := BbS w.heap.size xb r A { r with clear := min 9 (r.clear + (1 + (n : Int))) } ⟨A.sa, A.sc, A.ma, A.mc, s1, c1, A.ga, A.gc⟩) (.take 0 (.take 1 (.take 2 (.take 3 (.take 4 (.one 5 (.one 6 (.take 7 (.one 8 (.take 9 (.take 10 .nil))))))))))) (by kernel_rfl) (by kernel_rfl) (fun _ _ d _ _ h => by cases d <;> exact h) (HSS.out.below (Below.refl _ _).drew) ?_
        intro W0 hW0 hS0
        have hBW : Below wd.heap.size wd W0 := by subst hW0; exact (Below.refl _ _).drew
        clear hW0
        repeat (first
          | (refine ord_skip rfl ?_ ?_; rfl; simp only [List.getElem_toArray, List.getElem_cons_zero, List.getElem_cons_succ, Act.put, List.setIfInBounds_toArray, List.set_cons_zero, List.set_cons_succ])
          | (refine ord_take (v := ?_) rfl ?_ (fun W hW => ?_) ?_; rotate_left; rfl; (obtain ⟨⟨k0, k1, k2, k3, k4, k5, k6, k7, k8, k9⟩, ⟨j0, j1, j2, j3, j4, j5, j6, j7, j8, j9⟩⟩ := hW; go_simp; (first | done | with_reducible rfl)); simp only [List.getElem_toArray, List.getElem_cons_zero, List.getElem_cons_succ, Act.put, List.setIfInBounds_toArray, List.set_cons_zero, List.set_cons_succ]))
        (refine ord_op rfl ?_ (fun K hK => ?_); rfl; go_simp; (with_reducible refine (Planned_c r A b _ HOK.out.l0 HOK.out.l5 hbb).mono ?_); rintro e W1 ⟨v, rfl, hown, hb⟩; have hS1 := BbS.below hS0 hb; replace hBW := hBW.trans (hb.mono hBW.size); obtain ⟨pa, pc, rfl, -, hs⟩ := own_Sl hown; have HSP := Lib.hid hs; clear hown hs; clear hb; refine hK _ _ hS1 ?_; clear hK K; try simp only [List.getElem_toArray, List.getElem_cons_zero, List.getElem_cons_succ, Act.put, List.setIfInBounds_toArray, List.set_cons_zero, List.set_cons_succ])
        (refine ord_op rfl ?_ (fun K hK => ?_); rfl; go_simp; (with_reducible refine (fewer_c r A { r with clear := min 9 (r.clear + (1 + (n : Int))) } ⟨A.sa, A.sc, A.ma, A.mc, s1, c1, A.ga, A.gc⟩ pa (planL r b) pc _ (HR.out.below hBW) (HRX.out.below hBW) HL.out HLX.out HSP.out (by have := planL_len r b; omega) HFO.out.1 HFO.out.2).mono ?_); rintro e W2 ⟨rfl, hb⟩; have hS2 := BbS.below hS1 hb; replace hBW := hBW.trans (hb.mono hBW.size); clear hb; refine hK _ _ hS2 ?_; clear hK K; try simp only [List.getElem_toArray, List.getElem_cons_zero, List.getElem_cons_succ, Act.put, List.setIfInBounds_toArray, List.set_cons_zero, List.set_cons_succ])
        repeat (first
          | (refine ord_skip rfl ?_ ?_; rfl; simp only [List.getElem_toArray, List.getElem_cons_zero, List.getElem_cons_succ, Act.put, List.setIfInBounds_toArray, List.set_cons_zero, List.set_cons_succ])
          | (refine ord_take (v := ?_) rfl ?_ (fun W hW => ?_) ?_; rotate_left; rfl; (obtain ⟨⟨k0, k1, k2, k3, k4, k5, k6, k7, k8, k9⟩, ⟨j0, j1, j2, j3, j4, j5, j6, j7, j8, j9⟩⟩ := hW; go_simp; (first | done | with_reducible rfl)); simp only [List.getElem_toArray, List.getElem_cons_zero, List.getElem_cons_succ, Act.put, List.setIfInBounds_toArray, List.set_cons_zero, List.set_cons_succ]))
        first
          | (refine ord_pass rfl ?_ hS2 ?_; rfl; simp only [List.getElem_toArray, List.getElem_cons_zero, List.getElem_cons_succ, Act.put, List.setIfInBounds_toArray, List.set_cons_zero, List.set_cons_succ]; have W3 := W2; have hS3 := hS2)
          | (refine ord_op rfl ?_ (fun K hK => ?_); rfl; go_simp; (with_reducible refine (awake_c _).mono ?_); rintro e W3 ⟨rfl, hb⟩; have hS3 := BbS.below hS2 hb; replace hBW := hBW.trans (hb.mono hBW.size); clear hb; refine hK _ _ hS3 ?_; clear hK K; try simp only [List.getElem_toArray, List.getElem_cons_zero, List.getElem_cons_succ, Act.put, List.setIfInBounds_toArray, List.set_cons_zero, List.set_cons_succ])
        repeat (first
          | (refine ord_skip rfl ?_ ?_; rfl; simp only [List.getElem_toArray, List.getElem_cons_zero, List.getElem_cons_succ, Act.put, List.setIfInBounds_toArray, List.set_cons_zero, List.set_cons_succ])
          | (refine ord_take (v := ?_) rfl ?_ (fun W hW => ?_) ?_; rotate_left; rfl; (obtain ⟨⟨k0, k1, k2, k3, k4, k5, k6, k7, k8, k9⟩, ⟨j0, j1, j2, j3, j4, j5, j6, j7, j8, j9⟩⟩ := hW; go_simp; (first | done | with_reducible rfl)); simp only [List.getElem_toArray, List.getElem_cons_zero, List.getElem_cons_succ, Act.put, List.setIfInBounds_toArray, List.set_cons_zero, List.set_cons_succ]))
        refine ord_nil ?_
        replace HB := Lib.hid (HB.out.trans (hBW.mono HB.out.size))
        replace HX := Lib.hid (HX.out.below hBW)
        replace HR := Lib.hid (HR.out.below hBW)
        replace HXX := Lib.hid (HXX.out.below hBW)
        replace HRX := Lib.hid (HRX.out.below hBW)
        clear hBW
        go_wp2_with fail
        go_ret
        exact ⟨rfl, HB.out⟩
end Go.Proofs.Ytgglfngkomgadaa
