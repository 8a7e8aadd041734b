/- verdicts, bounds -/
import Derived.Test.YtgglfngkomgadaaJF
import Derived.Test.YtgglfngkomgadaaJC
/- Walks: verdict, Good. -/
namespace Go.Proofs.Ytgglfngkomgadaa
open Go.RowKit Go.Shelf
set_option linter.unusedVariables false
set_option linter.unusedSimpArgs false
set_option maxRecDepth 100000

theorem WorkB.below {n0 : Nat} {W W' : World} {p : Nat} {r : Riv} {A : RA} {v : Value} {m : Nat} {gs : List (List Bool)} (h : WorkB n0 W p r A v m gs) (hb : Below W.heap.size W W') : WorkB n0 W' p r A v m gs :=
  ⟨h.hp, h.hm, h.hne, (hb.block _ (Array.getElem?_eq_some_iff.1 h.blk).1).trans h.blk, own_below h.own hb, h.sep⟩
/-- What a walk reads of a river at work. -/
theorem WorkB.row {n0 : Nat} {W : World} {p : Nat} {r : Riv} {A : RA} {v : Value} {m : Nat} {gs : List (List Bool)} (h : WorkB n0 W p r A v m gs) :
    ∃ av cv, v = .slice av gs.length cv ∧ W.cell? ⟨p, 10, none⟩ = some (.slice av gs.length cv) ∧ Sl W av (gls gs) := by
  obtain ⟨av, cv, rfl, hnc, hsl⟩ := own_Sl h.own
  exact ⟨av, cv, rfl, by rw [cell_blk h.blk]; rfl, hsl⟩

def verdI (p : List Bool → Bool) (gs : List (List Bool)) : Int := if (gs.filter p).length = gs.length then 1 else if (gs.filter p).length = 0 then 2 else 3
theorem take_filter_succ {α : Type} (p : α → Bool) (xs : List α) (k : Nat) (x : α) (h : xs[k]? = some x) : ((xs.take (k + 1)).filter p).length = ((xs.take k).filter p).length + (if p x then 1 else 0) := by
  rw [List.take_add_one, h, List.filter_append, List.length_append]
  cases hp : p x <;> simp [hp]
theorem filter_take_le {α : Type} (p : α → Bool) (xs : List α) (k : Nat) : ((xs.take k).filter p).length ≤ xs.length := Nat.le_trans (List.length_filter_le _ _) (by rw [List.length_take]; omega)

set_option maxHeartbeats 1000000 in
theorem good1_c (g : List Bool) (hg : g.length = 6) (D bd : Nat) (hD : D < 6) (w : World) (hb : w.cell? ⟨bd, 0, none⟩ = some (.int .i64 D)) :
    Calls Try.prog 79 #[gv g, .pointer (some ⟨bd, 0, none⟩)] w fun e w' => e = .returned (.bool (g.getD D false)) ∧ Below w.heap.size w w' := by
  obtain ⟨a, b, c, d, e, f, rfl⟩ := exists6 g hg
  have hl := cell_lt hb
  obtain rfl | rfl | rfl | rfl | rfl | rfl : D = 0 ∨ D = 1 ∨ D = 2 ∨ D = 3 ∨ D = 4 ∨ D = 5 := by omega
  all_goals
    go_enter Try.func79, Try.ntmps79
    go_wp2_with fail
    go_ret
    exact ⟨rfl, (Below.refl _ _).alloc (Nat.le_refl _) _⟩

set_option maxHeartbeats 3000000 in
theorem verdict79_c (r : Riv) (A : RA) (n0 p m : Nat) (v : Value) (gs : List (List Bool)) (h6 : All6 gs) (h64 : gs.length ≤ 64) (q : List Bool → Bool) (bd : Nat) (w : World) (hW : WorkB n0 w p r A v m gs)
    (hq : ∀ g ∈ gs, ∀ W : World, Below w.heap.size w W → Calls Try.prog 79 #[gv g, .pointer (some ⟨bd, 0, none⟩)] W fun e w' => e = .returned (.bool (q g)) ∧ Below W.heap.size W w') :
    Calls Try.prog 78 #[.pointer (some ⟨p, 0, none⟩), .func (.func 79) #[] #[.pointer (some ⟨bd, 0, none⟩)]] w fun e w' => e = .returned (.int .i64 (verdI q gs)) ∧ Below w.heap.size w w' := by
  obtain ⟨av, cv, rfl, hc10, hsl⟩ := hW.row
  have HQ := Lib.hid hq
  have HW := Lib.hid hW
  have hpl := cell_lt hc10
  clear hq hW
  go_enter Try.func78, Try.ntmps78
  go_wp2_with fail
  go_loopw [5, 7, 13] (fun y _ i wr => ∃ k : Nat, k ≤ gs.length ∧ i = .int .i64 k ∧ y = .int .i64 ((gs.take k).filter q).length ∧ Below w.heap.size w wr) (fun _ _ i _ => gs.length - (intOf i).toNat)
  case atStart => exact ⟨0, Nat.zero_le _, rfl, by simp, Below.refl _ _⟩
  case round =>
    obtain ⟨k, hk, rfl, rfl, hB⟩ := hrel
    by_cases hlt : k < gs.length
    · obtain ⟨x, hx⟩ : ∃ x, gs[k]? = some x := ⟨_, List.getElem?_eq_getElem hlt⟩
      have hX := Lib.hid hx
      have hx6 := h6 x (List.mem_of_getElem? hx)
      have hmem := Lib.hid (List.mem_of_getElem? hx)
      obtain ⟨b, o, x0, x1, x2, x3, x4, x5, rfl, hxe, h1, h2, h3, h4, h5, h7⟩ := Sl.gl_at h6 (hsl.below hB) hx
      have hXE := Lib.hid hxe
      have hFl := Lib.hid (filter_take_le q gs k)
      obtain ⟨cn, hcn⟩ : ∃ cn, cn = ((gs.take k).filter q).length := ⟨_, rfl⟩
      have hCN := Lib.hid hcn
      have hcb : cn ≤ 64 := by rw [hcn]; exact Nat.le_trans (filter_take_le q gs k) h64
      rw [← hcn]
      clear hx hxe hcn
      have hwc : IntKind.i64.wrap ((cn : Int) + 1) = (cn : Int) + 1 := IntWalk.i64_in _ (by omega)
      go_wp2_with fail
      rw [show (Value.agg #[.bool x0, .bool x1, .bool x2, .bool x3, .bool x4, .bool x5]) = gv x from by rw [hXE.out]; rfl]
      have hBa : Below w.heap.size w (wr.alloc (.cells #[.bool x0, .bool x1, .bool x2, .bool x3, .bool x4, .bool x5] 111)) := hB.alloc hB.size _
      refine (HQ.out x hmem.out _ hBa).mono ?_; rintro e w1 ⟨rfl, hb⟩
      have hB1 := hBa.trans (hb.mono hBa.size)
      cases ht : q x
      · go_wp2_with fail
        go_roundw
        case rel => exact ⟨k + 1, by omega, by go_num, by rw [take_filter_succ _ _ _ _ hX.out, ht, ← hCN.out]; simp, hB1⟩
        case measure => simp [intOf]; omega
      · go_wp2_with fail
        go_roundw
        case rel => exact ⟨k + 1, by omega, by go_num, by rw [take_filter_succ _ _ _ _ hX.out, ht, ← hCN.out]; simp, hB1⟩
        case measure => simp [intOf]; omega
    · obtain rfl : k = gs.length := by omega
      have hc' := (hB.cell (p := ⟨p, 10, none⟩) hpl).trans hc10
      obtain ⟨cn, hcn⟩ : ∃ cn, cn = (gs.filter q).length := ⟨_, rfl⟩
      have hCN := Lib.hid hcn
      rw [List.take_length, ← hcn]
      clear hcn
      by_cases e1 : cn = gs.length
      · have hv : verdI q gs = 1 := by unfold verdI; rw [← hCN.out, if_pos e1]
        have hVV := Lib.hid hv
        have et : ((cn : Int) == (gs.length : Int)) = true := by simp; omega
        clear hv e1
        go_wp2_with fail
        go_ret
        exact ⟨ret_int hVV.out.symm, hB⟩
      · have et : ((cn : Int) == (gs.length : Int)) = false := by simp; omega
        by_cases e2 : cn = 0
        · have hv : verdI q gs = 2 := by unfold verdI; rw [← hCN.out, if_neg e1, if_pos e2]
          have hVV := Lib.hid hv
          have et2 : ((cn : Int) == 0) = true := by simp; omega
          clear hv e1 e2
          go_wp2_with fail
          go_ret
          exact ⟨ret_int hVV.out.symm, hB⟩
        · have hv : verdI q gs = 3 := by unfold verdI; rw [← hCN.out, if_neg e1, if_neg e2]
          have hVV := Lib.hid hv
          have et2 : ((cn : Int) == 0) = false := by simp; omega
          clear hv e1 e2
          go_wp2_with fail
          go_ret
          exact ⟨ret_int hVV.out.symm, hB⟩


theorem day_in (r : Riv) (day : Int) (ok : Ok r) (h : inB day 0 r.last = true) : ∃ D : Nat, day = D ∧ D < 6 := by
  unfold inB at h
  simp only [decide_eq_true_eq] at h
  have := ok.l5
  exact ⟨day.toNat, by omega, by omega⟩
/-- The error and the answer of Good. -/
def goodA (r : Riv) (day : Int) : Int × Int := if askE r (inB day 0 r.last) = 0 then (verdI (fun g => g.getD day.toNat false) (goodsL r), 0) else (0, askE r (inB day 0 r.last))
end Go.Proofs.Ytgglfngkomgadaa
/- Walks: Good. -/
namespace Go.Proofs.Ytgglfngkomgadaa
open Go.RowKit Go.Shelf
set_option linter.unusedVariables false
set_option linter.unusedSimpArgs false
set_option maxRecDepth 100000

theorem asked_err (r : Riv) (A : RA) (fine : Bool) (w : World) (hr : Rd w r A) (hl1 : r.salt.length ≤ 30) (hl2 : r.mud.length ≤ 30) (hl3 : r.use.length ≤ 30) (hl4 : r.gauges.length ≤ 30) (h : askE r fine ≠ 0) :
    Calls Try.prog 76 #[rivV r A, .bool fine] w fun e w' => e = .returned (.tuple #[.pointer none, .int .i64 (askE r fine)]) ∧ Below w.heap.size w w' := by
  refine (asked_c r A fine w hr hl1 hl2 hl3 hl4).mono ?_
  rintro e w' ⟨hb, (⟨_, he⟩ | ⟨h0, _⟩)⟩
  · exact ⟨he, hb⟩
  · exact absurd h0 h
def AskOk (r : Riv) (A : RA) (w : World) (e : Ending) (w' : World) : Prop := ∃ p v m, e = .returned (.tuple #[.pointer (some ⟨p, 0, none⟩), .int .i64 0]) ∧ WorkB w.heap.size w' p r A v m (goodsL r) ∧ w'.heap[m]? = some (.map #[] 0) ∧ Below w.heap.size w w'
theorem asked_ok (r : Riv) (A : RA) (fine : Bool) (w : World) (hr : Rd w r A) (hl1 : r.salt.length ≤ 30) (hl2 : r.mud.length ≤ 30) (hl3 : r.use.length ≤ 30) (hl4 : r.gauges.length ≤ 30) (h : askE r fine = 0) :
    Calls Try.prog 76 #[rivV r A, .bool fine] w (AskOk r A w) := by
  refine (asked_c r A fine w hr hl1 hl2 hl3 hl4).mono ?_
  rintro e w' ⟨hb, (⟨h0, _⟩ | ⟨_, p, v, m, he, hW, hm⟩)⟩
  · exact absurd h h0
  · exact ⟨p, v, m, he, hW, hm, hb⟩
theorem ask_ok {r : Riv} {fine : Bool} (h : askE r fine = 0) : r.faultI = 0 ∧ fine = true ∧ goodsL r ≠ [] := by
  unfold askE at h
  by_cases hf : r.faultI = 0
  · rw [if_neg (by simpa using hf)] at h
    cases fine
    · simp at h
    · simp only [Bool.not_true, Bool.false_eq_true, if_false] at h
      refine ⟨hf, rfl, fun e => ?_⟩
      rw [e] at h; simp at h
  · rw [if_pos hf] at h; exact absurd h hf
theorem goodsL_64 (r : Riv) : (goodsL r).length ≤ 64 := goodsOf_64 r _
theorem goodsL_6 (r : Riv) : All6 (goodsL r) := goodsOf_all6 r _

/-- It hands back a number and an error. -/
def RetNE (x : Int × Int) (w : World) (e : Ending) (w' : World) : Prop := e = .returned (.tuple #[.int .i64 x.1, .int .i64 x.2]) ∧ Below w.heap.size w w'

set_option maxHeartbeats 3000000 in
theorem Good_err (r : Riv) (A : RA) (day : Int) (w : World) (hr : Rd w r A) (hl1 : r.salt.length ≤ 30) (hl2 : r.mud.length ≤ 30) (hl3 : r.use.length ≤ 30) (hl4 : r.gauges.length ≤ 30) (h : askE r (inB day 0 r.last) ≠ 0) :
    Calls Try.prog 25 #[rivV r A, .int .i64 day] w (RetNE (0, askE r (inB day 0 r.last)) w) := by
  obtain ⟨E, hE⟩ : ∃ E, E = askE r (inB day 0 r.last) := ⟨_, rfl⟩
  have HE := Lib.hid hE
  have hne : (E == 0) = false := by rw [hE]; simpa using h
  have HN := Lib.hid h
  rw [← hE]
  clear hE h
  go_enter Try.func25, Try.ntmps25
  go_wp2_with fail
  obtain ⟨wq, hwq⟩ : ∃ wq, (w.alloc (rivO r A)).alloc (.cells #[.int .i64 day] 3) = wq := ⟨_, rfl⟩
  rw [hwq]
  have hq0 : wq.heap[w.heap.size]? = some (rivO r A) := by rw [← hwq, Below.heap_alloc _ _ _ (by simp)]; exact heap_alloc_new _ _
  have hq1 : wq.heap[w.heap.size + 1]? = some (.cells #[.int .i64 day] 3) := by
    have h2 := heap_alloc_new (w.alloc (rivO r A)) (.cells #[.int .i64 day] 3)
    rw [World.size_alloc] at h2
    rw [← hwq]; exact h2
  have hbq : Below w.heap.size w wq := by rw [← hwq]; exact ((Below.refl _ w).alloc (Nat.le_refl _) _).alloc (by simp) _
  have hzq : wq.heap.size = w.heap.size + 2 := by rw [← hwq]; simp
  obtain ⟨k0, k1, k2, k3, k4, k5, k6, k7, k8, k9⟩ := riv_cells hq0
  have hday : wq.cell? ⟨w.heap.size + 1, 0, none⟩ = some (.int .i64 day) := by rw [cell_blk hq1]; rfl
  have hlt0 : w.heap.size < wq.heap.size := by omega
  have hlt1 : w.heap.size + 1 < wq.heap.size := by omega
  clear hwq hq0 hq1
  refine region_o (S := OldC wq.heap.size wq) (.take 0 (.take 1 (.take 2 (.one 3 (.one 4 (.take 5 (.take 6 (.take 7 (.take 8 (.take 9 .nil)))))))))) (by kernel_rfl) (by kernel_rfl) (fun _ _ d _ _ h => by cases d <;> exact h) (oldR (Nat.le_refl _)) ?_
  intro W0 hW0 hS0
  have hBW : Below wq.heap.size wq W0 := by subst hW0; exact (Below.refl _ _).drew
  clear hW0
  repeat (first
    | (refine ord_skip rfl ?_ ?_; rfl; simp only [pz])
    | (refine ord_take (v := ?_) rfl ?_ (fun W hW => ?_) ?_; rotate_left; rfl; (obtain ⟨hz, hcc, hbb⟩ := hW; go_simp; (first | done | with_reducible rfl)); simp only [pz]))
  (refine ord_op rfl ?_ (fun K hK => ?_); rfl; go_simp; refine (day_c r A _ _).mono ?_; rintro e W1 ⟨rfl, hb1⟩; have hS1 := oldK hS0 hb1; refine hK _ _ hS1 ?_; clear hK K; try simp only [pz])
  (refine ord_op rfl ?_ (fun K hK => ?_); rfl; go_simp; refine (asked_err r A _ _ (hr.below (hbq.trans ((hS1).be.mono hbq.size))) hl1 hl2 hl3 hl4 HN.out).mono ?_; rintro e W2 ⟨rfl, hb2⟩; rw [← HE.out]; have hS2 := oldK hS1 hb2; refine hK _ _ hS2 ?_; clear hK K; try simp only [pz])
  repeat (first
    | (refine ord_skip rfl ?_ ?_; rfl; simp only [pz])
    | (refine ord_take (v := ?_) rfl ?_ (fun W hW => ?_) ?_; rotate_left; rfl; (obtain ⟨hz, hcc, hbb⟩ := hW; go_simp; (first | done | with_reducible rfl)); simp only [pz]))
  refine ord_nil ?_
  go_wp2_with fail
  refine bodyPost_ret (v := .tuple #[.int .i64 0, .int .i64 E]) (by simp [results, Try.results25, go_sem]) rfl ⟨rfl, hbq.trans (hS2.be.mono hbq.size)⟩

set_option maxHeartbeats 3000000 in
theorem Good_ok (r : Riv) (A : RA) (day : Int) (w : World) (hr : Rd w r A) (hl1 : r.salt.length ≤ 30) (hl2 : r.mud.length ≤ 30) (hl3 : r.use.length ≤ 30) (hl4 : r.gauges.length ≤ 30) (h : askE r (inB day 0 r.last) = 0) :
    Calls Try.prog 25 #[rivV r A, .int .i64 day] w (RetNE (verdI (fun g => g.getD day.toNat false) (goodsL r), 0) w) := by
  obtain ⟨D, rfl, hD6⟩ := day_in r day (ok_of_fault (ask_ok h).1).1 (ask_ok h).2.1
  have HN := Lib.hid h
  clear h
  go_enter Try.func25, Try.ntmps25
  go_wp2_with fail
  obtain ⟨wq, hwq⟩ : ∃ wq, (w.alloc (rivO r A)).alloc (.cells #[.int .i64 (D : Int)] 3) = wq := ⟨_, rfl⟩
  rw [hwq]
  have hq0 : wq.heap[w.heap.size]? = some (rivO r A) := by rw [← hwq, Below.heap_alloc _ _ _ (by simp)]; exact heap_alloc_new _ _
  have hq1 : wq.heap[w.heap.size + 1]? = some (.cells #[.int .i64 (D : Int)] 3) := by
    have h2 := heap_alloc_new (w.alloc (rivO r A)) (.cells #[.int .i64 (D : Int)] 3)
    rw [World.size_alloc] at h2
    rw [← hwq]; exact h2
  have hbq : Below w.heap.size w wq := by rw [← hwq]; exact ((Below.refl _ w).alloc (Nat.le_refl _) _).alloc (by simp) _
  have hzq : wq.heap.size = w.heap.size + 2 := by rw [← hwq]; simp
  obtain ⟨k0, k1, k2, k3, k4, k5, k6, k7, k8, k9⟩ := riv_cells hq0
  have hday : wq.cell? ⟨w.heap.size + 1, 0, none⟩ = some (.int .i64 (D : Int)) := by rw [cell_blk hq1]; rfl
  have hlt0 : w.heap.size < wq.heap.size := by omega
  have hlt1 : w.heap.size + 1 < wq.heap.size := by omega
  clear hwq hq0 hq1
  refine region_o (S := OldC wq.heap.size wq) (.take 0 (.take 1 (.take 2 (.one 3 (.one 4 (.take 5 (.take 6 (.take 7 (.take 8 (.take 9 .nil)))))))))) (by kernel_rfl) (by kernel_rfl) (fun _ _ d _ _ h => by cases d <;> exact h) (oldR (Nat.le_refl _)) ?_
  intro W0 hW0 hS0
  have hBW : Below wq.heap.size wq W0 := by subst hW0; exact (Below.refl _ _).drew
  clear hW0
  repeat (first
    | (refine ord_skip rfl ?_ ?_; rfl; simp only [pz])
    | (refine ord_take (v := ?_) rfl ?_ (fun W hW => ?_) ?_; rotate_left; rfl; (obtain ⟨hz, hcc, hbb⟩ := hW; go_simp; (first | done | with_reducible rfl)); simp only [pz]))
  (refine ord_op rfl ?_ (fun K hK => ?_); rfl; go_simp; refine (day_c r A _ _).mono ?_; rintro e W1 ⟨rfl, hb1⟩; have hS1 := oldK hS0 hb1; refine hK _ _ hS1 ?_; clear hK K; try simp only [pz])
  (refine ord_op rfl ?_ (fun K hK => ?_); rfl; go_simp; refine (asked_ok r A _ _ (hr.below (hbq.trans ((hS1).be.mono hbq.size))) hl1 hl2 hl3 hl4 HN.out).mono ?_; rintro e W2 ⟨p, v, m, rfl, hWB, hmp, hb2⟩; have hS2 := oldK hS1 hb2; refine hK _ _ hS2 ?_; clear hK K; try simp only [pz])
  repeat (first
    | (refine ord_skip rfl ?_ ?_; rfl; simp only [pz])
    | (refine ord_take (v := ?_) rfl ?_ (fun W hW => ?_) ?_; rotate_left; rfl; (obtain ⟨hz, hcc, hbb⟩ := hW; go_simp; (first | done | with_reducible rfl)); simp only [pz]))
  refine ord_nil ?_
  go_wp2_with fail
  have hd2 : W2.cell? ⟨w.heap.size + 1, 0, none⟩ = some (.int .i64 D) := (hS2.ce _ _ hlt1).trans hday
  refine (verdict79_c r A _ p m v (goodsL r) (goodsL_6 r) (goodsL_64 r) (fun g => g.getD D false) (w.heap.size + 1) _ hWB (fun g hg W hb => good1_c g (goodsL_6 r g hg) D _ hD6 W ((hb.cell (p := ⟨w.heap.size + 1, 0, none⟩) (cell_lt hd2)).trans hd2))).mono ?_
  rintro e w3 ⟨rfl, hb3⟩
  go_wp2_with fail
  refine bodyPost_ret (v := .tuple #[.int .i64 (verdI (fun g => g.getD D false) (goodsL r)), .int .i64 0]) (by simp [results, Try.results25, go_sem]) rfl ⟨?_, (hbq.trans (hS2.be.mono hbq.size)).trans (hb3.mono (Nat.le_trans hbq.size hS2.be.size))⟩
  rfl

theorem Good_c (r : Riv) (A : RA) (day : Int) (w : World) (hr : Rd w r A) (hl1 : r.salt.length ≤ 30) (hl2 : r.mud.length ≤ 30) (hl3 : r.use.length ≤ 30) (hl4 : r.gauges.length ≤ 30) :
    Calls Try.prog 25 #[rivV r A, .int .i64 day] w (RetNE (goodA r day) w) := by
  unfold goodA
  by_cases h : askE r (inB day 0 r.last) = 0
  · rw [if_pos h]; exact Good_ok r A day w hr hl1 hl2 hl3 hl4 h
  · rw [if_neg h]; exact Good_err r A day w hr hl1 hl2 hl3 hl4 h
end Go.Proofs.Ytgglfngkomgadaa
/- Walks: the bounds of a tank. -/
namespace Go.Proofs.Ytgglfngkomgadaa
open Go.RowKit Go.Shelf
set_option linter.unusedVariables false
set_option linter.unusedSimpArgs false
set_option maxRecDepth 100000

theorem WorkB.cells {n0 : Nat} {W : World} {p : Nat} {r : Riv} {A : RA} {v : Value} {m : Nat} {gs : List (List Bool)} (h : WorkB n0 W p r A v m gs) :
    W.cell? ⟨p, 0, none⟩ = some (.int .i64 r.last) ∧ W.cell? ⟨p, 1, none⟩ = some (.slice A.sa r.salt.length A.sc) ∧ W.cell? ⟨p, 2, none⟩ = some (.slice A.ma r.mud.length A.mc) ∧ W.cell? ⟨p, 3, none⟩ = some (.int .i64 r.sweet) ∧ W.cell? ⟨p, 4, none⟩ = some (.int .i64 r.clear) ∧ W.cell? ⟨p, 5, none⟩ = some (.int .i64 r.size) ∧ W.cell? ⟨p, 6, none⟩ = some (.int .i64 r.start) ∧ W.cell? ⟨p, 7, none⟩ = some (.int .i64 r.draw) ∧ W.cell? ⟨p, 8, none⟩ = some (.slice A.ua r.use.length A.uc) ∧ W.cell? ⟨p, 9, none⟩ = some (.slice A.ga r.gauges.length A.gc) ∧ W.cell? ⟨p, 10, none⟩ = some v ∧ W.cell? ⟨p, 11, none⟩ = some (.map (some m)) := by
  refine ⟨?_, ?_, ?_, ?_, ?_, ?_, ?_, ?_, ?_, ?_, ?_, ?_⟩ <;> (rw [cell_blk h.blk]; rfl)

def tv (r : Riv) (xs : List Int) (D : Nat) (g : List Bool) : Int := (playL r g xs).getD D 0
def bndF : List Int → Rg
  | [] => ⟨0, 0⟩
  | n :: t => t.foldl (fun o n => ⟨min o.lo n, max o.hi n⟩) ⟨n, n⟩
theorem bndF_snoc (ns : List Int) (n : Int) : bndF (ns ++ [n]) = if ns.isEmpty then ⟨n, n⟩ else ⟨min (bndF ns).lo n, max (bndF ns).hi n⟩ := by
  cases ns with
  | nil => rfl
  | cons a t => simp [bndF]
def bndL (r : Riv) (xs : List Int) (D : Nat) (gs : List (List Bool)) : Rg := bndF (gs.map (tv r xs D))

theorem after_c (a : Option Addr) (ts : List Int) (c D : Nat) (w : World) (h : Sl w a (ints ts)) (hD : D < ts.length) :
    Calls Try.prog 82 #[.slice a ts.length c, .int .i64 D] w fun e w' => e = .returned (.int .i64 (ts.getD D 0)) ∧ Below w.heap.size w w' := by
  obtain ⟨x, hx⟩ : ∃ x, ts[D]? = some x := ⟨_, List.getElem?_eq_getElem hD⟩
  obtain ⟨b, o, rfl, d⟩ := h.int_at hx
  have hxd : ts.getD D 0 = x := by simp [List.getD, hx]
  rw [hxd]
  clear hx hxd h
  go_enter Try.func82, Try.ntmps82
  go_wp2_with fail
  go_ret
  exact ⟨rfl, Below.refl _ _⟩

set_option maxHeartbeats 4000000 in
theorem bounds_c (r : Riv) (A : RA) (ok : Ok r) (n0 p m : Nat) (v : Value) (gs : List (List Bool)) (h6 : All6 gs) (h64 : gs.length ≤ 64) (a : Option Addr) (xs : List Int) (c D : Nat) (w : World) (hW : WorkB n0 w p r A v m gs) (hr : Rd w r A)
    (hs : Sl w a (ints xs)) (hlen : xs.length ≤ 1000) (hD : D < r.use.length) :
    Calls Try.prog 83 #[.agg #[.func (.func 82) #[] #[]], .pointer (some ⟨p, 0, none⟩), .slice a xs.length c, .int .i64 D] w fun e w' => e = .returned (.agg #[.int .i64 (bndL r xs D gs).lo, .int .i64 (bndL r xs D gs).hi]) ∧ Below w.heap.size w w' := by
  obtain ⟨av, cv, rfl, hc10, hsl⟩ := hW.row
  have hwc := Lib.hid hW.cells
  have HW := Lib.hid hW
  have HOK := Lib.hid ok
  have hpl := cell_lt hc10
  clear hW ok
  go_enter Try.func83, Try.ntmps83
  go_wp2_with fail
  go_loopw [9, 10, 11, 17] (fun _ _ _ i wr => ∃ k : Nat, k ≤ gs.length ∧ i = .int .i64 k ∧ wr.heap[w.heap.size]? = some (.cells #[.func (.func 82) #[] #[]] 121 (0, 0)) ∧
    wr.heap[w.heap.size + 1]? = some (.cells #[.int .i64 (bndL r xs D (gs.take k)).lo, .int .i64 (bndL r xs D (gs.take k)).hi] 49 (0, 0)) ∧ Below w.heap.size w wr) (fun _ _ _ i _ => gs.length - (intOf i).toNat)
  case atStart =>
    refine ⟨0, Nat.zero_le _, rfl, ?_, ?_, ((Below.refl _ w).alloc (Nat.le_refl _) _).alloc (by simp) _⟩
    · rw [Below.heap_alloc _ _ _ (by simp)]; exact heap_alloc_new _ _
    · have h2 := heap_alloc_new (w.alloc (.cells #[.func (.func 82) #[] #[]] 121)) (.cells #[.int .i64 0, .int .i64 0] 49)
      rw [World.size_alloc] at h2
      exact h2
  case round =>
    obtain ⟨k, hk, rfl, hq, ho, hB⟩ := hrel
    by_cases hlt : k < gs.length
    · obtain ⟨x, hx⟩ : ∃ x, gs[k]? = some x := ⟨_, List.getElem?_eq_getElem hlt⟩
      have hX := Lib.hid hx
      have hx6 := h6 x (List.mem_of_getElem? hx)
      obtain ⟨b, o, x0, x1, x2, x3, x4, x5, rfl, hxe, h1, h2, h3, h4, h5, h7⟩ := Sl.gl_at h6 (hsl.below hB) hx
      have hXE := Lib.hid hxe
      have HQ := Lib.hid hq
      have HO := Lib.hid ho
      clear hx hxe hq ho
      go_wp2_with fail
      obtain ⟨wq, hwq⟩ : ∃ wq, wr.alloc (.cells #[.bool x0, .bool x1, .bool x2, .bool x3, .bool x4, .bool x5] 111) = wq := ⟨_, rfl⟩
      rw [hwq]
      have hq5 : wq.heap[wr.heap.size]? = some (.cells #[.bool x0, .bool x1, .bool x2, .bool x3, .bool x4, .bool x5] 111 (0, 0)) := by rw [← hwq]; exact heap_alloc_new _ _
      have hbq : Below wr.heap.size wr wq := by rw [← hwq]; exact (Below.refl _ _).alloc (Nat.le_refl _) _
      have hzq : wq.heap.size = wr.heap.size + 1 := by rw [← hwq]; simp
      have hwz : w.heap.size + 1 < wr.heap.size := (Array.getElem?_eq_some_iff.1 HO.out).1
      have hBq := hB.trans (hbq.mono hB.size)
      obtain ⟨k0, k1, k2, k3, k4, k5, k6, k7, k8, k9, k10, k11⟩ := (HW.out.below hBq).cells
      have q0 : wq.cell? ⟨w.heap.size, 0, none⟩ = some (.func (.func 82) #[] #[]) := by rw [cell_blk ((hbq.block _ (by omega)).trans HQ.out)]; rfl
      have g0 : wq.cell? ⟨wr.heap.size, 0, none⟩ = some (.bool x0) := by rw [cell_blk hq5]; rfl
      have g1 : wq.cell? ⟨wr.heap.size, 1, none⟩ = some (.bool x1) := by rw [cell_blk hq5]; rfl
      have g2 : wq.cell? ⟨wr.heap.size, 2, none⟩ = some (.bool x2) := by rw [cell_blk hq5]; rfl
      have g3 : wq.cell? ⟨wr.heap.size, 3, none⟩ = some (.bool x3) := by rw [cell_blk hq5]; rfl
      have g4 : wq.cell? ⟨wr.heap.size, 4, none⟩ = some (.bool x4) := by rw [cell_blk hq5]; rfl
      have g5 : wq.cell? ⟨wr.heap.size, 5, none⟩ = some (.bool x5) := by rw [cell_blk hq5]; rfl
      have l0 : p < wq.heap.size := cell_lt k0
      have l1 : w.heap.size < wq.heap.size := by omega
      have l2 : wr.heap.size < wq.heap.size := by omega
      have HZQ := Lib.hid hzq
      clear hwq hq5 hzq hwz
      refine region_o (S := OldC wq.heap.size wq) (.take 0 (.take 1 (.take 2 (.take 3 (.take 4 (.take 5 (.take 6 (.take 7 (.take 9 (.one 8 (.one 10 (.take 11 .nil)))))))))))) (by kernel_rfl) (by kernel_rfl) (fun _ _ d _ _ h => by cases d <;> exact h) (oldR (Nat.le_refl _)) ?_
      intro W0 hW0 hS0
      have hBW : Below wq.heap.size wq W0 := by subst hW0; exact (Below.refl _ _).drew
      clear hW0
      repeat (first
        | (refine ord_skip rfl ?_ ?_; rfl; simp only [pz])
        | (refine ord_take (v := ?_) rfl ?_ (fun W hW => ?_) ?_; rotate_left; rfl; (obtain ⟨hz, hcc, hbb⟩ := hW; go_simp; (first | done | with_reducible rfl)); simp only [pz]))
      (refine ord_op rfl ?_ (fun K hK => ?_); rfl; go_simp; rw [show (Value.agg #[.bool x0, .bool x1, .bool x2, .bool x3, .bool x4, .bool x5]) = gv x from by rw [hXE.out]; rfl]; refine (play_c r A x a xs c _ HOK.out hx6 (hs.below (hBq.trans ((hS0).be.mono hBq.size))) hlen (hr.below (hBq.trans ((hS0).be.mono hBq.size)))).mono ?_; rintro e W1 ⟨tv1, rfl, hown1, hb1⟩; obtain ⟨at1, ct1, rfl, -, hst1⟩ := own_Sl hown1; have hS1 := oldK hS0 hb1; refine hK _ _ hS1 ?_; clear hK K; try simp only [pz])
      (refine ord_op rfl ?_ (fun K hK => ?_); rfl; go_simp; rw [show r.use.length = (playL r x xs).length from by simp [playL]]; refine (after_c _ (playL r x xs) _ D _ hst1 (by simp [playL]; exact hD)).mono ?_; rintro e W2 ⟨rfl, hb2⟩; have hS2 := oldK hS1 hb2; refine hK _ _ hS2 ?_; clear hK K; try simp only [pz])
      repeat (first
        | (refine ord_skip rfl ?_ ?_; rfl; simp only [pz])
        | (refine ord_take (v := ?_) rfl ?_ (fun W hW => ?_) ?_; rotate_left; rfl; (obtain ⟨hz, hcc, hbb⟩ := hW; go_simp; (first | done | with_reducible rfl)); simp only [pz]))
      refine ord_nil ?_
      obtain ⟨N, hN⟩ : ∃ N, N = (playL r x xs)[D]?.getD 0 := ⟨_, rfl⟩
      have HN := Lib.hid (show N = tv r xs D x from hN)
      simp only [← hN]
      clear hN
      have hwz' : w.heap.size + 1 < wr.heap.size := (Array.getElem?_eq_some_iff.1 HO.out).1
      have hB2 := hBq.trans (hS2.be.mono hBq.size)
      have ho2 : W2.heap[w.heap.size + 1]? = some (.cells #[.int .i64 (bndL r xs D (gs.take k)).lo, .int .i64 (bndL r xs D (gs.take k)).hi] 49 (0, 0)) := (hS2.be.block _ (by omega)).trans ((hbq.block _ hwz').trans HO.out)
      have hqq : W2.heap[w.heap.size]? = some (.cells #[.func (.func 82) #[] #[]] 121 (0, 0)) := (hS2.be.block _ l1).trans ((hbq.block _ (by omega)).trans HQ.out)
      have hnext : bndL r xs D (gs.take (k + 1)) = if k = 0 then ⟨N, N⟩ else ⟨min (bndL r xs D (gs.take k)).lo N, max (bndL r xs D (gs.take k)).hi N⟩ := by
        unfold bndL
        rw [List.take_add_one, hX.out]
        simp only [Option.toList_some, List.map_append, List.map_cons, List.map_nil, bndF_snoc, ← HN.out]
        cases k with
        | zero => simp
        | succ k =>
          have : (gs.take (k + 1)).map (tv r xs D) ≠ [] := by
            intro e; have := congrArg List.length e; simp at this; subst this; simp at hlt
          have h2 : ((gs.take (k + 1)).map (tv r xs D)).isEmpty = false := by
            cases hh : (gs.take (k + 1)).map (tv r xs D) with
            | nil => exact absurd hh this
            | cons a b => rfl
          rw [h2]; simp
      obtain ⟨lo, hlo⟩ : ∃ lo, lo = (bndL r xs D (gs.take k)).lo := ⟨_, rfl⟩
      obtain ⟨hi, hhi⟩ : ∃ hi, hi = (bndL r xs D (gs.take k)).hi := ⟨_, rfl⟩
      rw [← hlo, ← hhi] at ho2 hnext
      have HNX := Lib.hid hnext
      have HO2 := Lib.hid ho2
      have HQQ := Lib.hid hqq
      have o0 : W2.cell? ⟨w.heap.size + 1, 0, none⟩ = some (.int .i64 lo) := by rw [cell_blk ho2]; rfl
      have o1 : W2.cell? ⟨w.heap.size + 1, 1, none⟩ = some (.int .i64 hi) := by rw [cell_blk ho2]; rfl
      have f0 := fun j => frozen_blk (k := j) ho2
      have hz2 : w.heap.size + 1 < W2.heap.size := (Array.getElem?_eq_some_iff.1 ho2).1
      clear hlo hhi hnext ho2 hqq q0 g0 g1 g2 g3 g4 g5 k0 k1 k2 k3 k4 k5 k6 k7 k8 k9 k10 k11 hc10 h1 h2 h3 h4 h5 h7
      by_cases hk0 : k = 0
      · have ek : ((k : Int) == 0) = true := by simp [hk0]
        have HK0 := Lib.hid hk0
        clear hk0
        go_wp2_with fail
        refine (wider_c ⟨N, N⟩ N _).mono ?_; rintro e w3 ⟨rfl, hb3⟩
        have ho3 : w3.heap[w.heap.size + 1]? = some (.cells #[.int .i64 N, .int .i64 N] 49 (0, 0)) := (hb3.block _ (by simp [World.setCell]; omega)).trans (by rw [heap_set (heap_set HO2.out _) _]; rfl)
        have hq3 : w3.heap[w.heap.size]? = some (.cells #[.func (.func 82) #[] #[]] 121 (0, 0)) := (hb3.block _ (by simp [World.setCell]; omega)).trans ((Below.heap_setCell _ _ _ _ (by simp)).trans ((Below.heap_setCell _ _ _ _ (by simp)).trans HQQ.out))
        have hB3 : Below w.heap.size w w3 := ((hB2.setCell (p := ⟨w.heap.size + 1, 0, none⟩) (by simp) _).setCell (p := ⟨w.heap.size + 1, 1, none⟩) (by simp) _).trans (hb3.mono (by simp [World.setCell]; omega))
        have HO3 := Lib.hid ho3
        have HQ3 := Lib.hid hq3
        have p0 : w3.cell? ⟨w.heap.size + 1, 0, none⟩ = some (.int .i64 N) := by rw [cell_blk ho3]; rfl
        have p1 : w3.cell? ⟨w.heap.size + 1, 1, none⟩ = some (.int .i64 N) := by rw [cell_blk ho3]; rfl
        have f3 := fun j => frozen_blk (k := j) ho3
        clear ho3 hq3 hb3
        go_wp2_with fail
        go_roundw
        case rel =>
          refine ⟨k + 1, by omega, by go_num, (Below.heap_setCell _ _ _ _ (by simp)).trans ((Below.heap_setCell _ _ _ _ (by simp)).trans HQ3.out), ?_, (hB3.setCell (p := ⟨w.heap.size + 1, 0, none⟩) (by simp) _).setCell (p := ⟨w.heap.size + 1, 1, none⟩) (by simp) _⟩
          rw [heap_set (heap_set HO3.out _) _, HNX.out, if_pos HK0.out]
          simp
        case measure => simp [intOf]; omega
      · have ek : ((k : Int) == 0) = false := by simp; omega
        have HK0 := Lib.hid hk0
        clear hk0
        go_wp2_with fail
        refine (wider_c ⟨lo, hi⟩ N _).mono ?_; rintro e w3 ⟨rfl, hb3⟩
        have ho3 : w3.heap[w.heap.size + 1]? = some (.cells #[.int .i64 lo, .int .i64 hi] 49 (0, 0)) := (hb3.block _ hz2).trans HO2.out
        have hq3 : w3.heap[w.heap.size]? = some (.cells #[.func (.func 82) #[] #[]] 121 (0, 0)) := (hb3.block _ (by omega)).trans HQQ.out
        have hB3 : Below w.heap.size w w3 := hB2.trans (hb3.mono (by omega))
        have HO3 := Lib.hid ho3
        have HQ3 := Lib.hid hq3
        have p0 : w3.cell? ⟨w.heap.size + 1, 0, none⟩ = some (.int .i64 lo) := by rw [cell_blk ho3]; rfl
        have p1 : w3.cell? ⟨w.heap.size + 1, 1, none⟩ = some (.int .i64 hi) := by rw [cell_blk ho3]; rfl
        have f3 := fun j => frozen_blk (k := j) ho3
        clear ho3 hq3 hb3
        go_wp2_with fail
        go_roundw
        case rel =>
          refine ⟨k + 1, by omega, by go_num, (Below.heap_setCell _ _ _ _ (by simp)).trans ((Below.heap_setCell _ _ _ _ (by simp)).trans HQ3.out), ?_, (hB3.setCell (p := ⟨w.heap.size + 1, 0, none⟩) (by simp) _).setCell (p := ⟨w.heap.size + 1, 1, none⟩) (by simp) _⟩
          rw [heap_set (heap_set HO3.out _) _, HNX.out, if_neg HK0.out]
          simp
        case measure => simp [intOf]; omega
    · obtain rfl : k = gs.length := by omega
      rw [List.take_length] at ho
      obtain ⟨lo, hlo⟩ : ∃ lo, lo = (bndL r xs D gs).lo := ⟨_, rfl⟩
      obtain ⟨hi, hhi⟩ : ∃ hi, hi = (bndL r xs D gs).hi := ⟨_, rfl⟩
      rw [← hlo, ← hhi] at ho
      have HL := Lib.hid hlo
      have HH := Lib.hid hhi
      have o0 : wr.cell? ⟨w.heap.size + 1, 0, none⟩ = some (.int .i64 lo) := by rw [cell_blk ho]; rfl
      have o1 : wr.cell? ⟨w.heap.size + 1, 1, none⟩ = some (.int .i64 hi) := by rw [cell_blk ho]; rfl
      have f0 := fun j => frozen_blk (k := j) ho
      clear hlo hhi hq ho
      go_wp2_with fail
      refine bodyPost_ret (v := .agg #[.int .i64 lo, .int .i64 hi]) (by simp [results, Try.results83, go_sem, o0, o1]) rfl ⟨by rw [← HL.out, ← HH.out], ?_⟩
      exact (hB.setCell (p := ⟨w.heap.size + 1, 0, none⟩) (by simp) _).setCell (p := ⟨w.heap.size + 1, 1, none⟩) (by simp) _
end Go.Proofs.Ytgglfngkomgadaa
/- Walks: Tank. -/
namespace Go.Proofs.Ytgglfngkomgadaa
open Go.RowKit Go.Shelf
set_option linter.unusedVariables false
set_option linter.unusedSimpArgs false
set_option maxRecDepth 100000

def tanksL (r : Riv) (xs : List Int) : List Rg := (List.range r.use.length).map fun D => bndL r xs D (goodsL r)
/-- It hands back ranges of its own and an error. -/
def RetTk (r : Riv) (xs : List Int) (w : World) (e : Ending) (w' : World) : Prop :=
  if askE r (isPlanB r.last xs) = 0 then ∃ v, e = .returned (.tuple #[v, .int .i64 0]) ∧ w'.ownsRow w.heap.size 49 2 v r.use.length (rgs (tanksL r xs)) ∧ Below w.heap.size w w'
  else e = .returned (.tuple #[.slice none 0 0, .int .i64 (askE r (isPlanB r.last xs))]) ∧ Below w.heap.size w w'

set_option maxHeartbeats 3000000 in
theorem Tank_err (r : Riv) (A : RA) (a : Option Addr) (xs : List Int) (c : Nat) (w : World) (hr : Rd w r A) (hl1 : r.salt.length ≤ 30) (hl2 : r.mud.length ≤ 30) (hl3 : r.use.length ≤ 30) (hl4 : r.gauges.length ≤ 30)
    (hs : Sl w a (ints xs)) (hlen : xs.length ≤ 1000) (h : askE r (isPlanB r.last xs) ≠ 0) :
    Calls Try.prog 30 #[rivV r A, .slice a xs.length c] w (RetTk r xs w) := by
  obtain ⟨E, hE⟩ : ∃ E, E = askE r (isPlanB r.last xs) := ⟨_, rfl⟩
  have HE := Lib.hid hE
  have hne : (E == 0) = false := by rw [hE]; simpa using h
  have HN := Lib.hid h
  clear hE h
  go_enter Try.func30, Try.ntmps30
  go_wp2_with fail
  obtain ⟨wq, hwq⟩ : ∃ wq, w.alloc (rivO r A) = wq := ⟨_, rfl⟩
  rw [hwq]
  have hq0 : wq.heap[w.heap.size]? = some (rivO r A) := by rw [← hwq]; exact heap_alloc_new _ _
  have hbq : Below w.heap.size w wq := by rw [← hwq]; exact (Below.refl _ w).alloc (Nat.le_refl _) _
  have hzq : wq.heap.size = w.heap.size + 1 := by rw [← hwq]; simp
  obtain ⟨k0, k1, k2, k3, k4, k5, k6, k7, k8, k9⟩ := riv_cells hq0
  have hlt0 : w.heap.size < wq.heap.size := by omega
  clear hwq hq0
  refine region_o (S := OldC wq.heap.size wq) (.take 0 (.take 1 (.take 2 (.one 3 (.one 4 (.take 5 (.take 6 (.take 7 (.take 8 (.take 9 .nil)))))))))) (by kernel_rfl) (by kernel_rfl) (fun _ _ d _ _ h => by cases d <;> exact h) (oldR (Nat.le_refl _)) ?_
  intro W0 hW0 hS0
  have hBW : Below wq.heap.size wq W0 := by subst hW0; exact (Below.refl _ _).drew
  clear hW0
  repeat (first
    | (refine ord_skip rfl ?_ ?_; rfl; simp only [pz])
    | (refine ord_take (v := ?_) rfl ?_ (fun W hW => ?_) ?_; rotate_left; rfl; (obtain ⟨hz, hcc, hbb⟩ := hW; go_simp; (first | done | with_reducible rfl)); simp only [pz]))
  (refine ord_op rfl ?_ (fun K hK => ?_); rfl; go_simp; refine (isPlan_c r A a xs c _ (hs.below (hbq.trans ((hS0).be.mono hbq.size))) hlen).mono ?_; rintro e W1 ⟨rfl, hb1⟩; have hS1 := oldK hS0 hb1; refine hK _ _ hS1 ?_; clear hK K; try simp only [pz])
  (refine ord_op rfl ?_ (fun K hK => ?_); rfl; go_simp; refine (asked_err r A _ _ (hr.below (hbq.trans ((hS1).be.mono hbq.size))) hl1 hl2 hl3 hl4 HN.out).mono ?_; rintro e W2 ⟨rfl, hb2⟩; rw [← HE.out]; have hS2 := oldK hS1 hb2; refine hK _ _ hS2 ?_; clear hK K; try simp only [pz])
  repeat (first
    | (refine ord_skip rfl ?_ ?_; rfl; simp only [pz])
    | (refine ord_take (v := ?_) rfl ?_ (fun W hW => ?_) ?_; rotate_left; rfl; (obtain ⟨hz, hcc, hbb⟩ := hW; go_simp; (first | done | with_reducible rfl)); simp only [pz]))
  refine ord_nil ?_
  go_wp2_with fail
  refine bodyPost_ret (v := .tuple #[.slice none 0 0, .int .i64 E]) (by simp [results, Try.results30, go_sem]) rfl ?_
  unfold RetTk
  rw [if_neg HN.out, ← HE.out]
  exact ⟨rfl, hbq.trans (hS2.be.mono hbq.size)⟩

set_option maxHeartbeats 4000000 in
theorem Tank_ok (r : Riv) (A : RA) (a : Option Addr) (xs : List Int) (c : Nat) (w : World) (hr : Rd w r A) (hl1 : r.salt.length ≤ 30) (hl2 : r.mud.length ≤ 30) (hl3 : r.use.length ≤ 30) (hl4 : r.gauges.length ≤ 30)
    (hs : Sl w a (ints xs)) (hlen : xs.length ≤ 1000) (h : askE r (isPlanB r.last xs) = 0) :
    Calls Try.prog 30 #[rivV r A, .slice a xs.length c] w (RetTk r xs w) := by
  have HOK := Lib.hid (ok_of_fault (ask_ok h).1).1
  have HN := Lib.hid h
  have HRT := Lib.hid (show RetTk r xs w = fun e w' => ∃ v, e = .returned (.tuple #[v, .int .i64 0]) ∧ w'.ownsRow w.heap.size 49 2 v r.use.length (rgs (tanksL r xs)) ∧ Below w.heap.size w w' from by funext e w'; unfold RetTk; rw [if_pos h])
  have hul : ((r.use.length : Nat) : Int) = r.last + 1 := HOK.out.nu
  have hwl : IntKind.i64.wrap (r.last + 1) = r.last + 1 := IntWalk.i64_in _ (by have := HOK.out.l5; have := HOK.out.l0; omega)
  have hu6 : r.use.length ≤ 6 := by have := HOK.out.l5; omega
  have HUL := Lib.hid hul
  clear h hul
  go_enter Try.func30, Try.ntmps30
  go_wp2_with fail
  obtain ⟨wq, hwq⟩ : ∃ wq, w.alloc (rivO r A) = wq := ⟨_, rfl⟩
  rw [hwq]
  have hq0 : wq.heap[w.heap.size]? = some (rivO r A) := by rw [← hwq]; exact heap_alloc_new _ _
  have hbq : Below w.heap.size w wq := by rw [← hwq]; exact (Below.refl _ w).alloc (Nat.le_refl _) _
  have hzq : wq.heap.size = w.heap.size + 1 := by rw [← hwq]; simp
  obtain ⟨k0, k1, k2, k3, k4, k5, k6, k7, k8, k9⟩ := riv_cells hq0
  have hlt0 : w.heap.size < wq.heap.size := by omega
  clear hwq hq0
  refine region_o (S := OldC wq.heap.size wq) (.take 0 (.take 1 (.take 2 (.one 3 (.one 4 (.take 5 (.take 6 (.take 7 (.take 8 (.take 9 .nil)))))))))) (by kernel_rfl) (by kernel_rfl) (fun _ _ d _ _ h => by cases d <;> exact h) (oldR (Nat.le_refl _)) ?_
  intro W0 hW0 hS0
  have hBW : Below wq.heap.size wq W0 := by subst hW0; exact (Below.refl _ _).drew
  clear hW0
  repeat (first
    | (refine ord_skip rfl ?_ ?_; rfl; simp only [pz])
    | (refine ord_take (v := ?_) rfl ?_ (fun W hW => ?_) ?_; rotate_left; rfl; (obtain ⟨hz, hcc, hbb⟩ := hW; go_simp; (first | done | with_reducible rfl)); simp only [pz]))
  (refine ord_op rfl ?_ (fun K hK => ?_); rfl; go_simp; refine (isPlan_c r A a xs c _ (hs.below (hbq.trans ((hS0).be.mono hbq.size))) hlen).mono ?_; rintro e W1 ⟨rfl, hb1⟩; have hS1 := oldK hS0 hb1; refine hK _ _ hS1 ?_; clear hK K; try simp only [pz])
  (refine ord_op rfl ?_ (fun K hK => ?_); rfl; go_simp; obtain ⟨w1', hw1'⟩ : ∃ n, n = (W1).heap.size := ⟨_, rfl⟩; refine (asked_ok r A _ _ (hr.below (hbq.trans ((hS1).be.mono hbq.size))) hl1 hl2 hl3 hl4 HN.out).mono ?_; rintro e W2 ⟨p, v, m, rfl, hWB, hmp, hb2⟩; rw [← hw1'] at hWB; clear hw1'; have hS2 := oldK hS1 hb2; refine hK _ _ hS2 ?_; clear hK K; try simp only [pz])
  repeat (first
    | (refine ord_skip rfl ?_ ?_; rfl; simp only [pz])
    | (refine ord_take (v := ?_) rfl ?_ (fun W hW => ?_) ?_; rotate_left; rfl; (obtain ⟨hz, hcc, hbb⟩ := hW; go_simp; (first | done | with_reducible rfl)); simp only [pz]))
  refine ord_nil ?_
  have hk0 := (hS2.ce _ 0 hlt0).trans k0
  have hB2 := hbq.trans (hS2.be.mono hbq.size)
  have HB2 := Lib.hid hB2
  clear hS2 hS1 hS0 hBW k0 k1 k2 k3 k4 k5 k6 k7 k8 k9
  go_wp2_with fail
  rw [← HUL.out]
  go_loopw [8, 9, 24] (fun v8 _ i wr => ∃ k : Nat, k ≤ r.use.length ∧ i = .int .i64 k ∧ wr.ownsRow W2.heap.size 49 2 v8 k (rgs ((List.range k).map fun D => bndL r xs D (goodsL r))) ∧ Below W2.heap.size W2 wr) (fun _ _ i _ => r.use.length - (intOf i).toNat)
  case atStart => exact ⟨0, Nat.zero_le _, rfl, World.ownsRow_nil _ _ _ _, Below.refl _ _⟩
  case round =>
    obtain ⟨k, hk, rfl, hown, hB⟩ := hrel
    have hWz : w.heap.size ≤ W2.heap.size := HB2.out.size
    by_cases hlt : k < r.use.length
    · obtain ⟨av8, cv8, rfl, -, -⟩ := own_Sl hown
      have HOW := Lib.hid hown
      have hB' := HB2.out.trans (hB.mono hWz)
      clear hown
      go_wp2_with fail
      refine (bounds_c r A HOK.out w1' p m v (goodsL r) (goodsL_6 r) (goodsL_64 r) a xs c k _ (hWB.below hB) (hr.below hB') (hs.below hB') hlen hlt).mono ?_
      rintro e w3 ⟨rfl, hb3⟩
      obtain ⟨lo, hlo⟩ : ∃ lo, lo = (bndL r xs k (goodsL r)).lo := ⟨_, rfl⟩
      obtain ⟨hi, hhi⟩ : ∃ hi, hi = (bndL r xs k (goodsL r)).hi := ⟨_, rfl⟩
      have hbd : bndL r xs k (goodsL r) = ⟨lo, hi⟩ := by rw [hlo, hhi]
      have HBD := Lib.hid hbd
      rw [← hlo, ← hhi]
      clear hlo hhi hbd
      have hown2 := own_below HOW.out hb3
      have hB3 := hB.trans (hb3.mono hB.size)
      go_wp2_with (at_builtin; refine wpList_app elRg rfl _ _ rfl rfl rfl (hown2.alloc _) (Sl_new w3 [.int .i64 lo, .int .i64 hi] 49) rfl (by intro u hu; simp at hu; rcases hu with rfl | rfl <;> rfl) (by omega) (by omega) (by have := hB3.size; simp; omega) ?_; intro v2 w2 hown3 hg2 _)
      go_roundw
      case rel =>
        refine ⟨k + 1, by omega, by go_num, ?_, (hB3.alloc hB3.size _).grown hg2 (by have := hB3.size; simp; omega) (fun j e => (hown2.lt j e).1)⟩
        rw [List.range_succ, List.map_append, rgs_append]
        have e2 : rgs [bndL r xs k (goodsL r)] = [.int .i64 lo, .int .i64 hi] := by rw [HBD.out]; rfl
        rw [List.map_cons, List.map_nil, e2]
        exact hown3
      case measure => simp [intOf]; omega
    · obtain rfl : k = r.use.length := by omega
      have HOW := Lib.hid hown
      obtain ⟨av8, cv8, rfl, -, -⟩ := own_Sl hown
      clear hown
      go_wp2_with fail
      refine bodyPost_ret (v := .tuple #[.slice av8 r.use.length cv8, .int .i64 0]) (by simp [results, Try.results30, go_sem]) rfl ?_
      rw [HRT.out]
      exact ⟨_, rfl, own_mono HOW.out hWz, HB2.out.trans (hB.mono hWz)⟩

theorem Tank_c (r : Riv) (A : RA) (a : Option Addr) (xs : List Int) (c : Nat) (w : World) (hr : Rd w r A) (hl1 : r.salt.length ≤ 30) (hl2 : r.mud.length ≤ 30) (hl3 : r.use.length ≤ 30) (hl4 : r.gauges.length ≤ 30)
    (hs : Sl w a (ints xs)) (hlen : xs.length ≤ 1000) :
    Calls Try.prog 30 #[rivV r A, .slice a xs.length c] w (RetTk r xs w) := by
  by_cases h : askE r (isPlanB r.last xs) = 0
  · exact Tank_ok r A a xs c w hr hl1 hl2 hl3 hl4 hs hlen h
  · exact Tank_err r A a xs c w hr hl1 hl2 hl3 hl4 hs hlen h
end Go.Proofs.Ytgglfngkomgadaa
