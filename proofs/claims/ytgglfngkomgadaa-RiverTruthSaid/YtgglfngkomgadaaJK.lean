/- the smallest tank, plans, truths, gauges -/
import Derived.Test.YtgglfngkomgadaaJE
import Derived.Test.YtgglfngkomgadaaJJ
import Derived.Test.YtgglfngkomgadaaJI
/- Walks: ints, Truth. -/
namespace Go.Proofs.Ytgglfngkomgadaa
open Go.RowKit Go.Shelf
set_option linter.unusedVariables false
set_option linter.unusedSimpArgs false
set_option maxRecDepth 100000

theorem list_beq_take {xs ys : List Int} (hl : xs.length = ys.length) (k : Nat) (x y : Int) (hx : xs[k]? = some x) (hy : ys[k]? = some y) (he : xs.take k = ys.take k) : (x ≠ y → (xs == ys) = false) ∧ (x = y → xs.take (k + 1) = ys.take (k + 1)) := by
  constructor
  · intro h
    rw [beq_eq_false_iff_ne]
    intro e
    rw [e, hy] at hx
    exact h (Option.some.inj hx).symm
  · intro h
    rw [List.take_add_one, List.take_add_one, hx, hy, he, h]
def TwS (b o b' o' : Nat) (x y : Int) (W : World) : Prop := W.cell? ⟨b, o, none⟩ = some (.int .i64 x) ∧ W.cell? ⟨b', o', none⟩ = some (.int .i64 y)
theorem ints_c (a a' : Option Addr) (xs ys : List Int) (c c' : Nat) (w : World) (h : Sl w a (ints xs)) (h' : Sl w a' (ints ys)) (hlen : xs.length ≤ 1000) :
    Calls Try.prog 38 #[.slice a xs.length c, .slice a' ys.length c'] w fun e w' => e = .returned (.bool (xs == ys)) ∧ Below w.heap.size w w' := by
  obtain ⟨R, hR⟩ : ∃ R, R = (xs == ys) := ⟨_, rfl⟩
  have HR := Lib.hid hR
  rw [← hR]
  clear hR
  by_cases hl : xs.length = ys.length
  · have HL := Lib.hid hl
    have el : ((xs.length : Int) != (ys.length : Int)) = false := by simp; omega
    clear hl
    go_enter Try.func38, Try.ntmps38
    go_wp2_with fail
    go_loopw [5] (fun i wr => ∃ k : Nat, k ≤ xs.length ∧ i = .int .i64 k ∧ Hid (xs.take k = ys.take k) ∧ Below w.heap.size w wr) (fun i _ => xs.length - (intOf i).toNat)
    case atStart => exact ⟨0, Nat.zero_le _, rfl, by show _ = _; simp, Below.refl _ _⟩
    case round =>
      obtain ⟨k, hk, rfl, HT, hB⟩ := hrel
      by_cases hlt : k < xs.length
      · have hky : k < ys.length := by have := HL.out; omega
        obtain ⟨x, hx⟩ : ∃ x, xs[k]? = some x := ⟨_, List.getElem?_eq_getElem hlt⟩
        obtain ⟨y, hy⟩ : ∃ y, ys[k]? = some y := ⟨_, List.getElem?_eq_getElem hky⟩
        have HX := Lib.hid hx
        have HY := Lib.hid hy
        have hpr := list_beq_take HL.out k x y hx hy HT.out
        have HP := Lib.hid hpr
        obtain ⟨b, o, rfl, d⟩ := (h.below hB).int_at hx
        obtain ⟨b', o', rfl, d'⟩ := (h'.below hB).int_at hy
        have HS : TwS b (o + k) b' (o' + k) x y wr := ⟨d, d'⟩
        have HBB := Lib.hid hB
        have ew : IntKind.i64.wrap ((k : Int) + 1) = (k : Int) + 1 := IntWalk.i64_in _ (by omega)
        clear hx hy hpr d d' hB
        go_wp2_with fail
        refine region_o (S := TwS b (o + k) b' (o' + k) x y) (.take 0 (.take 1 (.take 2 (.take 3 (.take 4 (.take 5 (.take 6 (.take 7 (.take 8 .nil))))))))) (by kernel_rfl) (by kernel_rfl) (fun _ _ d _ _ h => by cases d <;> exact h) (⟨by simpa using HS.1, by simpa using HS.2⟩) ?_
        intro W0 hW0 hS0
        have hBW : Below wr.heap.size wr W0 := by subst hW0; exact (Below.refl _ _).drew
        clear hW0
        repeat (first
          | (refine ord_skip rfl ?_ ?_; rfl; simp only [pz])
          | (refine ord_take (v := ?_) rfl ?_ (fun W hW => ?_) ?_; rotate_left; rfl; (obtain ⟨hz0, hz1⟩ := hW; go_simp; (first | done | with_reducible rfl)); simp only [pz]))
        refine ord_nil ?_
        by_cases hxy : x = y
        · have exy : (x != y) = false := by simpa using hxy
          have HXY := Lib.hid hxy
          clear hxy
          go_wp2_with fail
          go_roundw
          case rel => exact ⟨k + 1, by omega, by go_num, HP.out.2 HXY.out, HBB.out.trans (hBW.mono HBB.out.size)⟩
          case measure => simp [intOf]; omega
        · have exy : (x != y) = true := by simpa using hxy
          have HXY := Lib.hid hxy
          clear hxy
          go_wp2_with fail
          go_ret
          exact ⟨ret_bool (by rw [HR.out, HP.out.1 HXY.out]), HBB.out.trans (hBW.mono HBB.out.size)⟩
      · have hkl : k = xs.length := by omega
        have HK := Lib.hid hkl
        clear hkl
        go_wp2_with fail
        go_ret
        refine ⟨ret_bool ?_, hB⟩
        have h1 := HT.out
        rw [HK.out, List.take_length, HL.out, List.take_length] at h1
        rw [HR.out, h1]; simp
  · have HL := Lib.hid hl
    have el : ((xs.length : Int) != (ys.length : Int)) = true := by simp; omega
    clear hl
    go_enter Try.func38, Try.ntmps38
    go_wp2_with fail
    go_ret
    refine ⟨ret_bool ?_, Below.refl _ _⟩
    rw [HR.out]
    symm
    rw [beq_eq_false_iff_ne]
    intro e
    exact HL.out (by rw [e])

def TrS (q : Nat) (v0 v1 : Value) (W : World) : Prop := W.cell? ⟨q, 0, none⟩ = some v0 ∧ W.cell? ⟨q, 1, none⟩ = some v1
theorem TrS.wr {q : Nat} {v0 v1 : Value} {W W' : World} {C : Nat → Prop} (h : TrS q v0 v1 W) (hw : Wr C W W') (h1 : ¬ C q) : TrS q v0 v1 W' := ⟨hw.cell h1 h.1, hw.cell h1 h.2⟩
def RetTr (t : Tr) (w : World) (e : Ending) (w' : World) : Prop := ∃ B', e = .returned (trV t B') ∧ RdT w' t B' ∧ Below w.heap.size w w'
set_option maxHeartbeats 2000000 in
theorem Truth_c (t : Tr) (B : TA) (w : World) (ht : RdT w t B) (hl1 : t.salt.length ≤ 1000) (hl2 : t.mud.length ≤ 1000) :
    Calls Try.prog 44 #[trV t B] w (RetTr t w) := by
  go_enter Try.func44, Try.ntmps44
  go_wp2_with fail
  obtain ⟨wq, hwq⟩ : ∃ wq, (w.alloc (.cells #[.slice B.sa t.salt.length B.sc, .slice B.ma t.mud.length B.mc] 64)).alloc (.cells #[.slice none 0 0, .slice none 0 0] 66) = wq := ⟨_, rfl⟩
  rw [hwq]
  have hq0 : wq.heap[w.heap.size]? = some (.cells #[.slice B.sa t.salt.length B.sc, .slice B.ma t.mud.length B.mc] 64 (0, 0)) := by rw [← hwq, Below.heap_alloc _ _ _ (by simp)]; exact heap_alloc_new _ _
  have hq1 : wq.heap[w.heap.size + 1]? = some (.cells #[.slice none 0 0, .slice none 0 0] 66 (0, 0)) := by
    rw [← hwq]
    have h2 := heap_alloc_new (w.alloc (.cells #[.slice B.sa t.salt.length B.sc, .slice B.ma t.mud.length B.mc] 64)) (.cells #[.slice none 0 0, .slice none 0 0] 66)
    simpa using h2
  have hbq : Below w.heap.size w wq := by rw [← hwq]; exact ((Below.refl _ w).alloc (Nat.le_refl _) _).alloc (by simp) _
  have hzq : wq.heap.size = w.heap.size + 2 := by rw [← hwq]; simp
  have k0 : wq.cell? ⟨w.heap.size, 0, none⟩ = some (.slice B.sa t.salt.length B.sc) := by rw [cell_blk hq0]; rfl
  have k1 : wq.cell? ⟨w.heap.size, 1, none⟩ = some (.slice B.ma t.mud.length B.mc) := by rw [cell_blk hq0]; rfl
  have HQ1 := Lib.hid hq1
  have HZQ := Lib.hid hzq
  have hlt0 : w.heap.size < wq.heap.size := by omega
  have HK : TrS w.heap.size (.slice B.sa t.salt.length B.sc) (.slice B.ma t.mud.length B.mc) wq := ⟨k0, k1⟩
  clear hwq hq0 hq1 hzq k0 k1
  refine region_o (S := TrS w.heap.size (.slice B.sa t.salt.length B.sc) (.slice B.ma t.mud.length B.mc)) (.take 0 (.take 1 (.take 3 (.take 4 (.one 2 (.one 5 (.take 6 (.one 7 .nil)))))))) (by kernel_rfl) (by kernel_rfl) (fun _ _ d _ _ h => by cases d <;> exact h) (HK.wr (Wr.of_below (S := fun _ => False) (Below.refl _ _).drew) (fun e => e)) ?_
  intro W0 hW0 hS0
  have hBW : Below wq.heap.size wq W0 := by subst hW0; exact (Below.refl _ _).drew
  clear hW0
  repeat (first
    | (refine ord_skip rfl ?_ ?_; rfl; simp only [pz])
    | (refine ord_take (v := ?_) rfl ?_ (fun W hW => ?_) ?_; rotate_left; rfl; (obtain ⟨hz0, hz1⟩ := hW; go_simp; (first | done | with_reducible rfl)); simp only [pz]))
  refine ord_op rfl ?_ (fun K hK => ?_)
  rfl
  go_simp
  refine (list_c B.sa t.salt B.sc _ ((ht.below (hbq.trans (hBW.mono hbq.size))).s) hl1).mono ?_
  rintro e W1 ⟨v1, rfl, hown1, hb1⟩
  obtain ⟨a1, c1, rfl, hn1, hs1⟩ := own_Sl hown1
  have hBc := hBW.trans (hb1.mono hBW.size)
  have hsep1 := Lib.hid (own_sep hown1)
  have hz0 := hBW.size
  clear hown1
  have hS1 := TrS.wr hS0 (Wr.of_below (S := fun _ => False) hb1) (fun e => e)
  refine hK _ _ hS1 ?_
  clear hK K
  try simp only [pz]
  refine ord_op rfl ?_ (fun K hK => ?_)
  rfl
  go_simp
  refine (list_c B.ma t.mud B.mc _ ((ht.below (hbq.trans (hBc.mono hbq.size))).m) hl2).mono ?_
  rintro e W2 ⟨v2, rfl, hown2, hb2⟩
  obtain ⟨a2, c2, rfl, hn2, hs2⟩ := own_Sl hown2
  have hz1 := hBc.size
  replace hBc := hBc.trans (hb2.mono hBc.size)
  have hsep2 := Lib.hid (own_sep hown2)
  replace hs1 := hs1.below hb2
  clear hown2
  have hS2 := TrS.wr hS1 (Wr.of_below (S := fun _ => False) hb2) (fun e => e)
  refine hK _ _ hS2 ?_
  clear hK K
  try simp only [pz]
  repeat (first
    | (refine ord_skip rfl ?_ ?_; rfl; simp only [pz])
    | (refine ord_take (v := ?_) rfl ?_ (fun W hW => ?_) ?_; rotate_left; rfl; (obtain ⟨hz0, hz1⟩ := hW; go_simp; (first | done | with_reducible rfl)); simp only [pz]))
  refine ord_op rfl ?_ (fun K hK => ?_)
  rfl
  skip
  have hR := (hBc.block _ (by have := HZQ.out; omega)).trans HQ1.out
  have g0 := cell_blk (k := 0) hR
  have g1 := cell_blk (k := 1) hR
  have hf := fun j => frozen_blk (k := j) hR
  go_simp
  have hst := store2 hR (.slice a1 t.salt.length c1) (.slice a2 t.mud.length c2)
  obtain ⟨W3, hW3⟩ : ∃ Q, Q = ((W2).setCell ⟨w.heap.size + 1, 0, none⟩ (.slice a1 t.salt.length c1)).setCell ⟨w.heap.size + 1, 1, none⟩ (.slice a2 t.mud.length c2) := ⟨_, rfl⟩
  rw [← hW3] at hst ⊢
  obtain ⟨hR2, hwr⟩ := hst
  have hS3 := TrS.wr hS2 hwr (fun e => by have : w.heap.size = w.heap.size + 1 := e; omega)
  clear hW3 hR g0 g1 hf
  refine hK _ _ hS3 ?_
  clear hK K
  try simp only [pz]
  refine ord_nil ?_
  have q0 := cell_blk (k := 0) hR2
  have q1 := cell_blk (k := 1) hR2
  have HBc := Lib.hid hBc
  clear hBc
  go_wp2_with fail
  refine bodyPost_ret (v := trV t ⟨a1, c1, a2, c2⟩) (by simp [results, Try.results44, go_sem, q0, q1]) rfl ⟨⟨a1, c1, a2, c2⟩, rfl, ⟨?_, ?_⟩, (hbq.trans (HBc.out.mono hbq.size)).trans (hwr.below (by have := hbq.size; have := HBc.out.size; omega) (fun j e => by have : j = w.heap.size + 1 := e; omega))⟩
  · exact hs1.wr hwr (fun ad e h => by have h1 := hsep1.out ad e; have h2 : ad.block = w.heap.size + 1 := h; have h3 := HZQ.out; omega)
  · exact hs2.wr hwr (fun ad e h => by have h1 := hsep2.out ad e; have h2 : ad.block = w.heap.size + 1 := h; have h3 := HZQ.out; omega)
end Go.Proofs.Ytgglfngkomgadaa
/- Walks: Need, ProvePlan, Play, ProveTruth. -/
namespace Go.Proofs.Ytgglfngkomgadaa
open Go.RowKit Go.Shelf
set_option linter.unusedVariables false
set_option linter.unusedSimpArgs false
set_option maxRecDepth 100000

def needF (r : Riv) (gs : List (List Bool)) : Option Nat := (List.range' r.start.toNat (100 - r.start.toNat)).find? fun (s : Nat) => decide (r.last < lacksI r gs (2 ^ (r.last.toNat + 1) - 1) s (-1))
def needR : Option Nat → Int × Int
  | some s => (s, 0)
  | none => (0, 10)
def needA (r : Riv) : Int × Int := if askE r true = 0 then needR (needF r (goodsL r)) else (0, askE r true)
theorem find_step {p : Nat → Bool} (q : Nat) (h : q < 100) : (List.range' q (100 - q)).find? p = if p q then some q else (List.range' (q + 1) (100 - (q + 1))).find? p := by
  have e : 100 - q = (100 - (q + 1)) + 1 := by omega
  rw [e, List.range'_succ, List.find?_cons]
  cases p q <;> rfl

set_option maxHeartbeats 2000000 in
theorem Need_err (r : Riv) (A : RA) (w : World) (hr : Rd w r A) (hl1 : r.salt.length ≤ 30) (hl2 : r.mud.length ≤ 30) (hl3 : r.use.length ≤ 30) (hl4 : r.gauges.length ≤ 30) (h : askE r true ≠ 0) :
    Calls Try.prog 39 #[rivV r A] w (RetNE (0, askE r true) w) := by
  obtain ⟨E, hE⟩ : ∃ E, E = askE r true := ⟨_, rfl⟩
  have HE := Lib.hid hE
  have hne : (E == 0) = false := by rw [hE]; simpa using h
  have HN := Lib.hid h
  rw [← hE]
  clear hE h
  go_enter Try.func39, Try.ntmps39
  go_wp2_with fail
  have hb := (Below.refl w.heap.size w).alloc (Nat.le_refl _) (rivO r A)
  refine (asked_err r A _ _ (hr.below hb) hl1 hl2 hl3 hl4 HN.out).mono ?_
  rintro e w2 ⟨rfl, hb2⟩
  rw [← HE.out]
  go_wp2_with fail
  refine bodyPost_ret (v := .tuple #[.int .i64 0, .int .i64 E]) (by simp [results, Try.results39, go_sem]) rfl ⟨rfl, hb.trans (hb2.mono hb.size)⟩

theorem shl_small (W : World) : ∀ L : Nat, L ≤ 5 → Sem.run Try.prog (Op.shift BinOp.shl IntKind.i64 1 IntKind.i64 (IntKind.i64.wrap ((L : Int) + 1))) W = .ok (.int .i64 ((2 ^ (L + 1) : Nat) : Int)) W := by
  intro L hL
  have : L = 0 ∨ L = 1 ∨ L = 2 ∨ L = 3 ∨ L = 4 ∨ L = 5 := by omega
  rcases this with rfl | rfl | rfl | rfl | rfl | rfl <;> rfl
theorem pow_small : ∀ L : Nat, L ≤ 5 → IntKind.i64.wrap ((2 : Int) ^ (L + 1) - 1) = ((2 ^ (L + 1) - 1 : Nat) : Int) ∧ 2 ^ (L + 1) - 1 < 64 := by
  intro L hL
  have : L = 0 ∨ L = 1 ∨ L = 2 ∨ L = 3 ∨ L = 4 ∨ L = 5 := by omega
  rcases this with rfl | rfl | rfl | rfl | rfl | rfl <;> decide

set_option maxHeartbeats 2000000 in
theorem Need_ok (r : Riv) (A : RA) (w : World) (hr : Rd w r A) (hl1 : r.salt.length ≤ 30) (hl2 : r.mud.length ≤ 30) (hl3 : r.use.length ≤ 30) (hl4 : r.gauges.length ≤ 30) (h : askE r true = 0) :
    Calls Try.prog 39 #[rivV r A] w (RetNE (needR (needF r (goodsL r))) w) := by
  have HOK := Lib.hid (ok_of_fault (ask_ok h).1).1
  have HN := Lib.hid h
  obtain ⟨R, hR⟩ : ∃ R, R = needF r (goodsL r) := ⟨_, rfl⟩
  have HR := Lib.hid hR
  rw [← hR]
  obtain ⟨L, hL⟩ : ∃ L : Nat, r.last = L := ⟨r.last.toNat, by have := HOK.out.l0; omega⟩
  obtain ⟨B, hB⟩ : ∃ B : Nat, r.start = B := ⟨r.start.toNat, by have := HOK.out.st; omega⟩
  have hL5 : L ≤ 5 := by have := HOK.out.l5; omega
  have hB9 : B ≤ 99 := by have := HOK.out.st; have := HOK.out.sz; omega
  have HL := Lib.hid hL
  have HB := Lib.hid hB
  clear h hR hL hB
  go_enter Try.func39, Try.ntmps39
  go_wp2_with fail
  obtain ⟨wq, hwq⟩ : ∃ wq, w.alloc (rivO r A) = wq := ⟨_, rfl⟩
  have hb := (Below.refl w.heap.size w).alloc (Nat.le_refl _) (rivO r A)
  have hq0 : wq.heap[w.heap.size]? = some (rivO r A) := by rw [← hwq]; exact heap_alloc_new _ _
  rw [hwq] at hb ⊢
  have hzq : w.heap.size < wq.heap.size := (Array.getElem?_eq_some_iff.1 hq0).1
  obtain ⟨k0, k1, k2, k3, k4, k5, k6, k7, k8, k9⟩ := riv_cells hq0
  clear hwq hq0 k1 k2 k3 k4 k5 k7 k8 k9
  refine (asked_ok r A _ _ (hr.below hb) hl1 hl2 hl3 hl4 HN.out).mono ?_
  rintro e w2 ⟨p, v, m, rfl, hWB, hmp, hb2⟩
  have HMM := Lib.hid (memo_new (f := knowF r (goodsL r)) hmp)
  have HWB := Lib.hid hWB
  have HB2 := Lib.hid hb2
  have hml := memo_lt HMM.out
  have hmn : wq.heap.size ≤ m := hWB.hm
  have j0 := (hb2.cell (p := ⟨w.heap.size, 0, none⟩) hzq).trans k0
  have j6 := (hb2.cell (p := ⟨w.heap.size, 6, none⟩) hzq).trans k6
  have J0 := Lib.hid j0
  have jl := cell_lt j0
  clear hmp hb2 hWB k0 k6
  go_wp2_with fail
  rw [HB.out]
  go_loopw [6] (fun i wr => ∃ q : Nat, q ≤ 100 ∧ i = .int .i64 q ∧ Wr (fun k => k = m) w2 wr ∧ Memo wr m (knowF r (goodsL r)) ∧ Hid (R = (List.range' q (100 - q)).find? fun (s : Nat) => decide (r.last < lacksI r (goodsL r) (2 ^ (L + 1) - 1) s (-1)))) (fun i _ => 100 - (intOf i).toNat)
  case atStart =>
    refine ⟨B, by omega, rfl, Wr.refl _ _, HMM.out, ?_⟩
    show R = _
    rw [HR.out, needF, HB.out, HL.out]; rfl
  case round =>
    obtain ⟨q, hq, rfl, hw, hmm, HRq⟩ := hrel
    have HW := Lib.hid hw
    have HMq := Lib.hid hmm
    have hj0 : wr.cell? ⟨w.heap.size, 0, none⟩ = some (.int .i64 r.last) := hw.cell (p := ⟨w.heap.size, 0, none⟩) (fun e => by have : w.heap.size = m := e; omega) J0.out
    clear hw hmm j0
    by_cases hlt : q < 100
    · have hle : decide ((q : Int) ≤ 99) = true := by simp; omega
      have hst := find_step (p := fun (s : Nat) => decide (r.last < lacksI r (goodsL r) (2 ^ (L + 1) - 1) s (-1))) q hlt
      have HST := Lib.hid hst
      clear hst
      rw [HL.out] at hj0
      go_wp2_with fail
      refine region_o (S := fun W => W.cell? ⟨w.heap.size, 0, none⟩ = some (.int .i64 L)) (.take 0 (.take 1 (.take 2 (.take 3 (.take 4 (.take 5 (.take 6 (.take 7 (.take 9 (.take 10 (.one 8 (.take 11 .nil)))))))))))) (by kernel_rfl) (by kernel_rfl) (fun _ _ d _ _ h => by cases d <;> exact h) (by simpa using hj0) ?_
      intro W0 hW0 hS0
      have hBW : Below wr.heap.size wr W0 := by subst hW0; exact (Below.refl _ _).drew
      clear hW0
      repeat (first
        | (refine ord_skip rfl ?_ ?_; rfl; simp only [pz])
        | (refine ord_take (v := ?_) rfl ?_ (fun W hW => ?_) ?_; rotate_left; rfl; (have hsh := shl_small W L hL5; have hz0 := hW; go_simp; (first | done | with_reducible rfl)); simp only [pz]))
      refine ord_op rfl ?_ (fun K hK => ?_)
      rfl
      go_simp
      rw [(pow_small L hL5).1]
      obtain ⟨N, hN⟩ : ∃ N, N = lacksI r (goodsL r) (2 ^ (L + 1) - 1) q (-1) := ⟨_, rfl⟩
      have HN2 := Lib.hid hN
      have hBa := hb.trans (HB2.out.mono hb.size)
      have hBw := hBa.trans (HW.out.below (Nat.le_trans hb.size HB2.out.size) (fun k e => by have : k = m := e; omega))
      refine (lacks_c r A HOK.out wq.heap.size p m v (goodsL r) (goodsL_6 r) (goodsL_64 r) (2 ^ (L + 1) - 1) (pow_small L hL5).2 q (-1) (by omega) (by omega) (by omega) (by omega) _ ((HWB.out.wr HW.out (fun e => HWB.out.hne (by have : p = m := e; exact this.symm)) (fun k hk e => HWB.out.sep.2 (by have : k = m := e; rw [← this]; exact hk))).below hBW) (hr.below (hBw.trans (hBW.mono hBw.size))) (memo_below HMq.out hBW)).mono ?_
      rintro e W1 ⟨rfl, hwr, hmm⟩
      rw [← hN]
      clear hN
      have HWF := Lib.hid ((HW.out.trans (Wr.of_below hBW)).trans hwr)
      have HMF := Lib.hid hmm
      have hS1 : W1.cell? ⟨w.heap.size, 0, none⟩ = some (.int .i64 L) := hwr.cell (p := ⟨w.heap.size, 0, none⟩) (fun e => by have : w.heap.size = m := e; omega) hS0
      clear hwr hmm
      refine hK _ _ hS1 ?_
      clear hK K
      try simp only [pz]
      repeat (first
        | (refine ord_skip rfl ?_ ?_; rfl; simp only [pz])
        | (refine ord_take (v := ?_) rfl ?_ (fun W hW => ?_) ?_; rotate_left; rfl; (have hsh := shl_small W L hL5; have hz0 := hW; go_simp; (first | done | with_reducible rfl)); simp only [pz]))
      refine ord_nil ?_
      by_cases hc : (L : Int) < N
      · have hdc : decide ((L : Int) < N) = true := by simpa using hc
        have HC := Lib.hid hc
        rw [hdc]
        clear hc hdc
        go_wp2_with fail
        refine bodyPost_ret (v := .tuple #[.int .i64 q, .int .i64 0]) (by simp [results, Try.results39, go_sem]) rfl ⟨?_, (hb.trans (HB2.out.mono hb.size)).trans (HWF.out.below (Nat.le_trans hb.size HB2.out.size) (fun k e => by have : k = m := e; omega))⟩
        have h1 : decide (r.last < lacksI r (goodsL r) (2 ^ (L + 1) - 1) q (-1)) = true := by rw [← HN2.out, HL.out]; simpa using HC.out
        rw [HRq.out, HST.out, if_pos h1]; rfl
      · have HC := Lib.hid hc
        have hc2 : decide ((L : Int) < N) = false := by simpa using hc
        rw [hc2]
        clear hc hc2
        go_wp2_with fail
        refine ⟨⟨q + 1, by omega, by go_num, HWF.out, HMF.out, ?_⟩, by simp [intOf]; omega⟩
        show R = _
        have h1 : decide (r.last < lacksI r (goodsL r) (2 ^ (L + 1) - 1) q (-1)) = false := by rw [← HN2.out, HL.out]; simpa using HC.out
        rw [HRq.out, HST.out, if_neg (by rw [h1]; simp)]

    · have hle : decide ((q : Int) ≤ 99) = false := by simp; omega
      have e0 : 100 - q = 0 := by omega
      have HE0 := Lib.hid e0
      clear e0
      go_wp2_with fail
      refine bodyPost_ret (v := .tuple #[.int .i64 0, .int .i64 10]) (by simp [results, Try.results39, go_sem]) rfl ⟨?_, (hb.trans (HB2.out.mono hb.size)).trans (HW.out.below (Nat.le_trans hb.size HB2.out.size) (fun k e => by have : k = m := e; omega))⟩
      rw [HRq.out, HE0.out]; rfl

theorem Need_c (r : Riv) (A : RA) (w : World) (hr : Rd w r A) (hl1 : r.salt.length ≤ 30) (hl2 : r.mud.length ≤ 30) (hl3 : r.use.length ≤ 30) (hl4 : r.gauges.length ≤ 30) :
    Calls Try.prog 39 #[rivV r A] w (RetNE (needA r) w) := by
  unfold needA
  by_cases h : askE r true = 0
  · rw [if_pos h]; exact Need_ok r A w hr hl1 hl2 hl3 hl4 h
  · rw [if_neg h]; exact Need_err r A w hr hl1 hl2 hl3 hl4 h
end Go.Proofs.Ytgglfngkomgadaa
/- Walks: ProvePlan, Play, ProveTruth. -/
namespace Go.Proofs.Ytgglfngkomgadaa
open Go.RowKit Go.Shelf
set_option linter.unusedVariables false
set_option linter.unusedSimpArgs false
set_option maxRecDepth 100000

def proveP (r : Riv) (xs : List Int) (many : Int) : Bool := decide ((dryA r xs).2 = 7) && decide ((xs.length : Int) ≤ many)
set_option maxHeartbeats 2000000 in
theorem ProvePlan_c (r : Riv) (A : RA) (a : Option Addr) (xs : List Int) (c : Nat) (many : Int) (w : World) (hr : Rd w r A) (hl1 : r.salt.length ≤ 30) (hl2 : r.mud.length ≤ 30) (hl3 : r.use.length ≤ 30) (hl4 : r.gauges.length ≤ 30)
    (hs : Sl w a (ints xs)) (hlen : xs.length ≤ 1000) :
    Calls Try.prog 69 #[rivV r A, .slice a xs.length c, .int .i64 many] w fun e w' => e = .returned (.bool (proveP r xs many)) ∧ Below w.heap.size w w' := by
  obtain ⟨D, hD⟩ : ∃ D, D = dryA r xs := ⟨_, rfl⟩
  have HD := Lib.hid hD
  obtain ⟨R, hR⟩ : ∃ R, R = proveP r xs many := ⟨_, rfl⟩
  have HR := Lib.hid hR
  rw [← hR]
  clear hD hR
  go_enter Try.func69, Try.ntmps69
  go_wp2_with fail
  have hb := (Below.refl w.heap.size w).alloc (Nat.le_refl _) (rivO r A)
  refine (Dry_c r A a xs c _ (hr.below hb) hl1 hl2 hl3 hl4 (hs.below hb) hlen).mono ?_
  rintro e w2 ⟨rfl, hb2⟩
  rw [← HD.out]
  by_cases h7 : D.2 = 7
  · have H7 := Lib.hid h7
    rw [h7]
    clear h7
    go_wp2_with fail
    go_ret
    refine ⟨ret_bool ?_, hb.trans (hb2.mono hb.size)⟩
    rw [HR.out, proveP, ← HD.out, H7.out]; simp
  · have H7 := Lib.hid h7
    have e7 : (D.2 == 7) = false := by simpa using h7
    clear h7
    go_wp2_with fail
    go_ret
    refine ⟨ret_bool ?_, hb.trans (hb2.mono hb.size)⟩
    rw [HR.out, proveP, ← HD.out]; simp [H7.out]

def playA (r : Riv) (xs : List Int) (t : Tr) : List Int × Int :=
  if r.faultI ≠ 0 then ([], r.faultI) else if listedB r t && isPlanB r.last xs then (playL r (goodL r (pad12 (t.salt ++ t.mud))) xs, 0) else ([], 2)
set_option maxHeartbeats 2000000 in
theorem Play_err (r : Riv) (A : RA) (a : Option Addr) (xs : List Int) (c : Nat) (t : Tr) (B : TA) (w : World) (hr : Rd w r A) (ht : RdT w t B) (hl1 : r.salt.length ≤ 30) (hl2 : r.mud.length ≤ 30) (hl3 : r.use.length ≤ 30) (hl4 : r.gauges.length ≤ 30)
    (hs : Sl w a (ints xs)) (hlen : xs.length ≤ 1000) (h : r.faultI ≠ 0) :
    Calls Try.prog 43 #[rivV r A, .slice a xs.length c, trV t B] w (RetLE ([], r.faultI) w) := by
  obtain ⟨E, hE⟩ : ∃ E, E = r.faultI := ⟨_, rfl⟩
  have HE := Lib.hid hE
  have hne : (E == 0) = false := by rw [hE]; simpa using h
  rw [← hE]
  clear hE h
  go_enter Try.func43, Try.ntmps43
  go_wp2_with fail
  have hb := ((Below.refl w.heap.size w).alloc (Nat.le_refl _) (rivO r A)).alloc (by simp) (trO t B)
  refine (check_c r A _ (hr.below hb) hl1 hl2 hl3 hl4).mono ?_
  rintro e w2 ⟨rfl, hb2⟩
  rw [← HE.out]
  go_wp2_with fail
  refine bodyPost_ret (v := .tuple #[.slice none 0 0, .int .i64 E]) (by simp [results, Try.results43, go_sem]) rfl ⟨none, 0, rfl, .inl rfl, hb.trans (hb2.mono hb.size)⟩

set_option maxHeartbeats 3000000 in
theorem Play_ok (r : Riv) (A : RA) (a : Option Addr) (xs : List Int) (c : Nat) (t : Tr) (B : TA) (w : World) (hr : Rd w r A) (ht : RdT w t B) (hl1 : r.salt.length ≤ 30) (hl2 : r.mud.length ≤ 30) (hl3 : r.use.length ≤ 30) (hl4 : r.gauges.length ≤ 30)
    (hs : Sl w a (ints xs)) (hlen : xs.length ≤ 1000) (h : r.faultI = 0) :
    Calls Try.prog 43 #[rivV r A, .slice a xs.length c, trV t B] w (RetLE (playA r xs t) w) := by
  have HOK := Lib.hid (ok_of_fault h).1
  obtain ⟨R, hR⟩ : ∃ R, R = playA r xs t := ⟨_, rfl⟩
  have hR2 : R = if listedB r t && isPlanB r.last xs then (playL r (goodL r (pad12 (t.salt ++ t.mud))) xs, 0) else ([], 2) := by rw [hR, playA, if_neg (by simp [h])]
  have HR := Lib.hid hR2
  have HF := Lib.hid h
  rw [← hR]
  clear h hR hR2
  go_enter Try.func43, Try.ntmps43
  go_wp2_with fail
  have hb := ((Below.refl w.heap.size w).alloc (Nat.le_refl _) (rivO r A)).alloc (by simp) (trO t B)
  obtain ⟨wq, hwq⟩ : ∃ wq, (w.alloc (rivO r A)).alloc (trO t B) = wq := ⟨_, rfl⟩
  have hq0 : wq.heap[w.heap.size]? = some (rivO r A) := by rw [← hwq, Below.heap_alloc _ _ _ (by simp)]; exact heap_alloc_new _ _
  have hq1 : wq.heap[w.heap.size + 1]? = some (trO t B) := by
    rw [← hwq]
    have h2 := heap_alloc_new (w.alloc (rivO r A)) (trO t B)
    simpa using h2
  rw [hwq] at hb ⊢
  clear hwq
  refine (check_c r A _ (hr.below hb) hl1 hl2 hl3 hl4).mono ?_
  rintro e w2 ⟨rfl, hb2⟩
  rw [HF.out]
  have HB2 := Lib.hid (hb.trans (hb2.mono hb.size))
  obtain ⟨k0, k1, k2, k3, k4, k5, k6, k7, k8, k9⟩ := riv_cells ((hb2.block _ (Array.getElem?_eq_some_iff.1 hq0).1).trans hq0)
  have hq12 := (hb2.block _ (Array.getElem?_eq_some_iff.1 hq1).1).trans hq1
  have t0 : w2.cell? ⟨w.heap.size + 1, 0, none⟩ = some (.slice B.sa t.salt.length B.sc) := by rw [cell_blk hq12]; rfl
  have t1 : w2.cell? ⟨w.heap.size + 1, 1, none⟩ = some (.slice B.ma t.mud.length B.mc) := by rw [cell_blk hq12]; rfl
  have K := Lib.hid (riv_cells ((hb2.block _ (Array.getElem?_eq_some_iff.1 hq0).1).trans hq0))
  have hlt0 := cell_lt k0
  clear hb2 hb hq0 hq1 hq12
  go_wp2_with fail
  refine (listed_c r A t B _ (hr.below HB2.out) (ht.below HB2.out) (by have := HOK.out.ns; have := HOK.out.l5; omega) (by have := HOK.out.nm; have := HOK.out.l5; omega)).mono ?_
  rintro e w3 ⟨rfl, hb3⟩
  clear k0 k1 k2 k3 k4 k5 k6 k7 k8 k9 t0 t1
  have HB3 := Lib.hid hb3
  have hn12 : (if listedB r t then pad12 (t.salt ++ t.mud) else zero12).length = 12 := by
    split
    · rename_i hl
      simp only [listedB, Bool.and_eq_true, decide_eq_true_eq] at hl
      exact pad12_len _ (by have := HOK.out.ns; have := HOK.out.nm; have := HOK.out.l5; rw [List.length_append]; omega)
    · rfl
  obtain ⟨ns, hns⟩ : ∃ ns, ns = if listedB r t then pad12 (t.salt ++ t.mud) else zero12 := ⟨_, rfl⟩
  rw [← hns] at hn12 ⊢
  obtain ⟨n0, n1, n2, n3, n4, n5, n6, n7, n8, n9, n10, n11, hnn⟩ := exists12 ns hn12
  have HNS := Lib.hid hns
  have HNN := Lib.hid hnn
  rw [hnn]
  simp only [nv, ints, List.map_cons, List.map_nil]
  have hBN := Lib.hid (show Value.agg #[.int .i64 n0, .int .i64 n1, .int .i64 n2, .int .i64 n3, .int .i64 n4, .int .i64 n5, .int .i64 n6, .int .i64 n7, .int .i64 n8, .int .i64 n9, .int .i64 n10, .int .i64 n11] = nv ns from by rw [hnn]; rfl)
  have HN12 := Lib.hid hn12
  clear hns hnn hn12 hb3
  cases hli : listedB r t
  · go_wp2_with fail
    refine bodyPost_ret (v := .tuple #[.slice none 0 0, .int .i64 2]) (by simp [results, Try.results43, go_sem]) rfl ?_
    rw [HR.out, hli]
    exact ⟨none, 0, rfl, .inl rfl, (HB2.out.trans (HB3.out.mono HB2.out.size)).alloc (by have := HB2.out.size; have := HB3.out.size; omega) _⟩
  · obtain ⟨W4, hW4⟩ : ∃ Q, Q = w3.alloc (.cells #[.int .i64 n0, .int .i64 n1, .int .i64 n2, .int .i64 n3, .int .i64 n4, .int .i64 n5, .int .i64 n6, .int .i64 n7, .int .i64 n8, .int .i64 n9, .int .i64 n10, .int .i64 n11] 129) := ⟨_, rfl⟩
    have hb4 : Below w3.heap.size w3 W4 := by rw [hW4]; exact (Below.refl _ _).alloc (Nat.le_refl _) _
    have hX : W4.heap[w3.heap.size]? = some (.cells #[.int .i64 n0, .int .i64 n1, .int .i64 n2, .int .i64 n3, .int .i64 n4, .int .i64 n5, .int .i64 n6, .int .i64 n7, .int .i64 n8, .int .i64 n9, .int .i64 n10, .int .i64 n11] 129 (0, 0)) := by rw [hW4]; exact heap_alloc_new _ _
    have HX := Lib.hid hX
    obtain ⟨k0, k1, k2, k3, k4, k5, k6, k7, k8, k9⟩ := K.out
    have hq (o : Nat) : w3.cell? ⟨w.heap.size, o, none⟩ = w2.cell? ⟨w.heap.size, o, none⟩ := HB3.out.cell (p := ⟨w.heap.size, o, none⟩) hlt0
    have hlt3 : w.heap.size < w3.heap.size := Nat.lt_of_lt_of_le hlt0 HB3.out.size
    replace k0 := (hq 0).trans k0
    replace k1 := (hq 1).trans k1
    replace k2 := (hq 2).trans k2
    replace k3 := (hq 3).trans k3
    replace k4 := (hq 4).trans k4
    replace k5 := (hq 5).trans k5
    replace k6 := (hq 6).trans k6
    replace k7 := (hq 7).trans k7
    replace k8 := (hq 8).trans k8
    replace k9 := (hq 9).trans k9
    have KK := Lib.hid (⟨k0, k1, k2, k3, k4, k5, k6, k7, k8, k9⟩ : _ ∧ _ ∧ _ ∧ _ ∧ _ ∧ _ ∧ _ ∧ _ ∧ _ ∧ _)
    have HB4 := Lib.hid ((HB2.out.trans (HB3.out.mono HB2.out.size)).trans (hb4.mono (Nat.le_trans HB2.out.size HB3.out.size)))
    have HW4 := Lib.hid hW4
    clear hq hX hb4 hW4
    go_wp2_with fail
    rw [← HW4.out]
    refine (isPlan_c r A a xs c _ (hs.below HB4.out) hlen).mono ?_
    rintro e w5 ⟨rfl, hb5⟩
    have hb35 : Below w3.heap.size w3 w5 := (by rw [HW4.out]; exact (Below.refl _ _).alloc (Nat.le_refl _) _ : Below w3.heap.size w3 W4).trans (hb5.mono (by rw [HW4.out]; simp))
    have HB5 := Lib.hid (HB4.out.trans (hb5.mono HB4.out.size))
    have HX5 := Lib.hid ((hb5.block _ (Array.getElem?_eq_some_iff.1 HX.out).1).trans HX.out)
    have hlt5 : w.heap.size < w5.heap.size := Nat.lt_of_lt_of_le hlt3 hb35.size
    have hq (o : Nat) : w5.cell? ⟨w.heap.size, o, none⟩ = w3.cell? ⟨w.heap.size, o, none⟩ := hb35.cell (p := ⟨w.heap.size, o, none⟩) hlt3
    replace k0 := (hq 0).trans k0
    replace k1 := (hq 1).trans k1
    replace k2 := (hq 2).trans k2
    replace k3 := (hq 3).trans k3
    replace k4 := (hq 4).trans k4
    replace k5 := (hq 5).trans k5
    replace k6 := (hq 6).trans k6
    replace k7 := (hq 7).trans k7
    replace k8 := (hq 8).trans k8
    replace k9 := (hq 9).trans k9
    have m0 : w5.cell? ⟨w3.heap.size, 0, none⟩ = some (.int .i64 n0) := by rw [cell_blk HX5.out]; rfl
    have m1 : w5.cell? ⟨w3.heap.size, 1, none⟩ = some (.int .i64 n1) := by rw [cell_blk HX5.out]; rfl
    have m2 : w5.cell? ⟨w3.heap.size, 2, none⟩ = some (.int .i64 n2) := by rw [cell_blk HX5.out]; rfl
    have m3 : w5.cell? ⟨w3.heap.size, 3, none⟩ = some (.int .i64 n3) := by rw [cell_blk HX5.out]; rfl
    have m4 : w5.cell? ⟨w3.heap.size, 4, none⟩ = some (.int .i64 n4) := by rw [cell_blk HX5.out]; rfl
    have m5 : w5.cell? ⟨w3.heap.size, 5, none⟩ = some (.int .i64 n5) := by rw [cell_blk HX5.out]; rfl
    have m6 : w5.cell? ⟨w3.heap.size, 6, none⟩ = some (.int .i64 n6) := by rw [cell_blk HX5.out]; rfl
    have m7 : w5.cell? ⟨w3.heap.size, 7, none⟩ = some (.int .i64 n7) := by rw [cell_blk HX5.out]; rfl
    have m8 : w5.cell? ⟨w3.heap.size, 8, none⟩ = some (.int .i64 n8) := by rw [cell_blk HX5.out]; rfl
    have m9 : w5.cell? ⟨w3.heap.size, 9, none⟩ = some (.int .i64 n9) := by rw [cell_blk HX5.out]; rfl
    have m10 : w5.cell? ⟨w3.heap.size, 10, none⟩ = some (.int .i64 n10) := by rw [cell_blk HX5.out]; rfl
    have m11 : w5.cell? ⟨w3.heap.size, 11, none⟩ = some (.int .i64 n11) := by rw [cell_blk HX5.out]; rfl
    have hlt6 := cell_lt m0
    have HLI := Lib.hid hli
    clear hq hb35 hb5 hlt3 hli
    cases hpl : isPlanB r.last xs
    · have HPL := Lib.hid hpl
      clear hpl
      go_wp2_with fail
      refine bodyPost_ret (v := .tuple #[.slice none 0 0, .int .i64 2]) (by simp [results, Try.results43, go_sem]) rfl ?_
      rw [HR.out, HLI.out, HPL.out]
      exact ⟨none, 0, rfl, .inl rfl, HB5.out⟩
    · have HPL := Lib.hid hpl
      clear hpl
      go_wp2_with fail
      refine region_o (S := OldC w5.heap.size w5) (.take 0 (.take 1 (.take 2 (.take 4 (.one 3 (.one 5 (.take 6 (.take 7 .nil)))))))) (by kernel_rfl) (by kernel_rfl) (fun _ _ d _ _ h => by cases d <;> exact h) (oldR (Nat.le_refl _)) ?_
      intro W0 hW0 hS0
      have hBW : Below w5.heap.size w5 W0 := by subst hW0; exact (Below.refl _ _).drew
      clear hW0
      repeat (first
        | (refine ord_skip rfl ?_ ?_; rfl; simp only [pz])
        | (refine ord_take (v := ?_) rfl ?_ (fun W hW => ?_) ?_; rotate_left; rfl; (obtain ⟨hz, hcc, hbb⟩ := hW; go_simp; (first | done | with_reducible rfl)); simp only [pz]))
      (refine ord_op rfl ?_ (fun K hK => ?_); rfl; go_simp; rw [hBN.out]; refine (good_c r A ns _ HOK.out.l0 HOK.out.l5 HN12.out).mono ?_; rintro e W1 ⟨rfl, hb1⟩; have hS1 := oldK hS0 hb1; refine hK _ _ hS1 ?_; clear hK K; try simp only [pz])
      (refine ord_op rfl ?_ (fun K hK => ?_); rfl; go_simp; refine (play_c r A (goodL r ns) a xs c _ HOK.out (by simp [goodL]) (hs.below (HB5.out.trans ((hS1).be.mono HB5.out.size))) hlen (hr.below (HB5.out.trans ((hS1).be.mono HB5.out.size)))).mono ?_; rintro e W2 ⟨vp, rfl, hown, hb2⟩; obtain ⟨ap, cp, rfl, -, hslp⟩ := own_Sl hown; have hS2 := oldK hS1 hb2; refine hK _ _ hS2 ?_; clear hK K; try simp only [pz])
      repeat (first
        | (refine ord_skip rfl ?_ ?_; rfl; simp only [pz])
        | (refine ord_take (v := ?_) rfl ?_ (fun W hW => ?_) ?_; rotate_left; rfl; (obtain ⟨hz, hcc, hbb⟩ := hW; go_simp; (first | done | with_reducible rfl)); simp only [pz]))
      refine ord_nil ?_
      go_wp2_with fail
      refine bodyPost_ret (v := .tuple #[.slice ap r.use.length cp, .int .i64 0]) (by simp [results, Try.results43, go_sem]) rfl ?_
      rw [HR.out, HLI.out, HPL.out]
      have hul : r.use.length = (playL r (goodL r ns) xs).length := by simp [playL]
      have hns : ns = pad12 (t.salt ++ t.mud) := by rw [HNS.out, HLI.out]; rfl
      refine ⟨ap, cp, ?_, ?_, HB5.out.trans (hS2.be.mono HB5.out.size)⟩
      · rw [hul, hns]; rfl
      · rw [← hns]; exact hslp

theorem Play_c (r : Riv) (A : RA) (a : Option Addr) (xs : List Int) (c : Nat) (t : Tr) (B : TA) (w : World) (hr : Rd w r A) (ht : RdT w t B) (hl1 : r.salt.length ≤ 30) (hl2 : r.mud.length ≤ 30) (hl3 : r.use.length ≤ 30) (hl4 : r.gauges.length ≤ 30)
    (hs : Sl w a (ints xs)) (hlen : xs.length ≤ 1000) :
    Calls Try.prog 43 #[rivV r A, .slice a xs.length c, trV t B] w (RetLE (playA r xs t) w) := by
  by_cases h : r.faultI = 0
  · exact Play_ok r A a xs c t B w hr ht hl1 hl2 hl3 hl4 hs hlen h
  · have := Play_err r A a xs c t B w hr ht hl1 hl2 hl3 hl4 hs hlen h
    unfold playA
    rw [if_pos h]; exact this
end Go.Proofs.Ytgglfngkomgadaa
/- Walks: ProveTruth, First. -/
namespace Go.Proofs.Ytgglfngkomgadaa
open Go.RowKit Go.Shelf
set_option linter.unusedVariables false
set_option linter.unusedSimpArgs false
set_option maxRecDepth 100000

def proveT (r : Riv) (t : Tr) : Bool := decide (r.faultI = 0) && (listedB r t && rightB r (pad12 (t.salt ++ t.mud)) [])
abbrev RetB (b : Bool) (w : World) (e : Ending) (w' : World) : Prop := e = .returned (.bool b) ∧ Below w.heap.size w w'
set_option maxHeartbeats 2000000 in
theorem ProveTruth_err (r : Riv) (A : RA) (t : Tr) (B : TA) (w : World) (hr : Rd w r A) (ht : RdT w t B) (hl1 : r.salt.length ≤ 30) (hl2 : r.mud.length ≤ 30) (hl3 : r.use.length ≤ 30) (hl4 : r.gauges.length ≤ 30) (h : r.faultI ≠ 0) :
    Calls Try.prog 45 #[rivV r A, trV t B] w (RetB false w) := by
  obtain ⟨E, hE⟩ : ∃ E, E = r.faultI := ⟨_, rfl⟩
  have HE := Lib.hid hE
  have hne : (E == 0) = false := by rw [hE]; simpa using h
  clear hE h
  go_enter Try.func45, Try.ntmps45
  go_wp2_with fail
  have hb := ((Below.refl w.heap.size w).alloc (Nat.le_refl _) (rivO r A)).alloc (by simp) (trO t B)
  refine (check_c r A _ (hr.below hb) hl1 hl2 hl3 hl4).mono ?_
  rintro e w2 ⟨rfl, hb2⟩
  rw [← HE.out]
  go_wp2_with fail
  go_ret
  exact ⟨rfl, hb.trans (hb2.mono hb.size)⟩

set_option maxHeartbeats 3000000 in
theorem ProveTruth_ok (r : Riv) (A : RA) (t : Tr) (B : TA) (w : World) (hr : Rd w r A) (ht : RdT w t B) (hl1 : r.salt.length ≤ 30) (hl2 : r.mud.length ≤ 30) (hl3 : r.use.length ≤ 30) (hl4 : r.gauges.length ≤ 30) (h : r.faultI = 0) :
    Calls Try.prog 45 #[rivV r A, trV t B] w (RetB (listedB r t && rightB r (pad12 (t.salt ++ t.mud)) []) w) := by
  have HOK := Lib.hid (ok_of_fault h).1
  obtain ⟨R, hR⟩ : ∃ R, R = (listedB r t && rightB r (pad12 (t.salt ++ t.mud)) []) := ⟨_, rfl⟩
  have HR := Lib.hid hR
  have HF := Lib.hid h
  rw [← hR]
  clear h hR
  go_enter Try.func45, Try.ntmps45
  go_wp2_with fail
  have hb := ((Below.refl w.heap.size w).alloc (Nat.le_refl _) (rivO r A)).alloc (by simp) (trO t B)
  obtain ⟨wq, hwq⟩ : ∃ wq, (w.alloc (rivO r A)).alloc (trO t B) = wq := ⟨_, rfl⟩
  have hq0 : wq.heap[w.heap.size]? = some (rivO r A) := by rw [← hwq, Below.heap_alloc _ _ _ (by simp)]; exact heap_alloc_new _ _
  have hq1 : wq.heap[w.heap.size + 1]? = some (trO t B) := by
    rw [← hwq]
    have h2 := heap_alloc_new (w.alloc (rivO r A)) (trO t B)
    simpa using h2
  rw [hwq] at hb ⊢
  clear hwq
  refine (check_c r A _ (hr.below hb) hl1 hl2 hl3 hl4).mono ?_
  rintro e w2 ⟨rfl, hb2⟩
  rw [HF.out]
  have HB2 := Lib.hid (hb.trans (hb2.mono hb.size))
  obtain ⟨k0, k1, k2, k3, k4, k5, k6, k7, k8, k9⟩ := riv_cells ((hb2.block _ (Array.getElem?_eq_some_iff.1 hq0).1).trans hq0)
  have hq12 := (hb2.block _ (Array.getElem?_eq_some_iff.1 hq1).1).trans hq1
  have t0 : w2.cell? ⟨w.heap.size + 1, 0, none⟩ = some (.slice B.sa t.salt.length B.sc) := by rw [cell_blk hq12]; rfl
  have t1 : w2.cell? ⟨w.heap.size + 1, 1, none⟩ = some (.slice B.ma t.mud.length B.mc) := by rw [cell_blk hq12]; rfl
  have K := Lib.hid (riv_cells ((hb2.block _ (Array.getElem?_eq_some_iff.1 hq0).1).trans hq0))
  have hlt0 := cell_lt k0
  clear hb2 hb hq0 hq1 hq12
  go_wp2_with fail
  refine (listed_c r A t B _ (hr.below HB2.out) (ht.below HB2.out) (by have := HOK.out.ns; have := HOK.out.l5; omega) (by have := HOK.out.nm; have := HOK.out.l5; omega)).mono ?_
  rintro e w3 ⟨rfl, hb3⟩
  clear k0 k1 k2 k3 k4 k5 k6 k7 k8 k9 t0 t1
  have HB3 := Lib.hid hb3
  have hn12 : (if listedB r t then pad12 (t.salt ++ t.mud) else zero12).length = 12 := by
    split
    · rename_i hl
      simp only [listedB, Bool.and_eq_true, decide_eq_true_eq] at hl
      exact pad12_len _ (by have := HOK.out.ns; have := HOK.out.nm; have := HOK.out.l5; rw [List.length_append]; omega)
    · rfl
  obtain ⟨ns, hns⟩ : ∃ ns, ns = if listedB r t then pad12 (t.salt ++ t.mud) else zero12 := ⟨_, rfl⟩
  rw [← hns] at hn12 ⊢
  obtain ⟨n0, n1, n2, n3, n4, n5, n6, n7, n8, n9, n10, n11, hnn⟩ := exists12 ns hn12
  have HNS := Lib.hid hns
  have HNN := Lib.hid hnn
  rw [hnn]
  simp only [nv, ints, List.map_cons, List.map_nil]
  have hBN := Lib.hid (show Value.agg #[.int .i64 n0, .int .i64 n1, .int .i64 n2, .int .i64 n3, .int .i64 n4, .int .i64 n5, .int .i64 n6, .int .i64 n7, .int .i64 n8, .int .i64 n9, .int .i64 n10, .int .i64 n11] = nv ns from by rw [hnn]; rfl)
  have HN12 := Lib.hid hn12
  clear hns hnn hn12 hb3
  cases hli : listedB r t
  · have HLI := Lib.hid hli
    clear hli
    go_wp2_with fail
    go_ret
    refine ⟨ret_bool (by rw [HR.out, HLI.out]; rfl), (HB2.out.trans (HB3.out.mono HB2.out.size)).alloc (by have := HB2.out.size; have := HB3.out.size; omega) _⟩
  · obtain ⟨W4, hW4⟩ : ∃ Q, Q = w3.alloc (.cells #[.int .i64 n0, .int .i64 n1, .int .i64 n2, .int .i64 n3, .int .i64 n4, .int .i64 n5, .int .i64 n6, .int .i64 n7, .int .i64 n8, .int .i64 n9, .int .i64 n10, .int .i64 n11] 129) := ⟨_, rfl⟩
    have hb4 : Below w3.heap.size w3 W4 := by rw [hW4]; exact (Below.refl _ _).alloc (Nat.le_refl _) _
    obtain ⟨k0, k1, k2, k3, k4, k5, k6, k7, k8, k9⟩ := K.out
    have hq (o : Nat) : w3.cell? ⟨w.heap.size, o, none⟩ = w2.cell? ⟨w.heap.size, o, none⟩ := HB3.out.cell (p := ⟨w.heap.size, o, none⟩) hlt0
    have hlt3 : w.heap.size < w3.heap.size := Nat.lt_of_lt_of_le hlt0 HB3.out.size
    replace k0 := (hq 0).trans k0
    replace k1 := (hq 1).trans k1
    replace k2 := (hq 2).trans k2
    replace k3 := (hq 3).trans k3
    replace k4 := (hq 4).trans k4
    replace k5 := (hq 5).trans k5
    replace k6 := (hq 6).trans k6
    replace k7 := (hq 7).trans k7
    replace k8 := (hq 8).trans k8
    replace k9 := (hq 9).trans k9
    have HB4 := Lib.hid ((HB2.out.trans (HB3.out.mono HB2.out.size)).trans (hb4.mono (Nat.le_trans HB2.out.size HB3.out.size)))
    have HW4 := Lib.hid hW4
    have HLI := Lib.hid hli
    clear hq hb4 hW4 hli
    go_wp2_with fail
    rw [← HW4.out, hBN.out]
    refine (right_c r A ns none [] 0 _ HOK.out.l0 HOK.out.l5 HN12.out HOK.out.ng (fun g hg => (HOK.out.go g hg).1) ((hr.below HB4.out).g) (.inl rfl) (by simp)).mono ?_
    rintro e w5 ⟨rfl, hb5⟩
    go_wp2_with fail
    go_ret
    refine ⟨ret_bool ?_, HB4.out.trans (hb5.mono HB4.out.size)⟩
    have hns : ns = pad12 (t.salt ++ t.mud) := by rw [HNS.out, HLI.out]; rfl
    rw [HR.out, HLI.out, ← hns]; rfl

theorem ProveTruth_c (r : Riv) (A : RA) (t : Tr) (B : TA) (w : World) (hr : Rd w r A) (ht : RdT w t B) (hl1 : r.salt.length ≤ 30) (hl2 : r.mud.length ≤ 30) (hl3 : r.use.length ≤ 30) (hl4 : r.gauges.length ≤ 30) :
    Calls Try.prog 45 #[rivV r A, trV t B] w (RetB (proveT r t) w) := by
  unfold proveT
  by_cases h : r.faultI = 0
  · have := ProveTruth_ok r A t B w hr ht hl1 hl2 hl3 hl4 h
    simpa [h] using this
  · have := ProveTruth_err r A t B w hr ht hl1 hl2 hl3 hl4 h
    simpa [h] using this

def posB (r : Riv) (out : List Int) : Bool := (truthsL r).any fun ns => rightB r ns out
/-- The river with its first gauges alone. -/
def cutG (r : Riv) (k : Nat) : Riv := { r with gauges := r.gauges.take k }
def firstF (r : Riv) : Option Nat := (List.range r.gauges.length).find? fun i => !posB (cutG r (i + 1)) []
def firstR : Option Nat → Int × Int
  | some s => (s, 0)
  | none => (0, 7)
def firstA (r : Riv) : Int × Int := if r.faultI = 0 then firstR (firstF r) else (0, r.faultI)
theorem cutG_ok {r : Riv} (ok : Ok r) (k : Nat) : Ok (cutG r k) :=
  ⟨ok.l0, ok.l5, ok.ns, ok.nm, ok.nu, by have := ok.ng; simp [cutG, List.length_take]; omega, ok.sw, ok.cl, ok.sz, ok.st, ok.dr, ok.so, ok.mo, ok.uo, fun g hg => ok.go g (List.mem_of_mem_take hg)⟩
theorem At.take {w : World} {b o : Nat} {cs : List Value} (h : At w b o cs) (k : Nat) : At w b o (cs.take k) := fun i v hv => by
  rw [List.getElem?_take] at hv
  split at hv
  · exact h i v hv
  · cases hv
theorem ggs_take (gs : List Gg) (k : Nat) : ggs (gs.take k) = (ggs gs).take (k * 4) := by
  induction gs generalizing k with
  | nil => simp [ggs]
  | cons g gs ih =>
    cases k with
    | zero => simp [ggs]
    | succ k =>
      have e : (k + 1) * 4 = k * 4 + 4 := by omega
      rw [List.take_succ_cons, e]
      simp only [ggs, List.flatMap_cons] at ih ⊢
      rw [ih]
      simp [ggc, List.take_append]
theorem Sl.gtake {w : World} {a : Option Addr} {gs : List Gg} (h : Sl w a (ggs gs)) (k : Nat) : Sl w a (ggs (gs.take k)) := by
  rw [ggs_take]
  rcases h with h | ⟨b, o, ha, hA⟩
  · left; rw [h]; simp
  · exact .inr ⟨b, o, ha, hA.take _⟩
end Go.Proofs.Ytgglfngkomgadaa
/- Walks: First. -/
namespace Go.Proofs.Ytgglfngkomgadaa
open Go.RowKit Go.Shelf
set_option linter.unusedVariables false
set_option linter.unusedSimpArgs false
set_option maxRecDepth 100000

theorem findr_step {p : Nat → Bool} (n q : Nat) (h : q < n) : (List.range' q (n - q)).find? p = if p q then some q else (List.range' (q + 1) (n - (q + 1))).find? p := by
  have e : n - q = (n - (q + 1)) + 1 := by omega
  rw [e, List.range'_succ, List.find?_cons]
  cases p q <;> rfl

set_option maxHeartbeats 2000000 in
theorem First_err (r : Riv) (A : RA) (w : World) (hr : Rd w r A) (hl1 : r.salt.length ≤ 30) (hl2 : r.mud.length ≤ 30) (hl3 : r.use.length ≤ 30) (hl4 : r.gauges.length ≤ 30) (h : r.faultI ≠ 0) :
    Calls Try.prog 50 #[rivV r A] w (RetNE (0, r.faultI) w) := by
  obtain ⟨E, hE⟩ : ∃ E, E = r.faultI := ⟨_, rfl⟩
  have HE := Lib.hid hE
  have hne : (E == 0) = false := by rw [hE]; simpa using h
  rw [← hE]
  clear hE h
  go_enter Try.func50, Try.ntmps50
  go_wp2_with fail
  have hb := (Below.refl w.heap.size w).alloc (Nat.le_refl _) (rivO r A)
  refine (check_c r A _ (hr.below hb) hl1 hl2 hl3 hl4).mono ?_
  rintro e w2 ⟨rfl, hb2⟩
  rw [← HE.out]
  go_wp2_with fail
  refine bodyPost_ret (v := .tuple #[.int .i64 0, .int .i64 E]) (by simp [results, Try.results50, go_sem]) rfl ⟨rfl, hb.trans (hb2.mono hb.size)⟩

abbrev rivG (r : Riv) (A : RA) (gv : Value) : Obj := .cells #[.int .i64 r.last, .slice A.sa r.salt.length A.sc, .slice A.ma r.mud.length A.mc, .int .i64 r.sweet, .int .i64 r.clear, .int .i64 r.size, .int .i64 r.start, .int .i64 r.draw, .slice A.ua r.use.length A.uc, gv] 35 (0, 0)

set_option maxHeartbeats 3000000 in
theorem First_ok (r : Riv) (A : RA) (w : World) (hr : Rd w r A) (hl1 : r.salt.length ≤ 30) (hl2 : r.mud.length ≤ 30) (hl3 : r.use.length ≤ 30) (hl4 : r.gauges.length ≤ 30) (hgc : r.gauges.length ≤ A.gc) (h : r.faultI = 0) :
    Calls Try.prog 50 #[rivV r A] w (RetNE (firstR (firstF r)) w) := by
  have HOK := Lib.hid (ok_of_fault h).1
  obtain ⟨R, hR⟩ : ∃ R, R = firstF r := ⟨_, rfl⟩
  have hR2 : R = (List.range' 0 (r.gauges.length - 0)).find? fun i => !posB (cutG r (i + 1)) [] := by rw [hR, firstF, List.range_eq_range']; rfl
  have HR := Lib.hid hR2
  have HF := Lib.hid h
  rw [← hR]
  clear h hR hR2
  go_enter Try.func50, Try.ntmps50
  go_wp2_with fail
  have hb := (Below.refl w.heap.size w).alloc (Nat.le_refl _) (rivO r A)
  obtain ⟨wq, hwq⟩ : ∃ wq, w.alloc (rivO r A) = wq := ⟨_, rfl⟩
  have hq0 : wq.heap[w.heap.size]? = some (rivO r A) := by rw [← hwq]; exact heap_alloc_new _ _
  rw [hwq] at hb ⊢
  clear hwq
  refine (check_c r A _ (hr.below hb) hl1 hl2 hl3 hl4).mono ?_
  rintro e w2 ⟨rfl, hb2⟩
  rw [HF.out]
  have HB2 := Lib.hid (hb.trans (hb2.mono hb.size))
  have HQ := Lib.hid ((hb2.block _ (Array.getElem?_eq_some_iff.1 hq0).1).trans hq0)
  obtain ⟨k0, k1, k2, k3, k4, k5, k6, k7, k8, k9⟩ := riv_cells HQ.out
  have hlt0 := cell_lt k0
  clear hb2 hb hq0
  go_wp2_with fail
  obtain ⟨W3, hW3⟩ : ∃ Q, Q = w2.alloc (rivO r A) := ⟨_, rfl⟩
  have hb3 : Below w2.heap.size w2 W3 := by rw [hW3]; exact (Below.refl _ _).alloc (Nat.le_refl _) _
  have hX : W3.heap[w2.heap.size]? = some (rivG r A (.slice A.ga r.gauges.length A.gc)) := by rw [hW3]; exact heap_alloc_new _ _
  rw [← hW3]
  have HB3 := Lib.hid (HB2.out.trans (hb3.mono HB2.out.size))
  have HX := Lib.hid hX
  have HQ3 := Lib.hid ((hb3.block _ hlt0).trans HQ.out)
  have hlt3 : w2.heap.size < W3.heap.size := (Array.getElem?_eq_some_iff.1 hX).1
  clear hW3 hb3 hX k0 k1 k2 k3 k4 k5 k6 k7 k8 k9
  go_loopw [6, 16] (fun _ i wr => ∃ k : Nat, k ≤ r.gauges.length ∧ i = .int .i64 k ∧ (∃ n, wr.heap[w2.heap.size]? = some (rivG r A (.slice A.ga n A.gc))) ∧ Wr (fun k => k = w2.heap.size) W3 wr ∧
    Hid (R = (List.range' k (r.gauges.length - k)).find? fun i => !posB (cutG r (i + 1)) [])) (fun _ i _ => r.gauges.length - (intOf i).toNat)
  case atStart => exact ⟨0, Nat.zero_le _, rfl, ⟨_, HX.out⟩, Wr.refl _ _, HR⟩
  case round =>
    obtain ⟨k, hk, rfl, ⟨n, hXr⟩, hw, HRq⟩ := hrel
    have HW := Lib.hid hw
    have HXr := Lib.hid hXr
    have hne : ¬ (w.heap.size = w2.heap.size) := by omega
    have HQr := Lib.hid (hw.blk (k := w.heap.size) hne HQ3.out)
    have hlr : w2.heap.size < wr.heap.size := Nat.lt_of_lt_of_le hlt3 hw.size
    clear hw hXr
    by_cases hlt : k < r.gauges.length
    · obtain ⟨ad, had⟩ : ∃ ad, A.ga = some ad := by
        rcases hr.g with h | ⟨b, o, ha, -⟩
        · have h4 := congrArg List.length h; rw [len_ggs, List.length_nil] at h4; omega
        · exact ⟨_, ha⟩
      have c9 : wr.cell? ⟨w.heap.size, 9, none⟩ = some (.slice (some ad) r.gauges.length A.gc) := by rw [cell_blk HQr.out, ← had]; rfl
      have HAD := Lib.hid had
      have x0 : wr.cell? ⟨w2.heap.size, 0, none⟩ = some (.int .i64 r.last) := by rw [cell_blk HXr.out]; rfl
      have x1 : wr.cell? ⟨w2.heap.size, 1, none⟩ = some (.slice A.sa r.salt.length A.sc) := by rw [cell_blk HXr.out]; rfl
      have x2 : wr.cell? ⟨w2.heap.size, 2, none⟩ = some (.slice A.ma r.mud.length A.mc) := by rw [cell_blk HXr.out]; rfl
      have x3 : wr.cell? ⟨w2.heap.size, 3, none⟩ = some (.int .i64 r.sweet) := by rw [cell_blk HXr.out]; rfl
      have x4 : wr.cell? ⟨w2.heap.size, 4, none⟩ = some (.int .i64 r.clear) := by rw [cell_blk HXr.out]; rfl
      have x5 : wr.cell? ⟨w2.heap.size, 5, none⟩ = some (.int .i64 r.size) := by rw [cell_blk HXr.out]; rfl
      have x6 : wr.cell? ⟨w2.heap.size, 6, none⟩ = some (.int .i64 r.start) := by rw [cell_blk HXr.out]; rfl
      have x7 : wr.cell? ⟨w2.heap.size, 7, none⟩ = some (.int .i64 r.draw) := by rw [cell_blk HXr.out]; rfl
      have x8 : wr.cell? ⟨w2.heap.size, 8, none⟩ = some (.slice A.ua r.use.length A.uc) := by rw [cell_blk HXr.out]; rfl
      have x9 : wr.cell? ⟨w2.heap.size, 9, none⟩ = some (.slice A.ga n A.gc) := by rw [cell_blk HXr.out]; rfl
      have xf := fun j => frozen_blk (k := j) HXr.out
      have hst := findr_step (p := fun i => !posB (cutG r (i + 1)) []) r.gauges.length k hlt
      have HST := Lib.hid hst
      have hcap : (k : Int) + 1 ≤ A.gc := by omega
      have ew : IntKind.i64.wrap ((k : Int) + 1) = (k : Int) + 1 := IntWalk.i64_in _ (by omega)
      clear hst had
      go_wp2_with fail
      have hlen : (cutG r (k + 1)).gauges.length = k + 1 := by simp only [cutG, List.length_take]; omega
      have ev : rivV (cutG r (k + 1)) A = .agg #[.int .i64 r.last, .slice A.sa r.salt.length A.sc, .slice A.ma r.mud.length A.mc, .int .i64 r.sweet, .int .i64 r.clear, .int .i64 r.size, .int .i64 r.start, .int .i64 r.draw, .slice A.ua r.use.length A.uc, .slice (some ad) (k + 1) A.gc] := by
        show Value.agg #[.int .i64 r.last, .slice A.sa r.salt.length A.sc, .slice A.ma r.mud.length A.mc, .int .i64 r.sweet, .int .i64 r.clear, .int .i64 r.size, .int .i64 r.start, .int .i64 r.draw, .slice A.ua r.use.length A.uc, .slice A.ga (cutG r (k + 1)).gauges.length A.gc] = _
        rw [hlen, HAD.out]
      have hB4 : Below w.heap.size w (wr.setCell ⟨w2.heap.size, 9, none⟩ (.slice (some ad) (k + 1) A.gc)) :=
        HB3.out.trans ((HW.out.below HB3.out.size (fun j e => by have : j = w2.heap.size := e; have := HB2.out.size; omega)).setCell (p := ⟨w2.heap.size, 9, none⟩) (by have := HB2.out.size; exact this) _)
      have hr4 := hr.below hB4
      have hp := possible_c (cutG r (k + 1)) A none [] 0 (wr.setCell ⟨w2.heap.size, 9, none⟩ (.slice (some ad) (k + 1) A.gc)) (cutG_ok HOK.out (k + 1)) ⟨hr4.s, hr4.m, hr4.u, hr4.g.gtake (k + 1)⟩ (.inl rfl) (by simp)
      rw [ev] at hp
      refine hp.mono ?_
      clear hp ev hlen hr4
      rintro e w9 ⟨rfl, hb9⟩
      have HB9 := Lib.hid (hB4.trans (hb9.mono hB4.size))
      have HW9 := Lib.hid ((HW.out.trans (Wr.setCell (fun k => k = w2.heap.size) wr ⟨w2.heap.size, 9, none⟩ (.slice (some ad) (k + 1) A.gc) rfl)).trans (Wr.of_below hb9))
      have HX9 := Lib.hid ((hb9.block w2.heap.size (by simpa [World.setCell] using hlr)).trans (heap_set HXr.out (k := 9) (.slice (some ad) (k + 1) A.gc)))
      obtain ⟨pb, hpb⟩ : ∃ b, b = posB (cutG r (k + 1)) [] := ⟨_, rfl⟩
      have HPB := Lib.hid hpb
      rw [show ((truthsL (cutG r (k + 1))).any fun ns => rightB (cutG r (k + 1)) ns []) = pb from hpb.symm]
      clear hpb hB4 hb9 x0 x1 x2 x3 x4 x5 x6 x7 x8 x9 xf c9
      cases pb
      · go_wp2_with fail
        refine bodyPost_ret (v := .tuple #[.int .i64 k, .int .i64 0]) (by simp [results, Try.results50, go_sem]) rfl ⟨?_, HB9.out⟩
        rw [HRq.out, HST.out, ← HPB.out]; rfl
      · go_wp2_with fail
        go_roundw
        case rel => exact ⟨k + 1, by omega, by go_num, ⟨k + 1, by rw [HAD.out]; exact HX9.out⟩, HW9.out, by show R = _; rw [HRq.out, HST.out, ← HPB.out]; rfl⟩
        case measure => simp [intOf]; omega
    · have e0 : r.gauges.length - k = 0 := by omega
      have HE0 := Lib.hid e0
      clear e0
      go_wp2_with fail
      refine bodyPost_ret (v := .tuple #[.int .i64 0, .int .i64 7]) (by simp [results, Try.results50, go_sem]) rfl ⟨?_, ?_⟩
      · rw [HRq.out, HE0.out]; rfl
      · exact HB3.out.trans (HW.out.below HB3.out.size (fun j e => by have : j = w2.heap.size := e; have := HB2.out.size; omega))

theorem First_c (r : Riv) (A : RA) (w : World) (hr : Rd w r A) (hl1 : r.salt.length ≤ 30) (hl2 : r.mud.length ≤ 30) (hl3 : r.use.length ≤ 30) (hl4 : r.gauges.length ≤ 30) (hgc : r.gauges.length ≤ A.gc) :
    Calls Try.prog 50 #[rivV r A] w (RetNE (firstA r) w) := by
  unfold firstA
  by_cases h : r.faultI = 0
  · rw [if_pos h]; exact First_ok r A w hr hl1 hl2 hl3 hl4 hgc h
  · rw [if_neg h]; exact First_err r A w hr hl1 hl2 hl3 hl4 h
end Go.Proofs.Ytgglfngkomgadaa
/- Walks: Leave. -/
namespace Go.Proofs.Ytgglfngkomgadaa
open Go.RowKit Go.Shelf
set_option linter.unusedVariables false
set_option linter.unusedSimpArgs false
set_option maxRecDepth 100000

abbrev lvCaps (fb rb lb : Nat) : Array Value := #[.pointer (some ⟨fb, 0, none⟩), .pointer (some ⟨rb, 0, none⟩), .pointer (some ⟨lb, 0, none⟩)]
structure LvI (w0 : World) (r : Riv) (A : RA) (fb rb lb : Nat) (W : World) : Prop where
  b : Below w0.heap.size w0 W
  nf : w0.heap.size ≤ fb
  hr : rb ≠ fb
  hl : lb ≠ fb
  ff : ∃ a n c, W.heap[fb]? = some (.cells #[.slice a n c] 23 (0, 0))
  rbk : W.heap[rb]? = some (rivO r A)
  lbc : W.cell? ⟨lb, 0, none⟩ = some (.func (.func 106) #[] (lvCaps fb rb lb))
section
variable {w0 : World} {r : Riv} {A : RA} {fb rb lb : Nat} {W W' : World}
theorem LvI.wr (h : LvI w0 r A fb rb lb W) (hw : Wr (fun k => k = fb) W W') (hf : ∃ a n c, W'.heap[fb]? = some (.cells #[.slice a n c] 23 (0, 0))) : LvI w0 r A fb rb lb W' :=
  ⟨h.b.trans (hw.below h.b.size fun k hk => by have : k = fb := hk; rw [this]; exact h.nf), h.nf, h.hr, h.hl, hf, hw.blk (k := rb) h.hr h.rbk, hw.cell (p := ⟨lb, 0, none⟩) h.hl h.lbc⟩
theorem LvI.below (h : LvI w0 r A fb rb lb W) (hb : Below W.heap.size W W') : LvI w0 r A fb rb lb W' := by
  obtain ⟨a, n, c, hf⟩ := h.ff
  exact h.wr (Wr.of_below hb) ⟨a, n, c, (Wr.of_below (S := fun _ => False) hb).blk (fun e => e) hf⟩
end
def LvPost (w0 : World) (r : Riv) (A : RA) (fb rb lb : Nat) (R : Option (List Int)) (W : World) (e : Ending) (W' : World) : Prop :=
  Wr (fun k => k = fb) W W' ∧ LvI w0 r A fb rb lb W' ∧
    ((R = none ∧ e = .returned (.bool false)) ∨ ∃ ys a c, R = some ys ∧ e = .returned (.bool true) ∧ W'.heap[fb]? = some (.cells #[.slice a ys.length c] 23 (0, 0)) ∧ Sl W' a (ints ys))

set_option maxHeartbeats 3000000 in
theorem leave0_c (w0 : World) (r : Riv) (A : RA) (fb rb lb : Nat) (ok : Ok r) (hr : Rd w0 r A)
    (xs : List Int) (fr : Nat) (a : Option Addr) (c : Nat) (W : World) (hI : LvI w0 r A fb rb lb W) (hx : Sl W a (ints xs)) (hxl : xs.length ≤ 100) (ha : ∀ ad, a = some ad → ad.block ≠ fb) :
    Calls Try.prog 106 (#[.slice a xs.length c, .int .i64 fr, .int .i64 0] ++ lvCaps fb rb lb) W (LvPost w0 r A fb rb lb (if posB r xs then some xs else none) W) := by
  obtain ⟨R, hR⟩ : ∃ R, R = if posB r xs then some xs else none := ⟨_, rfl⟩
  have HR := Lib.hid hR
  rw [← hR]
  have HOK := Lib.hid ok
  have HI := Lib.hid hI
  have HA := Lib.hid ha
  obtain ⟨fa, fn, fc, hf⟩ := hI.ff
  have HF := Lib.hid hf
  have c0 : W.cell? ⟨fb, 0, none⟩ = some (.slice fa fn fc) := by rw [cell_blk hf]; rfl
  have f0 := frozen_blk (k := 0) hf
  obtain ⟨Wq, hWq⟩ : ∃ Wq, Wq = W.setCell ⟨fb, 0, none⟩ (.slice a xs.length c) := ⟨_, rfl⟩
  have hw1 : Wr (fun k => k = fb) W Wq := by rw [hWq]; exact Wr.setCell _ _ _ _ rfl
  have hf1 : Wq.heap[fb]? = some (.cells #[.slice a xs.length c] 23 (0, 0)) := by rw [hWq, heap_set HF.out]; rfl
  have hI1 := HI.out.wr hw1 ⟨_, _, _, hf1⟩
  have hx1 := hx.wr hw1 (fun ad e hk => HA.out ad e hk)
  have HI1 := Lib.hid hI1
  have HW1 := Lib.hid hw1
  have HF1 := Lib.hid hf1
  have HX1 := Lib.hid hx1
  have HWQ := Lib.hid hWq
  obtain ⟨k0, k1, k2, k3, k4, k5, k6, k7, k8, k9⟩ := riv_cells hI1.rbk
  rw [hWq] at k0 k1 k2 k3 k4 k5 k6 k7 k8 k9
  clear hWq hw1 hf1 hI1 hx ok hI ha hf hR hx1
  go_enter Try.func106, Try.ntmps106
  go_wp2_with fail
  rw [← HWQ.out]
  refine (possible_c r A a xs c _ HOK.out (hr.below HI1.out.b) HX1.out (by omega)).mono ?_
  rintro e w9 ⟨rfl, hb9⟩
  have HB9 := Lib.hid hb9
  clear hb9 c0 f0 k0 k1 k2 k3 k4 k5 k6 k7 k8 k9
  obtain ⟨pb, hpb⟩ : ∃ b, b = posB r xs := ⟨_, rfl⟩
  have HPB := Lib.hid hpb
  rw [show ((truthsL r).any fun ns => rightB r ns xs) = pb from hpb.symm]
  clear hpb
  have HF9 := Lib.hid ((HB9.out.block _ (Array.getElem?_eq_some_iff.1 HF1.out).1).trans HF1.out)
  cases pb
  · go_wp2_with fail
    go_ret
    refine ⟨HW1.out.trans (Wr.of_below HB9.out), HI1.out.below HB9.out, .inl ⟨?_, rfl⟩⟩
    rw [HR.out, ← HPB.out]; rfl
  · go_wp2_with fail
    go_ret
    refine ⟨HW1.out.trans (Wr.of_below HB9.out), HI1.out.below HB9.out, .inr ⟨xs, a, c, ?_, rfl, HF9.out, HX1.out.below HB9.out⟩⟩
    rw [HR.out, ← HPB.out]; rfl

set_option maxHeartbeats 3000000 in
theorem leaveK_c (w0 : World) (r : Riv) (A : RA) (fb rb lb : Nat) (ok : Ok r) (hr : Rd w0 r A) :
    ∀ (k : Nat) (xs : List Int) (fr : Nat) (a : Option Addr) (c : Nat) (W : World), LvI w0 r A fb rb lb W → Sl W a (ints xs) → xs.length + k ≤ 100 → k ≤ 100 → fr ≤ 100 →
    (∀ ad, a = some ad → ad.block ≠ fb) →
    Calls Try.prog 106 (#[.slice a xs.length c, .int .i64 fr, .int .i64 k] ++ lvCaps fb rb lb) W (LvPost w0 r A fb rb lb (chooseF r.gauges.length (posB r) k xs fr) W) := by
  intro k
  induction k with
  | zero =>
    intro xs fr a c W hI hx hxl _ _ ha
    exact leave0_c w0 r A fb rb lb ok hr xs fr a c W hI hx (by omega) ha
  | succ k ih =>
    intro xs fr a c W hI hx hxl hk hfr ha
    obtain ⟨R, hR⟩ : ∃ R, R = chooseF r.gauges.length (posB r) (k + 1) xs fr := ⟨_, rfl⟩
    have hR2 : R = (List.range' fr (r.gauges.length - k - fr)).findSome? (fun (d : Nat) => chooseF r.gauges.length (posB r) k (xs ++ [(d : Int)]) (d + 1)) := hR
    have HR := Lib.hid hR2
    rw [← hR]
    have HOK := Lib.hid ok
    have HI := Lib.hid hI
    have HA := Lib.hid ha
    have IH := Lib.hid ih
    have HX := Lib.hid hx
    have ng := ok.ng
    have hk0 : (((k : Int) + 1) == 0) = false := by simp; omega
    have kc : (((k + 1 : Nat)) : Int) = (k : Int) + 1 := by omega
    rw [kc]
    clear ok hI ha hR hR2 ih hx kc
    go_enter Try.func106, Try.ntmps106
    go_wp2_with fail
    go_loopw [10] (fun d wr => ∃ q : Nat, d = .int .i64 q ∧ q ≤ 100 ∧ fr ≤ q ∧ Wr (fun k => k = fb) W wr ∧ LvI w0 r A fb rb lb wr ∧
      Hid (R = (List.range' q (r.gauges.length - k - q)).findSome? (fun (d : Nat) => chooseF r.gauges.length (posB r) k (xs ++ [(d : Int)]) (d + 1)))) (fun d _ => 200 - (intOf d).toNat)
    case atStart => exact ⟨fr, rfl, hfr, Nat.le_refl _, Wr.refl _ _, HI.out, HR⟩
    case round =>
      obtain ⟨q, rfl, hq, hfq, hw, hI, HRq⟩ := hrel
      have z9 := (riv_cells hI.rbk).2.2.2.2.2.2.2.2.2
      have zc := hI.lbc
      have HIq := Lib.hid hI
      have HWq := Lib.hid hw
      clear hI hw
      have e2 : IntKind.i64.wrap ((r.gauges.length : Int) - ((k : Int) + 1)) = (r.gauges.length : Int) - ((k : Int) + 1) := IntWalk.i64_in _ (by omega)
      by_cases hlt : q < r.gauges.length - k
      · have hle : decide ((q : Int) ≤ (r.gauges.length : Int) - ((k : Int) + 1)) = true := by simp; omega
        have hq5 : q ≤ 5 := by omega
        have hst := chooseF_step r.gauges.length (posB r) k xs q hlt
        have HST := Lib.hid hst
        obtain ⟨R1, hR1⟩ : ∃ R1, R1 = chooseF r.gauges.length (posB r) k (xs ++ [(q : Int)]) (q + 1) := ⟨_, rfl⟩
        have HR1 := Lib.hid hR1
        have e3 : IntKind.i64.wrap ((q : Int) + 1) = (q : Int) + 1 := IntWalk.i64_in _ (by omega)
        have e4 : IntKind.i64.wrap (k : Int) = (k : Int) := IntWalk.i64_in _ (by omega)
        have HXq := Lib.hid (HX.out.wr HWq.out (fun ad e hk => HA.out ad e hk))
        have HZC := Lib.hid zc
        clear hst hR1
        go_wp2_with fail
        refine region_o (S := fun W => W.cell? ⟨lb, 0, none⟩ = some (.func (.func 106) #[] (lvCaps fb rb lb))) (.take 0 (.take 1 (.take 3 (.take 6 (.take 7 (.take 8 (.take 9 (.two 2 4 (.one 4 (.one 5 (.one 10 .nil))) (.one 2 (.one 5 (.one 10 .nil))))))))))) (by kernel_rfl) (by kernel_rfl) (fun _ _ d _ _ h => by cases d <;> exact h) (by simpa using zc) ?_
        intro W0 hW0 hS0
        have hBW : Below wr.heap.size wr W0 := by subst hW0; exact (Below.refl _ _).drew
        clear hW0
        have hBc := hBW
        repeat (first
          | (refine ord_skip rfl ?_ ?_; rfl; simp only [pz])
          | (refine ord_take (v := ?_) rfl ?_ (fun W hW => ?_) ?_; rotate_left; rfl; (obtain hz0 := hW; go_simp; (first | done | with_reducible rfl)); simp only [pz]))
        refine ord_two ?_ ?_
        · skip
          refine ord_op rfl ?_ (fun K hK => ?_)
          rfl
          go_simp
          refine (clone_c a xs c _ (HXq.out.below hBc) (by omega)).mono ?_
          rintro e W1 ⟨v1, rfl, hown, hb1⟩
          replace hown := own_mono hown hBc.size
          replace hBc := hBc.trans (hb1.mono hBc.size)
          try (replace hsl := hsl.below hb1)
          have hS1 := (by exact (hBc.cell (p := ⟨lb, 0, none⟩) (cell_lt HZC.out)).trans HZC.out)
          refine hK _ _ hS1 ?_
          clear hK K
          try simp only [pz]
          refine ord_op rfl ?_ (fun K hK => ?_)
          rfl
          go_simp
          obtain ⟨bx, hbx⟩ : ∃ n, n = (W1).heap.size := ⟨_, rfl⟩
          obtain ⟨W2, hW2⟩ : ∃ Q, Q = (W1).alloc (.cells #[.int .i64 q] 3) := ⟨_, rfl⟩
          have hbb : Below (W1).heap.size (W1) W2 := by rw [hW2]; exact (Below.refl _ _).alloc (Nat.le_refl _) _
          have hsl : Sl W2 (some ⟨bx, 0, none⟩) [.int .i64 q] := by rw [hW2, hbx]; exact Sl_new _ _ _
          try (replace hown := own_below hown hbb)
          replace hBc := hBc.trans (hbb.mono hBc.size)
          rw [← hW2, ← hbx]
          clear hW2 hbx hbb
          have hS2 := (by exact (hBc.cell (p := ⟨lb, 0, none⟩) (cell_lt HZC.out)).trans HZC.out)
          refine hK _ _ hS2 ?_
          clear hK K
          try simp only [pz]
          refine ord_op rfl ?_ (fun K hK => ?_)
          rfl
          skip
          refine wp_app elInt _ _ rfl rfl rfl hown hsl rfl (by intro u hu; simp at hu; subst hu; rfl) (by omega) (by omega) hBc.size ?_
          intro v7 W3 hown7 hg7 _
          replace hBc := hBc.grown hg7 hBc.size (fun k e => (hown.lt k e).1)
          obtain ⟨a7, c7, rfl, -, hsl7⟩ := own_Sl hown7
          have hsep := Lib.hid (own_sep hown7)
          have HSL7 := Lib.hid hsl7
          clear hown hown7 hg7 hsl hsl7
          have hS3 := (by exact (hBc.cell (p := ⟨lb, 0, none⟩) (cell_lt HZC.out)).trans HZC.out)
          refine hK _ _ hS3 ?_
          clear hK K
          try simp only [pz]
          refine ord_op rfl ?_ (fun K hK => ?_)
          rfl
          go_simp
          have ic := IH.out (xs ++ [(q : Int)]) (q + 1) a7 c7 _ (HIq.out.below hBc) (by rw [ints_append]; exact HSL7.out) (by simp; omega) (by omega) (by omega) (fun ad e => by have h1 := hsep.out ad e; have h3 := HIq.out.ff; obtain ⟨_, _, _, h3⟩ := h3; have h4 := (Array.getElem?_eq_some_iff.1 h3).1; omega)
          rw [← HR1.out] at ic
          simp only [List.length_append, List.length_cons, List.length_nil, Nat.zero_add, Int.natCast_add, Int.cast_ofNat_Int] at ic
          refine ic.mono ?_
          clear ic
          rintro e W4 ⟨hw9, hI9, hD⟩
          obtain ⟨b9, rfl, hD9⟩ : ∃ b, e = .returned (.bool b) ∧ ((b = false ∧ R1 = none) ∨ (b = true ∧ ∃ ys a c, R1 = some ys ∧ W4.heap[fb]? = some (.cells #[.slice a ys.length c] 23 (0, 0)) ∧ Sl W4 a (ints ys))) := by
            rcases hD with ⟨h1, rfl⟩ | ⟨ys, a9, c9, h1, rfl, h2, h3⟩
            · exact ⟨false, rfl, .inl ⟨rfl, h1⟩⟩
            · exact ⟨true, rfl, .inr ⟨rfl, ys, a9, c9, h1, h2, h3⟩⟩
          have HD9 := Lib.hid hD9
          have hS4 := hI9.lbc
          have HW9 := Lib.hid (((HWq.out).trans (Wr.of_below hBc)).trans hw9)
          have HI9 := Lib.hid hI9
          clear hD hw9 hI9 hD9
          refine hK _ _ hS4 ?_
          clear hK K
          try simp only [pz]
          refine ord_nil ?_
          clear hBc hBW
          rcases HD9.out with ⟨rfl, h1⟩ | ⟨rfl, ys, a9, c9, h1, h2, h3⟩
          · have H1 := Lib.hid h1
            clear h1 HD9
            go_wp2_with fail
            go_roundw
            case rel => exact ⟨q + 1, by go_num, by omega, by omega, HW9.out, HI9.out, by show R = _; rw [HRq.out, HST.out, ← HR1.out, H1.out]⟩
            case measure => simp [intOf]; omega
          · have H1 := Lib.hid h1
            have H2 := Lib.hid h2
            have H3 := Lib.hid h3
            clear h1 h2 h3 HD9
            go_wp2_with fail
            go_ret
            exact ⟨HW9.out, HI9.out, .inr ⟨ys, a9, c9, by rw [HRq.out, HST.out, ← HR1.out, H1.out], rfl, H2.out, H3.out⟩⟩
        · skip
          refine ord_op rfl ?_ (fun K hK => ?_)
          rfl
          go_simp
          obtain ⟨bx, hbx⟩ : ∃ n, n = (W0).heap.size := ⟨_, rfl⟩
          obtain ⟨W5, hW5⟩ : ∃ Q, Q = (W0).alloc (.cells #[.int .i64 q] 3) := ⟨_, rfl⟩
          have hbb : Below (W0).heap.size (W0) W5 := by rw [hW5]; exact (Below.refl _ _).alloc (Nat.le_refl _) _
          have hsl : Sl W5 (some ⟨bx, 0, none⟩) [.int .i64 q] := by rw [hW5, hbx]; exact Sl_new _ _ _
          try (replace hown := own_below hown hbb)
          replace hBc := hBc.trans (hbb.mono hBc.size)
          rw [← hW5, ← hbx]
          clear hW5 hbx hbb
          have hS5 := (by exact (hBc.cell (p := ⟨lb, 0, none⟩) (cell_lt HZC.out)).trans HZC.out)
          refine hK _ _ hS5 ?_
          clear hK K
          try simp only [pz]
          refine ord_op rfl ?_ (fun K hK => ?_)
          rfl
          go_simp
          refine (clone_c a xs c _ (HXq.out.below hBc) (by omega)).mono ?_
          rintro e W6 ⟨v6, rfl, hown, hb6⟩
          replace hown := own_mono hown hBc.size
          replace hBc := hBc.trans (hb6.mono hBc.size)
          try (replace hsl := hsl.below hb6)
          have hS6 := (by exact (hBc.cell (p := ⟨lb, 0, none⟩) (cell_lt HZC.out)).trans HZC.out)
          refine hK _ _ hS6 ?_
          clear hK K
          try simp only [pz]
          refine ord_op rfl ?_ (fun K hK => ?_)
          rfl
          skip
          refine wp_app elInt _ _ rfl rfl rfl hown hsl rfl (by intro u hu; simp at hu; subst hu; rfl) (by omega) (by omega) hBc.size ?_
          intro v7 W7 hown7 hg7 _
          replace hBc := hBc.grown hg7 hBc.size (fun k e => (hown.lt k e).1)
          obtain ⟨a7, c7, rfl, -, hsl7⟩ := own_Sl hown7
          have hsep := Lib.hid (own_sep hown7)
          have HSL7 := Lib.hid hsl7
          clear hown hown7 hg7 hsl hsl7
          have hS7 := (by exact (hBc.cell (p := ⟨lb, 0, none⟩) (cell_lt HZC.out)).trans HZC.out)
          refine hK _ _ hS7 ?_
          clear hK K
          try simp only [pz]
          refine ord_op rfl ?_ (fun K hK => ?_)
          rfl
          go_simp
          have ic := IH.out (xs ++ [(q : Int)]) (q + 1) a7 c7 _ (HIq.out.below hBc) (by rw [ints_append]; exact HSL7.out) (by simp; omega) (by omega) (by omega) (fun ad e => by have h1 := hsep.out ad e; have h3 := HIq.out.ff; obtain ⟨_, _, _, h3⟩ := h3; have h4 := (Array.getElem?_eq_some_iff.1 h3).1; omega)
          rw [← HR1.out] at ic
          simp only [List.length_append, List.length_cons, List.length_nil, Nat.zero_add, Int.natCast_add, Int.cast_ofNat_Int] at ic
          refine ic.mono ?_
          clear ic
          rintro e W8 ⟨hw9, hI9, hD⟩
          obtain ⟨b9, rfl, hD9⟩ : ∃ b, e = .returned (.bool b) ∧ ((b = false ∧ R1 = none) ∨ (b = true ∧ ∃ ys a c, R1 = some ys ∧ W8.heap[fb]? = some (.cells #[.slice a ys.length c] 23 (0, 0)) ∧ Sl W8 a (ints ys))) := by
            rcases hD with ⟨h1, rfl⟩ | ⟨ys, a9, c9, h1, rfl, h2, h3⟩
            · exact ⟨false, rfl, .inl ⟨rfl, h1⟩⟩
            · exact ⟨true, rfl, .inr ⟨rfl, ys, a9, c9, h1, h2, h3⟩⟩
          have HD9 := Lib.hid hD9
          have hS8 := hI9.lbc
          have HW9 := Lib.hid (((HWq.out).trans (Wr.of_below hBc)).trans hw9)
          have HI9 := Lib.hid hI9
          clear hD hw9 hI9 hD9
          refine hK _ _ hS8 ?_
          clear hK K
          try simp only [pz]
          refine ord_nil ?_
          clear hBc hBW
          rcases HD9.out with ⟨rfl, h1⟩ | ⟨rfl, ys, a9, c9, h1, h2, h3⟩
          · have H1 := Lib.hid h1
            clear h1 HD9
            go_wp2_with fail
            go_roundw
            case rel => exact ⟨q + 1, by go_num, by omega, by omega, HW9.out, HI9.out, by show R = _; rw [HRq.out, HST.out, ← HR1.out, H1.out]⟩
            case measure => simp [intOf]; omega
          · have H1 := Lib.hid h1
            have H2 := Lib.hid h2
            have H3 := Lib.hid h3
            clear h1 h2 h3 HD9
            go_wp2_with fail
            go_ret
            exact ⟨HW9.out, HI9.out, .inr ⟨ys, a9, c9, by rw [HRq.out, HST.out, ← HR1.out, H1.out], rfl, H2.out, H3.out⟩⟩

      · have hle : decide ((q : Int) ≤ (r.gauges.length : Int) - ((k : Int) + 1)) = false := by simp; omega
        go_wp2_with fail
        go_ret
        refine ⟨HWq.out, HIq.out, .inl ⟨?_, rfl⟩⟩
        rw [HRq.out, chooseF_end _ _ _ _ _ hlt]
end Go.Proofs.Ytgglfngkomgadaa
/- Walks: Leave, on. -/
namespace Go.Proofs.Ytgglfngkomgadaa
open Go.RowKit Go.Shelf
set_option linter.unusedVariables false
set_option linter.unusedSimpArgs false
set_option maxRecDepth 100000

theorem chooseF_full (N : Nat) (fine : List Int → Bool) : ∀ (k fr : Nat) (xs : List Int), fr + k = N → fine (xs ++ (List.range' fr k).map Int.ofNat) = true → (chooseF N fine k xs fr).isSome = true
  | 0, fr, xs, h, hf => by simp at hf; simp [chooseF, hf]
  | k + 1, fr, xs, h, hf => by
    have e : N - k - fr = 1 := by omega
    have hf2 : fine ((xs ++ [(fr : Int)]) ++ (List.range' (fr + 1) k).map Int.ofNat) = true := by
      rw [List.append_assoc]
      rw [List.range'_succ] at hf
      exact hf
    have ih := chooseF_full N fine k (fr + 1) (xs ++ [(fr : Int)]) (by omega) hf2
    simp only [chooseF, e, List.range'_one, List.findSome?_cons, List.findSome?_nil]
    cases hc : chooseF N fine k (xs ++ [(fr : Int)]) (fr + 1) with
    | none => rw [hc] at ih; simp at ih
    | some y => simp
theorem fewestF_full (N : Nat) (fine : List Int → Bool) (h : fine ((List.range' 0 N).map Int.ofNat) = true) : (fewestF N fine).isSome = true := by
  have h1 := chooseF_full N fine N 0 [] (by omega) (by simpa using h)
  unfold fewestF
  rw [List.findSome?_isSome_iff]
  exact ⟨N, by simp, h1⟩
theorem combos_ne : ∀ rs : List Rg, (∀ x ∈ rs, x.lo ≤ x.hi) → combos rs ≠ []
  | [], _ => by simp [combos]
  | x :: rs, h => by
    have ih := combos_ne rs (fun y hy => h y (List.mem_cons_of_mem _ hy))
    have hx := h x List.mem_cons_self
    obtain ⟨t, ht⟩ := List.exists_mem_of_ne_nil _ ih
    intro e
    have : (x.lo + ((0 : Nat) : Int)) :: t ∈ combos (x :: rs) := by
      simp only [combos, List.mem_flatMap, List.mem_map, List.mem_range]
      exact ⟨0, by unfold Rg.size; omega, t, ht, rfl⟩
    rw [e] at this
    simp at this
theorem truthsL_ne {r : Riv} (ok : Ok r) : truthsL r ≠ [] := by
  unfold truthsL
  intro e
  rw [List.map_eq_nil_iff] at e
  exact combos_ne _ (fun x hx => by rcases List.mem_append.1 hx with h | h; exact (ok.so x h).2.1; exact (ok.mo x h).2.1) e
theorem posB_full {r : Riv} (ok : Ok r) : posB r ((List.range' 0 r.gauges.length).map Int.ofNat) = true := by
  obtain ⟨ns, hn⟩ := List.exists_mem_of_ne_nil _ (truthsL_ne ok)
  unfold posB
  rw [List.any_eq_true]
  refine ⟨ns, hn, ?_⟩
  unfold rightB
  rw [List.all_eq_true]
  intro i hi
  have : ((List.range' 0 r.gauges.length).map Int.ofNat).contains (i : Int) = true := by
    rw [List.contains_iff_mem]
    exact List.mem_map.2 ⟨i, by simpa using hi, rfl⟩
  simp only [gaugeOk, this, Bool.true_or]

def leaveA (r : Riv) : List Int × Int := if r.faultI = 0 then ((fewestF r.gauges.length (posB r)).getD [], 0) else ([], r.faultI)

set_option maxHeartbeats 2000000 in
theorem Leave_err (r : Riv) (A : RA) (w : World) (hr : Rd w r A) (hl1 : r.salt.length ≤ 30) (hl2 : r.mud.length ≤ 30) (hl3 : r.use.length ≤ 30) (hl4 : r.gauges.length ≤ 30) (h : r.faultI ≠ 0) :
    Calls Try.prog 51 #[rivV r A] w (RetLE ([], r.faultI) w) := by
  obtain ⟨E, hE⟩ : ∃ E, E = r.faultI := ⟨_, rfl⟩
  have HE := Lib.hid hE
  have hne : (E == 0) = false := by rw [hE]; simpa using h
  rw [← hE]
  clear hE h
  go_enter Try.func51, Try.ntmps51
  go_wp2_with fail
  have hb := (Below.refl w.heap.size w).alloc (Nat.le_refl _) (rivO r A)
  refine (check_c r A _ (hr.below hb) hl1 hl2 hl3 hl4).mono ?_
  rintro e w2 ⟨rfl, hb2⟩
  rw [← HE.out]
  go_wp2_with fail
  refine bodyPost_ret (v := .tuple #[.slice none 0 0, .int .i64 E]) (by simp [results, Try.results51, go_sem]) rfl ⟨none, 0, rfl, .inl rfl, hb.trans (hb2.mono hb.size)⟩

set_option maxHeartbeats 3000000 in
theorem Leave_ok (r : Riv) (A : RA) (w : World) (hr : Rd w r A) (hl1 : r.salt.length ≤ 30) (hl2 : r.mud.length ≤ 30) (hl3 : r.use.length ≤ 30) (hl4 : r.gauges.length ≤ 30) (h : r.faultI = 0) :
    Calls Try.prog 51 #[rivV r A] w (RetLE ((fewestF r.gauges.length (posB r)).getD [], 0) w) := by
  have HOK := Lib.hid (ok_of_fault h).1
  have hsome := Lib.hid (fewestF_full r.gauges.length (posB r) (posB_full HOK.out))
  obtain ⟨R, hR⟩ : ∃ R, R = fewestF r.gauges.length (posB r) := ⟨_, rfl⟩
  have hR2 : R = (List.range' 0 (r.gauges.length + 1 - 0)).findSome? (fun k => chooseF r.gauges.length (posB r) k [] 0) := by rw [hR, fewestF, List.range_eq_range']; rfl
  have HR := Lib.hid hR2
  have HR0 := Lib.hid hR
  have HF := Lib.hid h
  rw [← hR]
  obtain ⟨Y, hY⟩ : ∃ Y, Y = R.getD [] := ⟨_, rfl⟩
  have HY := Lib.hid hY
  rw [← hY]
  have ng := HOK.out.ng
  clear h hR hR2 hY
  go_enter Try.func51, Try.ntmps51
  go_wp2_with fail
  have hb := (Below.refl w.heap.size w).alloc (Nat.le_refl _) (rivO r A)
  obtain ⟨wq, hwq⟩ : ∃ wq, w.alloc (rivO r A) = wq := ⟨_, rfl⟩
  have hq0 : wq.heap[w.heap.size]? = some (rivO r A) := by rw [← hwq]; exact heap_alloc_new _ _
  rw [hwq] at hb ⊢
  clear hwq
  refine (check_c r A _ (hr.below hb) hl1 hl2 hl3 hl4).mono ?_
  rintro e w2 ⟨rfl, hb2⟩
  rw [HF.out]
  have HB2 := Lib.hid (hb.trans (hb2.mono hb.size))
  have HQ := Lib.hid ((hb2.block _ (Array.getElem?_eq_some_iff.1 hq0).1).trans hq0)
  have k9 := (riv_cells HQ.out).2.2.2.2.2.2.2.2.2
  have hlt0 := cell_lt k9
  have ew : IntKind.i64.wrap ((r.gauges.length : Int) + 1) = (r.gauges.length : Int) + 1 := IntWalk.i64_in _ (by omega)
  clear hb2 hb hq0
  go_wp2_with fail
  obtain ⟨W4, hW4⟩ : ∃ Q, Q = (w2.alloc (Obj.cells #[Value.slice none 0 0] 23)).alloc (Obj.cells #[Value.func (Fn.func 106) #[] #[Value.pointer (some ⟨w2.heap.size, 0, none⟩), Value.pointer (some ⟨w.heap.size, 0, none⟩), Value.pointer (some ⟨w2.heap.size + 1, 0, none⟩)]] 145) := ⟨_, rfl⟩
  have hb4 : Below w2.heap.size w2 W4 := by rw [hW4]; exact ((Below.refl _ _).alloc (Nat.le_refl _) _).alloc (by simp) _
  have g1 : W4.cell? ⟨w2.heap.size + 1, 0, none⟩ = some (.func (.func 106) #[] (lvCaps w2.heap.size w.heap.size (w2.heap.size + 1))) := by rw [hW4]; go_simp
  have g2 : W4.heap[w2.heap.size]? = some (.cells #[.slice none 0 0] 23 (0, 0)) := by
    rw [hW4, Below.heap_alloc _ _ _ (by simp)]
    exact heap_alloc_new _ _
  have hI : LvI w r A w2.heap.size w.heap.size (w2.heap.size + 1) W4 :=
    ⟨HB2.out.trans (hb4.mono HB2.out.size), HB2.out.size, by omega, by omega, ⟨_, _, _, g2⟩, (hb4.block _ hlt0).trans HQ.out, g1⟩
  have HI := Lib.hid hI
  have HB4 := Lib.hid (HB2.out.trans (hb4.mono HB2.out.size))
  rw [← hW4]
  clear hW4 hI hb4 g1 g2 k9
  go_loopw [7, 18] (fun _ i wr => ∃ k : Nat, k ≤ r.gauges.length + 1 ∧ i = .int .i64 k ∧ Wr (fun k => k = w2.heap.size) W4 wr ∧ LvI w r A w2.heap.size w.heap.size (w2.heap.size + 1) wr ∧
      Hid (R = (List.range' k (r.gauges.length + 1 - k)).findSome? (fun k => chooseF r.gauges.length (posB r) k [] 0))) (fun _ i _ => r.gauges.length + 1 - (intOf i).toNat)
  case atStart => exact ⟨0, Nat.zero_le _, rfl, Wr.refl _ _, HI.out, HR⟩
  case round =>
    obtain ⟨k, hk, rfl, hw, hI, HRq⟩ := hrel
    have zc := hI.lbc
    have HIq := Lib.hid hI
    have HWq := Lib.hid hw
    clear hI hw
    by_cases hlt : k < r.gauges.length + 1
    · have hle : decide ((k : Int) < (r.gauges.length : Int) + 1) = true := by simp; omega
      have hst := fewF_step r.gauges.length (posB r) k hlt
      have HST := Lib.hid hst
      obtain ⟨R1, hR1⟩ : ∃ R1, R1 = chooseF r.gauges.length (posB r) k [] 0 := ⟨_, rfl⟩
      have HR1 := Lib.hid hR1
      clear hst hR1
      go_wp2_with fail
      have ic := leaveK_c w r A w2.heap.size w.heap.size (w2.heap.size + 1) HOK.out hr k [] 0 none 0 _ HIq.out (.inl rfl) (by simp; omega) (by omega) (by omega) (fun ad e => by cases e)
      rw [← HR1.out] at ic
      simp only [List.length_nil, Int.natCast_zero, Int.cast_ofNat_Int] at ic
      refine ic.mono ?_
      clear ic
      rintro e w9 ⟨hw9, hI9, ⟨h1, rfl⟩ | ⟨ys, a9, c9, h1, rfl, h2, h3⟩⟩
      · have H1 := Lib.hid h1
        have HI9 := Lib.hid hI9
        have HW9 := Lib.hid (HWq.out.trans hw9)
        clear h1 hI9 hw9
        go_wp2_with fail
        go_roundw
        case rel => exact ⟨k + 1, by omega, by go_num, HW9.out, HI9.out, by show R = _; rw [HRq.out, HST.out, ← HR1.out, H1.out]⟩
        case measure => simp [intOf]; omega
      · have H1 := Lib.hid h1
        have H3 := Lib.hid h3
        have HW9 := Lib.hid (HWq.out.trans hw9)
        have c0 : w9.cell? ⟨w2.heap.size, 0, none⟩ = some (.slice a9 ys.length c9) := by rw [cell_blk h2]; rfl
        clear h1 h2 h3 hI9 hw9
        go_wp2_with fail
        refine bodyPost_ret (v := .tuple #[.slice a9 ys.length c9, .int .i64 0]) (by simp [results, Try.results51, go_sem]) rfl ?_
        have hRy : R = some ys := by rw [HRq.out, HST.out, ← HR1.out, H1.out]
        have hYy : Y = ys := by rw [HY.out, hRy]; rfl
        rw [hYy]
        exact ⟨a9, c9, rfl, H3.out, HB4.out.trans (HW9.out.below HB4.out.size (fun j e => by have : j = w2.heap.size := e; have := HB2.out.size; omega))⟩
    · exfalso
      have e0 : r.gauges.length + 1 - k = 0 := by omega
      have h1 := HRq.out
      rw [e0] at h1
      have h2 := hsome.out
      rw [← HR0.out, h1] at h2
      simp at h2

theorem Leave_c (r : Riv) (A : RA) (w : World) (hr : Rd w r A) (hl1 : r.salt.length ≤ 30) (hl2 : r.mud.length ≤ 30) (hl3 : r.use.length ≤ 30) (hl4 : r.gauges.length ≤ 30) :
    Calls Try.prog 51 #[rivV r A] w (RetLE (leaveA r) w) := by
  unfold leaveA
  by_cases h : r.faultI = 0
  · rw [if_pos h]; exact Leave_ok r A w hr hl1 hl2 hl3 hl4 h
  · rw [if_neg h]; exact Leave_err r A w hr hl1 hl2 hl3 hl4 h
end Go.Proofs.Ytgglfngkomgadaa
