/- Walks of the laws: a river with gauges that are right in a truth. -/
import Derived.Test.YtgglfngkomgadaaL0
import Derived.Test.YtgglfngkomgadaaN2
namespace Go.Proofs.Ytgglfngkomgadaa
open Go.RowKit Go.Shelf
set_option linter.unusedVariables false
set_option linter.unusedSimpArgs false
set_option maxRecDepth 100000

theorem Sl.st2 {W : World} {tb : Nat} {a : Option Addr} {xs : List Int} {v0 v1 : Value} (hT : W.heap[tb]? = some (.cells #[.slice none 0 0, .slice none 0 0] 64 (0, 0))) (h : Sl W a (ints xs)) : Sl ((W.setCell ⟨tb, 0, none⟩ v0).setCell ⟨tb, 1, none⟩ v1) a (ints xs) := by
  cases xs with
  | nil => exact .inl rfl
  | cons x xs =>
    obtain ⟨b, o, rfl, hc⟩ := h.int_at (k := 0) (x := x) rfl
    have hn : b ≠ tb := by
      rintro rfl
      rw [cell_blk hT] at hc
      rcases o with _ | _ | o
      · cases hc
      · cases hc
      · simp at hc
    exact h.wr (store2 hT v0 v1).2 fun ad e k => by cases e; exact hn k
theorem nth_mod {N w : Nat} (hN : 1 ≤ N) : ∃ q : Nat, q < N ∧ (w : Int) % (N : Int) = q ∧ (w : Int).tmod (N : Int) = q := by
  refine ⟨w % N, Nat.mod_lt _ (by omega), rfl, ?_⟩
  rw [Int.tmod_eq_emod_of_nonneg (by omega)]
  rfl
theorem box_T {W : World} {q tb : Nat} {r : Riv} {A : RA} {t : Tr} {B : TA} (h : BoxR q r A W) (ht : W.heap[tb]? = some (.cells #[.slice B.sa t.salt.length B.sc, .slice B.ma t.mud.length B.mc] 64 (0, 0))) : BxT q tb r A t B W :=
  ⟨h, by rw [cell_blk ht]; rfl, by rw [cell_blk ht]; rfl⟩

def words (ws : List Nat) : List Value := ws.map fun (x : Nat) => Value.int .u16 x
def wordN (ws : List Nat) (k : Nat) : Nat := ws.getD (k % ws.length) 0
theorem words_get (ws : List Nat) (k : Nat) (x : Nat) (h : ws[k]? = some x) : (words ws)[k]? = some (.int .u16 x) := by
  unfold words; rw [List.getElem?_map, h]; rfl
theorem wordN_lt {ws : List Nat} (h : ∀ x ∈ ws, x < 65536) (k : Nat) : wordN ws k < 65536 := by
  unfold wordN
  rw [List.getD_eq_getElem?_getD]
  cases e : ws[k % ws.length]? with
  | none => decide
  | some x => exact h x (List.mem_of_getElem? e)
theorem word_c (a : Option Addr) (ws : List Nat) (c k : Nat) (n : Int) (w : World) (hn : n = k) (hs : Sl w a (words ws)) (hk : k < 100) (hws : ∀ x ∈ ws, x < 65536) (hl : ws.length ≤ 9223372036854775807) :
    Calls Try.prog 109 #[.slice a ws.length c, .int .i64 n] w fun e w' => e = .returned (.int .i64 (wordN ws k)) ∧ w = w' := by
  subst hn
  rcases Nat.eq_zero_or_pos ws.length with h0 | h0
  · have hn : ws = [] := List.eq_nil_of_length_eq_zero h0
    subst hn
    go_enter Try.func109, Try.ntmps109
    go_wp2_with fail
    go_ret
    exact ⟨rfl, rfl⟩
  · have hlt : k % ws.length < ws.length := Nat.mod_lt _ h0
    obtain ⟨x, hx⟩ : ∃ x, ws[k % ws.length]? = some x := ⟨_, List.getElem?_eq_getElem hlt⟩
    have hw : wordN ws k = x := by unfold wordN; rw [List.getD_eq_getElem?_getD, hx]; rfl
    rw [hw]
    have hxb : x < 65536 := hws x (List.mem_of_getElem? hx)
    have hg := words_get ws _ x hx
    have hnz : ((ws.length : Int) == 0) = false := by rw [beq_eq_false_iff_ne]; omega
    have hnn : words ws ≠ [] := by intro e; rw [e] at hg; simp at hg
    obtain ⟨b, o, rfl, hA⟩ := hs.resolve_left hnn
    have hcell := hA _ _ hg
    clear hA hnn hg hs hws hx hw
    go_enter Try.func109, Try.ntmps109
    go_wp2_with fail
    go_ret
    exact ⟨rfl, rfl⟩
abbrev rX26 (r : Riv) (A : RA) (v : Value) : Obj := .cells #[.int .i64 r.last, .slice A.sa r.salt.length A.sc, .slice A.ma r.mud.length A.mc, .int .i64 r.sweet, .int .i64 r.clear, .int .i64 r.size, .int .i64 r.start, .int .i64 r.draw, .slice A.ua r.use.length A.uc, v] 26
abbrev rX26' (r : Riv) (A : RA) (v : Value) : Obj := .cells #[.int .i64 r.last, .slice A.sa r.salt.length A.sc, .slice A.ma r.mud.length A.mc, .int .i64 r.sweet, .int .i64 r.clear, .int .i64 r.size, .int .i64 r.start, .int .i64 r.draw, .slice A.ua r.use.length A.uc, v] 26 (0, 0)
theorem gd_start (w : World) (r : Riv) (A : RA) : ∃ wq, wq = ((w.alloc (rO26 r A)).alloc (.cells #[.int .i64 0, .slice none 0 0, .slice none 0 0, .int .i64 0, .int .i64 0, .int .i64 0, .int .i64 0, .int .i64 0, .slice none 0 0, .slice none 0 0] 26)).alloc (.cells #[.slice none 0 0, .slice none 0 0] 64) ∧ Below w.heap.size w wq ∧ BoxR w.heap.size r A wq ∧ wq.heap[w.heap.size + 1]? = some (.cells #[.int .i64 0, .slice none 0 0, .slice none 0 0, .int .i64 0, .int .i64 0, .int .i64 0, .int .i64 0, .int .i64 0, .slice none 0 0, .slice none 0 0] 26 (0, 0)) ∧ wq.heap[w.heap.size + 1 + 1]? = some (.cells #[.slice none 0 0, .slice none 0 0] 64 (0, 0)) := by
  have hb1 : Below (w.alloc (rO26 r A)).heap.size (w.alloc (rO26 r A)) ((w.alloc (rO26 r A)).alloc (.cells #[.int .i64 0, .slice none 0 0, .slice none 0 0, .int .i64 0, .int .i64 0, .int .i64 0, .int .i64 0, .int .i64 0, .slice none 0 0, .slice none 0 0] 26)) := al_b _ _
  have hb2 : Below ((w.alloc (rO26 r A)).alloc (.cells #[.int .i64 0, .slice none 0 0, .slice none 0 0, .int .i64 0, .int .i64 0, .int .i64 0, .int .i64 0, .int .i64 0, .slice none 0 0, .slice none 0 0] 26)).heap.size ((w.alloc (rO26 r A)).alloc (.cells #[.int .i64 0, .slice none 0 0, .slice none 0 0, .int .i64 0, .int .i64 0, .int .i64 0, .int .i64 0, .int .i64 0, .slice none 0 0, .slice none 0 0] 26)) (((w.alloc (rO26 r A)).alloc (.cells #[.int .i64 0, .slice none 0 0, .slice none 0 0, .int .i64 0, .int .i64 0, .int .i64 0, .int .i64 0, .int .i64 0, .slice none 0 0, .slice none 0 0] 26)).alloc (.cells #[.slice none 0 0, .slice none 0 0] 64)) := al_b _ _
  have hg := heap_alloc_new (w.alloc (rO26 r A)) (.cells #[.int .i64 0, .slice none 0 0, .slice none 0 0, .int .i64 0, .int .i64 0, .int .i64 0, .int .i64 0, .int .i64 0, .slice none 0 0, .slice none 0 0] 26)
  rw [World.size_alloc] at hg
  have hg2 := (hb2.block (w.heap.size + 1) (by simp)).trans hg
  have hx := heap_alloc_new ((w.alloc (rO26 r A)).alloc (.cells #[.int .i64 0, .slice none 0 0, .slice none 0 0, .int .i64 0, .int .i64 0, .int .i64 0, .int .i64 0, .int .i64 0, .slice none 0 0, .slice none 0 0] 26)) (.cells #[.slice none 0 0, .slice none 0 0] 64)
  rw [World.size_alloc, World.size_alloc] at hx
  exact ⟨_, rfl, ((al_b w (rO26 r A)).trans (hb1.mono (by simp))).trans (hb2.mono (by simp; omega)), ((box_new w r A).below hb1).below hb2, hg2, hx⟩
theorem day_mod {r : Riv} (ok : Ok r) (d : Nat) : ∃ D : Nat, D = d % (r.last.toNat + 1) ∧ (D : Int) ≤ r.last ∧ D ≤ 5 ∧ (d : Int) % (r.last + 1) = D ∧ (d : Int).tmod (r.last + 1) = D := by
  have h0 := ok.l0; have h5 := ok.l5
  have hlt : d % (r.last.toNat + 1) < r.last.toNat + 1 := Nat.mod_lt _ (by omega)
  have h1 : (d : Int) % (r.last + 1) = ((d % (r.last.toNat + 1) : Nat) : Int) := by
    rw [Int.natCast_emod, show ((r.last.toNat + 1 : Nat) : Int) = r.last + 1 by omega]
  refine ⟨_, rfl, by omega, by omega, h1, ?_⟩
  rw [Int.tmod_eq_emod_of_nonneg (by omega)]
  exact h1
theorem quo_rem (v : Nat) (a b : Nat) (ha : 0 < a) (hb : 0 < b) : (v : Int).tdiv a = ((v / a : Nat) : Int) ∧ (v : Int) / a = ((v / a : Nat) : Int) ∧ ((v / a : Nat) : Int).tmod b = ((v / a % b : Nat) : Int) ∧ ((v / a : Nat) : Int) % b = ((v / a % b : Nat) : Int) := by
  have h1 : (v : Int).tdiv a = (v : Int) / a := Int.tdiv_eq_ediv_of_nonneg (Int.natCast_nonneg _)
  have h2 : ((v / a : Nat) : Int).tmod b = ((v / a : Nat) : Int) % b := Int.tmod_eq_emod_of_nonneg (Int.natCast_nonneg _)
  exact ⟨by rw [h1]; simp, by simp, by rw [h2]; simp, by simp⟩
theorem BxT.wr' {q u : Nat} {r : Riv} {A : RA} {t : Tr} {B : TA} {W W' : World} {C : Nat → Prop} (h : BxT q u r A t B W) (hw : Wr C W W') (h1 : ¬ C q) (h2 : ¬ C u) : BxT q u r A t B W' := ⟨h.bx.wr hw h1, hw.cell h2 h.t0, hw.cell h2 h.t1⟩
def RetGd (r : Riv) (f : Nat → Nat) (n : Nat) (w : World) (e : Ending) (w' : World) : Prop := ∃ (t : Tr) (A' : RA) (B' : TA), fitT r t = true ∧ e = .returned (.tuple #[rivV (gdR r t f n) A', trV t B']) ∧ Rd w' (gdR r t f n) A' ∧ RdT w' t B' ∧ Below w.heap.size w w'
set_option maxHeartbeats 20000000 in
theorem gauged_c (r : Riv) (A : RA) (wn : Nat) (aw : Option Addr) (ws : List Nat) (cw : Nat) (w : World) (hr : Rd w r A) (hz : r.faultI = 0) (hl : r.salt.length ≤ 30 ∧ r.mud.length ≤ 30 ∧ r.use.length ≤ 30 ∧ r.gauges.length ≤ 30)
    (hww9 : wn < 65536) (hw : Sl w aw (words ws)) (hws : ∀ x ∈ ws, x < 65536) (hwl : ws.length ≤ 9223372036854775807) :
    Calls Try.prog 56 #[rivV r A, .int .u16 wn, .slice aw ws.length cw] w (RetGd r (fun i => wordN ws (i + 1)) (wordN ws 0 % 6) w) := by
  have HOK := Lib.hid (ok_of_fault hz).1
  have HZ := Lib.hid hz
  have HL := Lib.hid hl
  have hr0 := hr
  have HR0 := Lib.hid hr
  have HWS := Lib.hid hws
  have HWQ := Lib.hid hw
  clear hz hl hr hws hw
  obtain ⟨hmp, hm2, hm1⟩ := many_prod HZ.out
  obtain ⟨M, hM⟩ : ∃ M : Nat, manyI r = M := ⟨(manyI r).toNat, by omega⟩
  obtain ⟨q, hqM, hq1, hq2⟩ := nth_mod (N := M) (w := wn) (by omega)
  obtain ⟨t, ht⟩ : ∃ t, nthT r q = t := ⟨_, rfl⟩
  have HMN := Lib.hid hM
  have HTN := Lib.hid ht
  have HFT := Lib.hid (show fitT r t = true from ht ▸ nthT_fit HOK.out q)
  have HTL := Lib.hid (fit_lens HOK.out HFT.out)
  have HNM := Lib.hid (show r.mud.length = r.salt.length from by have := HOK.out.ns; have := HOK.out.nm; omega)
  have HNS := Lib.hid (show r.salt.length ≤ 30 from HL.out.1)
  have HGS := Lib.hid (show ∀ x ∈ r.salt, GoodRg x from fun x hx => HOK.out.so x hx)
  have HGM := Lib.hid (show ∀ x ∈ r.mud, GoodRg x from fun x hx => HOK.out.mo x hx)
  have HQ6 := Lib.hid (show q ≤ 1000000 from by omega)
  have HQ1 := Lib.hid hq1
  have HQ2 := Lib.hid hq2
  have HMZ := Lib.hid (show ((M : Int) == 0) = false from by rw [beq_eq_false_iff_ne]; omega)
  have HMZ2 := Lib.hid (show ¬ (M : Int) = 0 from by omega)
  have HMZ3 := Lib.hid (show ¬ M = 0 from by omega)
  clear hmp hm2 hm1 hM hqM hq1 hq2 ht
  obtain ⟨N0, hN0⟩ : ∃ n, n = wordN ws 0 := ⟨_, rfl⟩
  obtain ⟨N, hN⟩ : ∃ n, n = N0 % 6 := ⟨_, rfl⟩
  have HF := Lib.hid (show wordN ws 0 % 6 = N from by rw [hN, hN0])
  have HN0 := Lib.hid hN0.symm
  have HN1 := Lib.hid (show (N0 : Int).tmod 6 = N from by rw [Int.tmod_eq_emod_of_nonneg (by omega), hN]; simp)
  have HN2 := Lib.hid (show (N0 : Int) % 6 = N from by rw [hN]; simp)
  have hN5 : N ≤ 5 := by omega
  have HLTW := Lib.hid (wordN_lt HWS.out)
  clear hN hN0
  obtain ⟨wq, hwq, hb0, hbx, hR4, hR5⟩ := gd_start w r A
  have HB := Lib.hid hb0
  have HX := Lib.hid hbx
  have HR := Lib.hid (HR0.out.below hb0)
  have HW := Lib.hid (HWQ.out.below hb0)
  have HR4 := Lib.hid hR4
  have HR5 := Lib.hid hR5
  have hqs : w.heap.size + 1 + 1 < wq.heap.size := (Array.getElem?_eq_some_iff.1 hR5).1
  clear hb0 hbx hR4 hR5
  go_enter Try.func56, Try.ntmps56
  go_upto_region 1 with fail
  rw [← hwq]
  clear hwq
  obtain ⟨k0, k1, k2, k3, k4, k5, k6, k7, k8, k9⟩ := HX.out
  go_cut [8] (fun pt wc => ∃ tb B1, pt = .pointer (some ⟨tb, 0, none⟩) ∧ wq.heap.size ≤ tb ∧ (∀ ad, B1.sa = some ad ∨ B1.ma = some ad → wq.heap.size ≤ ad.block) ∧ wc.heap[tb]? = some (.cells #[.slice B1.sa t.salt.length B1.sc, .slice B1.ma t.mud.length B1.mc] 64 (0, 0)) ∧ RdT wc t B1 ∧ Below wq.heap.size wq wc)
  case first =>
    have hq1 := HQ1.out
    have hq2 := HQ2.out
    have hmz := HMZ.out
    have hmz2 := HMZ2.out
    have hmz3 := HMZ3.out
    have hww : IntKind.i64.wrap (wn : Int) = (wn : Int) := IntWalk.i64_in _ (by omega)
    clear k0 k1 k2 k3 k4 k5 k6 k7 k8 k9
    refine region_o (S := BoxR w.heap.size r A) (.take 0 (.take 1 (.take 2 (.take 3 (.two 4 7 (.take 5 (.two 6 7 (.one 7 (.one 8 .nil)) (.one 6 (.one 8 .nil)))) (.one 4 (.take 5 (.one 6 (.one 8 .nil))))))))) (by kernel_rfl) (by kernel_rfl) (fun _ _ d _ _ h => by cases d <;> exact h) (HX.out.below (Below.refl _ _).drew) ?_
    intro W0 hW0 hS0
    have hBW : Below wq.heap.size wq W0 := by subst hW0; exact (Below.refl _ _).drew
    clear hW0
    repeat (first
      | (refine ord_skip rfl ?_ ?_; rfl; simp only [pz])
      | (refine ord_take (v := ?_) rfl ?_ (fun W hW => ?_) ?_; rotate_left; rfl; (obtain ⟨k0, k1, k2, k3, k4, k5, k6, k7, k8, k9⟩ := hW; go_simp; (first | done | with_reducible rfl)); simp only [pz]))
    refine ord_two ?_ ?_
    · skip
      (refine ord_op rfl ?_ (fun K hK => ?_); rfl; go_simp; (with_reducible refine (Many_c r A _ (HR.out.below hBW) HNM.out HNS.out HGS.out HGM.out).mono ?_); rintro e W1 ⟨rfl, hb⟩; have hS1 := BoxR.below hS0 hb; replace hBW := hBW.trans (hb.mono hBW.size); (try replace hTA := (hb.block _ (Array.getElem?_eq_some_iff.1 hTA).1).trans hTA); (try replace HRT := Lib.hid (HRT.out.below hb)); rw [HMN.out]; clear hb; refine hK _ _ hS1 ?_; clear hK K; try simp only [pz])
      repeat (first
        | (refine ord_skip rfl ?_ ?_; rfl; simp only [pz])
        | (refine ord_take (v := ?_) rfl ?_ (fun W hW => ?_) ?_; rotate_left; rfl; (obtain ⟨k0, k1, k2, k3, k4, k5, k6, k7, k8, k9⟩ := hW; go_simp; (first | done | with_reducible rfl)); simp only [pz]))
      refine ord_two ?_ ?_
      · skip
        (refine ord_op rfl ?_ (fun K hK => ?_); rfl; go_simp; (with_reducible refine (Nth_c r A q _ (HR.out.below hBW) HQ6.out HNM.out HNS.out HGS.out HGM.out).mono ?_); rintro e W2 ⟨B1, rfl, hrt, hb, hnb⟩; have HNB := Lib.hid (fun (ad : Addr) e => Nat.le_trans hBW.size (hnb ad e)); clear hnb; have hS2 := BoxR.below hS1 hb; replace hBW := hBW.trans (hb.mono hBW.size); (try replace hTA := (hb.block _ (Array.getElem?_eq_some_iff.1 hTA).1).trans hTA); (try replace HRT := Lib.hid (HRT.out.below hb)); rw [HTN.out] at hrt ⊢; have HRT := Lib.hid hrt; clear hrt; clear hb; refine hK _ _ hS2 ?_; clear hK K; try simp only [pz])
        refine ord_op rfl ?_ (fun K hK => ?_)
        rfl
        go_simp
        obtain ⟨tb, htb⟩ : ∃ n, n = (W2).heap.size := ⟨_, rfl⟩
        obtain ⟨W3, hW3⟩ : ∃ Q, Q = (W2).alloc (.cells #[.slice none 0 0, .slice none 0 0] 64) := ⟨_, rfl⟩
        have hb : Below (W2).heap.size (W2) W3 := by rw [hW3]; exact (Below.refl _ _).alloc (Nat.le_refl _) _
        have hTA : W3.heap[tb]? = some (.cells #[.slice none 0 0, .slice none 0 0] 64 (0, 0)) := by rw [hW3, htb]; exact heap_alloc_new _ _
        have hzt : wq.heap.size ≤ tb := by rw [htb]; exact hBW.size
        replace hBW := hBW.trans (hb.mono hBW.size)
        have hS3 := BoxR.below hS2 hb
        (try replace HRT := Lib.hid (HRT.out.below hb))
        
        rw [← hW3, ← htb]
        clear hW3 htb hb
        refine hK _ _ hS3 ?_
        clear hK K
        try simp only [pz]
        refine ord_op rfl ?_ (fun K hK => ?_)
        rfl
        skip
        have g0 := cell_blk (k := 0) hTA
        have g1 := cell_blk (k := 1) hTA
        have gf := fun j => frozen_blk (k := j) hTA
        go_simp
        have hst := store2 hTA (.slice B1.sa t.salt.length B1.sc) (.slice B1.ma t.mud.length B1.mc)
        replace HRT := Lib.hid (show RdT _ t B1 from ⟨Sl.st2 (v0 := .slice B1.sa t.salt.length B1.sc) (v1 := .slice B1.ma t.mud.length B1.mc) hTA HRT.out.s, Sl.st2 (v0 := .slice B1.sa t.salt.length B1.sc) (v1 := .slice B1.ma t.mud.length B1.mc) hTA HRT.out.m⟩)
        
        obtain ⟨W4, hW4⟩ : ∃ Q, Q = ((W3).setCell ⟨tb, 0, none⟩ (.slice B1.sa t.salt.length B1.sc)).setCell ⟨tb, 1, none⟩ (.slice B1.ma t.mud.length B1.mc) := ⟨_, rfl⟩
        rw [← hW4] at hst HRT ⊢
        obtain ⟨hTB, hwr⟩ := hst
        replace hBW : Below wq.heap.size wq W4 := hBW.trans (hwr.below hBW.size (fun k e => by have : k = tb := e; omega))
        have hS4 := HX.out.below hBW
        clear hW4 g0 g1 gf hwr hTA
        refine hK _ _ hS4 ?_
        clear hK K
        try simp only [pz]
        refine ord_nil ?_
        clear hq1 hq2 hmz hmz2 hmz3 hww
        go_wp2_with fail
        go_meet
        case rel => exact ⟨tb, B1, rfl, hzt, HNB.out, hTB, HRT.out, hBW⟩
      · skip
        refine ord_op rfl ?_ (fun K hK => ?_)
        rfl
        go_simp
        obtain ⟨tb, htb⟩ : ∃ n, n = (W1).heap.size := ⟨_, rfl⟩
        obtain ⟨W5, hW5⟩ : ∃ Q, Q = (W1).alloc (.cells #[.slice none 0 0, .slice none 0 0] 64) := ⟨_, rfl⟩
        have hb : Below (W1).heap.size (W1) W5 := by rw [hW5]; exact (Below.refl _ _).alloc (Nat.le_refl _) _
        have hTA : W5.heap[tb]? = some (.cells #[.slice none 0 0, .slice none 0 0] 64 (0, 0)) := by rw [hW5, htb]; exact heap_alloc_new _ _
        have hzt : wq.heap.size ≤ tb := by rw [htb]; exact hBW.size
        replace hBW := hBW.trans (hb.mono hBW.size)
        have hS5 := BoxR.below hS1 hb
        (try replace HRT := Lib.hid (HRT.out.below hb))
        
        rw [← hW5, ← htb]
        clear hW5 htb hb
        refine hK _ _ hS5 ?_
        clear hK K
        try simp only [pz]
        (refine ord_op rfl ?_ (fun K hK => ?_); rfl; go_simp; (with_reducible refine (Nth_c r A q _ (HR.out.below hBW) HQ6.out HNM.out HNS.out HGS.out HGM.out).mono ?_); rintro e W6 ⟨B1, rfl, hrt, hb, hnb⟩; have HNB := Lib.hid (fun (ad : Addr) e => Nat.le_trans hBW.size (hnb ad e)); clear hnb; have hS6 := BoxR.below hS5 hb; replace hBW := hBW.trans (hb.mono hBW.size); (try replace hTA := (hb.block _ (Array.getElem?_eq_some_iff.1 hTA).1).trans hTA); (try replace HRT := Lib.hid (HRT.out.below hb)); rw [HTN.out] at hrt ⊢; have HRT := Lib.hid hrt; clear hrt; clear hb; refine hK _ _ hS6 ?_; clear hK K; try simp only [pz])
        refine ord_op rfl ?_ (fun K hK => ?_)
        rfl
        skip
        have g0 := cell_blk (k := 0) hTA
        have g1 := cell_blk (k := 1) hTA
        have gf := fun j => frozen_blk (k := j) hTA
        go_simp
        have hst := store2 hTA (.slice B1.sa t.salt.length B1.sc) (.slice B1.ma t.mud.length B1.mc)
        replace HRT := Lib.hid (show RdT _ t B1 from ⟨Sl.st2 (v0 := .slice B1.sa t.salt.length B1.sc) (v1 := .slice B1.ma t.mud.length B1.mc) hTA HRT.out.s, Sl.st2 (v0 := .slice B1.sa t.salt.length B1.sc) (v1 := .slice B1.ma t.mud.length B1.mc) hTA HRT.out.m⟩)
        
        obtain ⟨W7, hW7⟩ : ∃ Q, Q = ((W6).setCell ⟨tb, 0, none⟩ (.slice B1.sa t.salt.length B1.sc)).setCell ⟨tb, 1, none⟩ (.slice B1.ma t.mud.length B1.mc) := ⟨_, rfl⟩
        rw [← hW7] at hst HRT ⊢
        obtain ⟨hTB, hwr⟩ := hst
        replace hBW : Below wq.heap.size wq W7 := hBW.trans (hwr.below hBW.size (fun k e => by have : k = tb := e; omega))
        have hS7 := HX.out.below hBW
        clear hW7 g0 g1 gf hwr hTA
        refine hK _ _ hS7 ?_
        clear hK K
        try simp only [pz]
        refine ord_nil ?_
        clear hq1 hq2 hmz hmz2 hmz3 hww
        go_wp2_with fail
        go_meet
        case rel => exact ⟨tb, B1, rfl, hzt, HNB.out, hTB, HRT.out, hBW⟩
    · skip
      refine ord_op rfl ?_ (fun K hK => ?_)
      rfl
      go_simp
      obtain ⟨tb, htb⟩ : ∃ n, n = (W0).heap.size := ⟨_, rfl⟩
      obtain ⟨W8, hW8⟩ : ∃ Q, Q = (W0).alloc (.cells #[.slice none 0 0, .slice none 0 0] 64) := ⟨_, rfl⟩
      have hb : Below (W0).heap.size (W0) W8 := by rw [hW8]; exact (Below.refl _ _).alloc (Nat.le_refl _) _
      have hTA : W8.heap[tb]? = some (.cells #[.slice none 0 0, .slice none 0 0] 64 (0, 0)) := by rw [hW8, htb]; exact heap_alloc_new _ _
      have hzt : wq.heap.size ≤ tb := by rw [htb]; exact hBW.size
      replace hBW := hBW.trans (hb.mono hBW.size)
      have hS8 := BoxR.below hS0 hb
      (try replace HRT := Lib.hid (HRT.out.below hb))
      
      rw [← hW8, ← htb]
      clear hW8 htb hb
      refine hK _ _ hS8 ?_
      clear hK K
      try simp only [pz]
      (refine ord_op rfl ?_ (fun K hK => ?_); rfl; go_simp; (with_reducible refine (Many_c r A _ (HR.out.below hBW) HNM.out HNS.out HGS.out HGM.out).mono ?_); rintro e W9 ⟨rfl, hb⟩; have hS9 := BoxR.below hS8 hb; replace hBW := hBW.trans (hb.mono hBW.size); (try replace hTA := (hb.block _ (Array.getElem?_eq_some_iff.1 hTA).1).trans hTA); (try replace HRT := Lib.hid (HRT.out.below hb)); rw [HMN.out]; clear hb; refine hK _ _ hS9 ?_; clear hK K; try simp only [pz])
      repeat (first
        | (refine ord_skip rfl ?_ ?_; rfl; simp only [pz])
        | (refine ord_take (v := ?_) rfl ?_ (fun W hW => ?_) ?_; rotate_left; rfl; (obtain ⟨k0, k1, k2, k3, k4, k5, k6, k7, k8, k9⟩ := hW; go_simp; (first | done | with_reducible rfl)); simp only [pz]))
      (refine ord_op rfl ?_ (fun K hK => ?_); rfl; go_simp; (with_reducible refine (Nth_c r A q _ (HR.out.below hBW) HQ6.out HNM.out HNS.out HGS.out HGM.out).mono ?_); rintro e W10 ⟨B1, rfl, hrt, hb, hnb⟩; have HNB := Lib.hid (fun (ad : Addr) e => Nat.le_trans hBW.size (hnb ad e)); clear hnb; have hS10 := BoxR.below hS9 hb; replace hBW := hBW.trans (hb.mono hBW.size); (try replace hTA := (hb.block _ (Array.getElem?_eq_some_iff.1 hTA).1).trans hTA); (try replace HRT := Lib.hid (HRT.out.below hb)); rw [HTN.out] at hrt ⊢; have HRT := Lib.hid hrt; clear hrt; clear hb; refine hK _ _ hS10 ?_; clear hK K; try simp only [pz])
      refine ord_op rfl ?_ (fun K hK => ?_)
      rfl
      skip
      have g0 := cell_blk (k := 0) hTA
      have g1 := cell_blk (k := 1) hTA
      have gf := fun j => frozen_blk (k := j) hTA
      go_simp
      have hst := store2 hTA (.slice B1.sa t.salt.length B1.sc) (.slice B1.ma t.mud.length B1.mc)
      replace HRT := Lib.hid (show RdT _ t B1 from ⟨Sl.st2 (v0 := .slice B1.sa t.salt.length B1.sc) (v1 := .slice B1.ma t.mud.length B1.mc) hTA HRT.out.s, Sl.st2 (v0 := .slice B1.sa t.salt.length B1.sc) (v1 := .slice B1.ma t.mud.length B1.mc) hTA HRT.out.m⟩)
      
      obtain ⟨W11, hW11⟩ : ∃ Q, Q = ((W10).setCell ⟨tb, 0, none⟩ (.slice B1.sa t.salt.length B1.sc)).setCell ⟨tb, 1, none⟩ (.slice B1.ma t.mud.length B1.mc) := ⟨_, rfl⟩
      rw [← hW11] at hst HRT ⊢
      obtain ⟨hTB, hwr⟩ := hst
      replace hBW : Below wq.heap.size wq W11 := hBW.trans (hwr.below hBW.size (fun k e => by have : k = tb := e; omega))
      have hS11 := HX.out.below hBW
      clear hW11 g0 g1 gf hwr hTA
      refine hK _ _ hS11 ?_
      clear hK K
      try simp only [pz]
      refine ord_nil ?_
      clear hq1 hq2 hmz hmz2 hmz3 hww
      go_wp2_with fail
      go_meet
      case rel => exact ⟨tb, B1, rfl, hzt, HNB.out, hTB, HRT.out, hBW⟩
  case rest =>
    obtain ⟨tb, B1, rfl, htz, hnb, hTB, hrt, hb⟩ := hcut
    clear k0 k1 k2 k3 k4 k5 k6 k7 k8 k9
    obtain ⟨k0, k1, k2, k3, k4, k5, k6, k7, k8, k9⟩ := HX.out.below hb
    go_wp2_with fail
    clear k0 k1 k2 k3 k4 k5 k6 k7 k8 k9
    obtain ⟨xb, hxb⟩ : ∃ n, n = wc.heap.size := ⟨_, rfl⟩
    obtain ⟨wx, hwx⟩ : ∃ Q, Q = wc.alloc (rX26 r A (.slice none 0 0)) := ⟨_, rfl⟩
    have hbx : Below wc.heap.size wc wx := by rw [hwx]; exact al_b _ _
    have hO := heap_alloc_new wc (rX26 r A (.slice none 0 0))
    rw [← hwx, ← hxb] at hO
    have htl := (Array.getElem?_eq_some_iff.1 hTB).1
    replace hTB := (hbx.block tb htl).trans hTB
    have hrt0 := hrt
    replace hrt := hrt.below hbx
    replace hb := hb.trans (hbx.mono hb.size)
    have htx : tb < xb := by rw [hxb]; exact htl
    have hqx : wq.heap.size ≤ xb := by omega
    have HO := Lib.hid hO
    have HTB0 := Lib.hid hTB
    have HB0 := Lib.hid (HB.out.trans (hb.mono HB.out.size))
    have hxl := (Array.getElem?_eq_some_iff.1 hO).1
    obtain ⟨s1, c1, m1, d1⟩ := B1
    obtain ⟨sx, hsx⟩ : ∃ u, t.salt[0]? = some u := ⟨_, List.getElem?_eq_getElem (by have := HTL.out.1; have := HOK.out.l0; omega)⟩
    obtain ⟨mx, hmx⟩ : ∃ u, t.mud[0]? = some u := ⟨_, List.getElem?_eq_getElem (by have := HTL.out.2; have := HOK.out.l0; omega)⟩
    obtain ⟨sb, so, ea, hsc⟩ := hrt0.s.int_at hsx
    have ea : s1 = some ⟨sb, so, none⟩ := ea
    subst ea
    obtain ⟨mb, mo, ea, hmc⟩ := hrt0.m.int_at hmx
    have ea : m1 = some ⟨mb, mo, none⟩ := ea
    subst ea
    have hsl : sb < xb := by rw [hxb]; exact cell_lt hsc
    have hml : mb < xb := by rw [hxb]; exact cell_lt hmc
    have hsb : wq.heap.size ≤ sb := hnb _ (.inl rfl)
    have hmb : wq.heap.size ≤ mb := hnb _ (.inr rfl)
    have HRT := Lib.hid hrt
    have HTB := Lib.hid (show wx.heap[tb]? = some (.cells #[.slice (some ⟨sb, so, none⟩) t.salt.length c1, .slice (some ⟨mb, mo, none⟩) t.mud.length d1] 64 (0, 0)) from HTB0.out)
    clear HTB0
    have HX2 := Lib.hid (HX.out.below hb)
    have HRX := Lib.hid (HR.out.below hb)
    have HWX := Lib.hid (HW.out.below hb)
    have HR42 := Lib.hid ((hb.block _ (by omega)).trans HR4.out)
    have HR52 := Lib.hid ((hb.block _ (by omega)).trans HR5.out)
    clear hsx hmx hrt0 hsc hmc hnb hbx hTB hrt hO htl HX HR HW HR4 HR5 HR0 HB hb
    rw [← hwx, ← hxb]
    clear hwx hxb
    go_loopw [10] (fun i wr => ∃ (k : Nat) (sv : Value), k ≤ N ∧ i = .int .i64 k ∧ wr.heap[xb]? = some (rX26' r A sv) ∧ wr.ownsRow wx.heap.size 99 4 sv k (ggs (gaugesK r t (fun i => wordN ws (i + 1)) k)) ∧ Wr (fun k => k = xb) wx wr) (fun i _ => N - (intOf i).toNat)
    case atStart => exact ⟨0, .slice none 0 0, Nat.zero_le _, rfl, HO.out, World.ownsRow_nil _ _ _ _, Wr.refl _ _⟩
    case round =>
      obtain ⟨k, sv, hk, rfl, hob, hown, hw⟩ := hrel
      have HOB := Lib.hid hob
      have HOW := Lib.hid hown
      have HWR := Lib.hid hw
      obtain ⟨asv, csv, rfl, -, -⟩ := own_Sl hown
      have HBw := Lib.hid (HB0.out.trans (hw.below HB0.out.size (fun j e => by have : j = xb := e; omega)))
      have hobl : xb < wr.heap.size := (Array.getElem?_eq_some_iff.1 hob).1
      have hwz := hw.size
      have hne : ∀ j, j < xb → ¬ (fun k => k = xb) j := fun j hj e => by have : j = xb := e; omega
      have HXw := Lib.hid (HX2.out.wr hw (hne _ (by omega)))
      have HTw := Lib.hid (hw.blk (hne _ htx) HTB.out)
      have ew : IntKind.i64.wrap ((k : Int) + 1) = (k : Int) + 1 := IntWalk.i64_in _ (by omega)
      have hn1 := HN1.out
      have hn2 := HN2.out
      have HWw := Lib.hid (show Sl wr aw (words ws) from ((HWQ.out.below HBw.out)))
      clear hob hown hw
      obtain ⟨k0, k1, k2, k3, k4, k5, k6, k7, k8, k9⟩ := HXw.out
      go_wp2_with fail
      (with_reducible refine (word_c aw ws cw 0 0 _ rfl HWw.out (by omega) HWS.out hwl).mono ?_)
      rintro e w1 ⟨rfl, rfl⟩
      rw [HN0.out]
      by_cases hlt : k < N
      · go_wp2_with fail
        (with_reducible refine (word_c aw ws cw (k + 1) ((k : Int) + 1) _ (by omega) HWw.out (by omega) HWS.out hwl).mono ?_)
        rintro e w1 ⟨rfl, rfl⟩
        have hv9 := HLTW.out (k + 1)
        obtain ⟨v, hv⟩ : ∃ v, wordN ws (k + 1) = v := ⟨_, rfl⟩
        have HV := Lib.hid hv
        rw [hv] at hv9 ⊢
        obtain ⟨D, hD, hDl, hD5, he1, he2⟩ := day_mod HOK.out v
        have HD := Lib.hid hD
        obtain ⟨xs, hxs⟩ : ∃ u, t.salt[D]? = some u := ⟨_, List.getElem?_eq_getElem (by have := HTL.out.1; omega)⟩
        obtain ⟨xm, hxm⟩ : ∃ u, t.mud[D]? = some u := ⟨_, List.getElem?_eq_getElem (by have := HTL.out.2; omega)⟩
        have hfn := fit_num HOK.out HFT.out D hDl
        have hgs : t.salt.getD D 0 = xs := by rw [List.getD_eq_getElem?_getD, hxs]; rfl
        have hgm : t.mud.getD D 0 = xm := by rw [List.getD_eq_getElem?_getD, hxm]; rfl
        rw [hgs, hgm] at hfn
        obtain ⟨⟨hs0, hs9⟩, hm0, hm9⟩ := hfn
        have HGS2 := Lib.hid hgs
        have HGM2 := Lib.hid hgm
        obtain ⟨b', o', ea, ds⟩ := HRT.out.s.int_at hxs
        have ea : some (⟨sb, so, none⟩ : Addr) = some ⟨b', o', none⟩ := ea
        cases ea
        replace ds := HWR.out.cell (hne _ hsl) ds
        obtain ⟨b', o', ea, dm⟩ := HRT.out.m.int_at hxm
        have ea : some (⟨mb, mo, none⟩ : Addr) = some ⟨b', o', none⟩ := ea
        cases ea
        replace dm := HWR.out.cell (hne _ hml) dm
        have t0 : wr.cell? ⟨tb, 0, none⟩ = some (.slice (some ⟨sb, so, none⟩) t.salt.length c1) := by rw [cell_blk HTw.out]; rfl
        have t1 : wr.cell? ⟨tb, 1, none⟩ = some (.slice (some ⟨mb, mo, none⟩) t.mud.length d1) := by rw [cell_blk HTw.out]; rfl
        have oc : wr.cell? ⟨xb, 9, none⟩ = some (.slice asv k csv) := by rw [cell_blk HOB.out]; rfl
        have of := frozen_blk (k := 9) HOB.out
        have hts : D < t.salt.length := by have := HTL.out.1; omega
        have htm : D < t.mud.length := by have := HTL.out.2; omega
        have hl0 := HOK.out.l0
        have hl5 := HOK.out.l5
        have hlz : (r.last + 1 == 0) = false := by rw [beq_eq_false_iff_ne]; omega
        have hlz2 : ¬ r.last + 1 = 0 := by omega
        have hlw : IntKind.i64.wrap (r.last + 1) = r.last + 1 := IntWalk.i64_in _ (by omega)
        obtain ⟨m8, hm8⟩ : ∃ m, v / 8 = m := ⟨_, rfl⟩
        obtain ⟨m16, hm16⟩ : ∃ m, v / 16 = m := ⟨_, rfl⟩
        obtain ⟨m64, hm64⟩ : ∃ m, v / 64 = m := ⟨_, rfl⟩
        obtain ⟨c3, hc3⟩ : ∃ m, m16 % 3 = m := ⟨_, rfl⟩
        obtain ⟨e3, he3⟩ : ∃ m, m64 % 3 = m := ⟨_, rfl⟩
        obtain ⟨a1, a2, a3, a4⟩ := quo_rem v 8 2 (by omega) (by omega)
        obtain ⟨a5, a6, a7, a8⟩ := quo_rem v 16 3 (by omega) (by omega)
        obtain ⟨a9, a10, a11, a12⟩ := quo_rem v 64 3 (by omega) (by omega)
        rw [hm8] at a1 a2 a3 a4
        rw [hm16] at a5 a6 a7 a8
        rw [hm64] at a9 a10 a11 a12
        rw [hc3] at a7 a8
        rw [he3] at a11 a12
        have a1 : (v : Int).tdiv 8 = m8 := a1
        have a2 : (v : Int) / 8 = m8 := a2
        have a5 : (v : Int).tdiv 16 = m16 := a5
        have a6 : (v : Int) / 16 = m16 := a6
        have a7 : (m16 : Int).tmod 3 = c3 := a7
        have a8 : (m16 : Int) % 3 = c3 := a8
        have a9 : (v : Int).tdiv 64 = m64 := a9
        have a10 : (v : Int) / 64 = m64 := a10
        have a11 : (m64 : Int).tmod 3 = e3 := a11
        have a12 : (m64 : Int) % 3 = e3 := a12
        have w8 : IntKind.i64.wrap (m8 : Int) = m8 := IntWalk.i64_in _ (by omega)
        have w16 : IntKind.i64.wrap (m16 : Int) = m16 := IntWalk.i64_in _ (by omega)
        have w64 : IntKind.i64.wrap (m64 : Int) = m64 := IntWalk.i64_in _ (by omega)
        have hcc3 : c3 ≤ 2 := by omega
        have hee3 : e3 ≤ 2 := by omega
        have w1 : IntKind.i64.wrap (xs - (c3 : Int)) = xs - c3 := IntWalk.i64_in _ (by omega)
        have w2 : IntKind.i64.wrap (xs + (e3 : Int)) = xs + e3 := IntWalk.i64_in _ (by omega)
        have w3 : IntKind.i64.wrap (xm - (c3 : Int)) = xm - c3 := IntWalk.i64_in _ (by omega)
        have w4 : IntKind.i64.wrap (xm + (e3 : Int)) = xm + e3 := IntWalk.i64_in _ (by omega)
        have HM8 := Lib.hid (show v / 8 = m8 from hm8)
        have HM16 := Lib.hid (show v / 16 % 3 = c3 from by rw [hm16, hc3])
        have HM64 := Lib.hid (show v / 64 % 3 = e3 from by rw [hm64, he3])
        clear hv hD hxs hxm hgs hgm hm8 hm16 hm64 hc3 he3
        rcases (show m8 % 2 = 0 ∨ m8 % 2 = 1 by omega) with hb8 | hb8
        all_goals
          rw [hb8] at a3 a4
          have HB8 := Lib.hid hb8
          clear hb8
        · have a3 : (m8 : Int).tmod 2 = 0 := a3
          have a4 : (m8 : Int) % 2 = 0 := a4
          go_upto_region 10 with fail
          obtain ⟨gb, hgb⟩ : ∃ n, n = wr.heap.size := ⟨_, rfl⟩
          obtain ⟨wg, hwg⟩ : ∃ Q, Q = wr.alloc (.cells #[.int .i64 D, .bool false, .int .i64 0, .int .i64 0] 99) := ⟨_, rfl⟩
          have hb : Below wr.heap.size wr wg := by rw [hwg]; exact al_b _ _
          have hG := heap_alloc_new wr (.cells #[.int .i64 D, .bool false, .int .i64 0, .int .i64 0] 99)
          rw [← hwg, ← hgb] at hG
          rw [← hwg, ← hgb]
          have HG := Lib.hid hG
          have hxg : xb < gb := by rw [hgb]; exact hobl
          have hws := Wr.of_below (S := fun _ => False) hb
          have HBG := Lib.hid hb
          have HGB := Lib.hid hgb
          replace t0 := hws.cell (fun e => e) t0
          replace t1 := hws.cell (fun e => e) t1
          replace ds := hws.cell (fun e => e) ds
          replace dm := hws.cell (fun e => e) dm
          have g0 : wg.cell? ⟨gb, 0, none⟩ = some (.int .i64 D) := by rw [cell_blk HG.out]; rfl
          have g1 : wg.cell? ⟨gb, 1, none⟩ = some (.bool false) := by rw [cell_blk HG.out]; rfl
          have g2 : wg.cell? ⟨gb, 2, none⟩ = some (.int .i64 0) := by rw [cell_blk HG.out]; rfl
          have g3 : wg.cell? ⟨gb, 3, none⟩ = some (.int .i64 0) := by rw [cell_blk HG.out]; rfl
          have gf := fun j => frozen_blk (k := j) HG.out
          have HOC := Lib.hid oc
          clear hwg hgb hb hG hws oc of k0 k1 k2 k3 k4 k5 k6 k7 k8 k9
          go_upto_region 14 with fail
          obtain ⟨wh, hwh⟩ : ∃ Q, Q = (wg.setCell ⟨gb, 2, none⟩ (.int .i64 (max 0 (xs - (c3 : Int))))).setCell ⟨gb, 3, none⟩ (.int .i64 (min 9 (xs + (e3 : Int)))) := ⟨_, rfl⟩
          rw [← hwh]
          have hH : wh.heap[gb]? = some (.cells #[.int .i64 D, .bool false, .int .i64 (max 0 (xs - (c3 : Int))), .int .i64 (min 9 (xs + (e3 : Int)))] 99 (0, 0)) := by rw [hwh, heap_set (heap_set HG.out (k := 2) (.int .i64 (max 0 (xs - (c3 : Int))))) (k := 3) (.int .i64 (min 9 (xs + (e3 : Int))))]; rfl
          have hwg : Wr (fun k => k = gb) wg wh := by rw [hwh]; exact (Wr.setCell (fun k => k = gb) _ ⟨gb, 2, none⟩ _ rfl).trans (Wr.setCell (fun k => k = gb) _ ⟨gb, 3, none⟩ _ rfl)
          have hBh : Below wr.heap.size wr wh := HBG.out.trans (hwg.below HBG.out.size (fun j e => by have h1 : j = gb := e; have := HGB.out; omega))
          clear g0 g1 g2 g3 gf hwh hwg t0 t1 ds dm
          have HBH := Lib.hid hBh
          have g0 : wh.cell? ⟨gb, 0, none⟩ = some (.int .i64 D) := by rw [cell_blk hH]; rfl
          have g1 : wh.cell? ⟨gb, 1, none⟩ = some (.bool false) := by rw [cell_blk hH]; rfl
          have g2 : wh.cell? ⟨gb, 2, none⟩ = some (.int .i64 (max 0 (xs - (c3 : Int)))) := by rw [cell_blk hH]; rfl
          have g3 : wh.cell? ⟨gb, 3, none⟩ = some (.int .i64 (min 9 (xs + (e3 : Int)))) := by rw [cell_blk hH]; rfl
          have oc : wh.cell? ⟨xb, 9, none⟩ = some (.slice asv k csv) := (hBh.cell (p := ⟨xb, 9, none⟩) hobl).trans HOC.out
          have HGO := Lib.hid (show gaugeOf r t v = mkG D false xs c3 e3 from by
            have hm : (v / 8 % 2 == 1) = false := by rw [HM8.out, HB8.out]; rfl
            unfold gaugeOf
            rw [hm, HM16.out, HM64.out, ← HD.out, HGS2.out, HGM2.out]; rfl)
          obtain ⟨ib, hib⟩ : ∃ n, n = wh.heap.size := ⟨_, rfl⟩
          obtain ⟨wi, hwi⟩ : ∃ Q, Q = wh.alloc (.cells #[.int .i64 D, .bool false, .int .i64 (max 0 (xs - (c3 : Int))), .int .i64 (min 9 (xs + (e3 : Int)))] 99) := ⟨_, rfl⟩
          have hbi : Below wh.heap.size wh wi := by rw [hwi]; exact al_b _ _
          have hsl9 : Sl wi (some ⟨ib, 0, none⟩) (ggs [mkG D false xs c3 e3]) := by rw [hwi, hib]; exact Sl_new _ _ _
          have hBi : Below wr.heap.size wr wi := hBh.trans (hbi.mono hBh.size)
          have HSL := Lib.hid hsl9
          have HBI := Lib.hid hBi
          clear hH hBh hbi hsl9 hBi
          go_wp2_with (at_builtin; refine Hid.out ?_)
          refine Lib.hid ?_
          rw [← hwi, ← hib]
          clear hwi hib g0 g1 g2 g3 oc
          refine wpList_app elGgR rfl _ _ rfl rfl rfl (own_below HOW.out HBI.out) HSL.out rfl (by intro u hu; simp [ggs, ggc] at hu; rcases hu with rfl | rfl | rfl | rfl <;> rfl) (by omega) (by omega) (by have := HBI.out.size; omega) ?_
          intro v7 w7 hown7 hg7 _
          have hob7 : ∀ q, (Value.slice asv k csv).ownBlock = some q → wx.heap.size ≤ q ∧ q < wr.heap.size := fun q e => HOW.out.lt q e
          have h67 := (Wr.of_below (S := fun q => (Value.slice asv k csv).ownBlock = some q) HBI.out).trans (grown_wr hg7)
          have hOB7 := h67.blk (k := xb) (fun e => by have := hob7 _ e; omega) HOB.out
          have H67 := Lib.hid (h67.mono (S' := fun q => wx.heap.size ≤ q) (fun q e => (hob7 q e).1))
          obtain ⟨a7, c7, rfl, -, -⟩ := own_Sl hown7
          have HOW7 := Lib.hid hown7
          have HOB7 := Lib.hid hOB7
          clear hown7 hg7 h67 hOB7 hob7
          have oc := cell_blk (k := 9) HOB7.out
          have of := frozen_blk (k := 9) HOB7.out
          go_wp2_with fail
          clear oc of
          go_roundw
          case rel =>
            have e1 : gaugesK r t (fun i => wordN ws (i + 1)) (k + 1) = gaugesK r t (fun i => wordN ws (i + 1)) k ++ [mkG D false xs c3 e3] := by rw [← HGO.out, ← HV.out]; rfl
            refine ⟨k + 1, .slice a7 (k + 1) c7, by omega, by go_num, ?_, ?_, ?_⟩
            · rw [heap_set HOB7.out (k := 9) (.slice a7 (k + 1) c7)]; rfl
            · rw [e1, ggs_append]
              exact own_wr HOW7.out (Wr.setCell (fun k => k = xb) _ ⟨xb, 9, none⟩ _ rfl) (fun j hj e => by have : j = xb := e; omega)
            · exact (wr_own HWR.out H67.out (fun j hj => hj)).trans (Wr.setCell (fun k => k = xb) _ ⟨xb, 9, none⟩ _ rfl)
          case measure => simp [intOf]; omega
        · have a3 : (m8 : Int).tmod 2 = 1 := a3
          have a4 : (m8 : Int) % 2 = 1 := a4
          go_upto_region 10 with fail
          obtain ⟨gb, hgb⟩ : ∃ n, n = wr.heap.size := ⟨_, rfl⟩
          obtain ⟨wg, hwg⟩ : ∃ Q, Q = wr.alloc (.cells #[.int .i64 D, .bool true, .int .i64 0, .int .i64 0] 99) := ⟨_, rfl⟩
          have hb : Below wr.heap.size wr wg := by rw [hwg]; exact al_b _ _
          have hG := heap_alloc_new wr (.cells #[.int .i64 D, .bool true, .int .i64 0, .int .i64 0] 99)
          rw [← hwg, ← hgb] at hG
          rw [← hwg, ← hgb]
          have HG := Lib.hid hG
          have hxg : xb < gb := by rw [hgb]; exact hobl
          have hws := Wr.of_below (S := fun _ => False) hb
          have HBG := Lib.hid hb
          have HGB := Lib.hid hgb
          replace t0 := hws.cell (fun e => e) t0
          replace t1 := hws.cell (fun e => e) t1
          replace ds := hws.cell (fun e => e) ds
          replace dm := hws.cell (fun e => e) dm
          have g0 : wg.cell? ⟨gb, 0, none⟩ = some (.int .i64 D) := by rw [cell_blk HG.out]; rfl
          have g1 : wg.cell? ⟨gb, 1, none⟩ = some (.bool true) := by rw [cell_blk HG.out]; rfl
          have g2 : wg.cell? ⟨gb, 2, none⟩ = some (.int .i64 0) := by rw [cell_blk HG.out]; rfl
          have g3 : wg.cell? ⟨gb, 3, none⟩ = some (.int .i64 0) := by rw [cell_blk HG.out]; rfl
          have gf := fun j => frozen_blk (k := j) HG.out
          have HOC := Lib.hid oc
          clear hwg hgb hb hG hws oc of k0 k1 k2 k3 k4 k5 k6 k7 k8 k9
          go_upto_region 14 with fail
          obtain ⟨wh, hwh⟩ : ∃ Q, Q = (wg.setCell ⟨gb, 2, none⟩ (.int .i64 (max 0 (xm - (c3 : Int))))).setCell ⟨gb, 3, none⟩ (.int .i64 (min 9 (xm + (e3 : Int)))) := ⟨_, rfl⟩
          rw [← hwh]
          have hH : wh.heap[gb]? = some (.cells #[.int .i64 D, .bool true, .int .i64 (max 0 (xm - (c3 : Int))), .int .i64 (min 9 (xm + (e3 : Int)))] 99 (0, 0)) := by rw [hwh, heap_set (heap_set HG.out (k := 2) (.int .i64 (max 0 (xm - (c3 : Int))))) (k := 3) (.int .i64 (min 9 (xm + (e3 : Int))))]; rfl
          have hwg : Wr (fun k => k = gb) wg wh := by rw [hwh]; exact (Wr.setCell (fun k => k = gb) _ ⟨gb, 2, none⟩ _ rfl).trans (Wr.setCell (fun k => k = gb) _ ⟨gb, 3, none⟩ _ rfl)
          have hBh : Below wr.heap.size wr wh := HBG.out.trans (hwg.below HBG.out.size (fun j e => by have h1 : j = gb := e; have := HGB.out; omega))
          clear g0 g1 g2 g3 gf hwh hwg t0 t1 ds dm
          have HBH := Lib.hid hBh
          have g0 : wh.cell? ⟨gb, 0, none⟩ = some (.int .i64 D) := by rw [cell_blk hH]; rfl
          have g1 : wh.cell? ⟨gb, 1, none⟩ = some (.bool true) := by rw [cell_blk hH]; rfl
          have g2 : wh.cell? ⟨gb, 2, none⟩ = some (.int .i64 (max 0 (xm - (c3 : Int)))) := by rw [cell_blk hH]; rfl
          have g3 : wh.cell? ⟨gb, 3, none⟩ = some (.int .i64 (min 9 (xm + (e3 : Int)))) := by rw [cell_blk hH]; rfl
          have oc : wh.cell? ⟨xb, 9, none⟩ = some (.slice asv k csv) := (hBh.cell (p := ⟨xb, 9, none⟩) hobl).trans HOC.out
          have HGO := Lib.hid (show gaugeOf r t v = mkG D true xm c3 e3 from by
            have hm : (v / 8 % 2 == 1) = true := by rw [HM8.out, HB8.out]; rfl
            unfold gaugeOf
            rw [hm, HM16.out, HM64.out, ← HD.out, HGS2.out, HGM2.out]; rfl)
          obtain ⟨ib, hib⟩ : ∃ n, n = wh.heap.size := ⟨_, rfl⟩
          obtain ⟨wi, hwi⟩ : ∃ Q, Q = wh.alloc (.cells #[.int .i64 D, .bool true, .int .i64 (max 0 (xm - (c3 : Int))), .int .i64 (min 9 (xm + (e3 : Int)))] 99) := ⟨_, rfl⟩
          have hbi : Below wh.heap.size wh wi := by rw [hwi]; exact al_b _ _
          have hsl9 : Sl wi (some ⟨ib, 0, none⟩) (ggs [mkG D true xm c3 e3]) := by rw [hwi, hib]; exact Sl_new _ _ _
          have hBi : Below wr.heap.size wr wi := hBh.trans (hbi.mono hBh.size)
          have HSL := Lib.hid hsl9
          have HBI := Lib.hid hBi
          clear hH hBh hbi hsl9 hBi
          go_wp2_with (at_builtin; refine Hid.out ?_)
          refine Lib.hid ?_
          rw [← hwi, ← hib]
          clear hwi hib g0 g1 g2 g3 oc
          refine wpList_app elGgR rfl _ _ rfl rfl rfl (own_below HOW.out HBI.out) HSL.out rfl (by intro u hu; simp [ggs, ggc] at hu; rcases hu with rfl | rfl | rfl | rfl <;> rfl) (by omega) (by omega) (by have := HBI.out.size; omega) ?_
          intro v7 w7 hown7 hg7 _
          have hob7 : ∀ q, (Value.slice asv k csv).ownBlock = some q → wx.heap.size ≤ q ∧ q < wr.heap.size := fun q e => HOW.out.lt q e
          have h67 := (Wr.of_below (S := fun q => (Value.slice asv k csv).ownBlock = some q) HBI.out).trans (grown_wr hg7)
          have hOB7 := h67.blk (k := xb) (fun e => by have := hob7 _ e; omega) HOB.out
          have H67 := Lib.hid (h67.mono (S' := fun q => wx.heap.size ≤ q) (fun q e => (hob7 q e).1))
          obtain ⟨a7, c7, rfl, -, -⟩ := own_Sl hown7
          have HOW7 := Lib.hid hown7
          have HOB7 := Lib.hid hOB7
          clear hown7 hg7 h67 hOB7 hob7
          have oc := cell_blk (k := 9) HOB7.out
          have of := frozen_blk (k := 9) HOB7.out
          go_wp2_with fail
          clear oc of
          go_roundw
          case rel =>
            have e1 : gaugesK r t (fun i => wordN ws (i + 1)) (k + 1) = gaugesK r t (fun i => wordN ws (i + 1)) k ++ [mkG D true xm c3 e3] := by rw [← HGO.out, ← HV.out]; rfl
            refine ⟨k + 1, .slice a7 (k + 1) c7, by omega, by go_num, ?_, ?_, ?_⟩
            · rw [heap_set HOB7.out (k := 9) (.slice a7 (k + 1) c7)]; rfl
            · rw [e1, ggs_append]
              exact own_wr HOW7.out (Wr.setCell (fun k => k = xb) _ ⟨xb, 9, none⟩ _ rfl) (fun j hj e => by have : j = xb := e; omega)
            · exact (wr_own HWR.out H67.out (fun j hj => hj)).trans (Wr.setCell (fun k => k = xb) _ ⟨xb, 9, none⟩ _ rfl)
          case measure => simp [intOf]; omega
      · go_wp2_with fail
        have hkn : k = N := by omega
        obtain ⟨X, hX⟩ : ∃ x, x = gdR r t (fun i => wordN ws (i + 1)) N := ⟨_, rfl⟩
        obtain ⟨AX, hAX⟩ : ∃ x : RA, x = ⟨A.sa, A.sc, A.ma, A.mc, A.ua, A.uc, asv, csv⟩ := ⟨_, rfl⟩
        obtain ⟨BX, hBX⟩ : ∃ x : TA, x = ⟨some ⟨sb, so, none⟩, c1, some ⟨mb, mo, none⟩, d1⟩ := ⟨_, rfl⟩
        have hxl9 : X.gauges.length = k := by rw [hX, hkn]; exact gaugesK_len _ _ _ _
        have HXB := Lib.hid (show BxT xb tb X AX t BX wr from by
          have h9 : wr.cell? ⟨xb, 9, none⟩ = some (.slice AX.ga X.gauges.length AX.gc) := by rw [cell_blk HOB.out, hxl9, hAX]; rfl
          rw [hX, hAX] at *
          exact box_T ⟨by rw [cell_blk HOB.out]; rfl, by rw [cell_blk HOB.out]; rfl, by rw [cell_blk HOB.out]; rfl, by rw [cell_blk HOB.out]; rfl, by rw [cell_blk HOB.out]; rfl, by rw [cell_blk HOB.out]; rfl, by rw [cell_blk HOB.out]; rfl, by rw [cell_blk HOB.out]; rfl, by rw [cell_blk HOB.out]; rfl, h9⟩ (by rw [hBX]; exact HTw.out))
        have HXE := Lib.hid hX
        have HAX := Lib.hid hAX
        have HBX := Lib.hid hBX
        have HKN := Lib.hid hkn
        have HR43 := Lib.hid (HWR.out.blk (hne _ (by omega)) HR42.out)
        have HR53 := Lib.hid (HWR.out.blk (hne _ (by omega)) HR52.out)
        clear hX hAX hBX hkn hxl9 k0 k1 k2 k3 k4 k5 k6 k7 k8 k9
        refine region_o (S := BxT xb tb X AX t BX) (.take 0 (.take 1 (.one 2 (.one 3 .nil)))) (by kernel_rfl) (by kernel_rfl) (fun _ _ d _ _ h => by cases d <;> exact h) (HXB.out.below (Below.refl _ _).drew) ?_
        intro W0 hW0 hS0
        have hBW : Below wr.heap.size wr W0 := by subst hW0; exact (Below.refl _ _).drew
        clear hW0
        have hR4 := (hBW.block _ (Array.getElem?_eq_some_iff.1 HR43.out).1).trans HR43.out
        have hR5 := (hBW.block _ (Array.getElem?_eq_some_iff.1 HR53.out).1).trans HR53.out
        have hw := Wr.of_below (S := fun k => k = w.heap.size + 1 ∨ k = w.heap.size + 1 + 1) hBW
        repeat (first
          | (refine ord_skip rfl ?_ ?_; rfl; simp only [pz])
          | (refine ord_take (v := ?_) rfl ?_ (fun W hW => ?_) ?_; rotate_left; rfl; (obtain ⟨⟨k0, k1, k2, k3, k4, k5, k6, k7, k8, k9⟩, t0, t1⟩ := hW; go_simp; (first | done | with_reducible rfl)); simp only [pz]))
        refine ord_op rfl ?_ (fun K hK => ?_)
        rfl
        skip
        have g0 := cell_blk (k := 0) hR4
        have g1 := cell_blk (k := 1) hR4
        have g2 := cell_blk (k := 2) hR4
        have g3 := cell_blk (k := 3) hR4
        have g4 := cell_blk (k := 4) hR4
        have g5 := cell_blk (k := 5) hR4
        have g6 := cell_blk (k := 6) hR4
        have g7 := cell_blk (k := 7) hR4
        have g8 := cell_blk (k := 8) hR4
        have g9 := cell_blk (k := 9) hR4
        have gf := fun j => frozen_blk (k := j) hR4
        go_simp
        have hst := store10 hR4 (.int .i64 X.last) (.slice AX.sa X.salt.length AX.sc) (.slice AX.ma X.mud.length AX.mc) (.int .i64 X.sweet) (.int .i64 X.clear) (.int .i64 X.size) (.int .i64 X.start) (.int .i64 X.draw) (.slice AX.ua X.use.length AX.uc) (.slice AX.ga X.gauges.length AX.gc)
        obtain ⟨W1, hWj⟩ : ∃ Q, Q = (((((((((((W0).setCell ⟨w.heap.size + 1, 0, none⟩ (.int .i64 X.last)).setCell ⟨w.heap.size + 1, 1, none⟩ (.slice AX.sa X.salt.length AX.sc)).setCell ⟨w.heap.size + 1, 2, none⟩ (.slice AX.ma X.mud.length AX.mc)).setCell ⟨w.heap.size + 1, 3, none⟩ (.int .i64 X.sweet)).setCell ⟨w.heap.size + 1, 4, none⟩ (.int .i64 X.clear)).setCell ⟨w.heap.size + 1, 5, none⟩ (.int .i64 X.size)).setCell ⟨w.heap.size + 1, 6, none⟩ (.int .i64 X.start)).setCell ⟨w.heap.size + 1, 7, none⟩ (.int .i64 X.draw)).setCell ⟨w.heap.size + 1, 8, none⟩ (.slice AX.ua X.use.length AX.uc)).setCell ⟨w.heap.size + 1, 9, none⟩ (.slice AX.ga X.gauges.length AX.gc)) := ⟨_, rfl⟩
        rw [← hWj] at hst ⊢
        obtain ⟨hst1, hst2⟩ := hst
        have hS1 := BxT.wr' hS0 hst2 (fun e => by have : xb = w.heap.size + 1 := e; omega) (fun e => by have : tb = w.heap.size + 1 := e; omega)
        replace hR4 := hst1
        replace hR5 := hst2.blk (fun e => by have h1 : w.heap.size + 1 = w.heap.size + 1 + 1 ∨ w.heap.size + 1 + 1 = w.heap.size + 1 := by first | exact .inl e | exact .inr e
                                             omega) hR5
        replace hw := hw.trans (hst2.mono (S' := fun k => k = w.heap.size + 1 ∨ k = w.heap.size + 1 + 1) (fun q e => by first | exact .inl e | exact .inr e))
        clear g0 g1 g2 g3 g4 g5 g6 g7 g8 g9 gf hWj hst1 hst2
        refine hK _ _ hS1 ?_
        clear hK K
        try simp only [pz]
        refine ord_op rfl ?_ (fun K hK => ?_)
        rfl
        skip
        have g0 := cell_blk (k := 0) hR5
        have g1 := cell_blk (k := 1) hR5
        have gf := fun j => frozen_blk (k := j) hR5
        go_simp
        have hst := store2 hR5 (.slice BX.sa t.salt.length BX.sc) (.slice BX.ma t.mud.length BX.mc)
        obtain ⟨W2, hWj⟩ : ∃ Q, Q = (((W1).setCell ⟨w.heap.size + 1 + 1, 0, none⟩ (.slice BX.sa t.salt.length BX.sc)).setCell ⟨w.heap.size + 1 + 1, 1, none⟩ (.slice BX.ma t.mud.length BX.mc)) := ⟨_, rfl⟩
        rw [← hWj] at hst ⊢
        obtain ⟨hst1, hst2⟩ := hst
        have hS2 := BxT.wr' hS1 hst2 (fun e => by have : xb = w.heap.size + 1 + 1 := e; omega) (fun e => by have : tb = w.heap.size + 1 + 1 := e; omega)
        replace hR5 := hst1
        replace hR4 := hst2.blk (fun e => by have h1 : w.heap.size + 1 = w.heap.size + 1 + 1 ∨ w.heap.size + 1 + 1 = w.heap.size + 1 := by first | exact .inl e | exact .inr e
                                             omega) hR4
        replace hw := hw.trans (hst2.mono (S' := fun k => k = w.heap.size + 1 ∨ k = w.heap.size + 1 + 1) (fun q e => by first | exact .inl e | exact .inr e))
        clear g0 g1 gf hWj hst1 hst2
        refine hK _ _ hS2 ?_
        clear hK K
        try simp only [pz]
        refine ord_nil ?_
        go_wp2_with fail
        have q0 := cell_blk (k := 0) hR4
        have q1 := cell_blk (k := 1) hR4
        have q2 := cell_blk (k := 2) hR4
        have q3 := cell_blk (k := 3) hR4
        have q4 := cell_blk (k := 4) hR4
        have q5 := cell_blk (k := 5) hR4
        have q6 := cell_blk (k := 6) hR4
        have q7 := cell_blk (k := 7) hR4
        have q8 := cell_blk (k := 8) hR4
        have q9 := cell_blk (k := 9) hR4
        have p0 := cell_blk (k := 0) hR5
        have p1 := cell_blk (k := 1) hR5
        refine bodyPost_ret (v := .tuple #[rivV X AX, trV t BX]) (by simp [results, Try.results56, go_sem, q0, q1, q2, q3, q4, q5, q6, q7, q8, q9, p0, p1]) rfl ?_
        have hB := HBw.out.trans (hw.below HBw.out.size (fun j e => by have : j = w.heap.size + 1 ∨ j = w.heap.size + 1 + 1 := e; omega))
        obtain ⟨_, _, hev, -, hsg⟩ := own_Sl HOW.out
        cases hev
        have hge := HXE.out
        rw [← HF.out] at hge
        have hax := HAX.out
        have hbx := HBX.out
        have hgs : gaugesK r t (fun i => wordN ws (i + 1)) k = (gdR r t (fun i => wordN ws (i + 1)) (wordN ws 0 % 6)).gauges := by rw [HF.out, ← HKN.out]; rfl
        rw [hgs] at hsg
        clear q0 q1 q2 q3 q4 q5 q6 q7 q8 q9 p0 p1
        subst hge hax hbx
        refine ⟨t, _, _, HFT.out, rfl, ⟨hr0.s.below hB, hr0.m.below hB, hr0.u.below hB, ?_⟩, ⟨?_, ?_⟩, hB⟩
        · exact hsg.wr hw (fun ad e h => by subst e; have h1 := (HOW.out.lt ad.block rfl).1; have h2 : ad.block = w.heap.size + 1 ∨ ad.block = w.heap.size + 1 + 1 := h; omega)
        · exact (HRT.out.s.wr HWR.out (fun ad e h => by cases e; have : sb = xb := h; omega)).wr hw (fun ad e h => by cases e; have : sb = w.heap.size + 1 ∨ sb = w.heap.size + 1 + 1 := h; omega)
        · exact (HRT.out.m.wr HWR.out (fun ad e h => by cases e; have : mb = xb := h; omega)).wr hw (fun ad e h => by cases e; have : mb = w.heap.size + 1 ∨ mb = w.heap.size + 1 + 1 := h; omega)
end Go.Proofs.Ytgglfngkomgadaa
