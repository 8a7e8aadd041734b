/- plans, good days, truths -/
import Derived.Laws.CopyOwn
import Derived.Test.YtgglfngkomgadaaJB
import Derived.Test.YtgglfngkomgadaaJA
namespace Go.Proofs.Ytgglfngkomgadaa
open Go.RowKit
set_option linter.unusedVariables false
set_option linter.unusedSimpArgs false
set_option maxRecDepth 100000

abbrev gv (p : List Bool) : Value := .agg (p.map Value.bool).toArray
abbrev rivO (r : Riv) (A : RA) : Obj := .cells #[.int .i64 r.last, .slice A.sa r.salt.length A.sc, .slice A.ma r.mud.length A.mc, .int .i64 r.sweet, .int .i64 r.clear, .int .i64 r.size, .int .i64 r.start, .int .i64 r.draw, .slice A.ua r.use.length A.uc, .slice A.ga r.gauges.length A.gc] 35

theorem tankAt_bd {r : Riv} (ok : Ok r) (g : List Bool) (plan : List Int) : ∀ k, 0 ≤ tankAt r g plan k ∧ tankAt r g plan k ≤ r.size
  | 0 => ok.st
  | k + 1 => by
    have ih := tankAt_bd ok g plan k
    have hs := ok.sz
    have hd := ok.dr
    have hu : 0 ≤ r.use.getD k 0 := by
      by_cases h : k < r.use.length
      · have e : r.use.getD k 0 = r.use[k] := by simp [List.getD, h]
        rw [e]; exact (ok.uo _ (List.getElem_mem h)).1
      · simp [List.getD, List.getElem?_eq_none (by omega : r.use.length ≤ k)]
    simp only [tankAt, stepT]
    split <;> omega

theorem playL_take (r : Riv) (g : List Bool) (plan : List Int) (k : Nat) (hk : k < r.use.length) : (playL r g plan).take (k + 1) = (playL r g plan).take k ++ [tankAt r g plan (k + 1)] := by
  have h : (playL r g plan)[k]? = some (tankAt r g plan (k + 1)) := by simp [playL, hk]
  rw [List.take_add_one, h]; rfl

set_option maxHeartbeats 1000000 in
theorem play_c (r : Riv) (A : RA) (p : List Bool) (a : Option Addr) (xs : List Int) (c : Nat) (w : World) (ok : Ok r) (hp : p.length = 6) (h : Sl w a (ints xs)) (hlen : xs.length ≤ 1000) (hr : Rd w r A) :
    Calls Try.prog 89 #[rivV r A, gv p, .slice a xs.length c] w fun e w' => RetOwn 3 1 r.use.length (ints (playL r p xs)) w e w' := by
  obtain ⟨sa, sc, ma, mc, ua, uc, ga, gc⟩ := A
  have hu : Sl w ua (ints r.use) := hr.u
  have hP := Lib.hid hp
  have hbd := tankAt_bd ok p xs
  have hnu := Lib.hid ok.nu
  have hl5 := ok.l5
  have hl0 := ok.l0
  have hsz := ok.sz
  have hdr := ok.dr
  have hnb : r.use.length ≤ 6 := by have := ok.nu; omega
  obtain ⟨A, hA⟩ : ∃ A : RA, A = ⟨sa, sc, ma, mc, ua, uc, ga, gc⟩ := ⟨_, rfl⟩
  have hB0 := ((Below.refl w.heap.size w).alloc (Nat.le_refl _) (rivO r ⟨sa, sc, ma, mc, ua, uc, ga, gc⟩)).alloc (by simp) (.cells (p.map Value.bool).toArray 111)
  clear hp hr hA A
  go_enter Try.func89, Try.ntmps89
  go_wp2_with fail
  go_loopw [6, 7, 8, 9, 15] (fun out t d u i wr => ∃ (k : Nat), k ≤ r.use.length ∧ i = .int .i64 k ∧ t = .int .i64 (tankAt r p xs k) ∧ wr.ownsRow (w.heap.size + 2) 3 1 out k (ints ((playL r p xs).take k)) ∧ Below (w.heap.size + 2) ((w.alloc (rivO r ⟨sa, sc, ma, mc, ua, uc, ga, gc⟩)).alloc (.cells (p.map Value.bool).toArray 111)) wr) (fun _ _ _ _ i _ => r.use.length - (intOf i).toNat)
  case atStart => exact ⟨0, Nat.zero_le _, rfl, rfl, World.ownsRow_nil _ _ _ _, Below.refl _ _⟩
  case round =>
    obtain ⟨k, hk, rfl, rfl, hown, hB⟩ := hrel
    by_cases hlt : k < r.use.length
    · obtain ⟨x, hx⟩ : ∃ x, r.use[k]? = some x := ⟨_, List.getElem?_eq_getElem hlt⟩
      obtain ⟨y, hy⟩ : ∃ y, p[k]? = some y := ⟨_, List.getElem?_eq_getElem (by have := hP.out; omega)⟩
      have hX := Lib.hid hx
      have hY := Lib.hid hy
      have hBw := (hB0.trans (hB.mono (by omega)))
      obtain ⟨b, o, rfl, h1⟩ := (hu.below hBw).int_at hx
      have hxb := ok.uo x (List.mem_of_getElem? hx)
      have hs := h.below hBw
      have ht := hbd k
      have hk6 : (k : Int) < 6 := by omega
      have hk0 : (0 : Int) ≤ (k : Int) := by omega
      have hsz0 : w.heap.size + 2 ≤ wr.heap.size := by have := hB.size; simp at this; omega
      have hlt0 : w.heap.size < wr.heap.size := by omega
      have hlt1 : w.heap.size + 1 < wr.heap.size := by omega
      have hc := fun (b o : Nat) (hh : b < w.heap.size + 2) => hB.cell (p := ⟨b, o, none⟩) hh
      have hT := Lib.hid (playL_take r p xs k hlt)
      have hg : p.getD k false = y := by rw [List.getD, hy]; rfl
      have hug : r.use.getD k 0 = x := by rw [List.getD, hx]; rfl
      have hTA := Lib.hid (show tankAt r p xs (k + 1) = max 0 ((if (y && xs.contains (k : Int)) then min r.size (tankAt r p xs k + r.draw) else tankAt r p xs k) - x) by rw [← hg, ← hug]; rfl)
      clear hx hg hug
      cases y
      all_goals
        go_wp2_with fail
        refine region_q (C := OldC wr.heap.size wr) (by kernel_rfl) (by kernel_rfl) (oldR (Nat.le_refl _)) ?_
        repeat (first
          | (refine wpQuiet_step (fun K hK => ?_); refine quiet_skip ?_ (hK _ ?_); rfl; clear hK K; simp only [Act.put, List.setIfInBounds_toArray, List.set_cons_zero, List.set_cons_succ])
          | (refine wpQuiet_step (fun K hK => ?_); refine quiet_take (v := ?_) ?_ (fun W hW => ?_) (hK _ ?_); rotate_left; rfl; (have hS := hW; obtain ⟨hz, hcc, hbb⟩ := hW; go_simp; (first | done | with_reducible rfl | (go_at_call 125; refine (contains_c a xs c _ _ (hs.below hbb) hlen).mono ?_; rintro e w1 ⟨rfl, rfl⟩; refine ⟨?_, hS⟩; with_reducible rfl) | (go_at_call 124; refine (drawn_c r ⟨sa, sc, ma, mc, some ⟨b, o, none⟩, uc, ga, gc⟩ _ _ _ ht.1 (by omega) hdr.1 (by omega)).mono ?_; rintro e w1 ⟨rfl, hb⟩; refine ⟨?_, oldK hS hb⟩; with_reducible rfl))); clear hK K; simp only [Act.put, List.setIfInBounds_toArray, List.set_cons_zero, List.set_cons_succ]))
        refine wpQuiet_nil ?_
        intro W hW
        obtain ⟨hz, hcc, hbb⟩ := hW
        have hown2 := own_below hown hbb
        have hbW := hB.trans (hbb.mono hsz0)
        go_wp2_with (at_builtin; refine wpList_app elInt rfl _ _ rfl rfl rfl (hown2.alloc _) (Sl_new W [_] 3) rfl (by intro u hu; simp at hu; subst hu; rfl) (by omega) (by omega) (by simp; omega) ?_; intro v2 w2 hown3 hg2 _)
        go_roundw
        case rel =>
          refine ⟨k + 1, by omega, by go_num, by rw [hTA.out]; simp, ?_, (hbW.alloc (by omega) _).grown hg2 (by simp; omega) (fun j e => (hown2.lt j e).1)⟩
          rw [hT.out, ints_append]
          have hv := hTA.out
          simp only [ints, List.map_cons, List.map_nil, hv]
          simpa [ints] using hown3
        case measure => simp [intOf]; omega
    · go_wp2_with fail
      go_ret
      obtain rfl : k = r.use.length := by omega
      rw [List.take_of_length_le (by simp [playL])] at hown
      exact ⟨_, rfl, own_mono hown (by omega), hB0.trans (hB.mono (by omega))⟩
end Go.Proofs.Ytgglfngkomgadaa
namespace Go.Proofs.Ytgglfngkomgadaa
open Go.RowKit
set_option linter.unusedVariables false
set_option linter.unusedSimpArgs false
set_option maxRecDepth 100000

abbrev nv (ns : List Int) : Value := .agg (ints ns).toArray
def goodK (gs : List Bool) (k : Nat) : List Bool := (List.range 6).map fun i => decide (i < k) && gs.getD i false
theorem goodK_set (gs : List Bool) (k : Nat) (v : Bool) (hk : k < 6) (hv : gs[k]? = some v) : ((goodK gs k).map Value.bool).toArray.setIfInBounds k (.bool v) = ((goodK gs (k + 1)).map Value.bool).toArray := by
  rw [List.setIfInBounds_toArray]
  congr 1
  apply List.ext_getElem?
  intro i
  rw [List.getElem?_set]
  by_cases hi : i < 6
  · by_cases h : k = i
    · subst h; simp [goodK, hi, hv]
    · have e : decide (i < k + 1) = decide (i < k) := by simp only [decide_eq_decide]; omega
      simp only [if_neg h, goodK, List.getElem?_map, List.getElem?_range hi, Option.map_some, e]
  · have h1 : ∀ j, (goodK gs j)[i]? = none := fun j => List.getElem?_eq_none (by simp [goodK]; omega)
    simp only [List.getElem?_map, h1, Option.map_none]
    split
    · simp [goodK]; omega
    · rfl
theorem heap_set {w : World} {b k : Nat} {c : Array Value} {e : TypeId} {fz : Nat × Nat} (h : w.heap[b]? = some (.cells c e fz)) (v : Value) : (w.setCell ⟨b, k, none⟩ v).heap[b]? = some (.cells (c.setIfInBounds k v) e fz) := by
  simp only [World.setCell, Array.getElem?_modify, h]; simp
theorem cell_blk {w : World} {b k : Nat} {c : Array Value} {e : TypeId} {fz : Nat × Nat} (h : w.heap[b]? = some (.cells c e fz)) : w.cell? ⟨b, k, none⟩ = c[k]? := by simp [World.cell?, h]
theorem frozen_blk {w : World} {b k : Nat} {c : Array Value} {e : TypeId} (h : w.heap[b]? = some (.cells c e (0, 0))) : w.frozen? ⟨b, k, none⟩ = false := by simp [World.frozen?, h]

set_option maxHeartbeats 2000000 in
theorem good_c (r : Riv) (A : RA) (ns : List Int) (w : World) (h0 : 0 ≤ r.last) (h5 : r.last ≤ 5) (hn : ns.length = 12) :
    Calls Try.prog 90 #[rivV r A, nv ns] w fun e w' => e = .returned (gv (goodL r ns)) ∧ Below w.heap.size w w' := by
  obtain ⟨last, salt, mud, sweet, clear, size, start, draw, use, gauges⟩ := r
  have h0' : 0 ≤ last := h0
  obtain ⟨L, rfl⟩ := Int.eq_ofNat_of_zero_le h0'
  have hL : L ≤ 5 := by have : (L : Int) ≤ 5 := h5; omega
  clear h0 h5 h0'
  have hN := Lib.hid hn
  obtain ⟨gs, hgs⟩ : ∃ gs, gs = goodL ⟨(L : Int), salt, mud, sweet, clear, size, start, draw, use, gauges⟩ ns := ⟨_, rfl⟩
  have hG := Lib.hid hgs
  have hgl : gs.length = 6 := by rw [hgs]; rfl
  have hGL := Lib.hid hgl
  have hB0 := ((Below.refl w.heap.size w).alloc (Nat.le_refl _) (rivO ⟨(L : Int), salt, mud, sweet, clear, size, start, draw, use, gauges⟩ A)).alloc (by simp) (.cells (ints ns).toArray 129)
  clear hn hgl
  go_enter Try.func90, Try.ntmps90
  go_wp2_with fail
  go_loopw [5, 9] (fun d i wr => ∃ k : Nat, k ≤ L + 1 ∧ i = .int .i64 k ∧ Below (w.heap.size + 2) ((w.alloc (rivO ⟨(L : Int), salt, mud, sweet, clear, size, start, draw, use, gauges⟩ A)).alloc (.cells (ints ns).toArray 129)) wr ∧ wr.heap[w.heap.size + 1 + 1]? = some (.cells ((goodK gs k).map Value.bool).toArray 111 (0, 0)))
    (fun _ i _ => L + 1 - (intOf i).toNat)
  case atStart =>
    refine ⟨0, Nat.zero_le _, rfl, (Below.refl _ _).alloc (by simp) _, ?_⟩
    have := heap_alloc_new ((w.alloc (rivO ⟨(L : Int), salt, mud, sweet, clear, size, start, draw, use, gauges⟩ A)).alloc (.cells (ints ns).toArray 129)) (.cells #[.bool false, .bool false, .bool false, .bool false, .bool false, .bool false] 111)
    rw [show ((goodK gs 0).map Value.bool).toArray = #[.bool false, .bool false, .bool false, .bool false, .bool false, .bool false] from rfl]
    simpa using this
  case round =>
    obtain ⟨k, hk, rfl, hB, hblk⟩ := hrel
    have hBK := Lib.hid hblk
    have hsz0 : w.heap.size + 2 < wr.heap.size := by
      rcases Nat.lt_or_ge (w.heap.size + 1 + 1) wr.heap.size with h | h
      · omega
      · rw [Array.getElem?_eq_none h] at hblk; cases hblk
    have hlt0 : w.heap.size < wr.heap.size := by omega
    have hlt1 : w.heap.size + 1 < wr.heap.size := by omega
    have hc := fun (b o : Nat) (hh : b < w.heap.size + 2) => hB.cell (p := ⟨b, o, none⟩) hh
    clear hblk
    by_cases hlt : k < L + 1
    · have hlt' : (k : Int) < (L : Int) + 1 := by omega
      obtain ⟨x, hx⟩ : ∃ x, ns[k]? = some x := ⟨_, List.getElem?_eq_getElem (by have := hN.out; omega)⟩
      obtain ⟨y, hy⟩ : ∃ y, ns[L + 1 + k]? = some y := ⟨_, List.getElem?_eq_getElem (by have := hN.out; omega)⟩
      have hcx : (ints ns)[k]? = some (.int .i64 x) := by simp [ints, hx]
      have hcy : (ints ns)[L + 1 + k]? = some (.int .i64 y) := by simp [ints, hy]
      have hX := Lib.hid hx
      have hY := Lib.hid hy
      clear hx hy
      have hsz0' : w.heap.size + 1 + 1 < wr.heap.size := hsz0
      have hk6 : k < 6 := by omega
      have hkI : (k : Int) < 6 := by omega
      have hkI2 : (k : Int) < 12 := by omega
      have hkJ : (L : Int) + 1 + k < 12 := by omega
      have hgk : gs[k]? = some (decide (x ≤ sweet) && decide (y ≤ clear)) := by
        rw [hG.out]
        simp only [goodL, List.getElem?_map, List.getElem?_range hk6, Option.map_some, Option.some.injEq]
        have e1 : ns.getD k 0 = x := by simp [List.getD, hX.out]
        have e2 : ns.getD (L + 1 + k) 0 = y := by simp [List.getD, hY.out]
        have e3 : ((L : Int)).toNat + 1 + k = L + 1 + k := by simp
        rw [e3, e1, e2]
        have e4 : ((k : Int) ≤ (L : Int)) := by omega
        simp [e4]
      have hgo : ∀ v, v = (decide (x ≤ sweet) && decide (y ≤ clear)) → (((goodK gs k).map Value.bool).toArray.setIfInBounds k (.bool v)) = ((goodK gs (k + 1)).map Value.bool).toArray := by
        intro v hv
        subst hv
        exact goodK_set gs k _ hk6 hgk
      have hGo := Lib.hid hgo
      clear hgk hgo
      have hw0 : (0 : Int) ≤ (L : Int) + 1 + k := by omega
      have hw3 : ((L : Int) + 1 + k).toNat = L + 1 + k := by omega
      have hw1 : IntKind.i64.wrap ((L : Int) + 1) = (L : Int) + 1 := IntWalk.i64_in _ (by omega)
      have hw2 : IntKind.i64.wrap ((L : Int) + 1 + k) = (L : Int) + 1 + k := IntWalk.i64_in _ (by omega)
      by_cases hsw : x ≤ sweet
      · go_wp2_with fail
        refine region_o (S := OldC (w.heap.size + 2) wr) (.take 0 (.take 1 (.take 2 (.take 3 (.take 4 (.take 5 (.take 6 (.take 7 (.take 8 (.take 9 (.take 10 (.take 11 (.take 12 (.take 13 (.take 14 (.take 15 (.take 16 (.take 17 (.take 18 (.take 19 (.one 20 .nil))))))))))))))))))))) (by kernel_rfl) (by kernel_rfl) (fun _ _ d _ _ h => by cases d <;> exact h) (oldR (by omega)) ?_
        intro W0 hW0 hS0
        have hB00 : Below wr.heap.size wr W0 := by subst hW0; exact (Below.refl _ _).drew
        clear hW0
        have hblk0 := (hB00.block _ hsz0').trans hBK.out
        have hcs : W0.cell? ⟨w.heap.size + 1 + 1, k, none⟩ = some (.bool false) := by rw [cell_blk hblk0]; simp [goodK, hk6]
        have hfz := frozen_blk (k := k) hblk0
        have hbl := Lib.hid hblk0
        clear hblk0
        repeat (first
          | (refine ord_skip rfl ?_ ?_; rfl; simp only [pz])
          | (refine ord_take (v := ?_) rfl ?_ (fun W hW => ?_) ?_; rotate_left; rfl; (obtain ⟨hz, hcc, hbb⟩ := hW; go_simp; (first | done | with_reducible rfl)); simp only [pz]))
        (refine ord_op rfl ?_ (fun K hK => ?_); rfl; go_simp; refine hK _ _ (oldSt hS0 (Nat.le_refl _) _) ?_; clear hK K; try simp only [pz])
        refine ord_nil ?_
        clear hw0 hw1 hw2 hw3
        go_wp2_with fail
        go_roundw
        case rel =>
          refine ⟨k + 1, by omega, by go_num, (hB.trans (hB00.mono (by omega))).setCell (by simp) _, ?_⟩
          rw [heap_set hbl.out, hGo.out _ (by simp [hsw])]
        case measure => simp [intOf]; omega
      · have hsf : decide (x ≤ sweet) = false := by simpa using hsw
        go_wp2_with fail
        refine region_o (S := OldC (w.heap.size + 2) wr) (.take 0 (.take 1 (.take 2 (.take 3 (.take 4 (.take 5 (.take 6 (.take 7 (.take 8 (.take 9 (.take 10 (.take 11 (.take 12 (.take 13 (.take 14 (.take 15 (.take 16 (.take 17 (.take 18 (.take 19 (.one 20 .nil))))))))))))))))))))) (by kernel_rfl) (by kernel_rfl) (fun _ _ d _ _ h => by cases d <;> exact h) (oldR (by omega)) ?_
        intro W0 hW0 hS0
        have hB00 : Below wr.heap.size wr W0 := by subst hW0; exact (Below.refl _ _).drew
        clear hW0
        have hblk0 := (hB00.block _ hsz0').trans hBK.out
        have hcs : W0.cell? ⟨w.heap.size + 1 + 1, k, none⟩ = some (.bool false) := by rw [cell_blk hblk0]; simp [goodK, hk6]
        have hfz := frozen_blk (k := k) hblk0
        have hbl := Lib.hid hblk0
        clear hblk0
        repeat (first
          | (refine ord_skip rfl ?_ ?_; rfl; simp only [pz])
          | (refine ord_take (v := ?_) rfl ?_ (fun W hW => ?_) ?_; rotate_left; rfl; (obtain ⟨hz, hcc, hbb⟩ := hW; go_simp; (first | done | with_reducible rfl)); simp only [pz]))
        (refine ord_op rfl ?_ (fun K hK => ?_); rfl; go_simp; refine hK _ _ (oldSt hS0 (Nat.le_refl _) _) ?_; clear hK K; try simp only [pz])
        refine ord_nil ?_
        go_wp2_with fail
        go_roundw
        case rel =>
          refine ⟨k + 1, by omega, by go_num, (hB.trans (hB00.mono (by omega))).setCell (by simp) _, ?_⟩
          rw [heap_set hbl.out, hGo.out _ (by simp [hsf])]
        case measure => simp [intOf]; omega
    · obtain rfl : k = L + 1 := by omega
      obtain ⟨g0, g1, g2, g3, g4, g5, hg⟩ : ∃ g0 g1 g2 g3 g4 g5, goodK gs (L + 1) = [g0, g1, g2, g3, g4, g5] := ⟨_, _, _, _, _, _, rfl⟩
      have hgg : goodK gs (L + 1) = gs := by
        rw [hG.out]
        apply List.map_congr_left
        intro d hd
        simp only [List.mem_range] at hd
        rw [List.getD, show (goodL ⟨(L : Int), salt, mud, sweet, clear, size, start, draw, use, gauges⟩ ns)[d]? = some _ from by simp only [goodL, List.getElem?_map, List.getElem?_range hd, Option.map_some]; rfl]
        simp only [Option.getD_some]
        have e : decide (d < L + 1) = decide ((d : Int) ≤ (L : Int)) := by simp only [decide_eq_decide]; omega
        rw [e]; cases decide ((d : Int) ≤ (L : Int)) <;> simp
      have hbk := hBK.out
      rw [hg] at hbk
      have c0 : wr.cell? ⟨w.heap.size + 1 + 1, 0, none⟩ = some (.bool g0) := by rw [cell_blk hbk]; rfl
      have c1 : wr.cell? ⟨w.heap.size + 1 + 1, 1, none⟩ = some (.bool g1) := by rw [cell_blk hbk]; rfl
      have c2 : wr.cell? ⟨w.heap.size + 1 + 1, 2, none⟩ = some (.bool g2) := by rw [cell_blk hbk]; rfl
      have c3 : wr.cell? ⟨w.heap.size + 1 + 1, 3, none⟩ = some (.bool g3) := by rw [cell_blk hbk]; rfl
      have c4 : wr.cell? ⟨w.heap.size + 1 + 1, 4, none⟩ = some (.bool g4) := by rw [cell_blk hbk]; rfl
      have c5 : wr.cell? ⟨w.heap.size + 1 + 1, 5, none⟩ = some (.bool g5) := by rw [cell_blk hbk]; rfl
      have f0 := fun j => frozen_blk (k := j) hbk
      have hfin := Lib.hid (hG.out.symm.trans (hgg.symm.trans hg))
      clear hbk hg hgg
      go_wp2_with fail
      refine bodyPost_ret (v := .agg #[.bool g0, .bool g1, .bool g2, .bool g3, .bool g4, .bool g5]) (by simp [results, Try.results90, go_sem, c0, c1, c2, c3, c4, c5]) rfl ⟨?_, ?_⟩
      · rw [hfin.out]; rfl
      · have hB2 := hB0.trans (hB.mono (by omega))
        exact (((((hB2.setCell (by simp; omega) _).setCell (by simp; omega) _).setCell (by simp; omega) _).setCell (by simp; omega) _).setCell (by simp; omega) _).setCell (by simp; omega) _
end Go.Proofs.Ytgglfngkomgadaa
/- Walks: listed. -/
namespace Go.Proofs.Ytgglfngkomgadaa
open Go.RowKit
set_option linter.unusedVariables false
set_option linter.unusedSimpArgs false
set_option maxRecDepth 100000

structure TA where
  sa : Option Addr
  sc : Nat
  ma : Option Addr
  mc : Nat
abbrev trV (t : Tr) (B : TA) : Value := .agg #[.slice B.sa t.salt.length B.sc, .slice B.ma t.mud.length B.mc]
structure RdT (w : World) (t : Tr) (B : TA) : Prop where
  s : Sl w B.sa (ints t.salt)
  m : Sl w B.ma (ints t.mud)
theorem RdT.below {w W : World} {t : Tr} {B : TA} (h : RdT w t B) (hb : Below w.heap.size w W) : RdT W t B := ⟨h.s.below hb, h.m.below hb⟩
abbrev trO (t : Tr) (B : TA) : Obj := .cells #[.slice B.sa t.salt.length B.sc, .slice B.ma t.mud.length B.mc] 66
abbrev zero12 : List Int := [0, 0, 0, 0, 0, 0, 0, 0, 0, 0, 0, 0]

/-- It hands back numbers and whether they are a truth's; nothing that was there has turned. -/
def RetNum (ns : List Int) (b : Bool) (w : World) (e : Ending) (w' : World) : Prop := e = .returned (.tuple #[nv ns, .bool b]) ∧ Below w.heap.size w w'

set_option maxHeartbeats 1000000 in
theorem listed_no1 (r : Riv) (A : RA) (t : Tr) (B : TA) (w : World) (h1 : t.salt.length ≠ r.salt.length) :
    Calls Try.prog 88 #[rivV r A, trV t B] w (RetNum zero12 false w) := by
  have g1 : ((t.salt.length : Int) != (r.salt.length : Int)) = true := by simp; omega
  go_enter Try.func88, Try.ntmps88
  go_wp2_with fail
  refine bodyPost_ret (v := .tuple #[nv zero12, .bool false]) (by simp [results, Try.results88, go_sem, ints]) rfl ⟨rfl, ?_⟩
  exact (((Below.refl _ _).alloc (Nat.le_refl _) _).alloc (by simp) _).alloc (by simp; omega) _

set_option maxHeartbeats 1000000 in
theorem listed_no2 (r : Riv) (A : RA) (t : Tr) (B : TA) (w : World) (h1 : t.salt.length = r.salt.length) (h2 : t.mud.length ≠ r.mud.length) :
    Calls Try.prog 88 #[rivV r A, trV t B] w (RetNum zero12 false w) := by
  have g1 : ((t.salt.length : Int) != (r.salt.length : Int)) = false := by simp; omega
  have g2 : ((t.mud.length : Int) != (r.mud.length : Int)) = true := by simp; omega
  clear h1
  go_enter Try.func88, Try.ntmps88
  go_wp2_with fail
  refine bodyPost_ret (v := .tuple #[nv zero12, .bool false]) (by simp [results, Try.results88, go_sem, ints]) rfl ⟨rfl, ?_⟩
  exact (((Below.refl _ _).alloc (Nat.le_refl _) _).alloc (by simp) _).alloc (by simp; omega) _

theorem run_copy_c {w : World} {b2 m nc t : Nat} {na : Option Addr} {cur cs : List Value} (hg : w.heap[b2]? = some (.cells cur.toArray t (0, 0))) (hs : Sl w na cs) (hl : cs.length = m) (hm : m ≤ 12) (hc : cur.length = 12) (h1 : Ones cs) (ty : TypeId) :
    ∃ w5, (Builtin.copy_ #[23, 23] ty #[.slice (some ⟨b2, 0, none⟩) 12 12, .slice na m nc]).run Try.prog w = .ok (goInt m) w5 ∧ w5.heap[b2]? = some (.cells (splice cur 0 cs).toArray t (0, 0)) ∧ Below b2 w w5 := by
  rcases Nat.eq_zero_or_pos m with h0 | hp
  · subst h0
    obtain rfl : cs = [] := List.eq_nil_of_length_eq_zero hl
    exact ⟨w, run_copy_none (P := Try.prog) w 23 23 ty 3 _ na 12 12 0 nc Try.underlying23 (by kernel_rfl) (by simp), by simpa [splice] using hg, Below.refl _ _⟩
  · obtain ⟨ad, rfl⟩ : ∃ ad, na = some ad := by
      cases na with
      | none => rcases hs with h | ⟨_, _, h, _⟩ <;> simp_all
      | some ad => exact ⟨ad, rfl⟩
    have hr := run_copy_row (P := Try.prog) w 23 23 ty 3 b2 0 12 12 ad m nc cur.toArray t cs Try.underlying23 (by kernel_rfl) hg (by rw [hl]; exact (Nat.min_eq_left hm).symm) hs.at_add (by simp; omega) h1
    rw [hl] at hr
    refine ⟨_, hr, ?_, below_setRow (Below.refl _ _) (Nat.le_refl _) _⟩
    simp only [World.setRow, Array.getElem?_modify, hg, splice, hl]
    simp
theorem wpList_copy_run {w : World} {ops : Array Oper} {rest : List Oper} {o : Oper} {a : Act} {Q : Exit → Act → World → Prop} (hgd : o.guard = none) (d s : Operand)
    (ho : o.op = .call { callee := .builtin .copy, args := #[d, s], argTypes := #[23, 23] }) (vd vs : Value) (hd : a.eval d = vd) (hs : a.eval s = vs) (v' : Value) (w' : World)
    (hr : (Builtin.copy_ #[23, 23] o.type #[vd, vs]).run Try.prog w = .ok v' w') (h : wpList Try.prog ops Q rest (a.put o.dst v') w') : wpList Try.prog ops Q (o :: rest) a w := by
  refine wpList_plain hgd fun K hK => ?_
  unfold Oper.wp
  simp only [execOp, ho, resolve, invoke, builtin, Sem.run_bind, Sem.run_pure, Result.andThen_ok, List.map_toArray, List.map_cons, List.map_nil, hd, hs, hr]
  exact hK _ _ h
def hasAt (rs : List Rg) (ns : List Int) (i : Nat) : Bool := (rs.getD i default).has (ns.getD i 0)
theorem splice_zero (xs : List Int) (h : xs.length ≤ 12) : splice (ints zero12) 0 (ints xs) = ints (pad12 xs) := by
  have e : zero12 = List.replicate 12 0 := rfl
  simp only [splice, ints, pad12, e, List.map_append, List.map_replicate, List.take_zero, List.nil_append, List.drop_replicate, List.length_map, Nat.zero_add]
theorem frozen_alloc12 {w : World} {b : Nat} {c : Array Value} {t : Nat} (h : w.heap[b]? = some (.cells c t (0, 0))) (o : Nat) : w.frozen? ⟨b, o, none⟩ = false := frozen_blk h

set_option maxHeartbeats 3000000 in
theorem listed_yes (r : Riv) (A : RA) (t : Tr) (B : TA) (w : World) (hr : Rd w r A) (ht : RdT w t B) (hs6 : r.salt.length ≤ 6) (hm6 : r.mud.length ≤ 6) (h1 : t.salt.length = r.salt.length) (h2 : t.mud.length = r.mud.length) :
    Calls Try.prog 88 #[rivV r A, trV t B] w (if hasAll (r.salt ++ r.mud) (t.salt ++ t.mud) then RetNum (pad12 (t.salt ++ t.mud)) true w else RetNum zero12 false w) := by
  have g1 : ((t.salt.length : Int) != (r.salt.length : Int)) = false := by simp; omega
  have g2 : ((t.mud.length : Int) != (r.mud.length : Int)) = false := by simp; omega
  have hB0 := (((Below.refl w.heap.size w).alloc (Nat.le_refl _) (rivO r A)).alloc (by simp) (trO t B)).alloc (by simp; omega) (.cells #[.int .i64 0, .int .i64 0, .int .i64 0, .int .i64 0, .int .i64 0, .int .i64 0, .int .i64 0, .int .i64 0, .int .i64 0, .int .i64 0, .int .i64 0, .int .i64 0] 129)
  obtain ⟨R, hR⟩ : ∃ R, R = (if hasAll (r.salt ++ r.mud) (t.salt ++ t.mud) then RetNum (pad12 (t.salt ++ t.mud)) true w else RetNum zero12 false w) := ⟨_, rfl⟩
  have HR := Lib.hid hR
  have H1 := Lib.hid h1
  have H2 := Lib.hid h2
  rw [← hR]
  clear h1 h2 hR
  go_enter Try.func88, Try.ntmps88
  go_wp2_with fail
  refine (concatInt_c _ _ _ B.sa B.ma t.salt.length t.mud.length B.sc B.mc (ints t.salt) (ints t.mud) _ ?_ ?_ (ht.s.below (hB0.alloc hB0.size _)) (ht.m.below (hB0.alloc hB0.size _)) (by simp [len_ints]) (by simp [len_ints]) (ones_ints _) (ones_ints _) (by have := H1.out; omega) (by have := H2.out; omega)).mono ?_
  · go_simp
  · go_simp
  rintro e w1 ⟨na, nc, rfl, hnn, hnl, hb1⟩
  have hB1 := (hB0.alloc hB0.size (.cells #[.slice B.sa t.salt.length B.sc, .slice B.ma t.mud.length B.mc] 23)).trans (hb1.mono (hB0.alloc hB0.size _).size)
  have hz1 : w.heap.size + 1 + 1 < w1.heap.size := by have := hb1.size; simp at this; omega
  have hc1 : ∀ b o, b < w.heap.size + 1 + 1 + 1 → w1.cell? ⟨b, o, none⟩ = (((w.alloc (rivO r A)).alloc (trO t B)).alloc (.cells #[.int .i64 0, .int .i64 0, .int .i64 0, .int .i64 0, .int .i64 0, .int .i64 0, .int .i64 0, .int .i64 0, .int .i64 0, .int .i64 0, .int .i64 0, .int .i64 0] 129)).cell? ⟨b, o, none⟩ := fun b o h => (hb1.cell (p := ⟨b, o, none⟩) (by simp; omega)).trans (Below.cell (B := w.heap.size + 1 + 1 + 1) ((Below.refl _ _).alloc (by simp) _) (p := ⟨b, o, none⟩) h)
  have hblk1 : w1.heap[w.heap.size + 1 + 1]? = some (.cells (ints zero12).toArray 129 (0, 0)) := by
    rw [hb1.block _ (by simp)]
    have h2 := heap_alloc_new ((w.alloc (rivO r A)).alloc (trO t B)) (.cells (ints zero12).toArray 129)
    rw [Below.heap_alloc _ _ _ (by simp)]
    rw [show ((w.alloc (rivO r A)).alloc (trO t B)).heap.size = w.heap.size + 1 + 1 from by simp] at h2
    exact h2
  have hBk1 := Lib.hid hblk1
  clear hblk1
  go_wp2_with fail
  refine (ranges_c r A _ (hr.below hB1) (by omega) (by omega)).mono ?_; rintro e w2 ⟨ra, rc, rfl, hnc, hsl, hb2⟩
  have hB2 := hB1.trans (hb2.mono hB1.size)
  have hc2 : ∀ b o, b < w.heap.size + 1 + 1 + 1 → w2.cell? ⟨b, o, none⟩ = (((w.alloc (rivO r A)).alloc (trO t B)).alloc (.cells #[.int .i64 0, .int .i64 0, .int .i64 0, .int .i64 0, .int .i64 0, .int .i64 0, .int .i64 0, .int .i64 0, .int .i64 0, .int .i64 0, .int .i64 0, .int .i64 0] 129)).cell? ⟨b, o, none⟩ := fun b o h => (hb2.cell (p := ⟨b, o, none⟩) (show b < w1.heap.size by omega)).trans (hc1 b o h)
  have hz2 := Nat.lt_of_lt_of_le hz1 hb2.size
  have hBk2 := Lib.hid ((hb2.block _ hz1).trans hBk1.out)
  obtain ⟨rs, hrs⟩ : ∃ rs, rs = r.salt ++ r.mud := ⟨_, rfl⟩
  obtain ⟨ns, hns⟩ : ∃ ns, ns = t.salt ++ t.mud := ⟨_, rfl⟩
  have hnl2 := hnl.below hb2
  rw [← ints_append, ← hns] at hnl2
  rw [← hrs] at hsl
  have hlen : r.salt.length + r.mud.length = rs.length := by rw [hrs, List.length_append]
  have hlen2 : t.salt.length + t.mud.length = rs.length := by rw [H1.out, H2.out, hlen]
  have hlen3 : ns.length = rs.length := by rw [hns, List.length_append, hlen2]
  have hL12 : rs.length ≤ 12 := by omega
  have HN := Lib.hid hlen3
  rw [hlen, hlen2]
  have hRS := Lib.hid hrs
  have hNS := Lib.hid hns
  have hRR : R = (if hasAll rs ns then RetNum (pad12 ns) true w else RetNum zero12 false w) := by rw [HR.out, hrs, hns]
  have HRR := Lib.hid hRR
  clear hrs hns hlen hlen2 hlen3 hc1 hRR hnl
  go_wp2_with fail
  go_loopw [7, 8, 35] (fun _ _ i wr => ∃ k : Nat, k ≤ rs.length ∧ i = .int .i64 k ∧ (List.range k).all (hasAt rs ns) = true ∧ Below w2.heap.size w2 wr) (fun _ _ i _ => rs.length - (intOf i).toNat)
  case atStart => exact ⟨0, Nat.zero_le _, rfl, rfl, Below.refl _ _⟩
  case round =>
    obtain ⟨k, hk, rfl, hall, hB⟩ := hrel
    have hAll := Lib.hid hall
    have hbz := Nat.lt_of_lt_of_le hz2 hB.size
    have hBkr := Lib.hid ((hB.block _ hz2).trans hBk2.out)
    have hBw := hB2.trans (hB.mono hB2.size)
    clear hall
    by_cases hlt : k < rs.length
    · obtain ⟨x, hx⟩ : ∃ x, rs[k]? = some x := ⟨_, List.getElem?_eq_getElem hlt⟩
      obtain ⟨n, hn⟩ : ∃ n, ns[k]? = some n := ⟨_, List.getElem?_eq_getElem (by have := HN.out; omega)⟩
      obtain ⟨b, o, rfl, d1, d2⟩ := (hsl.below hB).rg_at hx
      obtain ⟨b', o', rfl, d3⟩ := (hnl2.below hB).int_at hn
      have d3lt := cell_lt d3
      have hat : hasAt rs ns k = x.has n := by simp [hasAt, List.getD, hx, hn]
      have hAT := Lib.hid hat
      have hkI : (k : Int) < (rs.length : Int) := by omega
      clear hx hn hat
      go_wp2_with fail
      refine region_o (S := OldC (wr.heap.size + 1) (wr.alloc (.cells #[.int .i64 x.lo, .int .i64 x.hi] 49))) (.take 0 (.take 1 (.take 2 (.take 3 (.take 4 (.one 5 (.take 6 .nil))))))) (by kernel_rfl) (by kernel_rfl) (fun _ _ d _ _ h => by cases d <;> exact h) (oldR (by simp)) ?_
      intro W0 hW0 hS0
      have hBW : Below (wr.alloc (.cells #[.int .i64 x.lo, .int .i64 x.hi] 49)).heap.size (wr.alloc (.cells #[.int .i64 x.lo, .int .i64 x.hi] 49)) W0 := by subst hW0; exact (Below.refl _ _).drew
      clear hW0
      have hwq : Below wr.heap.size wr (wr.alloc (.cells #[.int .i64 x.lo, .int .i64 x.hi] 49)) := (Below.refl _ wr).alloc (Nat.le_refl _) _
      repeat (first
        | (refine ord_skip rfl ?_ ?_; rfl; simp only [pz])
        | (refine ord_take (v := ?_) rfl ?_ (fun W hW => ?_) ?_; rotate_left; rfl; (obtain ⟨hz, hcc, hbb⟩ := hW; go_simp; (first | done | with_reducible rfl)); simp only [pz]))
      (refine ord_op rfl ?_ (fun K hK => ?_); rfl; go_simp; refine (has_c x n _).mono ?_; rintro e W1 ⟨rfl, hb1⟩; have hS1 := oldK hS0 hb1; refine hK _ _ hS1 ?_; clear hK K; try simp only [pz])
      repeat (first
        | (refine ord_skip rfl ?_ ?_; rfl; simp only [pz])
        | (refine ord_take (v := ?_) rfl ?_ (fun W hW => ?_) ?_; rotate_left; rfl; (obtain ⟨hz, hcc, hbb⟩ := hW; go_simp; (first | done | with_reducible rfl)); simp only [pz]))
      refine ord_nil ?_
      cases hh : x.has n
      · have hfin : R = RetNum zero12 false w := by
          rw [HRR.out, if_neg]
          rw [show hasAll rs ns = _ from all_range_false (p := hasAt rs ns) (by rw [hAT.out, hh]) hlt]; simp
        have hBkW := (hS1.be.block _ (show w.heap.size + 1 + 1 < wr.heap.size + 1 by omega)).trans ((hwq.block _ hbz).trans hBkr.out)
        have hBWf := (hBw.trans (hwq.mono hBw.size)).trans (hS1.be.mono (by have := hBw.size; omega))
        have cw0 : W1.cell? ⟨w.heap.size + 1 + 1, 0, none⟩ = some (.int .i64 0) := (cell_blk hBkW).trans rfl
        have cw1 : W1.cell? ⟨w.heap.size + 1 + 1, 1, none⟩ = some (.int .i64 0) := (cell_blk hBkW).trans rfl
        have cw2 : W1.cell? ⟨w.heap.size + 1 + 1, 2, none⟩ = some (.int .i64 0) := (cell_blk hBkW).trans rfl
        have cw3 : W1.cell? ⟨w.heap.size + 1 + 1, 3, none⟩ = some (.int .i64 0) := (cell_blk hBkW).trans rfl
        have cw4 : W1.cell? ⟨w.heap.size + 1 + 1, 4, none⟩ = some (.int .i64 0) := (cell_blk hBkW).trans rfl
        have cw5 : W1.cell? ⟨w.heap.size + 1 + 1, 5, none⟩ = some (.int .i64 0) := (cell_blk hBkW).trans rfl
        have cw6 : W1.cell? ⟨w.heap.size + 1 + 1, 6, none⟩ = some (.int .i64 0) := (cell_blk hBkW).trans rfl
        have cw7 : W1.cell? ⟨w.heap.size + 1 + 1, 7, none⟩ = some (.int .i64 0) := (cell_blk hBkW).trans rfl
        have cw8 : W1.cell? ⟨w.heap.size + 1 + 1, 8, none⟩ = some (.int .i64 0) := (cell_blk hBkW).trans rfl
        have cw9 : W1.cell? ⟨w.heap.size + 1 + 1, 9, none⟩ = some (.int .i64 0) := (cell_blk hBkW).trans rfl
        have cw10 : W1.cell? ⟨w.heap.size + 1 + 1, 10, none⟩ = some (.int .i64 0) := (cell_blk hBkW).trans rfl
        have cw11 : W1.cell? ⟨w.heap.size + 1 + 1, 11, none⟩ = some (.int .i64 0) := (cell_blk hBkW).trans rfl
        have hfW := fun j => frozen_blk (k := j) hBkW
        have hFin := Lib.hid hfin
        clear hfin hBkW
        go_wp2_with fail
        refine bodyPost_ret (v := .tuple #[nv zero12, .bool false]) (by simp [results, Try.results88, go_sem, ints, cw0, cw1, cw2, cw3, cw4, cw5, cw6, cw7, cw8, cw9, cw10, cw11]) rfl ?_
        rw [hFin.out]
        exact ⟨rfl, ((((((((((((hBWf.setCell (by simp; omega) _).setCell (by simp; omega) _).setCell (by simp; omega) _).setCell (by simp; omega) _).setCell (by simp; omega) _).setCell (by simp; omega) _).setCell (by simp; omega) _).setCell (by simp; omega) _).setCell (by simp; omega) _).setCell (by simp; omega) _).setCell (by simp; omega) _).setCell (by simp; omega) _)⟩
      · go_wp2_with fail
        go_roundw
        case rel => exact ⟨k + 1, by omega, by go_num, by rw [all_range_succ, hAll.out, hAT.out, hh]; rfl, (hB.trans (hwq.mono hB.size)).trans (hS1.be.mono (by have := hB.size; omega))⟩
        case measure => simp [intOf]; omega
    · obtain rfl : k = rs.length := by omega
      have hfin : R = RetNum (pad12 ns) true w := by
        rw [HRR.out, if_pos]
        exact hAll.out
      have hFin := Lib.hid hfin
      have hnlr := hnl2.below hB
      have hbk := hBkr.out
      clear hfin
      obtain ⟨w5, hrun, hb5, hB5⟩ := run_copy_c (nc := nc) (m := rs.length) hbk hnlr (by rw [len_ints, HN.out]) hL12 rfl (ones_ints ns) 3
      have hRun := Lib.hid hrun
      rw [splice_zero ns (by rw [HN.out]; exact hL12)] at hb5
      obtain ⟨n0, n1, n2, n3, n4, n5, n6, n7, n8, n9, n10, n11, hnn⟩ := exists12 (pad12 ns) (pad12_len ns (by rw [HN.out]; exact hL12))
      have hNN := Lib.hid hnn
      rw [hnn] at hb5
      have hbk5 := hb5
      have cw0 : w5.cell? ⟨w.heap.size + 1 + 1, 0, none⟩ = some (.int .i64 n0) := by rw [cell_blk hbk5]; rfl
      have cw1 : w5.cell? ⟨w.heap.size + 1 + 1, 1, none⟩ = some (.int .i64 n1) := by rw [cell_blk hbk5]; rfl
      have cw2 : w5.cell? ⟨w.heap.size + 1 + 1, 2, none⟩ = some (.int .i64 n2) := by rw [cell_blk hbk5]; rfl
      have cw3 : w5.cell? ⟨w.heap.size + 1 + 1, 3, none⟩ = some (.int .i64 n3) := by rw [cell_blk hbk5]; rfl
      have cw4 : w5.cell? ⟨w.heap.size + 1 + 1, 4, none⟩ = some (.int .i64 n4) := by rw [cell_blk hbk5]; rfl
      have cw5 : w5.cell? ⟨w.heap.size + 1 + 1, 5, none⟩ = some (.int .i64 n5) := by rw [cell_blk hbk5]; rfl
      have cw6 : w5.cell? ⟨w.heap.size + 1 + 1, 6, none⟩ = some (.int .i64 n6) := by rw [cell_blk hbk5]; rfl
      have cw7 : w5.cell? ⟨w.heap.size + 1 + 1, 7, none⟩ = some (.int .i64 n7) := by rw [cell_blk hbk5]; rfl
      have cw8 : w5.cell? ⟨w.heap.size + 1 + 1, 8, none⟩ = some (.int .i64 n8) := by rw [cell_blk hbk5]; rfl
      have cw9 : w5.cell? ⟨w.heap.size + 1 + 1, 9, none⟩ = some (.int .i64 n9) := by rw [cell_blk hbk5]; rfl
      have cw10 : w5.cell? ⟨w.heap.size + 1 + 1, 10, none⟩ = some (.int .i64 n10) := by rw [cell_blk hbk5]; rfl
      have cw11 : w5.cell? ⟨w.heap.size + 1 + 1, 11, none⟩ = some (.int .i64 n11) := by rw [cell_blk hbk5]; rfl
      have hfW := fun j => frozen_blk (k := j) hbk5
      have hBf := hBw.trans (hB5.mono (by omega))
      have hz5 : w.heap.size + 1 + 1 < w5.heap.size := Nat.lt_of_lt_of_le hbz hB5.size
      clear hbk5 hb5 hnn hrun hbk
      go_wp2_with (refine wpList_copy_run (o := ⟨some 51, _, _, _, _, _⟩) rfl _ _ rfl _ _ rfl rfl _ _ hRun.out ?_)
      refine bodyPost_ret (v := .tuple #[nv [n0, n1, n2, n3, n4, n5, n6, n7, n8, n9, n10, n11], .bool true]) (by simp [results, Try.results88, go_sem, ints, cw0, cw1, cw2, cw3, cw4, cw5, cw6, cw7, cw8, cw9, cw10, cw11]) rfl ?_
      rw [hFin.out]
      exact ⟨by rw [hNN.out], ((((((((((((hBf.setCell (by simp; omega) _).setCell (by simp; omega) _).setCell (by simp; omega) _).setCell (by simp; omega) _).setCell (by simp; omega) _).setCell (by simp; omega) _).setCell (by simp; omega) _).setCell (by simp; omega) _).setCell (by simp; omega) _).setCell (by simp; omega) _).setCell (by simp; omega) _).setCell (by simp; omega) _)⟩

theorem listed_c (r : Riv) (A : RA) (t : Tr) (B : TA) (w : World) (hr : Rd w r A) (ht : RdT w t B) (hs6 : r.salt.length ≤ 6) (hm6 : r.mud.length ≤ 6) :
    Calls Try.prog 88 #[rivV r A, trV t B] w (RetNum (if listedB r t then pad12 (t.salt ++ t.mud) else zero12) (listedB r t) w) := by
  by_cases h1 : t.salt.length = r.salt.length
  · by_cases h2 : t.mud.length = r.mud.length
    · have := listed_yes r A t B w hr ht hs6 hm6 h1 h2
      have e : listedB r t = hasAll (r.salt ++ r.mud) (t.salt ++ t.mud) := by simp [listedB, h1, h2]
      rw [e]
      cases h : hasAll (r.salt ++ r.mud) (t.salt ++ t.mud) <;> simpa [h] using this
    · have e : listedB r t = false := by simp [listedB, h2]
      rw [e]; exact listed_no2 r A t B w h1 h2
  · have e : listedB r t = false := by simp [listedB, h1]
    rw [e]; exact listed_no1 r A t B w h1
end Go.Proofs.Ytgglfngkomgadaa
