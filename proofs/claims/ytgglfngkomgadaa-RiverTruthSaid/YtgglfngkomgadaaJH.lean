/- until when the tank lasts -/
import Derived.Test.YtgglfngkomgadaaJG
import Derived.Test.YtgglfngkomgadaaJF
/- Walks: lack. -/
namespace Go.Proofs.Ytgglfngkomgadaa
open Go.RowKit Go.Shelf
set_option linter.unusedVariables false
set_option linter.unusedSimpArgs false
set_option maxRecDepth 100000

def lackT (g : List Bool) (P : Nat) (S dr : Int) (T : Int) (d : Nat) (tank : Int) : Int :=
  let t0 := if (d : Int) = T then 0 else tank
  if g.getD d false && P.testBit d then min S (t0 + dr) else t0
def lackGo (last dr : Int) (g : List Bool) (P : Nat) (S T : Int) : Nat → Int → List Int → Int
  | _, _, [] => last + 1
  | d, tank, u :: us => if lackT g P S dr T d tank < u then d else lackGo last dr g P S T (d + 1) (lackT g P S dr T d tank - u) us
def lackI (r : Riv) (g : List Bool) (P : Nat) (S T : Int) : Int := lackGo r.last r.draw g P S T 0 r.start r.use
theorem lackT_bd (g : List Bool) (P : Nat) (S dr T : Int) (d : Nat) (tank : Int) (h0 : 0 ≤ tank) (h1 : tank ≤ 99) (hS : 0 ≤ S) (hS9 : S ≤ 99) (hd : 0 ≤ dr) : 0 ≤ lackT g P S dr T d tank ∧ lackT g P S dr T d tank ≤ 99 := by
  have key : ∀ t0 : Int, 0 ≤ t0 → t0 ≤ 99 → 0 ≤ (if (g.getD d false && P.testBit d) = true then min S (t0 + dr) else t0) ∧ (if (g.getD d false && P.testBit d) = true then min S (t0 + dr) else t0) ≤ 99 := by
    intro t0 a b; split <;> omega
  unfold lackT
  by_cases hc : (d : Int) = T
  · simpa [hc] using key 0 (by omega) (by omega)
  · simpa [hc] using key tank h0 h1
theorem lackT_eq (g : List Bool) (P : Nat) (S dr T : Int) (d : Nat) (tank : Int) : lackT g P S dr T d tank = if (g.getD d false && P.testBit d) = true then min S ((if (d : Int) = T then 0 else tank) + dr) else (if (d : Int) = T then 0 else tank) := rfl
theorem drawn_true (r : Riv) (A : RA) (S t L : Int) (w : World) (h1 : 0 ≤ t) (h2 : t ≤ 1000) (h3 : 0 ≤ r.draw) (h4 : r.draw ≤ 1000) (h : min S (t + r.draw) = L) :
    Calls Try.prog 124 #[rivV { r with size := S } A, .int .i64 t, .bool true] w fun e w' => e = .returned (.int .i64 L) ∧ Below w.heap.size w w' := by
  subst h
  exact drawn_c { r with size := S } A t true w h1 h2 h3 h4
theorem drawn_false (r : Riv) (A : RA) (S t L : Int) (w : World) (h1 : 0 ≤ t) (h2 : t ≤ 1000) (h3 : 0 ≤ r.draw) (h4 : r.draw ≤ 1000) (h : t = L) :
    Calls Try.prog 124 #[rivV { r with size := S } A, .int .i64 t, .bool false] w fun e w' => e = .returned (.int .i64 L) ∧ Below w.heap.size w w' := by
  subst h
  exact drawn_c { r with size := S } A t false w h1 h2 h3 h4
theorem and_small : ∀ P : Nat, P < 64 → ∀ k : Nat, k ≤ 5 → Go.bits BinOp.and IntKind.i64 ((P : Int) / 2 ^ k) 1 = if P.testBit k then 1 else 0 := by decide +kernel
theorem lackGo_cons (last dr : Int) (g : List Bool) (P : Nat) (S T : Int) (d : Nat) (tank u : Int) (us : List Int) : lackGo last dr g P S T d tank (u :: us) = if lackT g P S dr T d tank < u then (d : Int) else lackGo last dr g P S T (d + 1) (lackT g P S dr T d tank - u) us := rfl

set_option maxHeartbeats 4000000 in
theorem lack_c (r : Riv) (A : RA) (ok : Ok r) (n0 p m : Nat) (v : Value) (gs : List (List Bool)) (g : List Bool) (hg : g.length = 6) (P : Nat) (hP : P < 64) (S T : Int) (hS : 0 ≤ S) (hS9 : S ≤ 99) (w : World) (hW : WorkB n0 w p r A v m gs) (hr : Rd w r A) :
    Calls Try.prog 114 #[.pointer (some ⟨p, 0, none⟩), gv g, spotV P S T] w fun e w' => e = .returned (.int .i64 (lackI r g P S T)) ∧ Below w.heap.size w w' := by
  obtain ⟨sa, sc, ma, mc, ua, uc, ga, gc⟩ := A
  have hru : Sl w ua (ints r.use) := hr.u
  obtain ⟨k0, k1, k2, k3, k4, k5, k6, k7, k8, k9, k10, k11⟩ := hW.cells
  dsimp only at k0 k1 k2 k3 k4 k5 k6 k7 k8 k9 k10 k11
  have hpl := cell_lt k0
  have HG := Lib.hid hg
  have HOK := Lib.hid ok
  clear hW ok
  obtain ⟨x0, x1, x2, x3, x4, x5, hgx⟩ := exists6 g hg
  have HGX := Lib.hid hgx
  have hstart := Lib.hid (show 0 ≤ r.start ∧ r.start ≤ 99 from ⟨HOK.out.st.1, by have := HOK.out.st.2; have := HOK.out.sz.2; omega⟩)
  rw [hgx]
  clear hgx hg
  go_enter Try.func114, Try.ntmps114
  go_wp2_with fail
  obtain ⟨W3, hW3⟩ : ∃ W3, ((w.alloc (.cells #[.bool x0, .bool x1, .bool x2, .bool x3, .bool x4, .bool x5] 111)).alloc (.cells #[.int .i64 P, .int .i64 S, .int .i64 T] 126)).alloc (.cells #[.int .i64 r.last, .slice sa r.salt.length sc, .slice ma r.mud.length mc, .int .i64 r.sweet, .int .i64 r.clear, .int .i64 S, .int .i64 r.start, .int .i64 r.draw, .slice ua r.use.length uc, .slice ga r.gauges.length gc] 35) = W3 := ⟨_, rfl⟩
  rw [hW3]
  have HG3 : Hid (W3.heap[w.heap.size]? = some (.cells ([x0, x1, x2, x3, x4, x5].map Value.bool).toArray 111 (0, 0))) := by
    show _ = _
    rw [← hW3, Below.heap_alloc _ _ _ (by simp; omega), Below.heap_alloc _ _ _ (by simp)]; exact heap_alloc_new _ _
  have HS3 : Hid (W3.heap[w.heap.size + 1]? = some (.cells #[.int .i64 P, .int .i64 S, .int .i64 T] 126 (0, 0))) := by
    show _ = _
    have h2 := heap_alloc_new (w.alloc (.cells #[.bool x0, .bool x1, .bool x2, .bool x3, .bool x4, .bool x5] 111)) (.cells #[.int .i64 P, .int .i64 S, .int .i64 T] 126)
    rw [World.size_alloc] at h2
    rw [← hW3, Below.heap_alloc _ _ _ (by simp)]; exact h2
  have HR3 : Hid (W3.heap[w.heap.size + 2]? = some (rivO { r with size := S } ⟨sa, sc, ma, mc, ua, uc, ga, gc⟩)) := by
    show _ = _
    have h2 := heap_alloc_new ((w.alloc (.cells #[.bool x0, .bool x1, .bool x2, .bool x3, .bool x4, .bool x5] 111)).alloc (.cells #[.int .i64 P, .int .i64 S, .int .i64 T] 126)) (.cells #[.int .i64 r.last, .slice sa r.salt.length sc, .slice ma r.mud.length mc, .int .i64 r.sweet, .int .i64 r.clear, .int .i64 S, .int .i64 r.start, .int .i64 r.draw, .slice ua r.use.length uc, .slice ga r.gauges.length gc] 35)
    simp only [World.size_alloc] at h2
    rw [← hW3]; exact h2
  have hz3 : W3.heap.size = w.heap.size + 3 := by rw [← hW3]; simp
  have HB3 : Hid (Below w.heap.size w W3) := by
    show Below _ _ _
    rw [← hW3]; exact (((Below.refl _ w).alloc (Nat.le_refl _) _).alloc (by simp) _).alloc (by simp; omega) _
  have hl30 : w.heap.size < W3.heap.size := by omega
  have hl31 : w.heap.size + 1 < W3.heap.size := by omega
  have hl32 : w.heap.size + 2 < W3.heap.size := by omega
  have HZ3 := Lib.hid hz3
  have hu6 : r.use.length ≤ 6 := by have := HOK.out.nu; have := HOK.out.l5; omega
  have hwl : IntKind.i64.wrap (r.last + 1) = r.last + 1 := IntWalk.i64_in _ (by have := HOK.out.l5; have := HOK.out.l0; omega)
  clear hW3 hz3 k0 k1 k2 k3 k4 k5 k6 k7 k8 k9 k10 k11 hpl
  go_loopw [8, 9, 10, 23] (fun tk _ _ i wr => ∃ (k : Nat) (t : Int), k ≤ r.use.length ∧ i = .int .i64 k ∧ tk = .int .i64 t ∧ 0 ≤ t ∧ t ≤ 99 ∧ lackI r g P S T = lackGo r.last r.draw g P S T k t (r.use.drop k) ∧ Below W3.heap.size W3 wr) (fun _ _ _ i _ => r.use.length - (intOf i).toNat)
  case atStart => exact ⟨0, r.start, Nat.zero_le _, rfl, rfl, hstart.out.1, hstart.out.2, rfl, Below.refl _ _⟩
  case round =>
    obtain ⟨k, t, hk, rfl, rfl, ht1, ht2, hli, hB⟩ := hrel
    obtain ⟨r0, r1, r2, r3, r4, r5, r6, r7, r8, r9⟩ := riv_cells ((hB.block _ hl32).trans HR3.out)
    dsimp only at r0 r1 r2 r3 r4 r5 r6 r7 r8 r9
    have s0 : wr.cell? ⟨w.heap.size + 1, 0, none⟩ = some (.int .i64 P) := by rw [cell_blk ((hB.block _ hl31).trans HS3.out)]; rfl
    have s2 : wr.cell? ⟨w.heap.size + 1, 2, none⟩ = some (.int .i64 T) := by rw [cell_blk ((hB.block _ hl31).trans HS3.out)]; rfl
    have lw0 : w.heap.size < wr.heap.size := Nat.lt_of_lt_of_le hl30 hB.size
    have lw1 : w.heap.size + 1 < wr.heap.size := Nat.lt_of_lt_of_le hl31 hB.size
    have lw2 : w.heap.size + 2 < wr.heap.size := Nat.lt_of_lt_of_le hl32 hB.size
    have hBw := HB3.out.trans (hB.mono (by omega))
    have HLI := Lib.hid hli
    clear hli
    by_cases hlt : k < r.use.length
    · obtain ⟨u, hu⟩ : ∃ u, r.use[k]? = some u := ⟨_, List.getElem?_eq_getElem hlt⟩
      obtain ⟨b, o, rfl, d⟩ := (hru.below hBw).int_at hu
      have hub := HOK.out.uo u (List.mem_of_getElem? hu)
      have hdr : r.use.drop k = u :: r.use.drop (k + 1) := by
        rw [List.drop_eq_getElem_cons hlt]; rw [List.getElem?_eq_getElem hlt] at hu; simp at hu; rw [hu]
      have HDR := Lib.hid hdr
      have hk6 : k < 6 := by omega
      have hk6I : (k : Int) < 6 := by omega
      clear hu hdr
      obtain ⟨L, hLdef⟩ : ∃ L, L = lackT g P S r.draw T k t := ⟨_, rfl⟩
      have hLb : 0 ≤ L ∧ L ≤ 99 := by rw [hLdef]; exact lackT_bd g P S r.draw T k t ht1 ht2 hS hS9 HOK.out.dr.1
      by_cases hsT : (k : Int) = T
      · have eT : ((k : Int) == T) = true := by simpa using hsT
        cases hgb : g.getD k false
        · skip
          have hL : 0 = L := by
            rw [hLdef, lackT_eq, hgb, if_pos hsT] <;> rfl
          have HLT := Lib.hid hL
          have HLL := Lib.hid hLdef
          have hgc : wr.cell? ⟨w.heap.size, k, none⟩ = some (.bool false) := by rw [cell_blk ((hB.block _ hl30).trans HG3.out), ← HGX.out, ← hgb]; simp [List.getD, HG.out, hk6]
          clear hL hLdef hgb hsT
          go_wp2_with fail
          refine region_o (S := OldC wr.heap.size wr) (.take 0 (.take 1 (.take 2 (.take 3 (.take 4 (.take 5 (.take 6 (.take 7 (.take 8 (.take 9 (.take 10 (.take 11 (.take 12 (.one 13 (.take 14 .nil))))))))))))))) (by kernel_rfl) (by kernel_rfl) (fun _ _ d _ _ h => by cases d <;> exact h) (oldR (Nat.le_refl _)) ?_
          intro W0 hW0 hS0
          have hBW : Below wr.heap.size wr W0 := by subst hW0; exact (Below.refl _ _).drew
          clear hW0
          repeat (first
            | (refine ord_skip rfl ?_ ?_; rfl; simp only [pz])
            | (refine ord_take (v := ?_) rfl ?_ (fun W hW => ?_) ?_; rotate_left; rfl; (obtain ⟨hz, hcc, hbb⟩ := hW; go_simp; (first | done | with_reducible rfl)); simp only [pz]))
          (refine ord_op rfl ?_ (fun K hK => ?_); rfl; go_simp; refine (drawn_false r ⟨sa, sc, ma, mc, some ⟨b, o, none⟩, uc, ga, gc⟩ S 0 L _ (by omega) (by omega) HOK.out.dr.1 (by have := HOK.out.dr.2; omega) HLT.out).mono ?_; rintro e W1 ⟨rfl, hb1⟩; have hS1 := oldK hS0 hb1; refine hK _ _ hS1 ?_; clear hK K; try simp only [pz])
          repeat (first
            | (refine ord_skip rfl ?_ ?_; rfl; simp only [pz])
            | (refine ord_take (v := ?_) rfl ?_ (fun W hW => ?_) ?_; rotate_left; rfl; (obtain ⟨hz, hcc, hbb⟩ := hW; go_simp; (first | done | with_reducible rfl)); simp only [pz]))
          refine ord_nil ?_
          have hB1 := hB.trans (hS1.be.mono hB.size)
          by_cases hlk : L < u
          · have hres : lackI r g P S T = k := by rw [HLI.out, HDR.out, lackGo_cons, ← HLL.out, if_pos hlk]
            have HRES := Lib.hid hres
            clear hres
            go_wp2_with fail
            go_ret
            exact ⟨ret_int (by rw [← HGX.out, HRES.out]), HB3.out.trans (hB1.mono (by omega))⟩
          · have hres : lackI r g P S T = lackGo r.last r.draw g P S T (k + 1) (L - u) (r.use.drop (k + 1)) := by rw [HLI.out, HDR.out, lackGo_cons, ← HLL.out, if_neg hlk]
            have HRES := Lib.hid hres
            have hwl : IntKind.i64.wrap (L - u) = L - u := IntWalk.i64_in _ (by omega)
            clear hres
            go_wp2_with fail
            go_roundw
            case rel => exact ⟨k + 1, L - u, by omega, by go_num, rfl, by omega, by omega, HRES.out, hB1⟩
            case measure => simp [intOf]; omega
        · cases hbit : P.testBit k
          · skip
            have hL : 0 = L := by
              rw [hLdef, lackT_eq, hgb, hbit, if_pos hsT] <;> rfl
            have HLT := Lib.hid hL
            have HLL := Lib.hid hLdef
            have hbv : Go.bits BinOp.and IntKind.i64 ((P : Int) / 2 ^ k) 1 = 0 := by rw [and_small P hP k (by omega), hbit]; rfl
            have hgc : wr.cell? ⟨w.heap.size, k, none⟩ = some (.bool true) := by rw [cell_blk ((hB.block _ hl30).trans HG3.out), ← HGX.out, ← hgb]; simp [List.getD, HG.out, hk6]
            clear hL hLdef hgb hsT hbit
            go_wp2_with fail
            refine region_o (S := OldC wr.heap.size wr) (.take 0 (.take 1 (.take 2 (.take 3 (.take 4 (.take 5 (.take 6 (.take 7 (.take 8 (.take 9 (.take 10 (.take 11 (.take 12 (.one 13 (.take 14 .nil))))))))))))))) (by kernel_rfl) (by kernel_rfl) (fun _ _ d _ _ h => by cases d <;> exact h) (oldR (Nat.le_refl _)) ?_
            intro W0 hW0 hS0
            have hBW : Below wr.heap.size wr W0 := by subst hW0; exact (Below.refl _ _).drew
            clear hW0
            repeat (first
              | (refine ord_skip rfl ?_ ?_; rfl; simp only [pz])
              | (refine ord_take (v := ?_) rfl ?_ (fun W hW => ?_) ?_; rotate_left; rfl; (obtain ⟨hz, hcc, hbb⟩ := hW; go_simp; (first | done | with_reducible rfl)); simp only [pz]))
            (refine ord_op rfl ?_ (fun K hK => ?_); rfl; go_simp; refine (drawn_false r ⟨sa, sc, ma, mc, some ⟨b, o, none⟩, uc, ga, gc⟩ S 0 L _ (by omega) (by omega) HOK.out.dr.1 (by have := HOK.out.dr.2; omega) HLT.out).mono ?_; rintro e W1 ⟨rfl, hb1⟩; have hS1 := oldK hS0 hb1; refine hK _ _ hS1 ?_; clear hK K; try simp only [pz])
            repeat (first
              | (refine ord_skip rfl ?_ ?_; rfl; simp only [pz])
              | (refine ord_take (v := ?_) rfl ?_ (fun W hW => ?_) ?_; rotate_left; rfl; (obtain ⟨hz, hcc, hbb⟩ := hW; go_simp; (first | done | with_reducible rfl)); simp only [pz]))
            refine ord_nil ?_
            have hB1 := hB.trans (hS1.be.mono hB.size)
            by_cases hlk : L < u
            · have hres : lackI r g P S T = k := by rw [HLI.out, HDR.out, lackGo_cons, ← HLL.out, if_pos hlk]
              have HRES := Lib.hid hres
              clear hres
              go_wp2_with fail
              go_ret
              exact ⟨ret_int (by rw [← HGX.out, HRES.out]), HB3.out.trans (hB1.mono (by omega))⟩
            · have hres : lackI r g P S T = lackGo r.last r.draw g P S T (k + 1) (L - u) (r.use.drop (k + 1)) := by rw [HLI.out, HDR.out, lackGo_cons, ← HLL.out, if_neg hlk]
              have HRES := Lib.hid hres
              have hwl : IntKind.i64.wrap (L - u) = L - u := IntWalk.i64_in _ (by omega)
              clear hres
              go_wp2_with fail
              go_roundw
              case rel => exact ⟨k + 1, L - u, by omega, by go_num, rfl, by omega, by omega, HRES.out, hB1⟩
              case measure => simp [intOf]; omega
          · skip
            have hL : min S (0 + r.draw) = L := by
              rw [hLdef, lackT_eq, hgb, hbit, if_pos hsT] <;> rfl
            have HLT := Lib.hid hL
            have HLL := Lib.hid hLdef
            have hbv : Go.bits BinOp.and IntKind.i64 ((P : Int) / 2 ^ k) 1 = 1 := by rw [and_small P hP k (by omega), hbit]; rfl
            have hgc : wr.cell? ⟨w.heap.size, k, none⟩ = some (.bool true) := by rw [cell_blk ((hB.block _ hl30).trans HG3.out), ← HGX.out, ← hgb]; simp [List.getD, HG.out, hk6]
            clear hL hLdef hgb hsT hbit
            go_wp2_with fail
            refine region_o (S := OldC wr.heap.size wr) (.take 0 (.take 1 (.take 2 (.take 3 (.take 4 (.take 5 (.take 6 (.take 7 (.take 8 (.take 9 (.take 10 (.take 11 (.take 12 (.one 13 (.take 14 .nil))))))))))))))) (by kernel_rfl) (by kernel_rfl) (fun _ _ d _ _ h => by cases d <;> exact h) (oldR (Nat.le_refl _)) ?_
            intro W0 hW0 hS0
            have hBW : Below wr.heap.size wr W0 := by subst hW0; exact (Below.refl _ _).drew
            clear hW0
            repeat (first
              | (refine ord_skip rfl ?_ ?_; rfl; simp only [pz])
              | (refine ord_take (v := ?_) rfl ?_ (fun W hW => ?_) ?_; rotate_left; rfl; (obtain ⟨hz, hcc, hbb⟩ := hW; go_simp; (first | done | with_reducible rfl)); simp only [pz]))
            (refine ord_op rfl ?_ (fun K hK => ?_); rfl; go_simp; refine (drawn_true r ⟨sa, sc, ma, mc, some ⟨b, o, none⟩, uc, ga, gc⟩ S 0 L _ (by omega) (by omega) HOK.out.dr.1 (by have := HOK.out.dr.2; omega) HLT.out).mono ?_; rintro e W1 ⟨rfl, hb1⟩; have hS1 := oldK hS0 hb1; refine hK _ _ hS1 ?_; clear hK K; try simp only [pz])
            repeat (first
              | (refine ord_skip rfl ?_ ?_; rfl; simp only [pz])
              | (refine ord_take (v := ?_) rfl ?_ (fun W hW => ?_) ?_; rotate_left; rfl; (obtain ⟨hz, hcc, hbb⟩ := hW; go_simp; (first | done | with_reducible rfl)); simp only [pz]))
            refine ord_nil ?_
            have hB1 := hB.trans (hS1.be.mono hB.size)
            by_cases hlk : L < u
            · have hres : lackI r g P S T = k := by rw [HLI.out, HDR.out, lackGo_cons, ← HLL.out, if_pos hlk]
              have HRES := Lib.hid hres
              clear hres
              go_wp2_with fail
              go_ret
              exact ⟨ret_int (by rw [← HGX.out, HRES.out]), HB3.out.trans (hB1.mono (by omega))⟩
            · have hres : lackI r g P S T = lackGo r.last r.draw g P S T (k + 1) (L - u) (r.use.drop (k + 1)) := by rw [HLI.out, HDR.out, lackGo_cons, ← HLL.out, if_neg hlk]
              have HRES := Lib.hid hres
              have hwl : IntKind.i64.wrap (L - u) = L - u := IntWalk.i64_in _ (by omega)
              clear hres
              go_wp2_with fail
              go_roundw
              case rel => exact ⟨k + 1, L - u, by omega, by go_num, rfl, by omega, by omega, HRES.out, hB1⟩
              case measure => simp [intOf]; omega
      · have eT : ((k : Int) == T) = false := by simpa using hsT
        cases hgb : g.getD k false
        · skip
          have hL : t = L := by
            rw [hLdef, lackT_eq, hgb, if_neg hsT] <;> rfl
          have HLT := Lib.hid hL
          have HLL := Lib.hid hLdef
          have hgc : wr.cell? ⟨w.heap.size, k, none⟩ = some (.bool false) := by rw [cell_blk ((hB.block _ hl30).trans HG3.out), ← HGX.out, ← hgb]; simp [List.getD, HG.out, hk6]
          clear hL hLdef hgb hsT
          go_wp2_with fail
          refine region_o (S := OldC wr.heap.size wr) (.take 0 (.take 1 (.take 2 (.take 3 (.take 4 (.take 5 (.take 6 (.take 7 (.take 8 (.take 9 (.take 10 (.take 11 (.take 12 (.one 13 (.take 14 .nil))))))))))))))) (by kernel_rfl) (by kernel_rfl) (fun _ _ d _ _ h => by cases d <;> exact h) (oldR (Nat.le_refl _)) ?_
          intro W0 hW0 hS0
          have hBW : Below wr.heap.size wr W0 := by subst hW0; exact (Below.refl _ _).drew
          clear hW0
          repeat (first
            | (refine ord_skip rfl ?_ ?_; rfl; simp only [pz])
            | (refine ord_take (v := ?_) rfl ?_ (fun W hW => ?_) ?_; rotate_left; rfl; (obtain ⟨hz, hcc, hbb⟩ := hW; go_simp; (first | done | with_reducible rfl)); simp only [pz]))
          (refine ord_op rfl ?_ (fun K hK => ?_); rfl; go_simp; refine (drawn_false r ⟨sa, sc, ma, mc, some ⟨b, o, none⟩, uc, ga, gc⟩ S t L _ (by omega) (by omega) HOK.out.dr.1 (by have := HOK.out.dr.2; omega) HLT.out).mono ?_; rintro e W1 ⟨rfl, hb1⟩; have hS1 := oldK hS0 hb1; refine hK _ _ hS1 ?_; clear hK K; try simp only [pz])
          repeat (first
            | (refine ord_skip rfl ?_ ?_; rfl; simp only [pz])
            | (refine ord_take (v := ?_) rfl ?_ (fun W hW => ?_) ?_; rotate_left; rfl; (obtain ⟨hz, hcc, hbb⟩ := hW; go_simp; (first | done | with_reducible rfl)); simp only [pz]))
          refine ord_nil ?_
          have hB1 := hB.trans (hS1.be.mono hB.size)
          by_cases hlk : L < u
          · have hres : lackI r g P S T = k := by rw [HLI.out, HDR.out, lackGo_cons, ← HLL.out, if_pos hlk]
            have HRES := Lib.hid hres
            clear hres
            go_wp2_with fail
            go_ret
            exact ⟨ret_int (by rw [← HGX.out, HRES.out]), HB3.out.trans (hB1.mono (by omega))⟩
          · have hres : lackI r g P S T = lackGo r.last r.draw g P S T (k + 1) (L - u) (r.use.drop (k + 1)) := by rw [HLI.out, HDR.out, lackGo_cons, ← HLL.out, if_neg hlk]
            have HRES := Lib.hid hres
            have hwl : IntKind.i64.wrap (L - u) = L - u := IntWalk.i64_in _ (by omega)
            clear hres
            go_wp2_with fail
            go_roundw
            case rel => exact ⟨k + 1, L - u, by omega, by go_num, rfl, by omega, by omega, HRES.out, hB1⟩
            case measure => simp [intOf]; omega
        · cases hbit : P.testBit k
          · skip
            have hL : t = L := by
              rw [hLdef, lackT_eq, hgb, hbit, if_neg hsT] <;> rfl
            have HLT := Lib.hid hL
            have HLL := Lib.hid hLdef
            have hbv : Go.bits BinOp.and IntKind.i64 ((P : Int) / 2 ^ k) 1 = 0 := by rw [and_small P hP k (by omega), hbit]; rfl
            have hgc : wr.cell? ⟨w.heap.size, k, none⟩ = some (.bool true) := by rw [cell_blk ((hB.block _ hl30).trans HG3.out), ← HGX.out, ← hgb]; simp [List.getD, HG.out, hk6]
            clear hL hLdef hgb hsT hbit
            go_wp2_with fail
            refine region_o (S := OldC wr.heap.size wr) (.take 0 (.take 1 (.take 2 (.take 3 (.take 4 (.take 5 (.take 6 (.take 7 (.take 8 (.take 9 (.take 10 (.take 11 (.take 12 (.one 13 (.take 14 .nil))))))))))))))) (by kernel_rfl) (by kernel_rfl) (fun _ _ d _ _ h => by cases d <;> exact h) (oldR (Nat.le_refl _)) ?_
            intro W0 hW0 hS0
            have hBW : Below wr.heap.size wr W0 := by subst hW0; exact (Below.refl _ _).drew
            clear hW0
            repeat (first
              | (refine ord_skip rfl ?_ ?_; rfl; simp only [pz])
              | (refine ord_take (v := ?_) rfl ?_ (fun W hW => ?_) ?_; rotate_left; rfl; (obtain ⟨hz, hcc, hbb⟩ := hW; go_simp; (first | done | with_reducible rfl)); simp only [pz]))
            (refine ord_op rfl ?_ (fun K hK => ?_); rfl; go_simp; refine (drawn_false r ⟨sa, sc, ma, mc, some ⟨b, o, none⟩, uc, ga, gc⟩ S t L _ (by omega) (by omega) HOK.out.dr.1 (by have := HOK.out.dr.2; omega) HLT.out).mono ?_; rintro e W1 ⟨rfl, hb1⟩; have hS1 := oldK hS0 hb1; refine hK _ _ hS1 ?_; clear hK K; try simp only [pz])
            repeat (first
              | (refine ord_skip rfl ?_ ?_; rfl; simp only [pz])
              | (refine ord_take (v := ?_) rfl ?_ (fun W hW => ?_) ?_; rotate_left; rfl; (obtain ⟨hz, hcc, hbb⟩ := hW; go_simp; (first | done | with_reducible rfl)); simp only [pz]))
            refine ord_nil ?_
            have hB1 := hB.trans (hS1.be.mono hB.size)
            by_cases hlk : L < u
            · have hres : lackI r g P S T = k := by rw [HLI.out, HDR.out, lackGo_cons, ← HLL.out, if_pos hlk]
              have HRES := Lib.hid hres
              clear hres
              go_wp2_with fail
              go_ret
              exact ⟨ret_int (by rw [← HGX.out, HRES.out]), HB3.out.trans (hB1.mono (by omega))⟩
            · have hres : lackI r g P S T = lackGo r.last r.draw g P S T (k + 1) (L - u) (r.use.drop (k + 1)) := by rw [HLI.out, HDR.out, lackGo_cons, ← HLL.out, if_neg hlk]
              have HRES := Lib.hid hres
              have hwl : IntKind.i64.wrap (L - u) = L - u := IntWalk.i64_in _ (by omega)
              clear hres
              go_wp2_with fail
              go_roundw
              case rel => exact ⟨k + 1, L - u, by omega, by go_num, rfl, by omega, by omega, HRES.out, hB1⟩
              case measure => simp [intOf]; omega
          · skip
            have hL : min S (t + r.draw) = L := by
              rw [hLdef, lackT_eq, hgb, hbit, if_neg hsT] <;> rfl
            have HLT := Lib.hid hL
            have HLL := Lib.hid hLdef
            have hbv : Go.bits BinOp.and IntKind.i64 ((P : Int) / 2 ^ k) 1 = 1 := by rw [and_small P hP k (by omega), hbit]; rfl
            have hgc : wr.cell? ⟨w.heap.size, k, none⟩ = some (.bool true) := by rw [cell_blk ((hB.block _ hl30).trans HG3.out), ← HGX.out, ← hgb]; simp [List.getD, HG.out, hk6]
            clear hL hLdef hgb hsT hbit
            go_wp2_with fail
            refine region_o (S := OldC wr.heap.size wr) (.take 0 (.take 1 (.take 2 (.take 3 (.take 4 (.take 5 (.take 6 (.take 7 (.take 8 (.take 9 (.take 10 (.take 11 (.take 12 (.one 13 (.take 14 .nil))))))))))))))) (by kernel_rfl) (by kernel_rfl) (fun _ _ d _ _ h => by cases d <;> exact h) (oldR (Nat.le_refl _)) ?_
            intro W0 hW0 hS0
            have hBW : Below wr.heap.size wr W0 := by subst hW0; exact (Below.refl _ _).drew
            clear hW0
            repeat (first
              | (refine ord_skip rfl ?_ ?_; rfl; simp only [pz])
              | (refine ord_take (v := ?_) rfl ?_ (fun W hW => ?_) ?_; rotate_left; rfl; (obtain ⟨hz, hcc, hbb⟩ := hW; go_simp; (first | done | with_reducible rfl)); simp only [pz]))
            (refine ord_op rfl ?_ (fun K hK => ?_); rfl; go_simp; refine (drawn_true r ⟨sa, sc, ma, mc, some ⟨b, o, none⟩, uc, ga, gc⟩ S t L _ (by omega) (by omega) HOK.out.dr.1 (by have := HOK.out.dr.2; omega) HLT.out).mono ?_; rintro e W1 ⟨rfl, hb1⟩; have hS1 := oldK hS0 hb1; refine hK _ _ hS1 ?_; clear hK K; try simp only [pz])
            repeat (first
              | (refine ord_skip rfl ?_ ?_; rfl; simp only [pz])
              | (refine ord_take (v := ?_) rfl ?_ (fun W hW => ?_) ?_; rotate_left; rfl; (obtain ⟨hz, hcc, hbb⟩ := hW; go_simp; (first | done | with_reducible rfl)); simp only [pz]))
            refine ord_nil ?_
            have hB1 := hB.trans (hS1.be.mono hB.size)
            by_cases hlk : L < u
            · have hres : lackI r g P S T = k := by rw [HLI.out, HDR.out, lackGo_cons, ← HLL.out, if_pos hlk]
              have HRES := Lib.hid hres
              clear hres
              go_wp2_with fail
              go_ret
              exact ⟨ret_int (by rw [← HGX.out, HRES.out]), HB3.out.trans (hB1.mono (by omega))⟩
            · have hres : lackI r g P S T = lackGo r.last r.draw g P S T (k + 1) (L - u) (r.use.drop (k + 1)) := by rw [HLI.out, HDR.out, lackGo_cons, ← HLL.out, if_neg hlk]
              have HRES := Lib.hid hres
              have hwl : IntKind.i64.wrap (L - u) = L - u := IntWalk.i64_in _ (by omega)
              clear hres
              go_wp2_with fail
              go_roundw
              case rel => exact ⟨k + 1, L - u, by omega, by go_num, rfl, by omega, by omega, HRES.out, hB1⟩
              case measure => simp [intOf]; omega
    · obtain rfl : k = r.use.length := by omega
      have hres : lackI r g P S T = r.last + 1 := by rw [HLI.out, List.drop_length]; rfl
      have HRES := Lib.hid hres
      clear hres
      go_wp2_with fail
      go_ret
      exact ⟨ret_int (by rw [← HGX.out, HRES.out]), hBw⟩
end Go.Proofs.Ytgglfngkomgadaa
/- Walks: lacks. -/
namespace Go.Proofs.Ytgglfngkomgadaa
open Go.RowKit Go.Shelf
set_option linter.unusedVariables false
set_option linter.unusedSimpArgs false
set_option maxRecDepth 100000

def lacksI (r : Riv) (gs : List (List Bool)) (P : Nat) (S T : Int) : Int := gs.foldl (fun n g => min n (lackI r g P S T)) (r.last + 1)
/-- What is known of a river at work. -/
def knowF (r : Riv) (gs : List (List Bool)) (P S T : Int) : Int := lacksI r gs P.toNat S T
theorem WorkB.wr {n0 : Nat} {W W' : World} {p : Nat} {r : Riv} {A : RA} {v : Value} {m : Nat} {gs : List (List Bool)} (h : WorkB n0 W p r A v m gs) {S : Nat → Prop} (hw : Wr S W W') (h1 : ¬ S p) (h2 : ∀ k, v.ownBlock = some k → ¬ S k) : WorkB n0 W' p r A v m gs := by
  refine ⟨h.hp, h.hm, h.hne, hw.blk h1 h.blk, ⟨h.own.1, ?_⟩, h.sep⟩
  rcases h.own.2 with h' | ⟨g, cap, cur, hv, hg, hb, r⟩
  · exact .inl h'
  · exact .inr ⟨g, cap, cur, hv, hg, hw.blk (h2 g (by rw [hv]; rfl)) hb, r⟩
theorem wfI_of (x : Int) (h1 : -1000 ≤ x) (h2 : x ≤ 1000) : wfI x := by
  have e1 : IntKind.i64.min = -9223372036854775808 := by decide
  have e2 : IntKind.i64.max = 9223372036854775807 := by decide
  simp [wfI, Lit.wf, e1, e2]; omega
theorem lacksI_snoc (r : Riv) (gs : List (List Bool)) (g : List Bool) (P : Nat) (S T : Int) : lacksI r (gs ++ [g]) P S T = min (lacksI r gs P S T) (lackI r g P S T) := by simp [lacksI]
/-- What the store's region reads. -/
def KnS (p m b : Nat) (P S T : Int) (W : World) : Prop := W.cell? ⟨p, 11, none⟩ = some (.map (some m)) ∧ W.cell? ⟨b, 0, none⟩ = some (.int .i64 P) ∧ W.cell? ⟨b, 1, none⟩ = some (.int .i64 S) ∧ W.cell? ⟨b, 2, none⟩ = some (.int .i64 T)
theorem KnS.wr {p m b : Nat} {P S T : Int} {W W' : World} {C : Nat → Prop} (h : KnS p m b P S T W) (hw : Wr C W W') (hp : ¬ C p) (hb : ¬ C b) : KnS p m b P S T W' :=
  ⟨hw.cell hp h.1, hw.cell hb h.2.1, hw.cell hb h.2.2.1, hw.cell hb h.2.2.2⟩
def RetLk (m : Nat) (r : Riv) (gs : List (List Bool)) (x : Int) (w : World) (e : Ending) (w' : World) : Prop := e = .returned (.int .i64 x) ∧ Wr (fun k => k = m) w w' ∧ Memo w' m (knowF r gs)

set_option maxHeartbeats 2000000 in
theorem lacks_c (r : Riv) (A : RA) (ok : Ok r) (n0 p m : Nat) (v : Value) (gs : List (List Bool)) (h6 : All6 gs) (h64 : gs.length ≤ 64) (P : Nat) (hP : P < 64) (S T : Int) (hS : 0 ≤ S) (hS9 : S ≤ 99) (hT : -1 ≤ T) (hT9 : T ≤ 99) (w : World) (hW : WorkB n0 w p r A v m gs) (hr : Rd w r A)
    (hm : Memo w m (knowF r gs)) :
    Calls Try.prog 86 #[.pointer (some ⟨p, 0, none⟩), spotV P S T] w (RetLk m r gs (lacksI r gs P S T) w) := by
  have HOK := Lib.hid ok
  have hwP : wfI (P : Int) := wfI_of _ (by omega) (by omega)
  have hwS : wfI S := wfI_of _ (by omega) (by omega)
  have hwT : wfI T := wfI_of _ (by omega) (by omega)
  have hb0 := (Below.refl w.heap.size w).alloc (Nat.le_refl _) (.cells #[.int .i64 P, .int .i64 S, .int .i64 T] 126)
  obtain ⟨kn, hlk⟩ := memo_look (memo_below hm hb0) P S T hwP hwS hwT
  have HB0 := Lib.hid hb0
  have hml : m < (w.alloc (.cells #[.int .i64 P, .int .i64 S, .int .i64 T] 126)).heap.size := memo_lt (memo_below hm hb0)
  have hwc := Lib.hid ((hW.below hb0).cells)
  have HWK := Lib.hid hW
  have HM := Lib.hid hm
  have hsp := heap_alloc_new w (.cells #[.int .i64 P, .int .i64 S, .int .i64 T] 126)
  clear hb0 hW ok hm
  go_enter Try.func86, Try.ntmps86
  go_wp2_with fail
  obtain ⟨wq, hwq⟩ : ∃ wq, w.alloc (.cells #[.int .i64 P, .int .i64 S, .int .i64 T] 126) = wq := ⟨_, rfl⟩
  rw [hwq] at hlk hml hwc hsp HB0 ⊢
  have hzq : Hid (wq.heap.size = w.heap.size + 1) := by show _ = _; rw [← hwq]; simp
  obtain ⟨k0, k1, k2, k3, k4, k5, k6, k7, k8, k9, k10, k11⟩ := hwc.out
  have s0 : wq.cell? ⟨w.heap.size, 0, none⟩ = some (.int .i64 P) := by rw [cell_blk hsp]; rfl
  have s1 : wq.cell? ⟨w.heap.size, 1, none⟩ = some (.int .i64 S) := by rw [cell_blk hsp]; rfl
  have s2 : wq.cell? ⟨w.heap.size, 2, none⟩ = some (.int .i64 T) := by rw [cell_blk hsp]; rfl
  have l0 : p < wq.heap.size := cell_lt k0
  have l1 : w.heap.size < wq.heap.size := cell_lt s0
  clear hwq hwc hsp
  refine region_o (S := OldC wq.heap.size wq) (.take 0 (.take 1 (.take 2 (.take 3 (.take 4 (.take 5 (.take 6 (.take 7 (.take 8 (.take 9 (.take 10 .nil))))))))))) (by kernel_rfl) (by kernel_rfl) (fun _ _ d _ _ h => by cases d <;> exact h) (oldR (Nat.le_refl _)) ?_
  intro W0 hW0 hS0
  have hBW : Below wq.heap.size wq W0 := by subst hW0; exact (Below.refl _ _).drew
  clear hW0
  repeat (first
    | (refine ord_skip rfl ?_ ?_; rfl; simp only [pz])
    | (refine ord_take (v := ?_) rfl ?_ (fun W hW => ?_) ?_; rotate_left; rfl; (obtain ⟨hz, hcc, hbb⟩ := hW; have hmq := hlk W (hbb.block m hml); go_simp; (first | done | with_reducible rfl)); simp only [pz]))
  refine ord_nil ?_
  have hkn0 : KnS p m w.heap.size P S T wq := ⟨k11, s0, s1, s2⟩
  have HKN := Lib.hid (hkn0.wr (Wr.of_below (S := fun _ => False) hBW) (fun h => h) (fun h => h))
  have HB1 := Lib.hid (HB0.out.trans (hBW.mono HB0.out.size))
  clear hkn0 k0 k1 k2 k3 k4 k5 k6 k7 k8 k9 k10 k11 s0 s1 s2 hS0 hlk
  have l2 : w.heap.size < W0.heap.size := Nat.lt_of_lt_of_le l1 hBW.size
  obtain ⟨k0, k1, k2, k3, k4, k5, k6, k7, k8, k9, k10, k11⟩ := (HWK.out.below HB1.out).cells
  cases kn
  · simp only [Bool.false_eq_true, if_false]
    obtain ⟨av, cv, rfl, hc10, hsl⟩ := (HWK.out.below HB1.out).row
    have hwl : IntKind.i64.wrap (r.last + 1) = r.last + 1 := IntWalk.i64_in _ (by have := HOK.out.l5; have := HOK.out.l0; omega)
    clear hBW l1 l0 hml
    go_wp2_with fail
    go_loopw [5, 8, 31] (fun y _ i wr => ∃ k : Nat, k ≤ gs.length ∧ i = .int .i64 k ∧ y = .int .i64 (lacksI r (gs.take k) P S T) ∧ Below W0.heap.size W0 wr) (fun _ _ i _ => gs.length - (intOf i).toNat)
    case atStart => exact ⟨0, Nat.zero_le _, rfl, by simp [lacksI], Below.refl _ _⟩
    case round =>
      obtain ⟨k, hk, rfl, rfl, hB⟩ := hrel
      have hsp := HKN.out.wr (Wr.of_below (S := fun _ => False) hB) (fun h => h) (fun h => h)
      obtain ⟨s3, s0, s1, s2⟩ := hsp
      have lw : w.heap.size < wr.heap.size := Nat.lt_of_lt_of_le l2 hB.size
      have hBw := HB1.out.trans (hB.mono (by omega))
      by_cases hlt : k < gs.length
      · obtain ⟨x, hx⟩ : ∃ x, gs[k]? = some x := ⟨_, List.getElem?_eq_getElem hlt⟩
        have hX := Lib.hid hx
        have hx6 := h6 x (List.mem_of_getElem? hx)
        obtain ⟨b, o, x0, x1, x2, x3, x4, x5, rfl, hxe, h1, h2, h3, h4, h5, h7⟩ := Sl.gl_at h6 (hsl.below hB) hx
        have hXE := Lib.hid hxe
        clear hx hxe
        have hBa : Below w.heap.size w (wr.alloc (.cells #[.bool x0, .bool x1, .bool x2, .bool x3, .bool x4, .bool x5] 111)) := hBw.alloc (by omega) _
        go_wp2_with fail
        rw [show (Value.agg #[.bool x0, .bool x1, .bool x2, .bool x3, .bool x4, .bool x5]) = gv x from by rw [hXE.out]; rfl]
        refine (lack_c r A HOK.out n0 p m _ gs x hx6 P hP S T hS hS9 _ (HWK.out.below hBa) (hr.below hBa)).mono ?_
        rintro e w1 ⟨rfl, hb⟩
        have hBb : Below W0.heap.size W0 w1 := (hB.alloc hB.size _).trans (hb.mono (by have := hB.size; simp; omega))
        obtain ⟨cn, hcn⟩ : ∃ cn, cn = lacksI r (gs.take k) P S T := ⟨_, rfl⟩
        obtain ⟨cl, hcl⟩ : ∃ cl, cl = lackI r x P S T := ⟨_, rfl⟩
        have hnx : lacksI r (gs.take (k + 1)) P S T = min cn cl := by
          rw [List.take_add_one, hX.out, Option.toList_some, lacksI_snoc, ← hcn, ← hcl]
        have HNX := Lib.hid hnx
        rw [← hcn, ← hcl]
        clear hcn hcl hnx
        go_wp2_with fail
        refine (minimum_c _ _ _ cn cl _ (by go_simp) (by go_simp)).mono ?_
        rintro e w2 ⟨rfl, rfl⟩
        go_wp2_with fail
        go_roundw
        case rel => exact ⟨k + 1, by omega, by go_num, by rw [HNX.out], hBb.alloc hBb.size _⟩
        case measure => simp [intOf]; omega
      · obtain rfl : k = gs.length := by omega
        rw [List.take_length]
        go_wp2_with fail
        have hkr : KnS p m w.heap.size P S T wr := ⟨s3, s0, s1, s2⟩
        have hpm := HWK.out.hne
        have hml := memo_lt HM.out
        refine region_o (S := KnS p m w.heap.size P S T) (.take 0 (.take 1 (.take 2 (.take 3 (.take 4 (.take 5 (.one 6 .nil))))))) (by kernel_rfl) (by kernel_rfl) (fun _ _ d _ _ h => by cases d <;> exact h) (hkr.wr (Wr.of_below (S := fun _ => False) (Below.refl _ _).drew) (fun h => h) (fun h => h)) ?_
        intro W5 hW5 hS5
        have hB5 : Below w.heap.size w W5 := hBw.trans (by subst hW5; exact (Below.refl _ _).drew)
        clear hW5 s3 s0 s1 s2 hkr
        obtain ⟨W6, hrun, hmem6, hwr6⟩ := memo_put (memo_below HM.out hB5) P S T hwP hwS hwT
        rw [show knowF r gs P S T = lacksI r gs P S T from rfl] at hrun
        have HM6 := Lib.hid hmem6
        have HW6 := Lib.hid hwr6
        clear hmem6 hwr6
        repeat (first
          | (refine ord_take (v := ?_) rfl ?_ (fun W hW => ?_) ?_; rotate_left; rfl; (obtain ⟨hz0, hz1, hz2, hz3⟩ := hW; go_simp; (first | done | with_reducible rfl)); simp only [pz]))
        (refine ord_op rfl ?_ (fun K hK => ?_); rfl; go_simp; refine hK _ _ (hS5.wr HW6.out (fun h => hpm h.symm) (fun (h : w.heap.size = m) => by omega)) ?_; clear hK K; try simp only [pz])
        refine ord_nil ?_
        go_wp2_with fail
        go_ret
        exact ⟨ret_int rfl, (Wr.of_below hB5).trans HW6.out, HM6.out⟩
  · simp only [if_true]
    go_wp2_with fail
    go_ret
    refine ⟨ret_int rfl, Wr.of_below HB1.out, memo_below HM.out HB1.out⟩
end Go.Proofs.Ytgglfngkomgadaa
/- Walks: Lasts. -/
namespace Go.Proofs.Ytgglfngkomgadaa
open Go.RowKit Go.Shelf
set_option linter.unusedVariables false
set_option linter.unusedSimpArgs false
set_option maxRecDepth 100000

set_option maxHeartbeats 2000000 in
theorem lasts1_c (r : Riv) (A : RA) (ok : Ok r) (n0 p m : Nat) (v : Value) (gs : List (List Bool)) (g : List Bool) (hg : g.length = 6) (P : Nat) (hP : P < 64) (S T : Int) (hS : 0 ≤ S) (hS9 : S ≤ 99) (bw bs br : Nat) (w : World) (hW : WorkB n0 w p r A v m gs) (hr : Rd w r A)
    (hbw : w.cell? ⟨bw, 0, none⟩ = some (.pointer (some ⟨p, 0, none⟩))) (hs0 : w.cell? ⟨bs, 0, none⟩ = some (.int .i64 P)) (hs1 : w.cell? ⟨bs, 1, none⟩ = some (.int .i64 S)) (hs2 : w.cell? ⟨bs, 2, none⟩ = some (.int .i64 T)) (hbr : w.cell? ⟨br, 0, none⟩ = some (.int .i64 r.last)) :
    Calls Try.prog 113 #[gv g, .pointer (some ⟨bw, 0, none⟩), .pointer (some ⟨bs, 0, none⟩), .pointer (some ⟨br, 0, none⟩)] w fun e w' => e = .returned (.bool (decide (r.last < lackI r g P S T))) ∧ Below w.heap.size w w' := by
  have HOK := Lib.hid ok
  have HWK := Lib.hid hW
  have HG := Lib.hid hg
  obtain ⟨x0, x1, x2, x3, x4, x5, hgx⟩ := exists6 g hg
  have HGX := Lib.hid hgx
  obtain ⟨R, hR⟩ : ∃ R, R = lackI r g P S T := ⟨_, rfl⟩
  have HR := Lib.hid hR
  rw [← hR, hgx]
  clear hR hgx hg hW ok
  have q0 := cell_lt hbw
  have q1 := cell_lt hs0
  have q2 := cell_lt hbr
  go_enter Try.func113, Try.ntmps113
  go_wp2_with fail
  obtain ⟨wq, hwq⟩ : ∃ wq, w.alloc (.cells #[.bool x0, .bool x1, .bool x2, .bool x3, .bool x4, .bool x5] 111) = wq := ⟨_, rfl⟩
  rw [hwq]
  have hq5 : wq.heap[w.heap.size]? = some (.cells #[.bool x0, .bool x1, .bool x2, .bool x3, .bool x4, .bool x5] 111 (0, 0)) := by rw [← hwq]; exact heap_alloc_new _ _
  have hbq : Below w.heap.size w wq := by rw [← hwq]; exact (Below.refl _ _).alloc (Nat.le_refl _) _
  have e0 := (hbq.cell (p := ⟨bw, 0, none⟩) q0).trans hbw
  have e1 := (hbq.cell (p := ⟨bs, 0, none⟩) q1).trans hs0
  have e2 := (hbq.cell (p := ⟨bs, 1, none⟩) q1).trans hs1
  have e3 := (hbq.cell (p := ⟨bs, 2, none⟩) q1).trans hs2
  have e4 := (hbq.cell (p := ⟨br, 0, none⟩) q2).trans hbr
  have g0 : wq.cell? ⟨w.heap.size, 0, none⟩ = some (.bool x0) := by rw [cell_blk hq5]; rfl
  have g1 : wq.cell? ⟨w.heap.size, 1, none⟩ = some (.bool x1) := by rw [cell_blk hq5]; rfl
  have g2 : wq.cell? ⟨w.heap.size, 2, none⟩ = some (.bool x2) := by rw [cell_blk hq5]; rfl
  have g3 : wq.cell? ⟨w.heap.size, 3, none⟩ = some (.bool x3) := by rw [cell_blk hq5]; rfl
  have g4 : wq.cell? ⟨w.heap.size, 4, none⟩ = some (.bool x4) := by rw [cell_blk hq5]; rfl
  have g5 : wq.cell? ⟨w.heap.size, 5, none⟩ = some (.bool x5) := by rw [cell_blk hq5]; rfl
  have l0 : bw < wq.heap.size := cell_lt e0
  have l1 : bs < wq.heap.size := cell_lt e1
  have l2 : br < wq.heap.size := cell_lt e4
  have l3 : w.heap.size < wq.heap.size := cell_lt g0
  clear hwq hq5 hbw hs0 hs1 hs2 hbr q0 q1 q2
  refine region_o (S := OldC wq.heap.size wq) (.take 0 (.take 1 (.take 2 (.take 4 (.take 5 (.one 3 (.take 6 (.take 7 .nil)))))))) (by kernel_rfl) (by kernel_rfl) (fun _ _ d _ _ h => by cases d <;> exact h) (oldR (Nat.le_refl _)) ?_
  intro W0 hW0 hS0
  have hBW : Below wq.heap.size wq W0 := by subst hW0; exact (Below.refl _ _).drew
  clear hW0
  repeat (first
    | (refine ord_skip rfl ?_ ?_; rfl; simp only [pz])
    | (refine ord_take (v := ?_) rfl ?_ (fun W hW => ?_) ?_; rotate_left; rfl; (obtain ⟨hz, hcc, hbb⟩ := hW; go_simp; (first | done | with_reducible rfl)); simp only [pz]))
  (refine ord_op rfl ?_ (fun K hK => ?_); rfl; go_simp; rw [show (Value.agg #[.bool x0, .bool x1, .bool x2, .bool x3, .bool x4, .bool x5]) = gv g from by rw [HGX.out]; rfl]; refine (lack_c r A HOK.out n0 p m v gs g HG.out P hP S T hS hS9 _ (HWK.out.below (hbq.trans ((hS0).be.mono hbq.size))) (hr.below (hbq.trans ((hS0).be.mono hbq.size)))).mono ?_; rintro e W1 ⟨rfl, hb1⟩; rw [← HR.out]; have hS1 := oldK hS0 hb1; refine hK _ _ hS1 ?_; clear hK K; try simp only [pz])
  repeat (first
    | (refine ord_skip rfl ?_ ?_; rfl; simp only [pz])
    | (refine ord_take (v := ?_) rfl ?_ (fun W hW => ?_) ?_; rotate_left; rfl; (obtain ⟨hz, hcc, hbb⟩ := hW; go_simp; (first | done | with_reducible rfl)); simp only [pz]))
  refine ord_nil ?_
  go_wp2_with fail
  go_ret
  exact ⟨rfl, hbq.trans (hS1.be.mono hbq.size)⟩

set_option maxHeartbeats 3000000 in
theorem verdict113_c (r : Riv) (A : RA) (n0 p m : Nat) (v : Value) (gs : List (List Bool)) (h6 : All6 gs) (h64 : gs.length ≤ 64) (q : List Bool → Bool) (bw bs br : Nat) (w : World) (hW : WorkB n0 w p r A v m gs)
    (hq : ∀ g ∈ gs, ∀ W : World, Below w.heap.size w W → Calls Try.prog 113 #[gv g, .pointer (some ⟨bw, 0, none⟩), .pointer (some ⟨bs, 0, none⟩), .pointer (some ⟨br, 0, none⟩)] W fun e w' => e = .returned (.bool (q g)) ∧ Below W.heap.size W w') :
    Calls Try.prog 78 #[.pointer (some ⟨p, 0, none⟩), .func (.func 113) #[] #[.pointer (some ⟨bw, 0, none⟩), .pointer (some ⟨bs, 0, none⟩), .pointer (some ⟨br, 0, none⟩)]] w fun e w' => e = .returned (.int .i64 (verdI q gs)) ∧ Below w.heap.size w w' := by
  obtain ⟨av, cv, rfl, hc10, hsl⟩ := hW.row
  have HQ := Lib.hid hq
  have HW := Lib.hid hW
  have hpl := cell_lt hc10
  clear hq hW
  go_enter Try.func78, Try.ntmps78
  go_wp2_with fail
  go_loopw [5, 7, 13] (fun y _ i wr => ∃ k : Nat, k ≤ gs.length ∧ i = .int .i64 k ∧ y = .int .i64 ((gs.take k).filter q).length ∧ Below w.heap.size w wr) (fun _ _ i _ => gs.length - (intOf i).toNat)
  case atStart => exact ⟨0, Nat.zero_le _, rfl, by simp, Below.refl _ _⟩
  case round =>
    obtain ⟨k, hk, rfl, rfl, hB⟩ := hrel
    by_cases hlt : k < gs.length
    · obtain ⟨x, hx⟩ : ∃ x, gs[k]? = some x := ⟨_, List.getElem?_eq_getElem hlt⟩
      have hX := Lib.hid hx
      have hx6 := h6 x (List.mem_of_getElem? hx)
      have hmem := Lib.hid (List.mem_of_getElem? hx)
      obtain ⟨b, o, x0, x1, x2, x3, x4, x5, rfl, hxe, h1, h2, h3, h4, h5, h7⟩ := Sl.gl_at h6 (hsl.below hB) hx
      have hXE := Lib.hid hxe
      have hFl := Lib.hid (filter_take_le q gs k)
      obtain ⟨cn, hcn⟩ : ∃ cn, cn = ((gs.take k).filter q).length := ⟨_, rfl⟩
      have hCN := Lib.hid hcn
      have hcb : cn ≤ 64 := by rw [hcn]; exact Nat.le_trans (filter_take_le q gs k) h64
      rw [← hcn]
      clear hx hxe hcn
      have hwc : IntKind.i64.wrap ((cn : Int) + 1) = (cn : Int) + 1 := IntWalk.i64_in _ (by omega)
      go_wp2_with fail
      rw [show (Value.agg #[.bool x0, .bool x1, .bool x2, .bool x3, .bool x4, .bool x5]) = gv x from by rw [hXE.out]; rfl]
      have hBa : Below w.heap.size w (wr.alloc (.cells #[.bool x0, .bool x1, .bool x2, .bool x3, .bool x4, .bool x5] 111)) := hB.alloc hB.size _
      refine (HQ.out x hmem.out _ hBa).mono ?_; rintro e w1 ⟨rfl, hb⟩
      have hB1 := hBa.trans (hb.mono hBa.size)
      cases ht : q x
      · go_wp2_with fail
        go_roundw
        case rel => exact ⟨k + 1, by omega, by go_num, by rw [take_filter_succ _ _ _ _ hX.out, ht, ← hCN.out]; simp, hB1⟩
        case measure => simp [intOf]; omega
      · go_wp2_with fail
        go_roundw
        case rel => exact ⟨k + 1, by omega, by go_num, by rw [take_filter_succ _ _ _ _ hX.out, ht, ← hCN.out]; simp, hB1⟩
        case measure => simp [intOf]; omega
    · obtain rfl : k = gs.length := by omega
      have hc' := (hB.cell (p := ⟨p, 10, none⟩) hpl).trans hc10
      obtain ⟨cn, hcn⟩ : ∃ cn, cn = (gs.filter q).length := ⟨_, rfl⟩
      have hCN := Lib.hid hcn
      rw [List.take_length, ← hcn]
      clear hcn
      by_cases e1 : cn = gs.length
      · have hv : verdI q gs = 1 := by unfold verdI; rw [← hCN.out, if_pos e1]
        have hVV := Lib.hid hv
        have et : ((cn : Int) == (gs.length : Int)) = true := by simp; omega
        clear hv e1
        go_wp2_with fail
        go_ret
        exact ⟨ret_int hVV.out.symm, hB⟩
      · have et : ((cn : Int) == (gs.length : Int)) = false := by simp; omega
        by_cases e2 : cn = 0
        · have hv : verdI q gs = 2 := by unfold verdI; rw [← hCN.out, if_neg e1, if_pos e2]
          have hVV := Lib.hid hv
          have et2 : ((cn : Int) == 0) = true := by simp; omega
          clear hv e1 e2
          go_wp2_with fail
          go_ret
          exact ⟨ret_int hVV.out.symm, hB⟩
        · have hv : verdI q gs = 3 := by unfold verdI; rw [← hCN.out, if_neg e1, if_neg e2]
          have hVV := Lib.hid hv
          have et2 : ((cn : Int) == 0) = false := by simp; omega
          clear hv e1 e2
          go_wp2_with fail
          go_ret
          exact ⟨ret_int hVV.out.symm, hB⟩

end Go.Proofs.Ytgglfngkomgadaa
/- Walks: Dry. -/
namespace Go.Proofs.Ytgglfngkomgadaa
open Go.RowKit Go.Shelf
set_option linter.unusedVariables false
set_option linter.unusedSimpArgs false
set_option maxRecDepth 100000

theorem planFrom_in (last : Int) (h5 : last ≤ 5) : ∀ (xs : List Int) (prev : Int), -1 ≤ prev → prev ≤ 5 → planFrom last prev xs = true → ∀ x ∈ xs, 0 ≤ x ∧ x ≤ 5
  | [], _, _, _, _, x, hx => by simp at hx
  | y :: ys, prev, h1, h2, h, x, hx => by
    simp only [planFrom, Bool.and_eq_true, inB, decide_eq_true_eq] at h
    have hw : wrap64 (prev + 1) = prev + 1 := by unfold wrap64; omega
    rw [hw] at h
    rcases List.mem_cons.1 hx with rfl | hx
    · omega
    · exact planFrom_in last h5 ys y (by omega) (by omega) h.2 x hx
theorem isPlanB_in (last : Int) (h5 : last ≤ 5) (xs : List Int) (h : isPlanB last xs = true) : ∀ x ∈ xs, 0 ≤ x ∧ x ≤ 5 := planFrom_in last h5 xs (-1) (by omega) (by omega) h
theorem oldW {n m : Nat} {w W W' : World} (hS : OldC n w W) (hw : Wr (fun k => k = m) W W') (hm : n ≤ m) : OldC n w W' :=
  ⟨Nat.le_trans hS.sz hw.size, fun b o h => by
    have : (fun k => k = m) b → False := fun e => by have : b = m := e; omega
    have hb : W'.heap[b]? = W.heap[b]? := hw.block b (by have := hS.sz; omega) this
    rw [← hS.ce b o h]; simp [World.cell?, hb], hS.be.trans (hw.below hS.sz fun k hk => by omega)⟩

def dryN (r : Riv) (xs : List Int) : Int := lacksI r (goodsL r) (bitsN xs) r.size (-1)
def dryA (r : Riv) (xs : List Int) : Int × Int := if askE r (isPlanB r.last xs) = 0 then (if r.last < dryN r xs then (0, 7) else (dryN r xs, 0)) else (0, askE r (isPlanB r.last xs))

set_option maxHeartbeats 3000000 in
theorem Dry_err (r : Riv) (A : RA) (a : Option Addr) (xs : List Int) (c : Nat) (w : World) (hr : Rd w r A) (hl1 : r.salt.length ≤ 30) (hl2 : r.mud.length ≤ 30) (hl3 : r.use.length ≤ 30) (hl4 : r.gauges.length ≤ 30)
    (hs : Sl w a (ints xs)) (hlen : xs.length ≤ 1000) (h : askE r (isPlanB r.last xs) ≠ 0) :
    Calls Try.prog 68 #[rivV r A, .slice a xs.length c] w (RetNE (0, askE r (isPlanB r.last xs)) w) := by
  obtain ⟨E, hE⟩ : ∃ E, E = askE r (isPlanB r.last xs) := ⟨_, rfl⟩
  have HE := Lib.hid hE
  have hne : (E == 0) = false := by rw [hE]; simpa using h
  have HN := Lib.hid h
  rw [← hE]
  clear hE h
  go_enter Try.func68, Try.ntmps68
  go_wp2_with fail
  obtain ⟨wq, hwq⟩ : ∃ wq, w.alloc (rivO r A) = wq := ⟨_, rfl⟩
  rw [hwq]
  have hq0 : wq.heap[w.heap.size]? = some (rivO r A) := by rw [← hwq]; exact heap_alloc_new _ _
  have hbq : Below w.heap.size w wq := by rw [← hwq]; exact (Below.refl _ w).alloc (Nat.le_refl _) _
  have hzq : wq.heap.size = w.heap.size + 1 := by rw [← hwq]; simp
  obtain ⟨k0, k1, k2, k3, k4, k5, k6, k7, k8, k9⟩ := riv_cells hq0
  have hlt0 : w.heap.size < wq.heap.size := by omega
  clear hwq hq0
  refine region_o (S := OldC wq.heap.size wq) (.take 0 (.take 1 (.take 2 (.one 3 (.one 4 (.take 5 (.take 6 (.take 7 (.take 8 (.take 9 .nil)))))))))) (by kernel_rfl) (by kernel_rfl) (fun _ _ d _ _ h => by cases d <;> exact h) (oldR (Nat.le_refl _)) ?_
  intro W0 hW0 hS0
  have hBW : Below wq.heap.size wq W0 := by subst hW0; exact (Below.refl _ _).drew
  clear hW0
  repeat (first
    | (refine ord_skip rfl ?_ ?_; rfl; simp only [pz])
    | (refine ord_take (v := ?_) rfl ?_ (fun W hW => ?_) ?_; rotate_left; rfl; (obtain ⟨hz, hcc, hbb⟩ := hW; go_simp; (first | done | with_reducible rfl)); simp only [pz]))
  (refine ord_op rfl ?_ (fun K hK => ?_); rfl; go_simp; refine (isPlan_c r A a xs c _ (hs.below (hbq.trans ((hS0).be.mono hbq.size))) hlen).mono ?_; rintro e W1 ⟨rfl, hb1⟩; have hS1 := oldK hS0 hb1; refine hK _ _ hS1 ?_; clear hK K; try simp only [pz])
  (refine ord_op rfl ?_ (fun K hK => ?_); rfl; go_simp; refine (asked_err r A _ _ (hr.below (hbq.trans ((hS1).be.mono hbq.size))) hl1 hl2 hl3 hl4 HN.out).mono ?_; rintro e W2 ⟨rfl, hb2⟩; rw [← HE.out]; have hS2 := oldK hS1 hb2; refine hK _ _ hS2 ?_; clear hK K; try simp only [pz])
  repeat (first
    | (refine ord_skip rfl ?_ ?_; rfl; simp only [pz])
    | (refine ord_take (v := ?_) rfl ?_ (fun W hW => ?_) ?_; rotate_left; rfl; (obtain ⟨hz, hcc, hbb⟩ := hW; go_simp; (first | done | with_reducible rfl)); simp only [pz]))
  refine ord_nil ?_
  go_wp2_with fail
  refine bodyPost_ret (v := .tuple #[.int .i64 0, .int .i64 E]) (by simp [results, Try.results68, go_sem]) rfl ⟨rfl, hbq.trans (hS2.be.mono hbq.size)⟩

set_option maxHeartbeats 4000000 in
theorem Dry_ok (r : Riv) (A : RA) (a : Option Addr) (xs : List Int) (c : Nat) (w : World) (hr : Rd w r A) (hl1 : r.salt.length ≤ 30) (hl2 : r.mud.length ≤ 30) (hl3 : r.use.length ≤ 30) (hl4 : r.gauges.length ≤ 30)
    (hs : Sl w a (ints xs)) (hlen : xs.length ≤ 1000) (h : askE r (isPlanB r.last xs) = 0) :
    Calls Try.prog 68 #[rivV r A, .slice a xs.length c] w (RetNE (if r.last < dryN r xs then (0, 7) else (dryN r xs, 0)) w) := by
  have HOK := Lib.hid (ok_of_fault (ask_ok h).1).1
  have hxs := Lib.hid (isPlanB_in r.last HOK.out.l5 xs (ask_ok h).2.1)
  have HN := Lib.hid h
  obtain ⟨N, hN⟩ : ∃ N, N = dryN r xs := ⟨_, rfl⟩
  have HNN := Lib.hid hN
  rw [← hN]
  obtain ⟨Rp, hRp⟩ : ∃ Rp : Int × Int, Rp = if r.last < N then (0, 7) else (N, 0) := ⟨_, rfl⟩
  have HRP := Lib.hid hRp
  rw [← hRp]
  clear h hN hRp
  go_enter Try.func68, Try.ntmps68
  go_wp2_with fail
  obtain ⟨wq, hwq⟩ : ∃ wq, w.alloc (rivO r A) = wq := ⟨_, rfl⟩
  rw [hwq]
  have hq0 : wq.heap[w.heap.size]? = some (rivO r A) := by rw [← hwq]; exact heap_alloc_new _ _
  have hbq : Below w.heap.size w wq := by rw [← hwq]; exact (Below.refl _ w).alloc (Nat.le_refl _) _
  have hzq : wq.heap.size = w.heap.size + 1 := by rw [← hwq]; simp
  obtain ⟨k0, k1, k2, k3, k4, k5, k6, k7, k8, k9⟩ := riv_cells hq0
  have hlt0 : w.heap.size < wq.heap.size := by omega
  clear hwq hq0
  refine region_o (S := OldC wq.heap.size wq) (.take 0 (.take 1 (.take 2 (.one 3 (.one 4 (.take 5 (.take 6 (.take 7 (.take 8 (.take 9 .nil)))))))))) (by kernel_rfl) (by kernel_rfl) (fun _ _ d _ _ h => by cases d <;> exact h) (oldR (Nat.le_refl _)) ?_
  intro W0 hW0 hS0
  have hBW : Below wq.heap.size wq W0 := by subst hW0; exact (Below.refl _ _).drew
  clear hW0
  repeat (first
    | (refine ord_skip rfl ?_ ?_; rfl; simp only [pz])
    | (refine ord_take (v := ?_) rfl ?_ (fun W hW => ?_) ?_; rotate_left; rfl; (obtain ⟨hz, hcc, hbb⟩ := hW; go_simp; (first | done | with_reducible rfl)); simp only [pz]))
  (refine ord_op rfl ?_ (fun K hK => ?_); rfl; go_simp; refine (isPlan_c r A a xs c _ (hs.below (hbq.trans ((hS0).be.mono hbq.size))) hlen).mono ?_; rintro e W1 ⟨rfl, hb1⟩; have hS1 := oldK hS0 hb1; refine hK _ _ hS1 ?_; clear hK K; try simp only [pz])
  (refine ord_op rfl ?_ (fun K hK => ?_); rfl; go_simp; obtain ⟨w1', hw1'⟩ : ∃ n, n = (W1).heap.size := ⟨_, rfl⟩; refine (asked_ok r A _ _ (hr.below (hbq.trans ((hS1).be.mono hbq.size))) hl1 hl2 hl3 hl4 HN.out).mono ?_; rintro e W2 ⟨p, v, m, rfl, hWB, hmp, hb2⟩; rw [← hw1'] at hWB; have hlt9 : w.heap.size < w1' := (by rw [hw1']; exact Nat.lt_of_lt_of_le hlt0 (hS1).be.size); have hW12 : w1' ≤ W2.heap.size := (by rw [hw1']; exact hb2.size); clear hw1'; have hS2 := oldK hS1 hb2; refine hK _ _ hS2 ?_; clear hK K; try simp only [pz])
  repeat (first
    | (refine ord_skip rfl ?_ ?_; rfl; simp only [pz])
    | (refine ord_take (v := ?_) rfl ?_ (fun W hW => ?_) ?_; rotate_left; rfl; (obtain ⟨hz, hcc, hbb⟩ := hW; go_simp; (first | done | with_reducible rfl)); simp only [pz]))
  refine ord_nil ?_
  have HB2 := Lib.hid (hbq.trans (hS2.be.mono hbq.size))
  have c5 := (hS2.ce _ 5 hlt0).trans k5
  have c0 := (hS2.ce _ 0 hlt0).trans k0
  have hw12 : w1' ≤ W2.heap.size := hW12
  clear hS2 hS1 hS0 hBW k0 k1 k2 k3 k4 k5 k6 k7 k8 k9
  go_wp2_with fail
  refine region_o (S := OldC w1' W2) (.take 0 (.take 1 (.take 3 (.take 4 (.one 2 (.take 5 (.one 6 (.take 7 .nil)))))))) (by kernel_rfl) (by kernel_rfl) (fun _ _ d _ _ h => by cases d <;> exact h) (oldR hw12) ?_
  intro W0 hW0 hS0
  have hBW : Below W2.heap.size W2 W0 := by subst hW0; exact (Below.refl _ _).drew
  clear hW0
  repeat (first
    | (refine ord_skip rfl ?_ ?_; rfl; simp only [pz])
    | (refine ord_take (v := ?_) rfl ?_ (fun W hW => ?_) ?_; rotate_left; rfl; (obtain ⟨hz, hcc, hbb⟩ := hW; go_simp; (first | done | with_reducible rfl)); simp only [pz]))
  (refine ord_op rfl ?_ (fun K hK => ?_); rfl; go_simp; refine (bits_c a xs c _ (hs.below (HB2.out.trans ((hS0).be.mono (by omega)))) hlen hxs.out).mono ?_; rintro e w1 ⟨rfl, hb64, rfl⟩; obtain ⟨W1, hW⟩ : ∃ Q, Q = W0 := ⟨_, rfl⟩; subst hW; have hS1 := hS0; refine hK _ _ hS1 ?_; clear hK K; try simp only [pz])
  repeat (first
    | (refine ord_skip rfl ?_ ?_; rfl; simp only [pz])
    | (refine ord_take (v := ?_) rfl ?_ (fun W hW => ?_) ?_; rotate_left; rfl; (obtain ⟨hz, hcc, hbb⟩ := hW; go_simp; (first | done | with_reducible rfl)); simp only [pz]))
  (refine ord_op rfl ?_ (fun K hK => ?_); rfl; go_simp; refine (lacks_c r A HOK.out w1' p m v (goodsL r) (goodsL_6 r) (goodsL_64 r) (bitsN xs) hb64 r.size (-1) HOK.out.sz.1 HOK.out.sz.2 (by omega) (by omega) _ (hWB.below hBW) (hr.below (HB2.out.trans ((hS1).be.mono (by omega)))) (memo_below (memo_new hmp) hBW)).mono ?_; rintro e W2 ⟨rfl, hwr2, hmm2⟩; rw [show lacksI r (goodsL r) (bitsN xs) r.size (-1) = N from HNN.out.symm]; have hS2 := oldW hS1 hwr2 hWB.hm; refine hK _ _ hS2 ?_; clear hK K; try simp only [pz])
  repeat (first
    | (refine ord_skip rfl ?_ ?_; rfl; simp only [pz])
    | (refine ord_take (v := ?_) rfl ?_ (fun W hW => ?_) ?_; rotate_left; rfl; (obtain ⟨hz, hcc, hbb⟩ := hW; go_simp; (first | done | with_reducible rfl)); simp only [pz]))
  refine ord_nil ?_
  have d0 := (hS2.ce _ 0 hlt9).trans c0
  have hBf := HB2.out.trans (hS2.be.mono (by omega))
  by_cases hc : r.last < N
  · have hrp : Rp = (0, 7) := by rw [HRP.out, if_pos hc]
    have HR2 := Lib.hid hrp
    clear hrp
    go_wp2_with fail
    refine bodyPost_ret (v := .tuple #[.int .i64 0, .int .i64 7]) (by simp [results, Try.results68, go_sem]) rfl ⟨by rw [HR2.out], hBf⟩
  · have hrp : Rp = (N, 0) := by rw [HRP.out, if_neg hc]
    have HR2 := Lib.hid hrp
    clear hrp
    go_wp2_with fail
    refine bodyPost_ret (v := .tuple #[.int .i64 N, .int .i64 0]) (by simp [results, Try.results68, go_sem]) rfl ⟨by rw [HR2.out], hBf⟩

theorem Dry_c (r : Riv) (A : RA) (a : Option Addr) (xs : List Int) (c : Nat) (w : World) (hr : Rd w r A) (hl1 : r.salt.length ≤ 30) (hl2 : r.mud.length ≤ 30) (hl3 : r.use.length ≤ 30) (hl4 : r.gauges.length ≤ 30)
    (hs : Sl w a (ints xs)) (hlen : xs.length ≤ 1000) :
    Calls Try.prog 68 #[rivV r A, .slice a xs.length c] w (RetNE (dryA r xs) w) := by
  unfold dryA
  by_cases h : askE r (isPlanB r.last xs) = 0
  · rw [if_pos h]; exact Dry_ok r A a xs c w hr hl1 hl2 hl3 hl4 hs hlen h
  · rw [if_neg h]; exact Dry_err r A a xs c w hr hl1 hl2 hl3 hl4 hs hlen h
end Go.Proofs.Ytgglfngkomgadaa
