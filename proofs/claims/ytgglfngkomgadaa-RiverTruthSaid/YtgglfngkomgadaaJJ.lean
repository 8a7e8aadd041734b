/- the fewest days -/
import Derived.WalkMore
import Derived.Test.YtgglfngkomgadaaJH
/- Walks: the choice of days, one after the other (fewest's closure). -/
namespace Go.Proofs.Ytgglfngkomgadaa
open Go.RowKit Go.Shelf
set_option linter.unusedVariables false
set_option linter.unusedSimpArgs false
set_option maxRecDepth 100000

/-- The first choice of so many numbers more below N, from one on, behind a list, that is fine. -/
def chooseF (N : Nat) (fine : List Int → Bool) : Nat → List Int → Nat → Option (List Int)
  | 0, xs, _ => if fine xs then some xs else none
  | k + 1, xs, fr => (List.range' fr (N - k - fr)).findSome? fun (d : Nat) => chooseF N fine k (xs ++ [(d : Int)]) (d + 1)
def sureB (r : Riv) (gs : List (List Bool)) (S T : Int) (xs : List Int) : Bool := decide (r.last < lacksI r gs (bitsN xs) S T)

abbrev chCaps (fb bw bs cb : Nat) : Array Value := #[.pointer (some ⟨fb, 0, none⟩), .pointer (some ⟨bw, 0, none⟩), .pointer (some ⟨bs, 0, none⟩), .pointer (some ⟨cb, 0, none⟩)]
structure ChS (p m : Nat) (v : Value) (fb bw bs cb : Nat) : Prop where
  fm : fb ≠ m
  pf : p ≠ fb
  pm : p ≠ m
  vf : ∀ k, v.ownBlock = some k → k ≠ fb
  vm : ∀ k, v.ownBlock = some k → k ≠ m
  wm : bw ≠ m
  wf : bw ≠ fb
  sm : bs ≠ m
  sf : bs ≠ fb
  cm : cb ≠ m
  cf : cb ≠ fb
structure ChI (w0 : World) (n0 : Nat) (r : Riv) (A : RA) (p m : Nat) (v : Value) (gs : List (List Bool)) (T : Int) (fb bw bs cb : Nat) (W : World) : Prop where
  b : Below w0.heap.size w0 W
  nm : w0.heap.size ≤ m
  nf : w0.heap.size ≤ fb
  wk : WorkB n0 W p r A v m gs
  mm : Memo W m (knowF r gs)
  ff : ∃ a n c, W.heap[fb]? = some (.cells #[.slice a n c] 23 (0, 0))
  bwc : W.cell? ⟨bw, 0, none⟩ = some (.pointer (some ⟨p, 0, none⟩))
  bsc : W.cell? ⟨bs, 0, none⟩ = some (.int .i64 T)
  cbc : W.cell? ⟨cb, 0, none⟩ = some (.func (.func 121) #[] (chCaps fb bw bs cb))
abbrev chW (m fb : Nat) (k : Nat) : Prop := k = m ∨ k = fb
section
variable {w0 : World} {n0 : Nat} {r : Riv} {A : RA} {p m : Nat} {v : Value} {gs : List (List Bool)} {T : Int} {fb bw bs cb : Nat} {W W' : World}
theorem ChI.wr (h : ChI w0 n0 r A p m v gs T fb bw bs cb W) (hs : ChS p m v fb bw bs cb) (hw : Wr (chW m fb) W W') (hm : Memo W' m (knowF r gs)) (hf : ∃ a n c, W'.heap[fb]? = some (.cells #[.slice a n c] 23 (0, 0))) : ChI w0 n0 r A p m v gs T fb bw bs cb W' :=
  ⟨h.b.trans (hw.below h.b.size fun k hk => by rcases hk with rfl | rfl; exact h.nm; exact h.nf), h.nm, h.nf,
   h.wk.wr hw (fun hk => by rcases hk with e | e; exact hs.pm e; exact hs.pf e) (fun k hk hk' => by rcases hk' with e | e; exact hs.vm k hk e; exact hs.vf k hk e), hm, hf,
   hw.cell (fun hk => by rcases hk with e | e; exact hs.wm e; exact hs.wf e) h.bwc, hw.cell (fun hk => by rcases hk with e | e; exact hs.sm e; exact hs.sf e) h.bsc, hw.cell (fun hk => by rcases hk with e | e; exact hs.cm e; exact hs.cf e) h.cbc⟩
theorem ChI.below (h : ChI w0 n0 r A p m v gs T fb bw bs cb W) (hb : Below W.heap.size W W') : ChI w0 n0 r A p m v gs T fb bw bs cb W' := by
  obtain ⟨a, n, c, hf⟩ := h.ff
  have hw : Wr (fun _ => False) W W' := Wr.of_below hb
  exact ⟨h.b.trans (hb.mono h.b.size), h.nm, h.nf, h.wk.below hb, memo_below h.mm hb, ⟨a, n, c, hw.blk (fun e => e) hf⟩, hw.cell (fun e => e) h.bwc, hw.cell (fun e => e) h.bsc, hw.cell (fun e => e) h.cbc⟩
end
def ChPost (w0 : World) (n0 : Nat) (r : Riv) (A : RA) (p m : Nat) (v : Value) (gs : List (List Bool)) (T : Int) (fb bw bs cb : Nat) (R : Option (List Int)) (W : World) (e : Ending) (W' : World) : Prop :=
  Wr (chW m fb) W W' ∧ ChI w0 n0 r A p m v gs T fb bw bs cb W' ∧
    ((R = none ∧ e = .returned (.bool false)) ∨ ∃ ys a c, R = some ys ∧ e = .returned (.bool true) ∧ W'.heap[fb]? = some (.cells #[.slice a ys.length c] 23 (0, 0)) ∧ Sl W' a (ints ys))
/-- What the regions read. -/
def ChR (bw bs p : Nat) (L Z T : Int) (W : World) : Prop := W.cell? ⟨bw, 0, none⟩ = some (.pointer (some ⟨p, 0, none⟩)) ∧ W.cell? ⟨bs, 0, none⟩ = some (.int .i64 T) ∧ W.cell? ⟨p, 0, none⟩ = some (.int .i64 L) ∧ W.cell? ⟨p, 5, none⟩ = some (.int .i64 Z)
theorem ChR.wr {bw bs p : Nat} {L Z T : Int} {W W' : World} {C : Nat → Prop} (h : ChR bw bs p L Z T W) (hw : Wr C W W') (h1 : ¬ C bw) (h2 : ¬ C bs) (h3 : ¬ C p) : ChR bw bs p L Z T W' :=
  ⟨hw.cell h1 h.1, hw.cell h2 h.2.1, hw.cell h3 h.2.2.1, hw.cell h3 h.2.2.2⟩
theorem ChI.rd {w0 : World} {n0 : Nat} {r : Riv} {A : RA} {p m : Nat} {v : Value} {gs : List (List Bool)} {T : Int} {fb bw bs cb : Nat} {W : World} (h : ChI w0 n0 r A p m v gs T fb bw bs cb W) : ChR bw bs p r.last r.size T W := by
  obtain ⟨k0, k1, k2, k3, k4, k5, k6⟩ := h.wk.cells
  exact ⟨h.bwc, h.bsc, k0, k5⟩

set_option maxHeartbeats 3000000 in
theorem choose0_c (w0 : World) (n0 : Nat) (r : Riv) (A : RA) (p m : Nat) (v : Value) (gs : List (List Bool)) (T : Int) (fb bw bs cb : Nat) (hs : ChS p m v fb bw bs cb) (ok : Ok r) (hr : Rd w0 r A) (h6 : All6 gs) (h64 : gs.length ≤ 64) (hT : -1 ≤ T) (hT9 : T ≤ 99)
    (xs : List Int) (fr : Nat) (a : Option Addr) (c : Nat) (W : World) (hI : ChI w0 n0 r A p m v gs T fb bw bs cb W) (hx : Sl W a (ints xs)) (hxl : xs.length ≤ 100) (hxs : ∀ x ∈ xs, 0 ≤ x ∧ x ≤ 5)
    (ha : ∀ ad, a = some ad → ad.block ≠ m ∧ ad.block ≠ fb) :
    Calls Try.prog 121 (#[.slice a xs.length c, .int .i64 fr, .int .i64 0] ++ chCaps fb bw bs cb) W (ChPost w0 n0 r A p m v gs T fb bw bs cb (if sureB r gs r.size T xs then some xs else none) W) := by
  obtain ⟨R, hR⟩ : ∃ R, R = if sureB r gs r.size T xs then some xs else none := ⟨_, rfl⟩
  have HR := Lib.hid hR
  rw [← hR]
  have HOK := Lib.hid ok
  have HI := Lib.hid hI
  have HS := Lib.hid hs
  have HA := Lib.hid ha
  obtain ⟨fa, fn, fc, hf⟩ := hI.ff
  have HF := Lib.hid hf
  have c0 : W.cell? ⟨fb, 0, none⟩ = some (.slice fa fn fc) := by rw [cell_blk hf]; rfl
  have f0 := frozen_blk (k := 0) hf
  clear ok hI hs ha hf hR
  go_enter Try.func121, Try.ntmps121
  go_wp2_with fail
  obtain ⟨Wq, hWq⟩ : ∃ Wq, Wq = W.setCell ⟨fb, 0, none⟩ (.slice a xs.length c) := ⟨_, rfl⟩
  have hw1 : Wr (chW m fb) W Wq := by rw [hWq]; exact Wr.setCell _ _ _ _ (Or.inr rfl)
  have hf1 : Wq.heap[fb]? = some (.cells #[.slice a xs.length c] 23 (0, 0)) := by rw [hWq, heap_set HF.out]; rfl
  have hm1 : Memo Wq m (knowF r gs) := by
    obtain ⟨es, ck, h1, h2⟩ := HI.out.mm
    exact ⟨es, ck, by rw [hWq]; exact (Below.heap_setCell _ _ _ _ (fun e => HS.out.fm e.symm)).trans h1, h2⟩
  have hI1 := HI.out.wr HS.out hw1 hm1 ⟨_, _, _, hf1⟩
  have hx1 := hx.wr hw1 (fun ad e hk => by have := HA.out ad e; rcases hk with e | e; exact this.1 e; exact this.2 e)
  have HI1 := Lib.hid hI1
  have HW1 := Lib.hid hw1
  have HF1 := Lib.hid hf1
  rw [← hWq]
  clear hWq hw1 hf1 hm1 hI1 c0 f0 hx
  have hR1 := HI1.out.rd
  refine region_o (S := ChR bw bs p r.last r.size T) (.take 0 (.take 1 (.take 3 (.take 4 (.take 5 (.take 6 (.take 7 (.take 8 (.take 11 (.take 12 (.take 13 (.take 14 (.take 15 (.one 2 (.take 9 (.one 10 (.take 16 (.take 17 .nil)))))))))))))))))) (by kernel_rfl) (by kernel_rfl) (fun _ _ d _ _ h => by cases d <;> exact h) (hR1.wr (Wr.of_below (S := fun _ => False) (Below.refl _ _).drew) (fun h => h) (fun h => h) (fun h => h)) ?_
  intro W0 hW0 hS0
  have hBW : Below Wq.heap.size Wq W0 := by subst hW0; exact (Below.refl _ _).drew
  clear hW0
  repeat (first
    | (refine ord_skip rfl ?_ ?_; rfl; simp only [pz])
    | (refine ord_take (v := ?_) rfl ?_ (fun W hW => ?_) ?_; rotate_left; rfl; (obtain ⟨hz0, hz1, hz2, hz3⟩ := hW; go_simp; (first | done | with_reducible rfl)); simp only [pz]))
  (refine ord_op rfl ?_ (fun K hK => ?_); rfl; go_simp; refine (bits_c a xs c _ (hx1.below hBW) (by omega) hxs).mono ?_; rintro e w1 ⟨rfl, hb64, rfl⟩; obtain ⟨W1, hWj⟩ : ∃ Q, Q = W0 := ⟨_, rfl⟩; subst hWj; have HB64 := Lib.hid hb64; have hS1 := hS0; refine hK _ _ hS1 ?_; clear hK K; try simp only [pz])
  repeat (first
    | (refine ord_skip rfl ?_ ?_; rfl; simp only [pz])
    | (refine ord_take (v := ?_) rfl ?_ (fun W hW => ?_) ?_; rotate_left; rfl; (obtain ⟨hz0, hz1, hz2, hz3⟩ := hW; go_simp; (first | done | with_reducible rfl)); simp only [pz]))
  refine ord_op rfl ?_ (fun K hK => ?_)
  rfl
  go_simp
  obtain ⟨N, hN⟩ : ∃ N, N = lacksI r gs (bitsN xs) r.size T := ⟨_, rfl⟩
  have HN := Lib.hid hN
  refine (lacks_c r A HOK.out n0 p m v gs h6 h64 (bitsN xs) HB64.out r.size T HOK.out.sz.1 HOK.out.sz.2 hT hT9 _ (HI1.out.below hBW).wk (hr.below (HI1.out.below hBW).b) (HI1.out.below hBW).mm).mono ?_
  rintro e W2 ⟨rfl, hwr, hmm⟩
  rw [← hN]
  clear hN
  have hwr' : Wr (chW m fb) W1 W2 := hwr.mono (fun k hk => Or.inl hk)
  have hS2 := ChR.wr hS1 hwr (fun e => HS.out.wm e) (fun e => HS.out.sm e) (fun e => HS.out.pm e)
  have HWR := Lib.hid (((HW1.out).trans (Wr.of_below hBW)).trans hwr')
  have hfm : ¬ (fb = m) := HS.out.fm
  have hf2 := hwr.blk (k := fb) hfm ((hBW.block _ (Array.getElem?_eq_some_iff.1 HF1.out).1).trans HF1.out)
  have HF2 := Lib.hid hf2
  have HI2 := Lib.hid ((HI1.out.below hBW).wr HS.out hwr' hmm ⟨_, _, _, hf2⟩)
  have hx2 := Lib.hid ((hx1.below hBW).wr hwr (fun ad e hk => (HA.out ad e).1 hk))
  clear hwr hmm hwr' hf2 hfm
  refine hK _ _ hS2 ?_
  clear hK K
  try simp only [pz]
  repeat (first
    | (refine ord_skip rfl ?_ ?_; rfl; simp only [pz])
    | (refine ord_take (v := ?_) rfl ?_ (fun W hW => ?_) ?_; rotate_left; rfl; (obtain ⟨hz0, hz1, hz2, hz3⟩ := hW; go_simp; (first | done | with_reducible rfl)); simp only [pz]))
  refine ord_nil ?_
  by_cases hc : r.last < N
  · have hdc : decide (r.last < N) = true := by simpa using hc
    have HC := Lib.hid hc
    clear hc
    go_wp2_with fail
    go_ret
    refine ⟨HWR.out, HI2.out, .inr ⟨xs, a, c, ?_, show Ending.returned (.bool (decide (r.last < N))) = _ from ret_bool (by simpa using HC.out), HF2.out, hx2.out⟩⟩
    have : sureB r gs r.size T xs = true := by unfold sureB; rw [← HN.out]; simpa using HC.out
    rw [HR.out, if_pos this]
  · have hdc : decide (r.last < N) = false := by simpa using hc
    have HC := Lib.hid hc
    clear hc
    go_wp2_with fail
    go_ret
    refine ⟨HWR.out, HI2.out, .inl ⟨?_, rfl⟩⟩
    have : sureB r gs r.size T xs = false := by unfold sureB; rw [← HN.out]; simpa using HC.out
    rw [HR.out, if_neg (by rw [this]; simp)]

end Go.Proofs.Ytgglfngkomgadaa
/- Walks: the choice of days, on. -/
namespace Go.Proofs.Ytgglfngkomgadaa
open Go.RowKit Go.Shelf
set_option linter.unusedVariables false
set_option linter.unusedSimpArgs false
set_option maxRecDepth 100000

theorem chooseF_step (N : Nat) (fine : List Int → Bool) (k : Nat) (xs : List Int) (q : Nat) (h : q < N - k) :
    (List.range' q (N - k - q)).findSome? (fun (d : Nat) => chooseF N fine k (xs ++ [(d : Int)]) (d + 1)) =
      match chooseF N fine k (xs ++ [(q : Int)]) (q + 1) with
      | some ys => some ys
      | none => (List.range' (q + 1) (N - k - (q + 1))).findSome? (fun (d : Nat) => chooseF N fine k (xs ++ [(d : Int)]) (d + 1)) := by
  have e : N - k - q = (N - k - (q + 1)) + 1 := by omega
  rw [e, List.range'_succ, List.findSome?_cons]
  cases chooseF N fine k (xs ++ [(q : Int)]) (q + 1) <;> rfl
theorem chooseF_end (N : Nat) (fine : List Int → Bool) (k : Nat) (xs : List Int) (q : Nat) (h : ¬ q < N - k) :
    (List.range' q (N - k - q)).findSome? (fun (d : Nat) => chooseF N fine k (xs ++ [(d : Int)]) (d + 1)) = none := by
  have e : N - k - q = 0 := by omega
  rw [e]; rfl
theorem own_sep {w : World} {base : Nat} {e : TypeId} {size : Nat} {a : Option Addr} {n n' c : Nat} {cs : List Value} (h : w.ownsRow base e size (.slice a n c) n' cs) : ∀ ad, a = some ad → base ≤ ad.block := by
  intro ad e; subst e
  exact (h.lt ad.block rfl).1

set_option maxHeartbeats 2000000 in
theorem choose_c (w0 : World) (n0 : Nat) (r : Riv) (A : RA) (p m : Nat) (v : Value) (gs : List (List Bool)) (T : Int) (fb bw bs cb : Nat) (hs : ChS p m v fb bw bs cb) (ok : Ok r) (hr : Rd w0 r A) (h6 : All6 gs) (h64 : gs.length ≤ 64) (hT : -1 ≤ T) (hT9 : T ≤ 99) (N : Nat) (hN : (N : Int) = r.last + 1) :
    ∀ (k : Nat) (xs : List Int) (fr : Nat) (a : Option Addr) (c : Nat) (W : World), ChI w0 n0 r A p m v gs T fb bw bs cb W → Sl W a (ints xs) → xs.length + k ≤ 100 → k ≤ 100 → fr ≤ 100 → (∀ x ∈ xs, 0 ≤ x ∧ x ≤ 5) →
    (∀ ad, a = some ad → ad.block ≠ m ∧ ad.block ≠ fb) →
    Calls Try.prog 121 (#[.slice a xs.length c, .int .i64 fr, .int .i64 k] ++ chCaps fb bw bs cb) W (ChPost w0 n0 r A p m v gs T fb bw bs cb (chooseF N (sureB r gs r.size T) k xs fr) W) := by
  intro k
  induction k with
  | zero =>
    intro xs fr a c W hI hx hxl _ _ hxs ha
    exact choose0_c w0 n0 r A p m v gs T fb bw bs cb hs ok hr h6 h64 hT hT9 xs fr a c W hI hx (by omega) hxs ha
  | succ k ih =>
    intro xs fr a c W hI hx hxl hk hfr hxs ha
    obtain ⟨R, hR⟩ : ∃ R, R = chooseF N (sureB r gs r.size T) (k + 1) xs fr := ⟨_, rfl⟩
    have hR2 : R = (List.range' fr (N - k - fr)).findSome? (fun (d : Nat) => chooseF N (sureB r gs r.size T) k (xs ++ [(d : Int)]) (d + 1)) := hR
    have HR := Lib.hid hR2
    rw [← hR]
    have HOK := Lib.hid ok
    have HI := Lib.hid hI
    have HS := Lib.hid hs
    have HA := Lib.hid ha
    have IH := Lib.hid ih
    have HN := Lib.hid hN
    have HX := Lib.hid hx
    have l5 := ok.l5
    have l0 := ok.l0
    have hk0 : (((k : Int) + 1) == 0) = false := by simp; omega
    have kc : (((k + 1 : Nat)) : Int) = (k : Int) + 1 := by omega
    rw [kc]
    clear ok hI hs ha hR hR2 ih hN hx kc
    go_enter Try.func121, Try.ntmps121
    go_wp2_with fail
    go_loopw [11] (fun d wr => ∃ q : Nat, d = .int .i64 q ∧ q ≤ 100 ∧ fr ≤ q ∧ Wr (chW m fb) W wr ∧ ChI w0 n0 r A p m v gs T fb bw bs cb wr ∧
      Hid (R = (List.range' q (N - k - q)).findSome? (fun (d : Nat) => chooseF N (sureB r gs r.size T) k (xs ++ [(d : Int)]) (d + 1)))) (fun d _ => 200 - (intOf d).toNat)
    case atStart => exact ⟨fr, rfl, hfr, Nat.le_refl _, Wr.refl _ _, HI.out, HR⟩
    case round =>
      obtain ⟨q, rfl, hq, hfq, hw, hI, HRq⟩ := hrel
      obtain ⟨z0, z1, z2, z3⟩ := hI.rd
      have zc := hI.cbc
      have HIq := Lib.hid hI
      have HWq := Lib.hid hw
      clear hI hw
      have e1 : IntKind.i64.wrap (r.last + 1) = r.last + 1 := IntWalk.i64_in _ (by omega)
      have e2 : IntKind.i64.wrap (r.last + 1 - ((k : Int) + 1)) = r.last + 1 - ((k : Int) + 1) := IntWalk.i64_in _ (by omega)
      by_cases hlt : q < N - k
      · have hle : decide ((q : Int) ≤ r.last + 1 - ((k : Int) + 1)) = true := by have := HN.out; simp; omega
        have hq5 : q ≤ 5 := by have := HN.out; omega
        have hst := chooseF_step N (sureB r gs r.size T) k xs q hlt
        have HST := Lib.hid hst
        obtain ⟨R1, hR1⟩ : ∃ R1, R1 = chooseF N (sureB r gs r.size T) k (xs ++ [(q : Int)]) (q + 1) := ⟨_, rfl⟩
        have HR1 := Lib.hid hR1
        have e3 : IntKind.i64.wrap ((q : Int) + 1) = (q : Int) + 1 := IntWalk.i64_in _ (by omega)
        have e4 : IntKind.i64.wrap (k : Int) = (k : Int) := IntWalk.i64_in _ (by omega)
        have HXq := Lib.hid (HX.out.wr HWq.out (fun ad e hk => by have := HA.out ad e; rcases hk with e | e; exact this.1 e; exact this.2 e))
        have HZC := Lib.hid zc
        clear hst hR1
        go_wp2_with fail
        refine region_o (S := fun W => W.cell? ⟨cb, 0, none⟩ = some (.func (.func 121) #[] (chCaps fb bw bs cb))) (.take 0 (.take 1 (.take 3 (.take 6 (.take 7 (.take 8 (.take 9 (.two 2 4 (.one 4 (.one 5 (.one 10 .nil))) (.one 2 (.one 5 (.one 10 .nil))))))))))) (by kernel_rfl) (by kernel_rfl) (fun _ _ d _ _ h => by cases d <;> exact h) (by simpa using zc) ?_
        intro W0 hW0 hS0
        have hBW : Below wr.heap.size wr W0 := by subst hW0; exact (Below.refl _ _).drew
        clear hW0
        have hBc := hBW
        repeat (first
          | (refine ord_skip rfl ?_ ?_; rfl; simp only [pz])
          | (refine ord_take (v := ?_) rfl ?_ (fun W hW => ?_) ?_; rotate_left; rfl; (obtain hz0 := hW; go_simp; (first | done | with_reducible rfl)); simp only [pz]))
        refine ord_two ?_ ?_
        · skip
          refine ord_op rfl ?_ (fun K hK => ?_)
          rfl
          go_simp
          refine (clone_c a xs c _ (HXq.out.below hBc) (by omega)).mono ?_
          rintro e W1 ⟨v1, rfl, hown, hb1⟩
          replace hown := own_mono hown hBc.size
          replace hBc := hBc.trans (hb1.mono hBc.size)
          try (replace hsl := hsl.below hb1)
          have hS1 := (by exact (hBc.cell (p := ⟨cb, 0, none⟩) (cell_lt HZC.out)).trans HZC.out)
          refine hK _ _ hS1 ?_
          clear hK K
          try simp only [pz]
          refine ord_op rfl ?_ (fun K hK => ?_)
          rfl
          go_simp
          obtain ⟨bx, hbx⟩ : ∃ n, n = (W1).heap.size := ⟨_, rfl⟩
          obtain ⟨W2, hW2⟩ : ∃ Q, Q = (W1).alloc (.cells #[.int .i64 q] 3) := ⟨_, rfl⟩
          have hbb : Below (W1).heap.size (W1) W2 := by rw [hW2]; exact (Below.refl _ _).alloc (Nat.le_refl _) _
          have hsl : Sl W2 (some ⟨bx, 0, none⟩) [.int .i64 q] := by rw [hW2, hbx]; exact Sl_new _ _ _
          try (replace hown := own_below hown hbb)
          replace hBc := hBc.trans (hbb.mono hBc.size)
          rw [← hW2, ← hbx]
          clear hW2 hbx hbb
          have hS2 := (by exact (hBc.cell (p := ⟨cb, 0, none⟩) (cell_lt HZC.out)).trans HZC.out)
          refine hK _ _ hS2 ?_
          clear hK K
          try simp only [pz]
          refine ord_op rfl ?_ (fun K hK => ?_)
          rfl
          skip
          refine wp_app elInt _ _ rfl rfl rfl hown hsl rfl (by intro u hu; simp at hu; subst hu; rfl) (by omega) (by omega) hBc.size ?_
          intro v7 W3 hown7 hg7 _
          replace hBc := hBc.grown hg7 hBc.size (fun k e => (hown.lt k e).1)
          obtain ⟨a7, c7, rfl, -, hsl7⟩ := own_Sl hown7
          have hsep := Lib.hid (own_sep hown7)
          have HSL7 := Lib.hid hsl7
          clear hown hown7 hg7 hsl hsl7
          have hS3 := (by exact (hBc.cell (p := ⟨cb, 0, none⟩) (cell_lt HZC.out)).trans HZC.out)
          refine hK _ _ hS3 ?_
          clear hK K
          try simp only [pz]
          refine ord_op rfl ?_ (fun K hK => ?_)
          rfl
          go_simp
          have ic := IH.out (xs ++ [(q : Int)]) (q + 1) a7 c7 _ (HIq.out.below hBc) (by rw [ints_append]; exact HSL7.out) (by simp; omega) (by omega) (by omega) (by intro x hx; rcases List.mem_append.1 hx with hx | hx; exact hxs x hx; simp at hx; omega) (fun ad e => by have h1 := hsep.out ad e; have h2 := (memo_lt HIq.out.mm); have h3 := HIq.out.ff; obtain ⟨_, _, _, h3⟩ := h3; have h4 := (Array.getElem?_eq_some_iff.1 h3).1; omega)
          rw [← HR1.out] at ic
          simp only [List.length_append, List.length_cons, List.length_nil, Nat.zero_add, Int.natCast_add, Int.cast_ofNat_Int] at ic
          refine ic.mono ?_
          clear ic
          rintro e W4 ⟨hw9, hI9, hD⟩
          obtain ⟨b9, rfl, hD9⟩ : ∃ b, e = .returned (.bool b) ∧ ((b = false ∧ R1 = none) ∨ (b = true ∧ ∃ ys a c, R1 = some ys ∧ W4.heap[fb]? = some (.cells #[.slice a ys.length c] 23 (0, 0)) ∧ Sl W4 a (ints ys))) := by
            rcases hD with ⟨h1, rfl⟩ | ⟨ys, a9, c9, h1, rfl, h2, h3⟩
            · exact ⟨false, rfl, .inl ⟨rfl, h1⟩⟩
            · exact ⟨true, rfl, .inr ⟨rfl, ys, a9, c9, h1, h2, h3⟩⟩
          have HD9 := Lib.hid hD9
          have hS4 := hI9.cbc
          have HW9 := Lib.hid (((HWq.out).trans (Wr.of_below hBc)).trans hw9)
          have HI9 := Lib.hid hI9
          clear hD hw9 hI9 hD9
          refine hK _ _ hS4 ?_
          clear hK K
          try simp only [pz]
          refine ord_nil ?_
          clear hBc hBW
          rcases HD9.out with ⟨rfl, h1⟩ | ⟨rfl, ys, a9, c9, h1, h2, h3⟩
          · have H1 := Lib.hid h1
            clear h1 HD9
            go_wp2_with fail
            go_roundw
            case rel => exact ⟨q + 1, by go_num, by omega, by omega, HW9.out, HI9.out, by show R = _; rw [HRq.out, HST.out, ← HR1.out, H1.out]⟩
            case measure => simp [intOf]; omega
          · have H1 := Lib.hid h1
            have H2 := Lib.hid h2
            have H3 := Lib.hid h3
            clear h1 h2 h3 HD9
            go_wp2_with fail
            go_ret
            exact ⟨HW9.out, HI9.out, .inr ⟨ys, a9, c9, by rw [HRq.out, HST.out, ← HR1.out, H1.out], rfl, H2.out, H3.out⟩⟩
        · skip
          refine ord_op rfl ?_ (fun K hK => ?_)
          rfl
          go_simp
          obtain ⟨bx, hbx⟩ : ∃ n, n = (W0).heap.size := ⟨_, rfl⟩
          obtain ⟨W5, hW5⟩ : ∃ Q, Q = (W0).alloc (.cells #[.int .i64 q] 3) := ⟨_, rfl⟩
          have hbb : Below (W0).heap.size (W0) W5 := by rw [hW5]; exact (Below.refl _ _).alloc (Nat.le_refl _) _
          have hsl : Sl W5 (some ⟨bx, 0, none⟩) [.int .i64 q] := by rw [hW5, hbx]; exact Sl_new _ _ _
          try (replace hown := own_below hown hbb)
          replace hBc := hBc.trans (hbb.mono hBc.size)
          rw [← hW5, ← hbx]
          clear hW5 hbx hbb
          have hS5 := (by exact (hBc.cell (p := ⟨cb, 0, none⟩) (cell_lt HZC.out)).trans HZC.out)
          refine hK _ _ hS5 ?_
          clear hK K
          try simp only [pz]
          refine ord_op rfl ?_ (fun K hK => ?_)
          rfl
          go_simp
          refine (clone_c a xs c _ (HXq.out.below hBc) (by omega)).mono ?_
          rintro e W6 ⟨v6, rfl, hown, hb6⟩
          replace hown := own_mono hown hBc.size
          replace hBc := hBc.trans (hb6.mono hBc.size)
          try (replace hsl := hsl.below hb6)
          have hS6 := (by exact (hBc.cell (p := ⟨cb, 0, none⟩) (cell_lt HZC.out)).trans HZC.out)
          refine hK _ _ hS6 ?_
          clear hK K
          try simp only [pz]
          refine ord_op rfl ?_ (fun K hK => ?_)
          rfl
          skip
          refine wp_app elInt _ _ rfl rfl rfl hown hsl rfl (by intro u hu; simp at hu; subst hu; rfl) (by omega) (by omega) hBc.size ?_
          intro v7 W7 hown7 hg7 _
          replace hBc := hBc.grown hg7 hBc.size (fun k e => (hown.lt k e).1)
          obtain ⟨a7, c7, rfl, -, hsl7⟩ := own_Sl hown7
          have hsep := Lib.hid (own_sep hown7)
          have HSL7 := Lib.hid hsl7
          clear hown hown7 hg7 hsl hsl7
          have hS7 := (by exact (hBc.cell (p := ⟨cb, 0, none⟩) (cell_lt HZC.out)).trans HZC.out)
          refine hK _ _ hS7 ?_
          clear hK K
          try simp only [pz]
          refine ord_op rfl ?_ (fun K hK => ?_)
          rfl
          go_simp
          have ic := IH.out (xs ++ [(q : Int)]) (q + 1) a7 c7 _ (HIq.out.below hBc) (by rw [ints_append]; exact HSL7.out) (by simp; omega) (by omega) (by omega) (by intro x hx; rcases List.mem_append.1 hx with hx | hx; exact hxs x hx; simp at hx; omega) (fun ad e => by have h1 := hsep.out ad e; have h2 := (memo_lt HIq.out.mm); have h3 := HIq.out.ff; obtain ⟨_, _, _, h3⟩ := h3; have h4 := (Array.getElem?_eq_some_iff.1 h3).1; omega)
          rw [← HR1.out] at ic
          simp only [List.length_append, List.length_cons, List.length_nil, Nat.zero_add, Int.natCast_add, Int.cast_ofNat_Int] at ic
          refine ic.mono ?_
          clear ic
          rintro e W8 ⟨hw9, hI9, hD⟩
          obtain ⟨b9, rfl, hD9⟩ : ∃ b, e = .returned (.bool b) ∧ ((b = false ∧ R1 = none) ∨ (b = true ∧ ∃ ys a c, R1 = some ys ∧ W8.heap[fb]? = some (.cells #[.slice a ys.length c] 23 (0, 0)) ∧ Sl W8 a (ints ys))) := by
            rcases hD with ⟨h1, rfl⟩ | ⟨ys, a9, c9, h1, rfl, h2, h3⟩
            · exact ⟨false, rfl, .inl ⟨rfl, h1⟩⟩
            · exact ⟨true, rfl, .inr ⟨rfl, ys, a9, c9, h1, h2, h3⟩⟩
          have HD9 := Lib.hid hD9
          have hS8 := hI9.cbc
          have HW9 := Lib.hid (((HWq.out).trans (Wr.of_below hBc)).trans hw9)
          have HI9 := Lib.hid hI9
          clear hD hw9 hI9 hD9
          refine hK _ _ hS8 ?_
          clear hK K
          try simp only [pz]
          refine ord_nil ?_
          clear hBc hBW
          rcases HD9.out with ⟨rfl, h1⟩ | ⟨rfl, ys, a9, c9, h1, h2, h3⟩
          · have H1 := Lib.hid h1
            clear h1 HD9
            go_wp2_with fail
            go_roundw
            case rel => exact ⟨q + 1, by go_num, by omega, by omega, HW9.out, HI9.out, by show R = _; rw [HRq.out, HST.out, ← HR1.out, H1.out]⟩
            case measure => simp [intOf]; omega
          · have H1 := Lib.hid h1
            have H2 := Lib.hid h2
            have H3 := Lib.hid h3
            clear h1 h2 h3 HD9
            go_wp2_with fail
            go_ret
            exact ⟨HW9.out, HI9.out, .inr ⟨ys, a9, c9, by rw [HRq.out, HST.out, ← HR1.out, H1.out], rfl, H2.out, H3.out⟩⟩

      · have hle : decide ((q : Int) ≤ r.last + 1 - ((k : Int) + 1)) = false := by have := HN.out; simp; omega
        go_wp2_with fail
        go_ret
        refine ⟨HWq.out, HIq.out, .inl ⟨?_, rfl⟩⟩
        rw [HRq.out, chooseF_end _ _ _ _ _ hlt]
end Go.Proofs.Ytgglfngkomgadaa
/- Walks: the fewest days. -/
namespace Go.Proofs.Ytgglfngkomgadaa
open Go.RowKit Go.Shelf
set_option linter.unusedVariables false
set_option linter.unusedSimpArgs false
set_option maxRecDepth 100000

def fewestF (N : Nat) (fine : List Int → Bool) : Option (List Int) := (List.range (N + 1)).findSome? fun k => chooseF N fine k [] 0
theorem fewF_step (N : Nat) (fine : List Int → Bool) (k : Nat) (h : k < N + 1) :
    (List.range' k (N + 1 - k)).findSome? (fun k => chooseF N fine k [] 0) =
      match chooseF N fine k [] 0 with
      | some ys => some ys
      | none => (List.range' (k + 1) (N + 1 - (k + 1))).findSome? (fun k => chooseF N fine k [] 0) := by
  have e : N + 1 - k = (N + 1 - (k + 1)) + 1 := by omega
  rw [e, List.range'_succ, List.findSome?_cons]
  cases chooseF N fine k [] 0 <;> rfl
def FewPost (m : Nat) (R : Option (List Int)) (W : World) (e : Ending) (W' : World) : Prop :=
  Wr (fun k => k = m) W W' ∧ ((R = none ∧ ∃ a n c, e = .returned (.tuple #[.slice a n c, .bool false])) ∨ ∃ ys a c, R = some ys ∧ e = .returned (.tuple #[.slice a ys.length c, .bool true]) ∧ Sl W' a (ints ys))
theorem wr_new {m fb : Nat} {c a b : World} (hc : Below c.heap.size c a) (h : Wr (chW m fb) a b) (hf : c.heap.size ≤ fb) : Wr (fun k => k = m) c b :=
  ⟨h.os.trans hc.os, h.tape.trans hc.tape, h.output.trans hc.output, Nat.le_trans hc.size h.size, fun k hk hn => (h.block k (Nat.lt_of_lt_of_le hk hc.size) (fun e => by rcases e with e | e; exact hn e; omega)).trans (hc.block k hk)⟩
theorem setCell_same {w : World} {b : Nat} {x : Value} {t : TypeId} (h : w.heap[b]? = some (.cells #[x] t (0, 0))) (b' o : Nat) : (w.setCell ⟨b, 0, none⟩ x).cell? ⟨b', o, none⟩ = w.cell? ⟨b', o, none⟩ := by
  by_cases e : b' = b
  · subst e
    rw [cell_blk (heap_set h x), cell_blk h]; rfl
  · unfold World.cell?
    rw [Below.heap_setCell _ _ _ _ (by simpa using e)]
theorem Sl.same {w : World} {b : Nat} {x : Value} {t : TypeId} (h : w.heap[b]? = some (.cells #[x] t (0, 0))) {a : Option Addr} {cs : List Value} (hs : Sl w a cs) : Sl (w.setCell ⟨b, 0, none⟩ x) a cs := by
  rcases hs with hs | ⟨b', o, ha, hA⟩
  · exact .inl hs
  · exact .inr ⟨b', o, ha, fun i v hv => (setCell_same h b' (o + i)).trans (hA i v hv)⟩

set_option maxHeartbeats 3000000 in
theorem fewest_c (w0 : World) (n0 : Nat) (r : Riv) (A : RA) (p m : Nat) (v : Value) (gs : List (List Bool)) (T : Int) (ok : Ok r) (hr : Rd w0 r A) (h6 : All6 gs) (h64 : gs.length ≤ 64) (hT : -1 ≤ T) (hT9 : T ≤ 99) (N : Nat) (hN : (N : Int) = r.last + 1)
    (W : World) (hb : Below w0.heap.size w0 W) (hn : w0.heap.size ≤ n0) (hW : WorkB n0 W p r A v m gs) (hm : Memo W m (knowF r gs)) :
    Calls Try.prog 85 #[.pointer (some ⟨p, 0, none⟩), .int .i64 T] W (FewPost m (fewestF N (sureB r gs r.size T)) W) := by
  obtain ⟨R, hR⟩ : ∃ R, R = fewestF N (sureB r gs r.size T) := ⟨_, rfl⟩
  have hR2 : R = (List.range' 0 (N + 1 - 0)).findSome? (fun k => chooseF N (sureB r gs r.size T) k [] 0) := by rw [hR, fewestF, List.range_eq_range']; rfl
  have HR := Lib.hid hR2
  rw [← hR]
  have HOK := Lib.hid ok
  have HWK := Lib.hid hW
  have HM := Lib.hid hm
  have HB := Lib.hid hb
  have HN := Lib.hid hN
  have l5 := ok.l5
  have l0 := ok.l0
  have kc := Lib.hid (hW.cells)
  have hml := memo_lt hm
  have hpl := (Array.getElem?_eq_some_iff.1 hW.blk).1
  have hk0 : W.cell? ⟨p, 0, none⟩ = some (.int .i64 r.last) := hW.cells.1
  clear ok hR hR2 hN hW hm hb
  go_enter Try.func85, Try.ntmps85
  go_wp2_with fail
  go_step3
  go_wp2_with fail
  obtain ⟨W4, hW4⟩ : ∃ Q, Q = (((W.alloc (Obj.cells #[Value.pointer (some ⟨p, 0, none⟩)] 105)).alloc (Obj.cells #[Value.int .i64 T] 3)).alloc (Obj.cells #[Value.slice none 0 0] 23)).alloc (Obj.cells #[Value.func (Fn.func 121) #[] #[Value.pointer (some ⟨W.heap.size + 1 + 1, 0, none⟩), Value.pointer (some ⟨W.heap.size, 0, none⟩), Value.pointer (some ⟨W.heap.size + 1, 0, none⟩), Value.pointer (some ⟨W.heap.size + 1 + 1 + 1, 0, none⟩)]] 145) := ⟨_, rfl⟩
  have hb4 : Below W.heap.size W W4 := by rw [hW4]; exact ((((Below.refl _ W).alloc (Nat.le_refl _) _).alloc (by simp) _).alloc (by simp; omega) _).alloc (by simp; omega) _
  have g0 : W4.cell? ⟨W.heap.size, 0, none⟩ = some (.pointer (some ⟨p, 0, none⟩)) := by rw [hW4]; go_simp
  have g1 : W4.cell? ⟨W.heap.size + 1, 0, none⟩ = some (.int .i64 T) := by rw [hW4]; go_simp
  have g3 : W4.cell? ⟨W.heap.size + 1 + 1 + 1, 0, none⟩ = some (.func (.func 121) #[] (chCaps (W.heap.size + 1 + 1) W.heap.size (W.heap.size + 1) (W.heap.size + 1 + 1 + 1))) := by rw [hW4]; go_simp
  have g2 : W4.heap[W.heap.size + 1 + 1]? = some (.cells #[.slice none 0 0] 23 (0, 0)) := by
    rw [hW4, Below.heap_alloc _ _ _ (by simp)]
    have h2 := heap_alloc_new ((W.alloc (Obj.cells #[Value.pointer (some ⟨p, 0, none⟩)] 105)).alloc (Obj.cells #[Value.int .i64 T] 3)) (.cells #[.slice none 0 0] 23)
    simpa using h2
  have hS : ChS p m v (W.heap.size + 1 + 1) W.heap.size (W.heap.size + 1) (W.heap.size + 1 + 1 + 1) :=
    ⟨by omega, by omega, HWK.out.hne.symm, fun k hk => by have := (HWK.out.own.lt k hk).2; omega, fun k hk e => HWK.out.sep.2 (e ▸ hk), by omega, by omega, by omega, by omega, by omega, by omega⟩
  have hI : ChI w0 n0 r A p m v gs T (W.heap.size + 1 + 1) W.heap.size (W.heap.size + 1) (W.heap.size + 1 + 1 + 1) W4 :=
    ⟨HB.out.trans (hb4.mono HB.out.size), Nat.le_trans hn HWK.out.hm, by have := HB.out.size; omega, HWK.out.below hb4, memo_below HM.out hb4, ⟨_, _, _, g2⟩, g0, g1, g3⟩
  have e2 : IntKind.i64.wrap (r.last + 2) = r.last + 2 := IntWalk.i64_in _ (by omega)
  have hc0 := (hb4.cell (p := ⟨p, 0, none⟩) hpl).trans hk0
  have HI := Lib.hid hI
  have HS := Lib.hid hS
  have HB4 := Lib.hid hb4
  obtain ⟨fb, hfb⟩ : ∃ n, n = W.heap.size + 1 + 1 := ⟨_, rfl⟩
  have HFB := Lib.hid hfb
  rw [← hW4]
  clear hW4 hI hS hb4 g2 hk0 hfb
  go_step3
  go_wp2_with fail
  go_loopw [5, 7, 15] (fun u5 _ i wr => ∃ k : Nat, k ≤ N + 1 ∧ i = .int .i64 k ∧ (∃ b, u5 = .bool b ∧ (b = false)) ∧ Wr (chW m (W.heap.size + 1 + 1)) W4 wr ∧ ChI w0 n0 r A p m v gs T (W.heap.size + 1 + 1) W.heap.size (W.heap.size + 1) (W.heap.size + 1 + 1 + 1) wr ∧
      Hid (R = (List.range' k (N + 1 - k)).findSome? (fun k => chooseF N (sureB r gs r.size T) k [] 0))) (fun _ _ i _ => N + 1 - (intOf i).toNat)
  case atStart => exact ⟨0, Nat.zero_le _, rfl, ⟨_, rfl, rfl⟩, Wr.refl _ _, HI.out, HR⟩
  case round =>
    obtain ⟨k, hk, rfl, ⟨_, rfl, rfl⟩, hw, hI, HRq⟩ := hrel
    have zc := hI.cbc
    have HIq := Lib.hid hI
    have HWq := Lib.hid hw
    have hNN : (N : Int) ≤ 6 := by have := HN.out; omega
    clear hI hw
    by_cases hlt : k < N + 1
    · have hle : decide ((k : Int) < r.last + 2) = true := by have := HN.out; simp; omega
      have hst := fewF_step N (sureB r gs r.size T) k hlt
      have HST := Lib.hid hst
      obtain ⟨R1, hR1⟩ : ∃ R1, R1 = chooseF N (sureB r gs r.size T) k [] 0 := ⟨_, rfl⟩
      have HR1 := Lib.hid hR1
      clear hst hR1
      go_wp2_with fail
      have ic := choose_c w0 n0 r A p m v gs T (W.heap.size + 1 + 1) W.heap.size (W.heap.size + 1) (W.heap.size + 1 + 1 + 1) HS.out HOK.out hr h6 h64 hT hT9 N HN.out k [] 0 none 0 _ HIq.out (.inl rfl) (by simp; omega) (by omega) (by omega) (by simp) (fun ad e => by cases e)
      rw [← HR1.out] at ic
      simp only [List.length_nil, Int.natCast_zero, Int.cast_ofNat_Int] at ic
      refine ic.mono ?_
      clear ic
      rintro e w9 ⟨hw9, hI9, ⟨h1, rfl⟩ | ⟨ys, a9, c9, h1, rfl, h2, h3⟩⟩
      · have H1 := Lib.hid h1
        have HI9 := Lib.hid hI9
        have HW9 := Lib.hid (HWq.out.trans hw9)
        clear h1 hI9 hw9
        go_wp2_with fail
        go_roundw
        case rel => exact ⟨k + 1, by omega, by go_num, ⟨_, rfl, rfl⟩, HW9.out, HI9.out, by show R = _; rw [HRq.out, HST.out, ← HR1.out, H1.out]⟩
        case measure => simp [intOf]; omega
      · have H1 := Lib.hid h1
        have H2 := Lib.hid h2
        have H3 := Lib.hid h3
        have HW9 := Lib.hid (HWq.out.trans hw9)
        have f0 := frozen_blk (k := 0) h2
        have c0 : w9.cell? ⟨W.heap.size + 1 + 1, 0, none⟩ = some (.slice a9 ys.length c9) := by rw [cell_blk h2]; rfl
        clear h1 h2 h3 hI9 hw9
        go_wp2_with fail
        have c1 : (w9.setCell ⟨W.heap.size + 1 + 1, 0, none⟩ (.slice a9 ys.length c9)).cell? ⟨W.heap.size + 1 + 1, 0, none⟩ = some (.slice a9 ys.length c9) := (setCell_same H2.out _ _).trans c0
        rw [Exit.noGoto_ret]
        refine bodyPost_ret (v := .tuple #[.slice a9 ys.length c9, .bool true]) (by simp [results, Try.results85, go_sem, c1]) rfl ⟨?_, .inr ⟨ys, a9, c9, by rw [HRq.out, HST.out, ← HR1.out, H1.out], rfl, H3.out.same H2.out⟩⟩
        exact wr_new HB4.out (HW9.out.trans (Wr.setCell _ _ _ _ (Or.inr rfl))) (by omega)
    · have hle : decide ((k : Int) < r.last + 2) = false := by have := HN.out; simp; omega
      obtain ⟨fa, fn, fc, hf⟩ := HIq.out.ff
      have f0 := frozen_blk (k := 0) hf
      have c0 : wr.cell? ⟨W.heap.size + 1 + 1, 0, none⟩ = some (.slice fa fn fc) := by rw [cell_blk hf]; rfl
      have HF := Lib.hid hf
      clear hf
      go_wp2_with fail
      have c1 : (wr.setCell ⟨W.heap.size + 1 + 1, 0, none⟩ (.slice fa fn fc)).cell? ⟨W.heap.size + 1 + 1, 0, none⟩ = some (.slice fa fn fc) := (setCell_same HF.out _ _).trans c0
      rw [Exit.noGoto_ret]
      refine bodyPost_ret (v := .tuple #[.slice fa fn fc, .bool false]) (by simp [results, Try.results85, go_sem, c1]) rfl ⟨?_, .inl ⟨?_, fa, fn, fc, rfl⟩⟩
      · exact wr_new HB4.out (HWq.out.trans (Wr.setCell _ _ _ _ (Or.inr rfl))) (by omega)
      · have e0 : N + 1 - k = 0 := by omega
        rw [HRq.out, e0]; rfl
end Go.Proofs.Ytgglfngkomgadaa
/- Walks: Fewest, Storm. -/
namespace Go.Proofs.Ytgglfngkomgadaa
open Go.RowKit Go.Shelf
set_option linter.unusedVariables false
set_option linter.unusedSimpArgs false
set_option maxRecDepth 100000

def fewR : Option (List Int) → List Int × Int
  | some ys => (ys, 0)
  | none => ([], 10)
def fewA (r : Riv) (fine : Bool) (T : Int) : List Int × Int :=
  if askE r fine = 0 then fewR (fewestF (r.last + 1).toNat (sureB r (goodsL r) r.size T)) else ([], askE r fine)
def RetLE (x : List Int × Int) (w : World) (e : Ending) (w' : World) : Prop := ∃ a c, e = .returned (.tuple #[.slice a x.1.length c, .int .i64 x.2]) ∧ Sl w' a (ints x.1) ∧ Below w.heap.size w w'

set_option maxHeartbeats 2000000 in
theorem Fewest_err (r : Riv) (A : RA) (w : World) (hr : Rd w r A) (hl1 : r.salt.length ≤ 30) (hl2 : r.mud.length ≤ 30) (hl3 : r.use.length ≤ 30) (hl4 : r.gauges.length ≤ 30) (h : askE r true ≠ 0) :
    Calls Try.prog 36 #[rivV r A] w (RetLE ([], askE r true) w) := by
  obtain ⟨E, hE⟩ : ∃ E, E = askE r true := ⟨_, rfl⟩
  have HE := Lib.hid hE
  have hne : (E == 0) = false := by rw [hE]; simpa using h
  have HN := Lib.hid h
  rw [← hE]
  clear hE h
  go_enter Try.func36, Try.ntmps36
  go_wp2_with fail
  have hb := (Below.refl w.heap.size w).alloc (Nat.le_refl _) (rivO r A)
  refine (asked_err r A _ _ (hr.below hb) hl1 hl2 hl3 hl4 HN.out).mono ?_
  rintro e w2 ⟨rfl, hb2⟩
  rw [← HE.out]
  go_wp2_with fail
  refine bodyPost_ret (v := .tuple #[.slice none 0 0, .int .i64 E]) (by simp [results, Try.results36, go_sem]) rfl ⟨none, 0, rfl, .inl rfl, hb.trans (hb2.mono hb.size)⟩

set_option maxHeartbeats 2000000 in
theorem Fewest_ok (r : Riv) (A : RA) (w : World) (hr : Rd w r A) (hl1 : r.salt.length ≤ 30) (hl2 : r.mud.length ≤ 30) (hl3 : r.use.length ≤ 30) (hl4 : r.gauges.length ≤ 30) (h : askE r true = 0) :
    Calls Try.prog 36 #[rivV r A] w (RetLE (fewR (fewestF (r.last + 1).toNat (sureB r (goodsL r) r.size (-1)))) w) := by
  have HOK := Lib.hid (ok_of_fault (ask_ok h).1).1
  have HN := Lib.hid h
  obtain ⟨R, hR⟩ : ∃ R, R = fewestF (r.last + 1).toNat (sureB r (goodsL r) r.size (-1)) := ⟨_, rfl⟩
  have HR := Lib.hid hR
  rw [← hR]
  clear h hR
  go_enter Try.func36, Try.ntmps36
  go_wp2_with fail
  have hb := (Below.refl w.heap.size w).alloc (Nat.le_refl _) (rivO r A)
  obtain ⟨wq, hwq⟩ : ∃ wq, w.alloc (rivO r A) = wq := ⟨_, rfl⟩
  rw [hwq] at hb ⊢
  have hzq : w.heap.size ≤ wq.heap.size := hb.size
  clear hwq
  refine (asked_ok r A _ _ (hr.below hb) hl1 hl2 hl3 hl4 HN.out).mono ?_
  rintro e w2 ⟨p, v, m, rfl, hWB, hmp, hb2⟩
  have HMP := Lib.hid hmp
  clear hmp
  go_wp2_with fail
  refine (fewest_c wq wq.heap.size r A p m v (goodsL r) (-1) HOK.out (hr.below hb) (goodsL_6 r) (goodsL_64 r) (by omega) (by omega) (r.last + 1).toNat (by have := HOK.out.l0; omega) w2 hb2 (Nat.le_refl _) hWB (memo_new HMP.out)).mono ?_
  rw [← HR.out]
  rintro e w3 ⟨hw3, (⟨h1, a, n, c, rfl⟩ | ⟨ys, a, c, h1, rfl, hs⟩)⟩
  · have HW3 := Lib.hid hw3
    have H1 := Lib.hid h1
    clear hw3 h1
    go_wp2_with fail
    refine bodyPost_ret (v := .tuple #[.slice none 0 0, .int .i64 10]) (by simp [results, Try.results36, go_sem]) rfl ?_
    rw [H1.out]
    exact ⟨none, 0, rfl, .inl rfl, (hb.trans (hb2.mono hzq)).trans (HW3.out.below (Nat.le_trans hzq hb2.size) (fun k e => by have : k = m := e; have := hWB.hm; omega))⟩
  · have HW3 := Lib.hid hw3
    have H1 := Lib.hid h1
    have HSL := Lib.hid hs
    clear hw3 h1 hs
    go_wp2_with fail
    refine bodyPost_ret (v := .tuple #[.slice a ys.length c, .int .i64 0]) (by simp [results, Try.results36, go_sem]) rfl ?_
    rw [H1.out]
    exact ⟨a, c, rfl, HSL.out, (hb.trans (hb2.mono hzq)).trans (HW3.out.below (Nat.le_trans hzq hb2.size) (fun k e => by have : k = m := e; have := hWB.hm; omega))⟩

theorem Fewest_c (r : Riv) (A : RA) (w : World) (hr : Rd w r A) (hl1 : r.salt.length ≤ 30) (hl2 : r.mud.length ≤ 30) (hl3 : r.use.length ≤ 30) (hl4 : r.gauges.length ≤ 30) :
    Calls Try.prog 36 #[rivV r A] w (RetLE (fewA r true (-1)) w) := by
  unfold fewA
  by_cases h : askE r true = 0
  · rw [if_pos h]; exact Fewest_ok r A w hr hl1 hl2 hl3 hl4 h
  · rw [if_neg h]; exact Fewest_err r A w hr hl1 hl2 hl3 hl4 h

set_option maxHeartbeats 2000000 in
theorem Storm_err (r : Riv) (A : RA) (day : Int) (w : World) (hr : Rd w r A) (hl1 : r.salt.length ≤ 30) (hl2 : r.mud.length ≤ 30) (hl3 : r.use.length ≤ 30) (hl4 : r.gauges.length ≤ 30) (h : askE r (inB day 0 r.last) ≠ 0) :
    Calls Try.prog 42 #[rivV r A, .int .i64 day] w (RetLE ([], askE r (inB day 0 r.last)) w) := by
  obtain ⟨E, hE⟩ : ∃ E, E = askE r (inB day 0 r.last) := ⟨_, rfl⟩
  have HE := Lib.hid hE
  have hne : (E == 0) = false := by rw [hE]; simpa using h
  have HN := Lib.hid h
  rw [← hE]
  clear hE h
  go_enter Try.func42, Try.ntmps42
  go_wp2_with fail
  obtain ⟨wq, hwq⟩ : ∃ wq, w.alloc (rivO r A) = wq := ⟨_, rfl⟩
  rw [hwq]
  have hq0 : wq.heap[w.heap.size]? = some (rivO r A) := by rw [← hwq]; exact heap_alloc_new _ _
  have hbq : Below w.heap.size w wq := by rw [← hwq]; exact (Below.refl _ w).alloc (Nat.le_refl _) _
  have hzq : wq.heap.size = w.heap.size + 1 := by rw [← hwq]; simp
  obtain ⟨k0, k1, k2, k3, k4, k5, k6, k7, k8, k9⟩ := riv_cells hq0
  have hlt0 : w.heap.size < wq.heap.size := by omega
  clear hwq hq0
  refine region_o (S := OldC wq.heap.size wq) (.take 0 (.take 1 (.take 2 (.one 3 (.one 4 (.take 5 (.take 6 (.take 7 (.take 8 (.take 9 .nil)))))))))) (by kernel_rfl) (by kernel_rfl) (fun _ _ d _ _ h => by cases d <;> exact h) (oldR (Nat.le_refl _)) ?_
  intro W0 hW0 hS0
  have hBW : Below wq.heap.size wq W0 := by subst hW0; exact (Below.refl _ _).drew
  clear hW0
  repeat (first
    | (refine ord_skip rfl ?_ ?_; rfl; simp only [pz])
    | (refine ord_take (v := ?_) rfl ?_ (fun W hW => ?_) ?_; rotate_left; rfl; (obtain ⟨hz, hcc, hbb⟩ := hW; go_simp; (first | done | with_reducible rfl)); simp only [pz]))
  (refine ord_op rfl ?_ (fun K hK => ?_); rfl; go_simp; refine (day_c r A day _).mono ?_; rintro e W1 ⟨rfl, hb1⟩; have hS1 := oldK hS0 hb1; refine hK _ _ hS1 ?_; clear hK K; try simp only [pz])
  (refine ord_op rfl ?_ (fun K hK => ?_); rfl; go_simp; refine (asked_err r A _ _ (hr.below (hbq.trans ((hS1).be.mono hbq.size))) hl1 hl2 hl3 hl4 HN.out).mono ?_; rintro e W2 ⟨rfl, hb2⟩; rw [← HE.out]; have hS2 := oldK hS1 hb2; refine hK _ _ hS2 ?_; clear hK K; try simp only [pz])
  repeat (first
    | (refine ord_skip rfl ?_ ?_; rfl; simp only [pz])
    | (refine ord_take (v := ?_) rfl ?_ (fun W hW => ?_) ?_; rotate_left; rfl; (obtain ⟨hz, hcc, hbb⟩ := hW; go_simp; (first | done | with_reducible rfl)); simp only [pz]))
  refine ord_nil ?_
  go_wp2_with fail
  refine bodyPost_ret (v := .tuple #[.slice none 0 0, .int .i64 E]) (by simp [results, Try.results42, go_sem]) rfl ⟨none, 0, rfl, .inl rfl, hbq.trans (hS2.be.mono hbq.size)⟩

set_option maxHeartbeats 2000000 in
theorem Storm_ok (r : Riv) (A : RA) (day : Int) (w : World) (hr : Rd w r A) (hl1 : r.salt.length ≤ 30) (hl2 : r.mud.length ≤ 30) (hl3 : r.use.length ≤ 30) (hl4 : r.gauges.length ≤ 30) (h : askE r (inB day 0 r.last) = 0) :
    Calls Try.prog 42 #[rivV r A, .int .i64 day] w (RetLE (fewR (fewestF (r.last + 1).toNat (sureB r (goodsL r) r.size day))) w) := by
  have HOK := Lib.hid (ok_of_fault (ask_ok h).1).1
  have HN := Lib.hid h
  have hday := (ask_ok h).2.1
  simp only [inB, decide_eq_true_eq] at hday
  have hl5 := HOK.out.l5
  obtain ⟨R, hR⟩ : ∃ R, R = fewestF (r.last + 1).toNat (sureB r (goodsL r) r.size day) := ⟨_, rfl⟩
  have HR := Lib.hid hR
  rw [← hR]
  clear h hR
  go_enter Try.func42, Try.ntmps42
  go_wp2_with fail
  obtain ⟨wq, hwq⟩ : ∃ wq, w.alloc (rivO r A) = wq := ⟨_, rfl⟩
  rw [hwq]
  have hq0 : wq.heap[w.heap.size]? = some (rivO r A) := by rw [← hwq]; exact heap_alloc_new _ _
  have hbq : Below w.heap.size w wq := by rw [← hwq]; exact (Below.refl _ w).alloc (Nat.le_refl _) _
  have hzq : wq.heap.size = w.heap.size + 1 := by rw [← hwq]; simp
  obtain ⟨k0, k1, k2, k3, k4, k5, k6, k7, k8, k9⟩ := riv_cells hq0
  have hlt0 : w.heap.size < wq.heap.size := by omega
  clear hwq hq0
  refine region_o (S := OldC wq.heap.size wq) (.take 0 (.take 1 (.take 2 (.one 3 (.one 4 (.take 5 (.take 6 (.take 7 (.take 8 (.take 9 .nil)))))))))) (by kernel_rfl) (by kernel_rfl) (fun _ _ d _ _ h => by cases d <;> exact h) (oldR (Nat.le_refl _)) ?_
  intro W0 hW0 hS0
  have hBW : Below wq.heap.size wq W0 := by subst hW0; exact (Below.refl _ _).drew
  clear hW0
  repeat (first
    | (refine ord_skip rfl ?_ ?_; rfl; simp only [pz])
    | (refine ord_take (v := ?_) rfl ?_ (fun W hW => ?_) ?_; rotate_left; rfl; (obtain ⟨hz, hcc, hbb⟩ := hW; go_simp; (first | done | with_reducible rfl)); simp only [pz]))
  (refine ord_op rfl ?_ (fun K hK => ?_); rfl; go_simp; refine (day_c r A day _).mono ?_; rintro e W1 ⟨rfl, hb1⟩; have hS1 := oldK hS0 hb1; refine hK _ _ hS1 ?_; clear hK K; try simp only [pz])
  (refine ord_op rfl ?_ (fun K hK => ?_); rfl; go_simp; obtain ⟨w1', hw1'⟩ : ∃ n, n = (W1).heap.size := ⟨_, rfl⟩; refine (asked_ok r A _ _ (hr.below (hbq.trans ((hS1).be.mono hbq.size))) hl1 hl2 hl3 hl4 HN.out).mono ?_; rintro e W2 ⟨p, v, m, rfl, hWB, hmp, hb2⟩; rw [← hw1'] at hWB; have hW1' : w.heap.size ≤ w1' := (by rw [hw1']; have := (hS1).sz; omega); clear hw1'; have hS2 := oldK hS1 hb2; refine hK _ _ hS2 ?_; clear hK K; try simp only [pz])
  repeat (first
    | (refine ord_skip rfl ?_ ?_; rfl; simp only [pz])
    | (refine ord_take (v := ?_) rfl ?_ (fun W hW => ?_) ?_; rotate_left; rfl; (obtain ⟨hz, hcc, hbb⟩ := hW; go_simp; (first | done | with_reducible rfl)); simp only [pz]))
  refine ord_nil ?_
  have hzq : w.heap.size ≤ wq.heap.size := hbq.size
  have hB2 := Lib.hid (hbq.trans (hS2.be.mono hzq))
  have HMP := Lib.hid hmp
  have HW1 := Lib.hid hW1'
  clear hmp hS2 hS1 hS0 hBW k0 k1 k2 k3 k4 k5 k6 k7 k8 k9 hW1'
  go_wp2_with fail
  refine (fewest_c w w1' r A p m v (goodsL r) day HOK.out hr (goodsL_6 r) (goodsL_64 r) (by omega) (by omega) (r.last + 1).toNat (by have := HOK.out.l0; omega) W2 hB2.out HW1.out hWB (memo_new HMP.out)).mono ?_
  rw [← HR.out]
  rintro e w3 ⟨hw3, (⟨h1, a, n, c, rfl⟩ | ⟨ys, a, c, h1, rfl, hs⟩)⟩
  · have HW3 := Lib.hid hw3
    have H1 := Lib.hid h1
    clear hw3 h1
    go_wp2_with fail
    refine bodyPost_ret (v := .tuple #[.slice none 0 0, .int .i64 10]) (by simp [results, Try.results42, go_sem]) rfl ?_
    rw [H1.out]
    exact ⟨none, 0, rfl, .inl rfl, hB2.out.trans (HW3.out.below hB2.out.size (fun k e => by have : k = m := e; have := hWB.hm; have := HW1.out; omega))⟩
  · have HW3 := Lib.hid hw3
    have H1 := Lib.hid h1
    have HSL := Lib.hid hs
    clear hw3 h1 hs
    go_wp2_with fail
    refine bodyPost_ret (v := .tuple #[.slice a ys.length c, .int .i64 0]) (by simp [results, Try.results42, go_sem]) rfl ?_
    rw [H1.out]
    exact ⟨a, c, rfl, HSL.out, hB2.out.trans (HW3.out.below hB2.out.size (fun k e => by have : k = m := e; have := hWB.hm; have := HW1.out; omega))⟩

theorem Storm_c (r : Riv) (A : RA) (day : Int) (w : World) (hr : Rd w r A) (hl1 : r.salt.length ≤ 30) (hl2 : r.mud.length ≤ 30) (hl3 : r.use.length ≤ 30) (hl4 : r.gauges.length ≤ 30) :
    Calls Try.prog 42 #[rivV r A, .int .i64 day] w (RetLE (fewA r (inB day 0 r.last) day) w) := by
  unfold fewA
  by_cases h : askE r (inB day 0 r.last) = 0
  · rw [if_pos h]; exact Storm_ok r A day w hr hl1 hl2 hl3 hl4 h
  · rw [if_neg h]; exact Storm_err r A day w hr hl1 hl2 hl3 hl4 h
end Go.Proofs.Ytgglfngkomgadaa
