/- asking -/
import Derived.DeepKeys3
import Derived.WideKeyArr
import Derived.OrdersIn
import Derived.Test.YtgglfngkomgadaaJE
import Derived.Test.YtgglfngkomgadaaJD
/- Walks: is a good one among those that there are. -/
namespace Go.Proofs.Ytgglfngkomgadaa
open Go.RowKit Go.Shelf
set_option linter.unusedVariables false
set_option linter.unusedSimpArgs false
set_option maxRecDepth 100000

theorem exists6 (x : List Bool) (h : x.length = 6) : ∃ a b c d e f, x = [a, b, c, d, e, f] := by
  match x, h with
  | [a, b, c, d, e, f], _ => exact ⟨a, b, c, d, e, f, rfl⟩

theorem run_eq_bool' (x y : Bool) (w : World) : (Op.equalIn 9999 4 (.bool x) (.bool y)).run Try.prog w = .ok (x == y) w := run_equalIn_bool w 9998 4 x y Try.underlying4

theorem eqItems_bools (xs ys : List Bool) (w : World) : ∀ is : List Nat, (∀ i ∈ is, i < xs.length ∧ i < ys.length) →
    (Op.eqItems 9999 4 1 (xs.map Value.bool).toArray (ys.map Value.bool).toArray is).run Try.prog w = .ok (is.all fun i => xs.getD i false == ys.getD i false) w
  | [], _ => by simp [Op.eqItems]
  | i :: is, h => by
    have hi := h i (by simp)
    have p1 : (Go.part 4 (xs.map Value.bool).toArray (i * 1)).run Try.prog w = .ok (.bool (xs.getD i false)) w := run_part_plain w (by kernel_rfl) (by simp [List.getD, hi.1])
    have p2 : (Go.part 4 (ys.map Value.bool).toArray (i * 1)).run Try.prog w = .ok (.bool (ys.getD i false)) w := run_part_plain w (by kernel_rfl) (by simp [List.getD, hi.2])
    have ih := eqItems_bools xs ys w is (fun k hk => h k (by simp [hk]))
    simp only [Op.eqItems, Sem.run_bind, p1, p2, Result.andThen_ok, run_eq_bool']
    cases hc : (xs.getD i false == ys.getD i false)
    · simp only [List.all_cons, hc]; simp
    · simp only [List.all_cons, hc]; simpa using ih

theorem run_eq_good (x y : List Bool) (hx : x.length = 6) (hy : y.length = 6) (w : World) : (Op.equalIn 10000 111 (gv x) (gv y)).run Try.prog w = .ok (x == y) w := by
  obtain ⟨i, hi⟩ := Option.isSome_iff_exists.1 (by kernel_rfl : (Try.prog.info? 4).isSome = true)
  rw [show (10000 : Nat) = 9999 + 1 from rfl, run_equalIn_array (P := Try.prog) w 9999 _ _ Try.underlying111 hi]
  rw [show Try.prog.cellsOf 4 = 1 by kernel_rfl, eqItems_bools x y w _ (by intro i hi; have := List.mem_range.1 hi; omega)]
  obtain ⟨a, b, c, d, e, f, rfl⟩ := exists6 x hx
  obtain ⟨a', b', c', d', e', f', rfl⟩ := exists6 y hy

  simp [List.range_succ, Bool.and_assoc]

set_option maxHeartbeats 1000000 in
theorem eqGood_c (g x : List Bool) (bg : Nat) (w : World) (hg : g.length = 6) (hx : x.length = 6) (hb : w.heap[bg]? = some (.cells (g.map Value.bool).toArray 111 (0, 0))) :
    Calls Try.prog 117 #[gv x, .pointer (some ⟨bg, 0, none⟩)] w fun e w' => e = .returned (.bool (x == g)) ∧ Below w.heap.size w w' := by
  have heq := run_eq_good x g hx hg
  obtain ⟨a, b, c, d, e, f, rfl⟩ := exists6 x hx
  obtain ⟨a', b', c', d', e', f', rfl⟩ := exists6 g hg
  have hbl : bg < w.heap.size := (Array.getElem?_eq_some_iff.1 hb).1
  have c0 : w.cell? ⟨bg, 0, none⟩ = some (.bool a') := by rw [cell_blk hb]; rfl
  have c1 : w.cell? ⟨bg, 1, none⟩ = some (.bool b') := by rw [cell_blk hb]; rfl
  have c2 : w.cell? ⟨bg, 2, none⟩ = some (.bool c') := by rw [cell_blk hb]; rfl
  have c3 : w.cell? ⟨bg, 3, none⟩ = some (.bool d') := by rw [cell_blk hb]; rfl
  have c4 : w.cell? ⟨bg, 4, none⟩ = some (.bool e') := by rw [cell_blk hb]; rfl
  have c5 : w.cell? ⟨bg, 5, none⟩ = some (.bool f') := by rw [cell_blk hb]; rfl
  clear hb
  simp only [gv, List.map_cons, List.map_nil] at heq
  obtain ⟨v, hv⟩ : ∃ v, v = ([a, b, c, d, e, f] == [a', b', c', d', e', f']) := ⟨_, rfl⟩
  rw [← hv] at heq ⊢
  clear hv
  go_enter Try.func117, Try.ntmps117
  go_wp2_with fail
  go_ret
  exact ⟨rfl, (Below.refl _ _).alloc (Nat.le_refl _) _⟩

/-! ### Rows of good ones -/
def gls (gs : List (List Bool)) : List Value := gs.flatMap fun g => g.map Value.bool
def All6 (gs : List (List Bool)) : Prop := ∀ g ∈ gs, g.length = 6

theorem gls_at : ∀ (gs : List (List Bool)), All6 gs → ∀ (k : Nat) (g : List Bool) (j : Nat), gs[k]? = some g → j < 6 → (gls gs)[k * 6 + j]? = some (.bool (g.getD j false))
  | [], _, k, g, j, h, _ => by simp at h
  | x :: gs, h6, k, g, j, h, hj => by
    have hx : (x.map Value.bool).length = 6 := by rw [List.length_map]; exact h6 x (by simp)
    show (x.map Value.bool ++ gls gs)[k * 6 + j]? = _
    cases k with
    | zero =>
      simp only [List.getElem?_cons_zero, Option.some.injEq] at h
      subst h
      rw [List.getElem?_append_left (by omega)]
      have : j < x.length := by rw [List.length_map] at hx; omega
      simp [List.getD, this]
    | succ k =>
      rw [List.getElem?_append_right (by omega), hx, show (k + 1) * 6 + j - 6 = k * 6 + j from by omega]
      exact gls_at gs (fun g hg => h6 g (by simp [hg])) k g j (by simpa using h) hj

theorem len_gls (gs : List (List Bool)) (h : All6 gs) : (gls gs).length = gs.length * 6 := by
  induction gs with
  | nil => rfl
  | cons x gs ih =>
    have hx : (x.map Value.bool).length = 6 := by rw [List.length_map]; exact h x (by simp)
    show (x.map Value.bool ++ gls gs).length = _
    rw [List.length_append, hx, ih (fun g hg => h g (by simp [hg])), List.length_cons]; omega
theorem ones_gls (gs : List (List Bool)) : Ones (gls gs) := by
  intro v hv
  simp only [gls, List.mem_flatMap, List.mem_map] at hv
  obtain ⟨g, _, b, _, rfl⟩ := hv
  rfl
theorem gls_append (a b : List (List Bool)) : gls (a ++ b) = gls a ++ gls b := by simp [gls]

theorem Sl.gl_at {w : World} {a : Option Addr} {gs : List (List Bool)} (h6 : All6 gs) (h : Sl w a (gls gs)) {k : Nat} {g : List Bool} (hk : gs[k]? = some g) :
    ∃ b o x0 x1 x2 x3 x4 x5, a = some ⟨b, o, none⟩ ∧ g = [x0, x1, x2, x3, x4, x5] ∧ w.cell? ⟨b, o + k * 6, none⟩ = some (.bool x0) ∧ w.cell? ⟨b, o + k * 6 + 1, none⟩ = some (.bool x1) ∧ w.cell? ⟨b, o + k * 6 + 2, none⟩ = some (.bool x2) ∧
      w.cell? ⟨b, o + k * 6 + 3, none⟩ = some (.bool x3) ∧ w.cell? ⟨b, o + k * 6 + 4, none⟩ = some (.bool x4) ∧ w.cell? ⟨b, o + k * 6 + 5, none⟩ = some (.bool x5) := by
  have f := fun j hj => gls_at gs h6 k g j hk hj
  obtain ⟨x0, x1, x2, x3, x4, x5, rfl⟩ := exists6 g (h6 g (List.mem_of_getElem? hk))
  rcases h with h | ⟨b, o, ha, hA⟩
  · have := f 0 (by omega); rw [h] at this; simp at this
  · refine ⟨b, o, x0, x1, x2, x3, x4, x5, ha, rfl, hA (k * 6) _ (by simpa using f 0 (by omega)), ?_, ?_, ?_, ?_, ?_⟩
    · simpa [Nat.add_assoc] using hA (k * 6 + 1) _ (f 1 (by omega))
    · simpa [Nat.add_assoc] using hA (k * 6 + 2) _ (f 2 (by omega))
    · simpa [Nat.add_assoc] using hA (k * 6 + 3) _ (f 3 (by omega))
    · simpa [Nat.add_assoc] using hA (k * 6 + 4) _ (f 4 (by omega))
    · simpa [Nat.add_assoc] using hA (k * 6 + 5) _ (f 5 (by omega))

set_option maxHeartbeats 2000000 in
theorem idxGood_c (g : List Bool) (hg : g.length = 6) (a : Option Addr) (gs : List (List Bool)) (h6 : All6 gs) (c bg : Nat) (w : World) (h : Sl w a (gls gs)) (hlen : gs.length ≤ 1000000000000) (hp : w.heap[bg]? = some (.cells (g.map Value.bool).toArray 111 (0, 0))) :
    Calls Try.prog 137 #[.slice a gs.length c, .func (.func 117) #[] #[.pointer (some ⟨bg, 0, none⟩)]] w fun e w' => e = .returned (.int .i64 (idxF (fun x => x == g) gs)) ∧ Below w.heap.size w w' := by
  have hbl : bg < w.heap.size := (Array.getElem?_eq_some_iff.1 hp).1
  have HP := Lib.hid hp
  clear hp
  go_enter Try.func137, Try.ntmps137
  go_wp2_with fail
  go_loopw [5, 8] (fun u i wr => ∃ k : Nat, k ≤ gs.length ∧ i = .int .i64 k ∧ (gs.take k).any (fun x => x == g) = false ∧ Below w.heap.size w wr) (fun _ i _ => gs.length - (intOf i).toNat)
  case atStart => exact ⟨0, Nat.zero_le _, rfl, by simp, Below.refl _ _⟩
  case round =>
    obtain ⟨k, hk, rfl, hany, hB⟩ := hrel
    by_cases hlt : k < gs.length
    · obtain ⟨x, hx⟩ : ∃ x, gs[k]? = some x := ⟨_, List.getElem?_eq_getElem hlt⟩
      have hX := Lib.hid hx
      have hx6 := h6 x (List.mem_of_getElem? hx)
      obtain ⟨b, o, x0, x1, x2, x3, x4, x5, rfl, hxe, h1, h2, h3, h4, h5, h7⟩ := Sl.gl_at h6 (h.below hB) hx
      have hp' := Lib.hid ((hB.block _ hbl).trans HP.out)
      have hA := Lib.hid hany
      have hXE := Lib.hid hxe
      clear hany hx hxe
      have HE := Lib.hid (eqGood_c g x bg wr hg hx6 hp'.out)
      go_wp2_with fail
      rw [show (Value.agg #[.bool x0, .bool x1, .bool x2, .bool x3, .bool x4, .bool x5]) = gv x from by rw [hXE.out]; rfl]
      refine HE.out.mono ?_; rintro e w1 ⟨rfl, hb⟩
      have hB1 := hB.trans (hb.mono hB.size)
      cases ht : (x == g)
      · go_wp2_with fail
        go_roundw
        case rel => exact ⟨k + 1, by omega, by go_num, by rw [take_any_succ _ _ _ _ hX.out, hA.out]; simpa using ht, hB1⟩
        case measure => simp [intOf]; omega
      · go_wp2_with fail
        go_ret
        exact ⟨ret_int (by rw [idxF_found _ gs k x hA.out hX.out ht]), hB1⟩
    · have hA := Lib.hid hany
      clear hany
      go_wp2_with fail
      go_ret
      have := hA.out
      rw [List.take_of_length_le (by omega)] at this
      exact ⟨ret_int (by rw [idxF_none _ _ this]), hB⟩

theorem conGood_c (g : List Bool) (hg : g.length = 6) (a : Option Addr) (gs : List (List Bool)) (h6 : All6 gs) (c bg : Nat) (w : World) (h : Sl w a (gls gs)) (hlen : gs.length ≤ 1000000000000) (hp : w.heap[bg]? = some (.cells (g.map Value.bool).toArray 111 (0, 0))) :
    Calls Try.prog 116 #[.slice a gs.length c, .func (.func 117) #[] #[.pointer (some ⟨bg, 0, none⟩)]] w fun e w' => e = .returned (.bool (gs.any (fun x => x == g))) ∧ Below w.heap.size w w' := by
  go_enter Try.func116, Try.ntmps116
  go_wp2_with fail
  refine (idxGood_c g hg a gs h6 c bg _ h hlen hp).mono ?_; rintro e w1 ⟨rfl, hb⟩
  go_wp2_with fail
  go_ret
  exact ⟨ret_bool (idxF_nonneg _ _), hb⟩
end Go.Proofs.Ytgglfngkomgadaa
/- A region that draws its order, in a round. -/
namespace Go.Proofs.Ytgglfngkomgadaa
open Go.RowKit Go.Shelf
set_option linter.unusedVariables false
set_option linter.unusedSimpArgs false
set_option maxRecDepth 100000

section
variable {P : Program} {ops : Array Oper} {Q : Exit → Act → World → Prop} {n l : Nat}
theorem oper_round {o : Oper} {a : Act} {w : World} {K : Act → World → Prop} (hd : ∀ c, o.op ≠ .defer c) (hL : ¬ LetsOut Q) (h : o.wp P a w K Q) : o.wpIn (Fence.wide.inRound l) n P a w K Q := by
  refine ⟨fun _ _ => trivial, ?_⟩
  rw [Oper.semAt_eq _ _ _ hd]
  unfold Oper.wp at h
  generalize (execOp a.eval o).run P w = r at h ⊢
  cases r with
  | ok x w' =>
    cases x
    case enter f args => exact ⟨fun h => (by cases h), CallsIn.inRound l (callsIn_wide.2 h)⟩
    case row row args => exact ⟨fun h => (by cases h), fun c cs hr => let ⟨v, w1, h1, h2⟩ := h c cs; ⟨v, w1, h1, stepsIn_wide.2 h2⟩⟩
    case round => exact h.elim
    all_goals exact h
  | halt x w' => cases x <;> exact h

theorem wpAny_round (hnd : ∀ (i : Nat) (o : Oper), ops[i]? = some o → ∀ c : Call, o.op ≠ Op.defer c) (hL : ¬ LetsOut Q) {md : Region.Mode} : ∀ (fuel : Nat) (listed : Array Bool) (a : Act) (w : World),
    wpAny P md ops Q fuel listed a w → wpAnyIn (Fence.wide.inRound l) n P md ops Q fuel listed a w
  | 0, _, _, _, h => h
  | fuel + 1, listed, a, w, h => by
    refine ⟨h.1, fun i hi => ?_⟩
    have h2 := h.2 i hi
    unfold wpOp at h2
    unfold wpOpIn
    cases ho : ops[i]? with
    | none => rw [ho] at h2; exact wpAny_round hnd hL fuel _ _ _ h2
    | some o =>
      rw [ho] at h2
      simp only at h2 ⊢
      by_cases hw : Region.wanted o (yielded ops a.tmps) = true
      · simp only [hw, if_true] at h2 ⊢
        rcases h2 with h2 | ⟨_, h2⟩
        · exact Oper.wpIn_mono (fun a w => wpAny_round hnd hL fuel _ _ _) (oper_round (hnd i _ ho) hL h2)
        · exact (hL h2).elim
      · simp only [hw] at h2 ⊢
        exact ⟨fun _ _ => trivial, wpAny_round hnd hL fuel _ _ _ h2⟩

def noDefer (l : List Oper) : Bool := l.all fun o => match o.op with | .defer _ => false | _ => true
theorem noDefer_spec {l : List Oper} (h : noDefer l = true) : ∀ (i : Nat) (o : Oper), l.toArray[i]? = some o → ∀ c : Call, o.op ≠ Op.defer c := by
  intro i o ho c hc
  have hm : o ∈ l := by
    have : l[i]? = some o := by simpa using ho
    exact List.mem_of_getElem? this
  have := List.all_eq_true.1 h o hm
  rw [hc] at this
  simp at this

theorem region_or {S : World → Prop} {id : Nat} {w : World} {a : Act} {l' : List Oper} (order : Ord) (hm : P.follows .mixedOrders = true)
    (hB : (noDefer l' && (Region.noSelect l'.toArray && ordB .any l'.toArray order l'.toArray.size (Array.replicate l'.toArray.size false))) = true) (hL : ¬ LetsOut Q) (hQ : ∀ c (a : Act) d v w, Q (.panic c) (a.put d v) w → Q (.panic c) a w)
    (hS : S { w with drawn := w.drawn + 1 }) (h : ∀ W, W = { w with drawn := w.drawn + 1 } → S W → wpOrd P l'.toArray Q S order a W) : (Code.region id l'.toArray true).wpIn (Fence.wide.inRound l) n P Q a w := by
  simp only [Bool.and_eq_true] at hB
  exact wpIn_region_any hm (wpAny_round (noDefer_spec hB.1) hL _ _ _ _ (wpAny_of_held _ _ _ _ (ord_sound (md := .any) hB.2.1 hQ order _ _ a _ hB.2.2 hS (h _ rfl hS))))
end
end Go.Proofs.Ytgglfngkomgadaa
/- Walks: asked. -/
namespace Go.Proofs.Ytgglfngkomgadaa
open Go.RowKit Go.Shelf
set_option linter.unusedVariables false
set_option linter.unusedSimpArgs false
set_option maxRecDepth 100000
attribute [local go_sem] Oper.semAt_some

/-! ### The good ones of all truths -/
def addG (gs : List (List Bool)) (g : List Bool) : List (List Bool) := if gs.any (· == g) then gs else gs ++ [g]
def stepG (r : Riv) (gs : List (List Bool)) (n : List Int) : List (List Bool) := if rightB r n [] then addG gs (goodL r n) else gs
def goodsOf (r : Riv) (ys : List (List Int)) : List (List Bool) := ys.foldl (stepG r) []
def goodsL (r : Riv) : List (List Bool) := goodsOf r (truthsL r)
theorem goodsOf_snoc (r : Riv) (ys : List (List Int)) (n : List Int) : goodsOf r (ys ++ [n]) = stepG r (goodsOf r ys) n := by simp [goodsOf]
theorem goodL_len (r : Riv) (n : List Int) : (goodL r n).length = 6 := by simp [goodL]
theorem foldG_all6 (r : Riv) : ∀ (ys : List (List Int)) (gs : List (List Bool)), All6 gs → All6 (ys.foldl (stepG r) gs)
  | [], _, h => h
  | y :: ys, gs, h => by
    refine foldG_all6 r ys _ ?_
    unfold stepG addG
    split
    · split
      · exact h
      · intro g hg
        rcases List.mem_append.1 hg with hg | hg
        · exact h g hg
        · simp at hg; subst hg; exact goodL_len r y
    · exact h
theorem goodsOf_all6 (r : Riv) (ys : List (List Int)) : All6 (goodsOf r ys) := foldG_all6 r ys [] (fun g h => by simp at h)
theorem foldG_len (r : Riv) : ∀ (ys : List (List Int)) (gs : List (List Bool)), (ys.foldl (stepG r) gs).length ≤ gs.length + ys.length
  | [], _ => by simp
  | y :: ys, gs => by
    have h := foldG_len r ys (stepG r gs y)
    have h2 : (stepG r gs y).length ≤ gs.length + 1 := by
      unfold stepG addG
      split
      · split <;> simp
      · omega
    simp only [List.foldl_cons, List.length_cons]
    omega
theorem goodsOf_len (r : Riv) (ys : List (List Int)) : (goodsOf r ys).length ≤ ys.length := by have := foldG_len r ys []; simpa [goodsOf] using this
theorem combos_count : ∀ (rs : List Rg), (∀ x ∈ rs, 0 ≤ x.lo ∧ x.lo ≤ x.hi ∧ x.hi ≤ 9) → (combos rs).length ≤ 10 ^ rs.length
  | [], _ => by simp [combos]
  | x :: rs, h => by
    have hx := h x (by simp)
    have ih := combos_count rs (fun y hy => h y (by simp [hy]))
    have hs : x.size.toNat ≤ 10 := by unfold Rg.size; omega
    simp only [combos, List.length_flatMap, List.length_map, List.length_cons]
    have : ((List.range x.size.toNat).map fun (n : Nat) => (combos rs).length).sum = x.size.toNat * (combos rs).length := by
      simp [List.map_const']
    rw [this, Nat.pow_succ, Nat.mul_comm]
    exact Nat.mul_le_mul ih hs
theorem truthsL_len (r : Riv) (ok : Ok r) : (truthsL r).length ≤ 1000000000000 := by
  have h := combos_count (r.salt ++ r.mud) (fun x hx => (List.mem_append.1 hx).elim (ok.so x) (ok.mo x))
  have h2 : (r.salt ++ r.mud).length ≤ 12 := by have := ok.ns; have := ok.nm; have := ok.l5; rw [List.length_append]; omega
  have h3 : 10 ^ (r.salt ++ r.mud).length ≤ 10 ^ 12 := Nat.pow_le_pow_right (by omega) h2
  simp only [truthsL, List.length_map]
  omega

/-! ### There are at most 64 of them -/
def allB : Nat → List (List Bool)
  | 0 => [[]]
  | n + 1 => (allB n).flatMap fun g => [false :: g, true :: g]
theorem mem_allB : ∀ (n : Nat) (g : List Bool), g.length = n → g ∈ allB n
  | 0, g, h => by simp [allB, List.eq_nil_of_length_eq_zero h]
  | n + 1, [], h => by simp at h
  | n + 1, b :: g, h => by
    have := mem_allB n g (by simpa using h)
    simp only [allB, List.mem_flatMap]
    exact ⟨g, this, by cases b <;> simp⟩
theorem nodup_le {α : Type} [DecidableEq α] : ∀ (l U : List α), l.Nodup → (∀ x ∈ l, x ∈ U) → l.length ≤ U.length
  | [], _, _, _ => by simp
  | a :: t, U, hn, hs => by
    have ha := hs a (by simp)
    have hn' := List.nodup_cons.1 hn
    have := nodup_le t (U.erase a) hn'.2 (fun x hx => (List.mem_erase_of_ne (fun (e : x = a) => by subst e; exact hn'.1 hx)).2 (hs x (by simp [hx])))
    rw [List.length_erase_of_mem ha] at this
    have : 0 < U.length := List.length_pos_of_mem ha
    simp only [List.length_cons]; omega
theorem stepG_nodup (r : Riv) (gs : List (List Bool)) (n : List Int) (h : gs.Nodup) : (stepG r gs n).Nodup := by
  unfold stepG addG
  split
  · split
    · exact h
    · rename_i hc
      refine List.nodup_append.2 ⟨h, by simp, ?_⟩
      intro a ha b hb e
      simp at hb; subst hb; subst e
      exact hc (List.any_eq_true.2 ⟨_, ha, by simp⟩)
  · exact h
theorem foldG_nodup (r : Riv) : ∀ (ys : List (List Int)) (gs : List (List Bool)), gs.Nodup → (ys.foldl (stepG r) gs).Nodup
  | [], _, h => h
  | y :: ys, gs, h => foldG_nodup r ys _ (stepG_nodup r gs y h)
theorem goods_le (gs : List (List Bool)) (h6 : All6 gs) (hn : gs.Nodup) : gs.length ≤ 64 := nodup_le gs (allB 6) hn (fun g hg => mem_allB 6 g (h6 g hg))
theorem goodsOf_64 (r : Riv) (ys : List (List Int)) : (goodsOf r ys).length ≤ 64 := goods_le _ (goodsOf_all6 r ys) (foldG_nodup r ys [] (by simp))

theorem own_wr {S : Nat → Prop} {w W : World} {base : Nat} {e : TypeId} {size : Nat} {v : Value} {n : Nat} {xs : List Value} (h : w.ownsRow base e size v n xs) (hw : Wr S w W) (hS : ∀ k, base ≤ k → ¬ S k) : W.ownsRow base e size v n xs := by
  refine ⟨h.1, ?_⟩
  rcases h.2 with h | ⟨g, cap, cur, hv, hg, hb, r⟩
  · exact .inl h
  · exact .inr ⟨g, cap, cur, hv, hg, hw.blk (hS g hg) hb, r⟩

/-! ### A river at work -/
abbrev workO (r : Riv) (A : RA) (v : Value) (m : Nat) : Obj := .cells #[.int .i64 r.last, .slice A.sa r.salt.length A.sc, .slice A.ma r.mud.length A.mc, .int .i64 r.sweet, .int .i64 r.clear, .int .i64 r.size, .int .i64 r.start, .int .i64 r.draw, .slice A.ua r.use.length A.uc, .slice A.ga r.gauges.length A.gc, v, .map (some m)] 153 (0, 0)
def rowTV (x : Value) : Prop := ∃ a n c, x = .slice a n c
/-- A river at work: its block, the row of its good ones, and what is known. -/
structure WorkB (n0 : Nat) (W : World) (p : Nat) (r : Riv) (A : RA) (v : Value) (m : Nat) (gs : List (List Bool)) : Prop where
  hp : n0 ≤ p
  hm : n0 ≤ m
  hne : m ≠ p
  blk : W.heap[p]? = some (workO r A v m)
  own : W.ownsRow n0 111 6 v gs.length (gls gs)
  sep : v.ownBlock ≠ some p ∧ v.ownBlock ≠ some m

/-- The error of asking. -/
def askE (r : Riv) (fine : Bool) : Int := if r.faultI ≠ 0 then r.faultI else if !fine then 2 else if (goodsL r).isEmpty then 11 else 0
def AskPost (r : Riv) (A : RA) (fine : Bool) (w : World) (e : Ending) (w' : World) : Prop := Below w.heap.size w w' ∧
  ((askE r fine ≠ 0 ∧ e = .returned (.tuple #[.pointer none, .int .i64 (askE r fine)])) ∨
   (askE r fine = 0 ∧ ∃ p v m, e = .returned (.tuple #[.pointer (some ⟨p, 0, none⟩), .int .i64 0]) ∧ WorkB w.heap.size w' p r A v m (goodsL r) ∧ w'.heap[m]? = some (.map #[] 0)))

set_option maxHeartbeats 1000000 in
theorem asked_bad (r : Riv) (A : RA) (fine : Bool) (w : World) (hr : Rd w r A) (hl1 : r.salt.length ≤ 30) (hl2 : r.mud.length ≤ 30) (hl3 : r.use.length ≤ 30) (hl4 : r.gauges.length ≤ 30) (hf : r.faultI ≠ 0) :
    Calls Try.prog 76 #[rivV r A, .bool fine] w (AskPost r A fine w) := by
  have hb0 := (Below.refl w.heap.size w).alloc (Nat.le_refl _) (rivO r A)
  have he : askE r fine = r.faultI := by unfold askE; rw [if_pos hf]
  have HE := Lib.hid he
  have HF := Lib.hid hf
  have hne : (r.faultI == 0) = false := by simpa using hf
  obtain ⟨fl, hfl⟩ : ∃ fl, fl = r.faultI := ⟨_, rfl⟩
  have HFL := Lib.hid hfl
  rw [← hfl] at hne
  clear he hf hfl
  go_enter Try.func76, Try.ntmps76
  go_wp2_with fail
  refine (check_c r A _ (hr.below hb0) hl1 hl2 hl3 hl4).mono ?_; rintro e w1 ⟨rfl, hb⟩
  rw [← HFL.out]
  go_wp2_with fail
  refine bodyPost_ret (v := .tuple #[.pointer none, .int .i64 fl]) (by simp [results, Try.results76, go_sem]) rfl ⟨hb0.trans (hb.mono hb0.size), .inl ⟨?_, ?_⟩⟩
  · rw [HE.out]; exact HF.out
  · rw [HE.out, HFL.out]

set_option maxHeartbeats 1000000 in
theorem asked_rng (r : Riv) (A : RA) (w : World) (hr : Rd w r A) (hl1 : r.salt.length ≤ 30) (hl2 : r.mud.length ≤ 30) (hl3 : r.use.length ≤ 30) (hl4 : r.gauges.length ≤ 30) (hf : r.faultI = 0) :
    Calls Try.prog 76 #[rivV r A, .bool false] w (AskPost r A false w) := by
  have hb0 := (Below.refl w.heap.size w).alloc (Nat.le_refl _) (rivO r A)
  have he : askE r false = 2 := by unfold askE; rw [if_neg (by simpa using hf)]; rfl
  have HE := Lib.hid he
  have HF := Lib.hid hf
  clear he hf
  go_enter Try.func76, Try.ntmps76
  go_wp2_with fail
  refine (check_c r A _ (hr.below hb0) hl1 hl2 hl3 hl4).mono ?_; rintro e w1 ⟨rfl, hb⟩
  rw [HF.out]
  go_wp2_with fail
  refine bodyPost_ret (v := .tuple #[.pointer none, .int .i64 2]) (by simp [results, Try.results76, go_sem]) rfl ⟨hb0.trans (hb.mono hb0.size), .inl ⟨?_, ?_⟩⟩
  · rw [HE.out]; decide
  · rw [HE.out]

/-- What asked holds in its own blocks. -/
structure AskI (r : Riv) (A : RA) (w : World) (u z : Nat) (gs : List (List Bool)) (W : World) : Prop where
  b : Below w.heap.size w W
  hu : w.heap.size < u
  sz : u + 3 ≤ W.heap.size
  r1 : W.heap[w.heap.size]? = some (rivO r A)
  m1 : W.heap[u]? = some (.map #[] 0)
  v1 : ∃ v, W.heap[u + 1]? = some (workO r A v u) ∧ W.ownsRow (z + 3) 111 6 v gs.length (gls gs)
  x1 : W.heap[u + 2]? = some (.cells #[.pointer (some ⟨u + 1, 0, none⟩)] 105 (0, 0))
theorem AskI.wr {r : Riv} {A : RA} {w : World} {u z : Nat} {gs : List (List Bool)} {W W' : World} {S : Nat → Prop} (h : AskI r A w u z gs W) (hw : Wr S W W') (hs : ∀ k, S k → u + 3 ≤ k ∧ k < z + 3) : AskI r A w u z gs W' := by
  have hu := h.hu
  obtain ⟨v, hv, ho⟩ := h.v1
  exact ⟨h.b.trans (hw.below h.b.size fun k hk => by have := hs k hk; omega), hu, Nat.le_trans h.sz hw.size, hw.blk (fun e => by have := hs _ e; omega) h.r1, hw.blk (fun e => by have := hs _ e; omega) h.m1,
    ⟨v, hw.blk (fun e => by have := hs _ e; omega) hv, own_wr ho hw (fun k hk e => by have := hs _ e; omega)⟩, hw.blk (fun e => by have := hs _ e; omega) h.x1⟩

theorem wr_grown {w w' : World} {row : Option Nat} (hg : w.grownBy w' row) : Wr (fun k => row = some k) w w' := ⟨hg.os, hg.tape, hg.output, hg.size, fun k hk hn => hg.block k hk (fun e => hn e.symm)⟩
theorem ask_final {r : Riv} {A : RA} {w w6 w7 : World} {u z : Nat} {gs : List (List Bool)} {v v7 : Value} {x0 x1 x2 x3 x4 x5 : Bool} (hI : AskI r A w u z gs w6) (hv : w6.heap[u + 1]? = some (workO r A v u)) (hz : u + 6 < z)
    (hvb : ∀ k, v.ownBlock = some k → z + 3 ≤ k) (h67 : Wr (fun k => v.ownBlock = some k) w6 w7)
    (hown : w7.ownsRow (z + 3) 111 6 v7 (gs.length + 1) (gls gs ++ [.bool x0, .bool x1, .bool x2, .bool x3, .bool x4, .bool x5])) :
    AskI r A w u z (gs ++ [[x0, x1, x2, x3, x4, x5]]) (w7.setCell ⟨u + 1, 10, none⟩ v7) := by
  have hu := hI.hu
  have hst := Wr.setCell (fun k => k = u + 1) w7 ⟨u + 1, 10, none⟩ v7 rfl
  have hno : ∀ k, k < z + 3 → ¬ (v.ownBlock = some k) := fun k hk e => by have := hvb k e; omega
  have hv7 := h67.blk (hno (u + 1) (by omega)) hv
  refine ⟨(hI.b.trans (h67.below hI.b.size fun k hk => by have := hvb k hk; omega)).setCell (by show w.heap.size ≤ u + 1; omega) _, hu, Nat.le_trans hI.sz (Nat.le_trans h67.size hst.size), hst.blk (fun e => by omega) (h67.blk (hno _ (by omega)) hI.r1), hst.blk (fun e => by omega) (h67.blk (hno _ (by omega)) hI.m1), ⟨v7, ?_, ?_⟩, hst.blk (fun e => by omega) (h67.blk (hno _ (by omega)) hI.x1)⟩
  · rw [heap_set hv7]; rfl
  · have := own_wr hown hst (fun k hk e => by omega)
    rw [gls_append, List.length_append]; exact this

/-- What the append's region reads. -/
def ApS (u bg : Nat) (x0 x1 x2 x3 x4 x5 : Bool) (W : World) : Prop := W.cell? ⟨u + 1 + 1, 0, none⟩ = some (.pointer (some ⟨u + 1, 0, none⟩)) ∧ W.cell? ⟨bg, 0, none⟩ = some (.bool x0) ∧ W.cell? ⟨bg, 1, none⟩ = some (.bool x1) ∧
  W.cell? ⟨bg, 2, none⟩ = some (.bool x2) ∧ W.cell? ⟨bg, 3, none⟩ = some (.bool x3) ∧ W.cell? ⟨bg, 4, none⟩ = some (.bool x4) ∧ W.cell? ⟨bg, 5, none⟩ = some (.bool x5)
theorem ApS.wr {u bg : Nat} {x0 x1 x2 x3 x4 x5 : Bool} {W W' : World} {S : Nat → Prop} (h : ApS u bg x0 x1 x2 x3 x4 x5 W) (hw : Wr S W W') (hs : ∀ k, S k → k ≠ u + 1 + 1 ∧ k ≠ bg) : ApS u bg x0 x1 x2 x3 x4 x5 W' := by
  obtain ⟨h0, h1, h2, h3, h4, h5, h6⟩ := h
  exact ⟨hw.cell (fun e => (hs _ e).1 rfl) h0, hw.cell (fun e => (hs _ e).2 rfl) h1, hw.cell (fun e => (hs _ e).2 rfl) h2, hw.cell (fun e => (hs _ e).2 rfl) h3, hw.cell (fun e => (hs _ e).2 rfl) h4, hw.cell (fun e => (hs _ e).2 rfl) h5, hw.cell (fun e => (hs _ e).2 rfl) h6⟩

set_option maxHeartbeats 4000000 in
theorem asked_main (r : Riv) (A : RA) (w : World) (hr : Rd w r A) (hl1 : r.salt.length ≤ 30) (hl2 : r.mud.length ≤ 30) (hl3 : r.use.length ≤ 30) (hl4 : r.gauges.length ≤ 30) (hf : r.faultI = 0) :
    Calls Try.prog 76 #[rivV r A, .bool true] w (AskPost r A true w) := by
  have hOK := Lib.hid (ok_of_fault hf).1
  have hb0 := (Below.refl w.heap.size w).alloc (Nat.le_refl _) (rivO r A)
  have hmm := @run_makeMap Try.prog
  have HF := Lib.hid hf
  clear hf
  refine (callsIn_wide (n := 3)).1 ?_
  refine callsIn_of_wp_marks Try.func76 rfl trivial ?_ rfl
  simp only [Try.ntmps76, List.size_toArray, List.length_cons, List.length_nil, Nat.reduceAdd, Nat.reduceSub, Array.replicate_succ, Array.replicate_zero, List.push_toArray, List.append_toArray, List.nil_append, List.cons_append]
  gi_wp2
  refine ⟨trivial, ?_⟩
  refine (callsIn_wide.2 (check_c r A _ (hr.below hb0) hl1 hl2 hl3 hl4)).mono ?_; rintro e w1 ⟨rfl, hb1⟩; rw [HF.out]
  have hw1 : w.heap.size < w1.heap.size := by have := hb1.size; simp at this; omega
  have hB1 := (hb1.block w.heap.size (by simp)).trans (heap_alloc_new w (rivO r A))
  obtain ⟨k0, k1, k2, k3, k4, k5, k6, k7, k8, k9⟩ := riv_cells hB1
  have hB4 : (((w1.alloc (.map #[] 0)).alloc (.cells #[.int .i64 r.last, .slice A.sa r.salt.length A.sc, .slice A.ma r.mud.length A.mc, .int .i64 r.sweet, .int .i64 r.clear, .int .i64 r.size, .int .i64 r.start, .int .i64 r.draw, .slice A.ua r.use.length A.uc, .slice A.ga r.gauges.length A.gc, .slice none 0 0, .map (some w1.heap.size)] 153)).alloc (.cells #[.pointer (some ⟨w1.heap.size + 1, 0, none⟩)] 105)).heap[w.heap.size]? = some (rivO r A) := by
    rw [Below.heap_alloc _ _ _ (by simp; omega), Below.heap_alloc _ _ _ (by simp; omega), Below.heap_alloc _ _ _ hw1]; exact hB1
  obtain ⟨k10, k11, k12, k13, k14, k15, k16, k17, k18, k19⟩ := riv_cells hB4
  gi_wp2
  obtain ⟨W4, hW4⟩ : ∃ W4, ((w1.alloc (.map #[] 0)).alloc (.cells #[.int .i64 r.last, .slice A.sa r.salt.length A.sc, .slice A.ma r.mud.length A.mc, .int .i64 r.sweet, .int .i64 r.clear, .int .i64 r.size, .int .i64 r.start, .int .i64 r.draw, .slice A.ua r.use.length A.uc, .slice A.ga r.gauges.length A.gc, .slice none 0 0, .map (some w1.heap.size)] 153)).alloc (.cells #[.pointer (some ⟨w1.heap.size + 1, 0, none⟩)] 105) = W4 := ⟨_, rfl⟩
  rw [hW4] at hB4 ⊢
  have hz4 : W4.heap.size = w1.heap.size + 3 := by rw [← hW4]; simp
  have hM4 : W4.heap[w1.heap.size]? = some (.map #[] 0) := by
    rw [← hW4, Below.heap_alloc _ _ _ (by simp; omega), Below.heap_alloc _ _ _ (by simp)]; exact heap_alloc_new _ _
  have hP4 : W4.heap[w1.heap.size + 1]? = some (workO r A (.slice none 0 0) w1.heap.size) := by
    have h2 := heap_alloc_new (w1.alloc (.map #[] 0)) (.cells #[.int .i64 r.last, .slice A.sa r.salt.length A.sc, .slice A.ma r.mud.length A.mc, .int .i64 r.sweet, .int .i64 r.clear, .int .i64 r.size, .int .i64 r.start, .int .i64 r.draw, .slice A.ua r.use.length A.uc, .slice A.ga r.gauges.length A.gc, .slice none 0 0, .map (some w1.heap.size)] 153)
    rw [World.size_alloc] at h2
    rw [← hW4, Below.heap_alloc _ _ _ (by simp)]; exact h2
  have hX4 : W4.heap[w1.heap.size + 2]? = some (.cells #[.pointer (some ⟨w1.heap.size + 1, 0, none⟩)] 105 (0, 0)) := by
    have h2 := heap_alloc_new ((w1.alloc (.map #[] 0)).alloc (.cells #[.int .i64 r.last, .slice A.sa r.salt.length A.sc, .slice A.ma r.mud.length A.mc, .int .i64 r.sweet, .int .i64 r.clear, .int .i64 r.size, .int .i64 r.start, .int .i64 r.draw, .slice A.ua r.use.length A.uc, .slice A.ga r.gauges.length A.gc, .slice none 0 0, .map (some w1.heap.size)] 153)) (.cells #[.pointer (some ⟨w1.heap.size + 1, 0, none⟩)] 105)
    simp only [World.size_alloc] at h2
    rw [← hW4]; exact h2
  have hb4 : Below w.heap.size w W4 := by
    rw [← hW4]; exact (((hb0.trans (hb1.mono hb0.size)).alloc (by omega) _).alloc (by simp; omega) _).alloc (by simp; omega) _
  clear hW4 k0 k1 k2 k3 k4 k5 k6 k7 k8 k9 k10 k11 k12 k13 k14 k15 k16 k17 k18 k19 hb1 hB1 hb0
  refine ⟨trivial, ?_⟩
  refine (callsIn_wide.2 (truths_c r A _)).mono ?_; rintro e w5 ⟨rfl, rfl⟩
  gi_wp2
  have hI5 : ∀ z, AskI r A w w1.heap.size z [] (W4.alloc (rivO r A)) := fun z =>
    AskI.wr (W := W4) (S := fun _ => False) ⟨hb4, hw1, by omega, hB4, hM4, ⟨.slice none 0 0, hP4, World.ownsRow_nil _ _ _ _⟩, hX4⟩ (Wr.alloc _ _ _) (fun k h => h.elim)
  have hbx : (W4.alloc (rivO r A)).heap[w1.heap.size + 3]? = some (rivO r A) := by rw [← hz4]; exact heap_alloc_new _ _
  have hz5 : (W4.alloc (rivO r A)).heap.size = w1.heap.size + 4 := by rw [World.size_alloc]; omega
  have hb5 : Below w.heap.size w (W4.alloc (rivO r A)) := (hI5 0).b
  obtain ⟨W5, hW5⟩ : ∃ W5, W4.alloc (rivO r A) = W5 := ⟨_, rfl⟩
  rw [hW5] at hI5 hbx hz5 hb5 ⊢
  have HI5 := Lib.hid hI5
  clear hI5 hW5 hb4 hB4 hM4 hP4 hX4
  refine range_truths (w := W5) r A (w1.heap.size + 3) hOK.out hbx (hr.below hb5) rfl rfl
    (fun z ys W => AskI r A w w1.heap.size z (goodsOf r ys) W)
    (fun _ _ _ => False)
    (fun z hz ys W1 W2 h hw => h.wr hw (fun k hk => by rcases hk with hk | hk; (· have := hk.1; have := hk.2; omega); (· omega)))
    (fun z hz ys W1 W2 h hw => h)
    (fun z hz => HI5.out z) ?round ?done ?stop
  case round =>
    rw [hz5]
    rintro z hz ys cur W1 hI hzs hlen hmem K hK
    have HK := Lib.hid hK
    have HI := Lib.hid hI
    obtain ⟨n0, n1, n2, n3, n4, n5, n6, n7, n8, n9, n10, n11, hnn⟩ := exists12 cur hlen
    subst hnn
    clear hK hI
    simp only [nv, ints, List.map_cons, List.map_nil]
    gi_wp2
    refine HK.out _ _ (Wr.alloc _ _ _) ?_
    intro W2 hw2
    have hIa := HI.out.wr (Wr.alloc (fun _ => False) W1 (.cells #[.int .i64 n0, .int .i64 n1, .int .i64 n2, .int .i64 n3, .int .i64 n4, .int .i64 n5, .int .i64 n6, .int .i64 n7, .int .i64 n8, .int .i64 n9, .int .i64 n10, .int .i64 n11] 129)) (fun k h => h.elim)
    have hI2 := hIa.wr hw2 (fun k h => by omega)
    have hlt1 : w1.heap.size + 4 + 1 < W1.heap.size := by omega
    have hnb : W2.heap[W1.heap.size]? = some (.cells (ints [n0, n1, n2, n3, n4, n5, n6, n7, n8, n9, n10, n11]).toArray 129 (0, 0)) := hw2.blk (fun h => by omega) (heap_alloc_new W1 (.cells (ints [n0, n1, n2, n3, n4, n5, n6, n7, n8, n9, n10, n11]).toArray 129))
    have hs2 : W1.heap.size < W2.heap.size := (Array.getElem?_eq_some_iff.1 hnb).1
    obtain ⟨k0, k1, k2, k3, k4, k5, k6, k7, k8, k9⟩ := riv_cells hI2.r1
    obtain ⟨c0, c1, c2, c3, c4, c5, c6, c7, c8, c9, c10, c11⟩ := nv_cells hnb
    have HI2 := Lib.hid hI2
    have HNB := Lib.hid hnb
    have HMEM := Lib.hid hmem
    have hrr := Lib.hid (hr.below hI2.b)
    have hgd : Hid (∀ g ∈ r.gauges, 0 ≤ g.day ∧ g.day ≤ r.last) := fun g hg => (hOK.out.go g hg).1
    clear HK hIa hI2 hnb hmem hw2 HI5
    gi_wp2
    refine ⟨trivial, rfl, ?_⟩
    refine (CallsIn.inRound _ (callsIn_wide.2 (right_c r A [n0, n1, n2, n3, n4, n5, n6, n7, n8, n9, n10, n11] none [] 0 _ hOK.out.l0 hOK.out.l5 rfl hOK.out.ng hgd.out hrr.out.g (.inl rfl) (by simp)))).mono ?_
    rintro e w3 ⟨rfl, hb3⟩
    cases hv : rightB r [n0, n1, n2, n3, n4, n5, n6, n7, n8, n9, n10, n11] []
    · gi_wp2
      exact ⟨Wr.of_below hb3, by show AskI r A w w1.heap.size z (goodsOf r _) w3; rw [goodsOf_snoc, stepG, if_neg (by rw [hv]; simp)]; exact HI2.out.wr (Wr.of_below (S := fun _ => False) hb3) (fun k h => h.elim)⟩
    · have hI3 := HI2.out.wr (Wr.of_below (S := fun _ => False) hb3) (fun k h => h.elim)
      have hn3 := (hb3.block _ hs2).trans HNB.out
      clear k0 k1 k2 k3 k4 k5 k6 k7 k8 k9 c0 c1 c2 c3 c4 c5 c6 c7 c8 c9 c10 c11
      obtain ⟨k0, k1, k2, k3, k4, k5, k6, k7, k8, k9⟩ := riv_cells hI3.r1
      obtain ⟨c0, c1, c2, c3, c4, c5, c6, c7, c8, c9, c10, c11⟩ := nv_cells hn3
      have hw23 := Lib.hid (Wr.of_below (S := fun k => ¬ iterS (w1.heap.size + 4 + 2) z k ∧ k ≠ w1.heap.size + 4 ∧ k ≠ w1.heap.size + 4 + 1) hb3)
      have hs3 := Nat.lt_of_lt_of_le hs2 hb3.size
      have HI3 := Lib.hid hI3
      have HV := Lib.hid hv
      clear hI3 hn3 hv hb3
      gi_wp2
      refine ⟨trivial, rfl, ?_⟩
      refine (CallsIn.inRound _ (callsIn_wide.2 (good_c r A [n0, n1, n2, n3, n4, n5, n6, n7, n8, n9, n10, n11] _ hOK.out.l0 hOK.out.l5 rfl))).mono ?_
      rintro e w4 ⟨rfl, hb4⟩
      have hI4 := HI3.out.wr (Wr.of_below (S := fun _ => False) hb4) (fun k h => h.elim)
      have hw24 := Lib.hid (hw23.out.trans (Wr.of_below hb4))
      have hs4 := Nat.lt_of_lt_of_le hs3 hb4.size
      have hs4z : z + 3 ≤ w4.heap.size := by omega
      obtain ⟨gs, hgs⟩ : ∃ gs, gs = goodsOf r ys := ⟨_, rfl⟩
      have h6 : Hid (All6 gs) := by rw [hgs]; exact goodsOf_all6 r ys
      have h64 : gs.length ≤ 64 := by rw [hgs]; exact goodsOf_64 r ys
      rw [← hgs] at hI4
      obtain ⟨g, hg⟩ : ∃ g, g = goodL r [n0, n1, n2, n3, n4, n5, n6, n7, n8, n9, n10, n11] := ⟨_, rfl⟩
      have hgl : Hid (g.length = 6) := by rw [hg]; exact goodL_len _ _
      have hnew : Hid (goodsOf r (ys ++ [[n0, n1, n2, n3, n4, n5, n6, n7, n8, n9, n10, n11]]) = addG gs g) := by
        show _ = _
        rw [goodsOf_snoc, stepG, if_pos HV.out, ← hgs, ← hg]
      rw [← hg]
      obtain ⟨x0, x1, x2, x3, x4, x5, hgx⟩ := exists6 g hgl.out
      subst hgx
      obtain ⟨vv, hv4, ho4⟩ := hI4.v1
      obtain ⟨av, cv, rfl, hnc, hsl⟩ := own_Sl ho4
      have hc10 : w4.cell? ⟨w1.heap.size + 1, 10, none⟩ = some (.slice av gs.length cv) := by rw [cell_blk hv4]; rfl
      have hx1 : w4.cell? ⟨w1.heap.size + 1 + 1, 0, none⟩ = some (.pointer (some ⟨w1.heap.size + 1, 0, none⟩)) := by rw [cell_blk hI4.x1]; rfl
      have HI4 := Lib.hid hI4
      have HV4 := Lib.hid hv4
      have HO4 := Lib.hid ho4
      have HVB : Hid (∀ k, (Value.slice av gs.length cv).ownBlock = some k → z + 3 ≤ k ∧ k < w4.heap.size) := fun k hk => ho4.lt k hk
      have hu4 : w1.heap.size + 1 + 1 < w4.heap.size := by omega
      have hu5 : w1.heap.size + 1 < w4.heap.size := by omega
      clear k0 k1 k2 k3 k4 k5 k6 k7 k8 k9 c0 c1 c2 c3 c4 c5 c6 c7 c8 c9 c10 c11 hb4 hI4 hgs hg hv4 ho4 HI3 HI2 HI
      gi_wp2
      have hb5 : Below w4.heap.size w4 (w4.alloc (.cells #[.bool x0, .bool x1, .bool x2, .bool x3, .bool x4, .bool x5] 111)) := (Below.refl _ _).alloc (Nat.le_refl _) _
      refine ⟨trivial, rfl, ?_⟩
      refine (CallsIn.inRound _ (callsIn_wide.2 (conGood_c [x0, x1, x2, x3, x4, x5] rfl av gs h6.out cv w4.heap.size _ (hsl.below hb5) (by omega) (heap_alloc_new w4 _)))).mono ?_
      rintro e w6 ⟨rfl, hb6⟩
      have hw26 := hw24.out.trans ((Wr.of_below hb5).trans (Wr.of_below hb6))
      have hI6 := (HI4.out.wr (Wr.of_below (S := fun _ => False) hb5) (fun k h => h.elim)).wr (Wr.of_below (S := fun _ => False) hb6) (fun k h => h.elim)
      have hs6 : w4.heap.size < w6.heap.size := by have := hb6.size; simp at this; omega
      have hG6 : w6.heap[w4.heap.size]? = some (.cells #[.bool x0, .bool x1, .bool x2, .bool x3, .bool x4, .bool x5] 111 (0, 0)) := (hb6.block _ (by simp)).trans (heap_alloc_new w4 _)
      cases hany : gs.any (fun x => x == [x0, x1, x2, x3, x4, x5])
      · have hne : goodsOf r (ys ++ [[n0, n1, n2, n3, n4, n5, n6, n7, n8, n9, n10, n11]]) = gs ++ [[x0, x1, x2, x3, x4, x5]] := by
          rw [hnew.out, addG, hany]; rfl
        have HW26 := Lib.hid hw26
        have HI6 := Lib.hid hI6
        have HNE := Lib.hid hne
        have HG6 := Lib.hid hG6
        have hb46 : Below w4.heap.size w4 w6 := hb5.trans (hb6.mono hb5.size)
        have HV6 := Lib.hid ((hb46.block (w1.heap.size + 1) hu5).trans HV4.out)
        have HO6 := Lib.hid (own_below HO4.out hb46)
        clear hw26 hI6 hne hany hG6 hb5 hb6 hb46 hc10 hx1 hsl
        gi_wp2
        have hsA : ApS w1.heap.size w4.heap.size x0 x1 x2 x3 x4 x5 w6 := by
          refine ⟨?_, ?_, ?_, ?_, ?_, ?_, ?_⟩
          · rw [cell_blk HI6.out.x1]; rfl
          all_goals (rw [cell_blk HG6.out]; rfl)
        refine region_or (S := ApS w1.heap.size w4.heap.size x0 x1 x2 x3 x4 x5) (.take 0 (.take 1 (.take 2 (.take 3 (.take 5 (.two 4 6 (.one 6 (.one 7 (.take 8 (.take 9 (.one 10 .nil))))) (.one 4 (.one 7 (.take 8 (.take 9 (.one 10 .nil)))))))))))
          (by kernel_rfl) (by kernel_rfl) (fun ⟨_, _, h⟩ => h) (fun _ _ d _ _ h => by cases d <;> exact h) (hsA.wr (Wr.of_below ((Below.refl _ _).drew)) (fun k (h : False) => h.elim)) ?_
        intro W0 hW0 hS0
        have hB0 : Below w6.heap.size w6 W0 := by subst hW0; exact (Below.refl _ _).drew
        clear hW0 hsA
        repeat (first
          | (refine ord_take (v := ?_) rfl ?_ (fun W hW => ?_) ?_; rotate_left; rfl; (obtain ⟨hz0, hz1, hz2, hz3, hz4, hz5, hz6⟩ := hW; go_simp; (first | done | with_reducible rfl)); simp only [pz]))
        have hc0 : W0.cell? ⟨w1.heap.size + 1, 10, none⟩ = some (.slice av gs.length cv) := by rw [cell_blk ((hB0.block _ (by omega)).trans HV6.out)]; rfl
        have hBa : Below w6.heap.size w6 (W0.alloc (.cells #[.bool x0, .bool x1, .bool x2, .bool x3, .bool x4, .bool x5] 111)) := hB0.alloc hB0.size _
        have hSa : ApS w1.heap.size w4.heap.size x0 x1 x2 x3 x4 x5 (W0.alloc (.cells #[.bool x0, .bool x1, .bool x2, .bool x3, .bool x4, .bool x5] 111)) := hS0.wr (Wr.alloc (fun _ => False) _ _) (fun k (h : False) => h.elim)
        refine ord_two ?_ ?_
        · (refine ord_op rfl ?_ (fun K hK => ?_); rfl; go_simp; refine hK _ _ hS0 ?_; clear hK K; try simp only [pz])
          (refine ord_op rfl ?_ (fun K hK => ?_); rfl; go_simp; refine hK _ _ hSa ?_; clear hK K; try simp only [pz])
          (refine ord_op rfl ?_ (fun K hK => ?_); rfl; skip)
          refine wp_app elGood _ _ rfl rfl rfl (own_below HO6.out hBa) (Sl_new W0 [.bool x0, .bool x1, .bool x2, .bool x3, .bool x4, .bool x5] 111) rfl (by intro v hv; simp at hv; rcases hv with rfl | rfl | rfl | rfl | rfl | rfl <;> rfl) (by omega) (by omega) (by have := hBa.size; omega) ?_
          intro v7 w7 hown7 hg7 _
          have h67 : Wr (fun k => (Value.slice av gs.length cv).ownBlock = some k) w6 w7 := (Wr.of_below hBa).trans (wr_grown hg7)
          refine hK _ _ (hSa.wr (wr_grown hg7) (fun k hk => by have := HVB.out k hk; omega)) ?_
          clear hK K
          try simp only [pz]
          have hv7 := h67.blk (fun e => by have := (HVB.out _ e).1; omega) HV6.out
          have hc7 : w7.cell? ⟨w1.heap.size + 1, 10, none⟩ = some (.slice av gs.length cv) := by rw [cell_blk hv7]; rfl
          have hf7 := frozen_blk (k := 10) hv7
          have hfin := ask_final HI6.out HV6.out (by omega) (fun k hk => (HVB.out k hk).1) h67 hown7
          have hS7 : ApS w1.heap.size w4.heap.size x0 x1 x2 x3 x4 x5 (w7.setCell ⟨w1.heap.size + 1, 10, none⟩ v7) := (hSa.wr (wr_grown hg7) (fun k hk => by have := HVB.out k hk; omega)).wr (Wr.setCell (fun k => k = w1.heap.size + 1) _ _ _ rfl) (fun k hk => by omega)
          have hW8 := (HW26.out.trans (h67.mono fun k hk => by have := HVB.out k hk; exact ⟨fun h => by have := h.2; omega, by omega, by omega⟩)).trans (Wr.setCell _ w7 ⟨w1.heap.size + 1, 10, none⟩ v7 ⟨fun h => by have := h.1; simp at this; omega, by simp, by simp⟩)
          obtain ⟨av7, cv7, rfl, -, -⟩ := own_Sl hown7
          have HFIN := Lib.hid hfin
          have HW8 := Lib.hid hW8
          clear hfin hW8 hown7 hg7 h67 hv7
          repeat (first
            | (refine ord_take (v := ?_) rfl ?_ (fun W hW => ?_) ?_; rotate_left; rfl; (obtain ⟨hz0, hz1, hz2, hz3, hz4, hz5, hz6⟩ := hW; go_simp; (first | done | with_reducible rfl)); simp only [pz]))
          (refine ord_op rfl ?_ (fun K hK => ?_); rfl; go_simp; refine hK _ _ hS7 ?_; clear hK K; try simp only [pz])
          refine ord_nil ?_
          gi_wp2
          exact ⟨HW8.out, by show AskI r A w w1.heap.size z (goodsOf r _) _; rw [HNE.out]; exact HFIN.out⟩
        · (obtain ⟨hz0, hz1, hz2, hz3, hz4, hz5, hz6⟩ := hS0; refine ord_op rfl ?_ (fun K hK => ?_); rfl; go_simp; refine hK _ _ hSa ?_; clear hK K; try simp only [pz])
          have hc0' : (W0.alloc (.cells #[.bool x0, .bool x1, .bool x2, .bool x3, .bool x4, .bool x5] 111)).cell? ⟨w1.heap.size + 1, 10, none⟩ = some (.slice av gs.length cv) := by rw [cell_blk ((hBa.block _ (by omega)).trans HV6.out)]; rfl
          (refine ord_op rfl ?_ (fun K hK => ?_); rfl; go_simp; refine hK _ _ hSa ?_; clear hK K; try simp only [pz])
          (refine ord_op rfl ?_ (fun K hK => ?_); rfl; skip)
          refine wp_app elGood _ _ rfl rfl rfl (own_below HO6.out hBa) (Sl_new W0 [.bool x0, .bool x1, .bool x2, .bool x3, .bool x4, .bool x5] 111) rfl (by intro v hv; simp at hv; rcases hv with rfl | rfl | rfl | rfl | rfl | rfl <;> rfl) (by omega) (by omega) (by have := hBa.size; omega) ?_
          intro v7 w7 hown7 hg7 _
          have h67 : Wr (fun k => (Value.slice av gs.length cv).ownBlock = some k) w6 w7 := (Wr.of_below hBa).trans (wr_grown hg7)
          refine hK _ _ (hSa.wr (wr_grown hg7) (fun k hk => by have := HVB.out k hk; omega)) ?_
          clear hK K
          try simp only [pz]
          have hv7 := h67.blk (fun e => by have := (HVB.out _ e).1; omega) HV6.out
          have hc7 : w7.cell? ⟨w1.heap.size + 1, 10, none⟩ = some (.slice av gs.length cv) := by rw [cell_blk hv7]; rfl
          have hf7 := frozen_blk (k := 10) hv7
          have hfin := ask_final HI6.out HV6.out (by omega) (fun k hk => (HVB.out k hk).1) h67 hown7
          have hS7 : ApS w1.heap.size w4.heap.size x0 x1 x2 x3 x4 x5 (w7.setCell ⟨w1.heap.size + 1, 10, none⟩ v7) := (hSa.wr (wr_grown hg7) (fun k hk => by have := HVB.out k hk; omega)).wr (Wr.setCell (fun k => k = w1.heap.size + 1) _ _ _ rfl) (fun k hk => by omega)
          have hW8 := (HW26.out.trans (h67.mono fun k hk => by have := HVB.out k hk; exact ⟨fun h => by have := h.2; omega, by omega, by omega⟩)).trans (Wr.setCell _ w7 ⟨w1.heap.size + 1, 10, none⟩ v7 ⟨fun h => by have := h.1; simp at this; omega, by simp, by simp⟩)
          obtain ⟨av7, cv7, rfl, -, -⟩ := own_Sl hown7
          have HFIN := Lib.hid hfin
          have HW8 := Lib.hid hW8
          clear hfin hW8 hown7 hg7 h67 hv7
          repeat (first
            | (refine ord_take (v := ?_) rfl ?_ (fun W hW => ?_) ?_; rotate_left; rfl; (obtain ⟨hz0, hz1, hz2, hz3, hz4, hz5, hz6⟩ := hW; go_simp; (first | done | with_reducible rfl)); simp only [pz]))
          (refine ord_op rfl ?_ (fun K hK => ?_); rfl; go_simp; refine hK _ _ hS7 ?_; clear hK K; try simp only [pz])
          refine ord_nil ?_
          gi_wp2
          exact ⟨HW8.out, by show AskI r A w w1.heap.size z (goodsOf r _) _; rw [HNE.out]; exact HFIN.out⟩
      · have hne : goodsOf r (ys ++ [[n0, n1, n2, n3, n4, n5, n6, n7, n8, n9, n10, n11]]) = gs := by
          rw [hnew.out, addG, hany]; rfl
        have HW26 := Lib.hid hw26
        have HI6 := Lib.hid hI6
        have HNE := Lib.hid hne
        clear hw26 hI6 hne hany
        gi_wp2
        exact ⟨HW26.out, by show AskI r A w w1.heap.size z (goodsOf r _) w6; rw [HNE.out]; exact HI6.out⟩
  case done =>
    rw [hz5]
    rintro z W hz hI hK
    obtain ⟨gs, hgs⟩ : ∃ gs, gs = goodsL r := ⟨_, rfl⟩
    have hI' : AskI r A w w1.heap.size z gs W := by rw [hgs]; exact hI
    obtain ⟨v, hv, ho⟩ := hI'.v1
    have hvb : ∀ k, v.ownBlock = some k → z + 3 ≤ k := fun k hk => (ho.lt k hk).1
    have HO := Lib.hid ho
    obtain ⟨av, cv, rfl, hnc, hsl⟩ := own_Sl ho
    have hc10 : W.cell? ⟨w1.heap.size + 1, 10, none⟩ = some (.slice av gs.length cv) := by rw [cell_blk hv]; rfl
    have hx1 : W.cell? ⟨w1.heap.size + 1 + 1, 0, none⟩ = some (.pointer (some ⟨w1.heap.size + 1, 0, none⟩)) := by rw [cell_blk hI'.x1]; rfl
    have hp := Wr.putObj (fun k => k = w1.heap.size + 4) W (w1.heap.size + 4) (.deferred none) rfl
    have hI9 := Lib.hid (hI'.wr (z := z) hp (fun k hk => by omega))
    have HV := Lib.hid hv
    have HP := Lib.hid hp
    have HIK := Lib.hid hI'
    have HG := Lib.hid hgs
    clear hI hI' hv ho hsl hgs hp
    cases hgc : gs with
    | nil =>
      have he : askE r true = 11 := by
        unfold askE; rw [if_neg (by rw [HF.out]; simp), if_neg (by simp), if_pos (by rw [← HG.out, hgc]; rfl)]
      have HE := Lib.hid he
      subst hgc
      clear he
      simp only [List.length_nil] at hc10
      gi_wp2
      refine ⟨by simp, .inl ⟨_, _, rfl, run_takeDeferred hK, ?_⟩⟩
      refine ⟨.tuple #[.pointer none, .int .i64 11], by simp [results, Try.results76, go_sem], hI9.out.b, .inl ⟨?_, ?_⟩⟩
      · rw [HE.out]; decide
      · rw [HE.out]
    | cons g0 gs0 =>
      have he : askE r true = 0 := by
        unfold askE; rw [if_neg (by rw [HF.out]; simp), if_neg (by simp), if_neg (by rw [← HG.out, hgc]; simp)]
      have hlen : ((gs.length : Int) == 0) = false := by rw [hgc]; simp; omega
      have HE := Lib.hid he
      clear he hgc
      gi_wp2
      refine ⟨by simp, .inl ⟨_, _, rfl, run_takeDeferred hK, ?_⟩⟩
      refine ⟨.tuple #[.pointer (some ⟨w1.heap.size + 1, 0, none⟩), .int .i64 0], by simp [results, Try.results76, go_sem], hI9.out.b, .inr ⟨HE.out, w1.heap.size + 1, .slice av gs.length cv, w1.heap.size, rfl, ?_, hI9.out.m1⟩⟩
      rw [← HG.out]
      exact ⟨by omega, by omega, by omega, HP.out.blk (fun e => by omega) HV.out, own_mono (own_wr HO.out HP.out (fun k hk e => by omega)) (by omega), fun e => by have := hvb _ e; omega, fun e => by have := hvb _ e; omega⟩
  case stop =>
    rintro z ys W hz h hK
    exact h.elim

theorem asked_c (r : Riv) (A : RA) (fine : Bool) (w : World) (hr : Rd w r A) (hl1 : r.salt.length ≤ 30) (hl2 : r.mud.length ≤ 30) (hl3 : r.use.length ≤ 30) (hl4 : r.gauges.length ≤ 30) :
    Calls Try.prog 76 #[rivV r A, .bool fine] w (AskPost r A fine w) := by
  by_cases hf : r.faultI = 0
  · cases fine
    · exact asked_rng r A w hr hl1 hl2 hl3 hl4 hf
    · exact asked_main r A w hr hl1 hl2 hl3 hl4 hf
  · exact asked_bad r A fine w hr hl1 hl2 hl3 hl4 hf
end Go.Proofs.Ytgglfngkomgadaa
/- What is known: a map keyed by a spot. -/
namespace Go.Proofs.Ytgglfngkomgadaa
open Go.RowKit
set_option linter.unusedVariables false
set_option linter.unusedSimpArgs false
set_option maxRecDepth 100000

abbrev spotV (p s d : Int) : Value := .agg #[.int .i64 p, .int .i64 s, .int .i64 d]
def wfI (x : Int) : Prop := (Lit.int .i64 x).wf = true
theorem key_spot (p s d : Int) (hp : wfI p) (hs : wfI s) (hd : wfI d) : ∃ l, keyOf Try.prog 126 (spotV p s d) = some l := by
  unfold wfI at hp hs hd
  have hcell : Try.prog.cellsOf 3 = 1 := by kernel_rfl
  have h126 : Try.prog.cellsOf 126 = 3 := by kernel_rfl
  obtain ⟨n, hn⟩ : ∃ n, Try.prog.types.size = n + 1 := ⟨_, (by kernel_rfl : Try.prog.types.size = (Try.prog.types.size - 1) + 1)⟩
  unfold keyOf
  rw [Try.underlying126]
  simp only
  have hkt : Try.prog.keyType 126 = true := by kernel_rfl
  have hf : (spotV p s d).formed Try.prog 126 = true := by simp only [Value.formed, Try.underlying126, h126]; rfl
  rw [hkt, hf]
  simp only [Bool.and_self, if_true, hn]
  rw [show (spotV p s d).cells.toList = [.int .i64 p, .int .i64 s, .int .i64 d] from rfl]
  simp only [Program.keyLits, Try.underlying126, h126]
  simp [hcell, hp, hs, hd, Program.keyLits, Try.underlying3]
theorem keyL : WideMaps.KeyLaw Try.prog 126 := Go.deep_law (m := 2) (by omega) (by kernel_rfl) (by kernel_rfl) (by rw [Try.underlying126])

/-- What is known lies in a map. -/
def Memo (W : World) (m : Nat) (f : Int → Int → Int → Int) : Prop := ∃ es clock, W.heap[m]? = some (.map es clock) ∧ ∀ e ∈ es, ∃ p s d, wfI p ∧ wfI s ∧ wfI d ∧ e.key = spotV p s d ∧ e.val = .int .i64 (f p s d)
theorem memo_new {W : World} {m : Nat} {f : Int → Int → Int → Int} (h : W.heap[m]? = some (.map #[] 0)) : Memo W m f := ⟨#[], 0, h, fun e he => by simp at he⟩
theorem memo_below {W W' : World} {m : Nat} {f : Int → Int → Int → Int} (h : Memo W m f) (hb : Below W.heap.size W W') : Memo W' m f := by
  obtain ⟨es, c, hm, he⟩ := h
  exact ⟨es, c, (hb.block _ (Array.getElem?_eq_some_iff.1 hm).1).trans hm, he⟩
theorem memo_lt {W : World} {m : Nat} {f : Int → Int → Int → Int} (h : Memo W m f) : m < W.heap.size := by
  obtain ⟨es, c, hm, he⟩ := h
  exact (Array.getElem?_eq_some_iff.1 hm).1

theorem memo_look {W : World} {m : Nat} {f : Int → Int → Int → Int} (h : Memo W m f) (p s d : Int) (hp : wfI p) (hs : wfI s) (hd : wfI d) :
    ∃ known : Bool, ∀ W', W'.heap[m]? = W.heap[m]? → (Instr.lookup 150 (.map (some m)) (spotV p s d) true).run Try.prog W' = .ok (.tuple #[.int .i64 (if known then f p s d else 0), .bool known]) W' := by
  obtain ⟨es, clock, hm, he⟩ := h
  obtain ⟨l, hl⟩ := key_spot p s d hp hs hd
  have hes : ∀ e ∈ es.toList, ∃ l, keyOf Try.prog 126 e.key = some l := by
    intro e hx
    obtain ⟨p', s', d', h1, h2, h3, h4, h5⟩ := he e (by simpa using hx)
    rw [h4]; exact key_spot p' s' d' h1 h2 h3
  have hz : ∀ W', (zeroValue 3).run Try.prog W' = .ok (.int .i64 0) W' := fun W' => by
    rw [Try.zeroValue3]
  by_cases hk : ∃ e ∈ es, e.key = spotV p s d
  · refine ⟨true, fun W' hW => ?_⟩
    have hg : (getObj m).run Try.prog W' = .ok (.map es clock) W' := by simp [getObj, Sem.run, hW, hm]
    have hc := keyL.check W' es.isEmpty hl
    rcases keyL.find W' hl es.toList hes with ⟨h1, h2⟩ | ⟨j, e, h1, h2, h3⟩
    · obtain ⟨e, hx, hy⟩ := hk
      exact absurd hy (h2 e (by simpa using hx))
    · obtain ⟨p', s', d', g1, g2, g3, g4, g5⟩ := he e (by simpa using List.mem_of_getElem? h2)
      rw [h3] at g4
      simp only [spotV, Value.agg.injEq, Array.mk.injEq, List.cons.injEq, Value.int.injEq, true_and, and_true] at g4
      obtain ⟨rfl, rfl, rfl⟩ := g4
      unfold Instr.lookup
      simp only [Sem.run_bind, run_underlying Try.underlying150, Result.andThen_ok, hg, hc, h1, g5, Sem.run_pure]
      simp
  · refine ⟨false, fun W' hW => ?_⟩
    have hg : (getObj m).run Try.prog W' = .ok (.map es clock) W' := by simp [getObj, Sem.run, hW, hm]
    have hc := keyL.check W' es.isEmpty hl
    rcases keyL.find W' hl es.toList hes with ⟨h1, h2⟩ | ⟨j, e, h1, h2, h3⟩
    · unfold Instr.lookup
      simp only [Sem.run_bind, run_underlying Try.underlying150, Result.andThen_ok, hg, hc, h1, hz, Sem.run_pure]
      simp
    · exact absurd ⟨e, by simpa using List.mem_of_getElem? h2, h3⟩ hk

theorem memo_put {W : World} {m : Nat} {f : Int → Int → Int → Int} (h : Memo W m f) (p s d : Int) (hp : wfI p) (hs : wfI s) (hd : wfI d) :
    ∃ W', (Instr.mapUpdate 150 (.map (some m)) (spotV p s d) (.int .i64 (f p s d))).run Try.prog W = .ok () W' ∧ Memo W' m f ∧ Wr (fun k => k = m) W W' := by
  have hml := memo_lt h
  obtain ⟨es, clock, hm, he⟩ := h
  obtain ⟨l, hl⟩ := key_spot p s d hp hs hd
  have hes : ∀ e ∈ es.toList, ∃ l, keyOf Try.prog 126 e.key = some l := by
    intro e hx
    obtain ⟨p', s', d', h1, h2, h3, h4, h5⟩ := he e (by simpa using hx)
    rw [h4]; exact key_spot p' s' d' h1 h2 h3
  have hg : (getObj m).run Try.prog W = .ok (.map es clock) W := by simp [getObj, Sem.run, hm]
  have hset : ∀ o, (setObj m o).run Try.prog W = .ok () (W.putObj m o) := fun o => by simp [setObj, Sem.run, hm, World.putObj]
  have hc := keyL.check W false hl
  rcases keyL.find W hl es.toList hes with ⟨h1, h2⟩ | ⟨j, e, h1, h2, h3⟩
  · refine ⟨W.putObj m (.map (es.push { key := spotV p s d, val := .int .i64 (f p s d), born := clock }) (clock + 1)), ?_, ⟨_, _, World.putObj_heap_same hml, ?_⟩, Wr.putObj _ _ _ _ rfl⟩
    · unfold Instr.mapUpdate
      simp only [Sem.run_bind, run_underlying Try.underlying150, Result.andThen_ok, hg, hc, h1, hset]
    · intro e hx
      rcases Array.mem_push.1 hx with hx | rfl
      · exact he e hx
      · exact ⟨p, s, d, hp, hs, hd, rfl, rfl⟩
  · have hst := keyL.stays W hl
    refine ⟨W.putObj m (.map (es.modify j fun e => { e with key := spotV p s d, val := .int .i64 (f p s d) }) clock), ?_, ⟨_, _, World.putObj_heap_same hml, ?_⟩, Wr.putObj _ _ _ _ rfl⟩
    · have hj : ((es[j]?).map (·.key)).getD (spotV p s d) = spotV p s d := by
        have : es[j]? = some e := by simpa using h2
        rw [this]; exact h3
      unfold Instr.mapUpdate
      simp only [Sem.run_bind, run_underlying Try.underlying150, Result.andThen_ok, hg, hc, h1, hj, hst, hset]
    · intro e' hx
      obtain ⟨i, hi, rfl⟩ := Array.mem_iff_getElem.1 hx
      rw [Array.getElem_modify]
      split
      · exact ⟨p, s, d, hp, hs, hd, rfl, rfl⟩
      · exact he _ (Array.getElem_mem _)
end Go.Proofs.Ytgglfngkomgadaa
