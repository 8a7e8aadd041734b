/- plain maths -/
import Derived.Test.YtgglfngkomgadaaJO
import Derived.Test.YtgglfngkomgadaaJK
import Derived.Test.YtgglfngkomgadaaJS
import Derived.Test.YtgglfngkomgadaaJT
import Derived.Test.YtgglfngkomgadaaJR
import Derived.Test.YtgglfngkomgadaaJL
import Derived.Test.YtgglfngkomgadaaJG
/- Plain maths: the truths of the program and those of the reference are the same ones. -/
namespace Go.Proofs.Ytgglfngkomgadaa
set_option linter.unusedVariables false
set_option linter.unusedSimpArgs false

/-- Is each number in its range, one by one? -/
def fitL : List Rg → List Int → Bool
  | [], [] => true
  | x :: xs, n :: ns => x.has n && fitL xs ns
  | _, _ => false
theorem fitL_len : ∀ {xs : List Rg} {ns : List Int}, fitL xs ns = true → ns.length = xs.length
  | [], [], _ => rfl
  | x :: xs, n :: ns, h => by
    simp only [fitL, Bool.and_eq_true] at h
    simp [fitL_len h.2]
  | [], _ :: _, h => by simp [fitL] at h
  | _ :: _, [], h => by simp [fitL] at h
theorem fitL_append : ∀ {xs : List Rg} {ns : List Int} {ys : List Rg} {ms : List Int}, ns.length = xs.length → fitL (xs ++ ys) (ns ++ ms) = (fitL xs ns && fitL ys ms)
  | [], [], _, _, _ => by simp [fitL]
  | x :: xs, n :: ns, ys, ms, h => by
    have ih := @fitL_append xs ns ys ms (by simpa using h)
    simp [fitL, ih, Bool.and_assoc]
  | [], _ :: _, _, _, h => by simp at h
  | _ :: _, [], _, _, h => by simp at h
theorem has_iff {x : Rg} {n : Int} : x.has n = true ↔ x.lo ≤ n ∧ n ≤ x.hi := by simp [Rg.has, inB]
theorem mem_combos : ∀ {rs : List Rg} {ns : List Int}, ns ∈ combos rs ↔ fitL rs ns = true
  | [], [] => by simp [combos, fitL]
  | [], _ :: _ => by simp [combos, fitL]
  | r :: rs, [] => by simp [combos, fitL]
  | r :: rs, n :: ns => by
    have ih := @mem_combos rs ns
    simp only [combos, List.mem_flatMap, List.mem_map, List.mem_range, fitL, Bool.and_eq_true, has_iff]
    constructor
    · rintro ⟨k, hk, t, ht, e⟩
      injection e with e1 e2
      subst e2
      refine ⟨?_, ih.1 ht⟩
      unfold Rg.size at hk
      omega
    · rintro ⟨h1, h2⟩
      refine ⟨(n - r.lo).toNat, by unfold Rg.size; omega, ns, ih.2 h2, ?_⟩
      rw [show r.lo + ((n - r.lo).toNat : Int) = n by omega]
theorem fitL_at : ∀ {xs : List Rg} {ns : List Int}, fitL xs ns = true → ∀ i, i < xs.length → (xs.getD i default).has (ns.getD i 0) = true
  | [], [], _, i, h => by simp at h
  | x :: xs, n :: ns, h, i, hi => by
    simp only [fitL, Bool.and_eq_true] at h
    cases i with
    | zero => simpa using h.1
    | succ i => simpa using fitL_at h.2 i (by simpa using hi)
  | [], _ :: _, h, _, _ => by simp [fitL] at h
  | _ :: _, [], h, _, _ => by simp [fitL] at h
theorem fitL_of : ∀ {xs : List Rg} {ns : List Int}, ns.length = xs.length → (∀ i, i < xs.length → (xs.getD i default).has (ns.getD i 0) = true) → fitL xs ns = true
  | [], [], _, _ => rfl
  | x :: xs, n :: ns, h, H => by
    simp only [fitL, Bool.and_eq_true]
    refine ⟨by simpa using H 0 (by simp), fitL_of (by simpa using h) fun i hi => ?_⟩
    simpa using H (i + 1) (by simpa using hi)
  | [], _ :: _, h, _ => by simp at h
  | _ :: _, [], h, _ => by simp at h
theorem hasAll_fitL {xs : List Rg} {ns : List Int} (h : ns.length = xs.length) : hasAll xs ns = fitL xs ns := by
  rw [Bool.eq_iff_iff]
  simp only [hasAll, List.all_eq_true, List.mem_range]
  exact ⟨fun H => fitL_of h H, fun H => fitL_at H⟩

/-- Is it a truth, whatever the gauges are? -/
def fitT (r : Riv) (t : Tr) : Bool := fitL r.salt t.salt && fitL r.mud t.mud
theorem listedB_fit (r : Riv) (t : Tr) : listedB r t = fitT r t := by
  rw [Bool.eq_iff_iff]
  simp only [listedB, fitT, Bool.and_eq_true, decide_eq_true_eq]
  constructor
  · rintro ⟨⟨h1, h2⟩, h3⟩
    rw [hasAll_fitL (by simp [h1, h2]), fitL_append h1, Bool.and_eq_true] at h3
    exact h3
  · rintro ⟨h1, h2⟩
    have l1 := fitL_len h1
    have l2 := fitL_len h2
    refine ⟨⟨l1, l2⟩, ?_⟩
    rw [hasAll_fitL (by simp [l1, l2]), fitL_append l1, h1, h2]; rfl
theorem listedR_fit {r : Riv} (ok : Ok r) (t : Tr) : listedR r t = fitT r t := by
  have hl : r.salt.length = r.mud.length := by have := ok.ns; have := ok.nm; omega
  rw [Bool.eq_iff_iff]
  simp only [listedR, fitT, Bool.and_eq_true, decide_eq_true_eq, List.all_eq_true, List.mem_range]
  constructor
  · rintro ⟨h1, h2, h3⟩
    exact ⟨fitL_of h1 fun i hi => (h3 i (by omega)).1, fitL_of h2 fun i hi => (h3 i (by omega)).2⟩
  · rintro ⟨h1, h2⟩
    have l1 := fitL_len h1
    have l2 := fitL_len h2
    exact ⟨l1, l2, fun i hi => ⟨fitL_at h1 i (by omega), fitL_at h2 i (by omega)⟩⟩

/-! ### The truths with a number -/
theorem nthF_fit : ∀ (n : Nat) (la lb : List Rg), la.length = lb.length → (∀ x ∈ la, 1 ≤ x.size) → (∀ x ∈ lb, 1 ≤ x.size) → fitL la (nthF n la lb).1 = true ∧ fitL lb (nthF n la lb).2 = true
  | _, [], [], _, _, _ => by simp [nthF, fitL]
  | _, [], _ :: _, h, _, _ => by simp at h
  | _, _ :: _, [], h, _, _ => by simp at h
  | n, a :: la, b :: lb, h, h1, h2 => by
    have ih := nthF_fit (n / a.size.toNat / b.size.toNat) la lb (by simpa using h) (fun x hx => h1 x (List.mem_cons_of_mem _ hx)) (fun x hx => h2 x (List.mem_cons_of_mem _ hx))
    have ha := h1 a List.mem_cons_self
    have hb := h2 b List.mem_cons_self
    have m1 := Nat.mod_lt n (show 0 < a.size.toNat by omega)
    have m2 := Nat.mod_lt (n / a.size.toNat) (show 0 < b.size.toNat by omega)
    simp only [nthF, fitL, Bool.and_eq_true, has_iff]
    refine ⟨⟨?_, ih.1⟩, ?_, ih.2⟩
    · generalize n % a.size.toNat = q at m1 ⊢
      unfold Rg.size at m1 ha; omega
    · generalize n / a.size.toNat % b.size.toNat = q at m2 ⊢
      unfold Rg.size at m2 hb; omega
theorem div_fit {A B k i j : Nat} (hi : i < A) (hj : j < B) : (i + A * (j + B * k)) % A = i ∧ (i + A * (j + B * k)) / A % B = j ∧ (i + A * (j + B * k)) / A / B = k := by
  have h1 : (i + A * (j + B * k)) / A = j + B * k := by
    rw [Nat.add_mul_div_left _ _ (by omega), Nat.div_eq_of_lt hi, Nat.zero_add]
  have h2 : (j + B * k) / B = k := by
    rw [Nat.add_mul_div_left _ _ (by omega), Nat.div_eq_of_lt hj, Nat.zero_add]
  refine ⟨?_, ?_, ?_⟩
  · rw [Nat.add_mul_mod_self_left, Nat.mod_eq_of_lt hi]
  · rw [h1, Nat.add_mul_mod_self_left, Nat.mod_eq_of_lt hj]
  · rw [h1, h2]
theorem nthF_onto : ∀ (la lb : List Rg) (sa sb : List Int), la.length = lb.length → fitL la sa = true → fitL lb sb = true →
    ∃ n : Nat, (n : Int) < prodS la * prodS lb ∧ nthF n la lb = (sa, sb)
  | [], [], sa, sb, _, h1, h2 => by
    cases sa with
    | nil => cases sb with
      | nil => exact ⟨0, by simp [prodS], rfl⟩
      | cons _ _ => simp [fitL] at h2
    | cons _ _ => simp [fitL] at h1
  | [], _ :: _, _, _, h, _, _ => by simp at h
  | _ :: _, [], _, _, h, _, _ => by simp at h
  | a :: la, b :: lb, sa, sb, h, h1, h2 => by
    cases sa with
    | nil => simp [fitL] at h1
    | cons x sa =>
    cases sb with
    | nil => simp [fitL] at h2
    | cons y sb =>
    simp only [fitL, Bool.and_eq_true, has_iff] at h1 h2
    obtain ⟨k, hk, e⟩ := nthF_onto la lb sa sb (by simpa using h) h1.2 h2.2
    obtain ⟨i, hi⟩ : ∃ i : Nat, (i : Int) = x - a.lo := ⟨(x - a.lo).toNat, by omega⟩
    obtain ⟨j, hj⟩ : ∃ j : Nat, (j : Int) = y - b.lo := ⟨(y - b.lo).toNat, by omega⟩
    obtain ⟨P, hP⟩ : ∃ P : Nat, (P : Int) = a.size := ⟨a.size.toNat, by unfold Rg.size; omega⟩
    obtain ⟨Q, hQ⟩ : ∃ Q : Nat, (Q : Int) = b.size := ⟨b.size.toNat, by unfold Rg.size; omega⟩
    have hiP : i < P := by unfold Rg.size at hP; omega
    have hjQ : j < Q := by unfold Rg.size at hQ; omega
    obtain ⟨d1, d2, d3⟩ := div_fit (k := k) hiP hjQ
    refine ⟨i + P * (j + Q * k), ?_, ?_⟩
    · simp only [prodS]
      rw [← hP, ← hQ]
      have e1 : ((P : Int) * prodS la) * ((Q : Int) * prodS lb) = (P : Int) * ((Q : Int) * (prodS la * prodS lb)) := by
        rw [Int.mul_assoc, Int.mul_left_comm (prodS la)]
      rw [e1]
      obtain ⟨Z, hZ⟩ : ∃ Z : Nat, (Z : Int) = prodS la * prodS lb := ⟨(prodS la * prodS lb).toNat, by omega⟩
      rw [← hZ] at hk ⊢
      have hk' : k + 1 ≤ Z := by omega
      have b1 : j + Q * k + 1 ≤ Q * Z := by
        have := Nat.mul_le_mul_left Q hk'
        rw [Nat.mul_succ] at this
        omega
      have b2 : i + P * (j + Q * k) + 1 ≤ P * (Q * Z) := by
        have := Nat.mul_le_mul_left P b1
        rw [Nat.mul_succ] at this
        omega
      have : ((i + P * (j + Q * k) + 1 : Nat) : Int) ≤ ((P * (Q * Z) : Nat) : Int) := by exact_mod_cast b2
      push_cast at this ⊢
      omega
    · have pa : a.size.toNat = P := by omega
      have qb : b.size.toNat = Q := by omega
      simp only [nthF, pa, qb, d1, d2, d3, e]
      rw [show a.lo + (i : Int) = x by omega, show b.lo + (j : Int) = y by omega]
theorem size1 {rs : List Rg} (h : ∀ x ∈ rs, 0 ≤ x.lo ∧ x.lo ≤ x.hi ∧ x.hi ≤ 9) : ∀ x ∈ rs, 1 ≤ x.size := fun x hx => by have := h x hx; unfold Rg.size; omega
theorem many_prod {r : Riv} (h : r.faultI = 0) : manyI r = prodS r.salt * prodS r.mud ∧ manyI r ≤ 2000 ∧ 1 ≤ manyI r := by
  obtain ⟨ok, hc⟩ := ok_of_fault h
  have hl : r.salt.length = r.mud.length := by have := ok.ns; have := ok.nm; omega
  obtain ⟨e1, e2⟩ := many_cap hl (size1 ok.so) (size1 ok.mo)
  rw [e2] at hc
  have hp := prodS_pos (r.salt ++ r.mud) (fun x hx => (List.mem_append.1 hx).elim (size1 ok.so x) (size1 ok.mo x))
  rw [prodS_append] at e1 hc hp
  refine ⟨?_, ?_, ?_⟩ <;> omega
theorem nthT_fit {r : Riv} (ok : Ok r) (n : Nat) : fitT r (nthT r n) = true := by
  have hl : r.salt.length = r.mud.length := by have := ok.ns; have := ok.nm; omega
  have := nthF_fit n r.salt r.mud hl (size1 ok.so) (size1 ok.mo)
  simp [fitT, nthT, this]
theorem nthT_onto {r : Riv} (h : r.faultI = 0) {t : Tr} (ht : fitT r t = true) : ∃ n : Nat, n < (manyI r).toNat ∧ nthT r n = t := by
  obtain ⟨ok, _⟩ := ok_of_fault h
  have hl : r.salt.length = r.mud.length := by have := ok.ns; have := ok.nm; omega
  simp only [fitT, Bool.and_eq_true] at ht
  obtain ⟨n, hn, e⟩ := nthF_onto r.salt r.mud t.salt t.mud hl ht.1 ht.2
  have hm := many_prod h
  rw [← hm.1] at hn
  exact ⟨n, by omega, by simp [nthT, e]⟩

/-! ### Gauges -/
/-- Is a gauge right in a truth? -/
def okG (r : Riv) (t : Tr) (i : Nat) : Bool := (r.gauges.getD i default).rd.has (gval t (r.gauges.getD i default))
theorem rightN_bit (t : Tr) (gs : List Gg) : ∀ k i, (rightN t gs k).testBit i = (decide (i < k) && (gs.getD i default).rd.has (gval t (gs.getD i default)))
  | 0, i => by simp [rightN]
  | k + 1, i => by
    have ih := rightN_bit t gs k i
    simp only [rightN]
    split
    · rename_i hk
      rw [Nat.testBit_or, ih, Nat.testBit_two_pow]
      by_cases e : i = k
      · subst e; rw [hk]; simp
      · rw [show decide (i < k + 1) = decide (i < k) by rw [decide_eq_decide]; omega]
        simp [show ¬ k = i by omega]
    · rename_i hk
      rw [ih]
      by_cases e : i = k
      · subst e; rw [Bool.not_eq_true] at hk; rw [hk]; simp
      · rw [show decide (i < k + 1) = decide (i < k) by rw [decide_eq_decide]; omega]
theorem right_bit (r : Riv) (t : Tr) (i : Nat) : (rightR r t).testBit i = (decide (i < r.gauges.length) && okG r t i) := rightN_bit t r.gauges _ i
theorem and_sub_iff {x m : Nat} : x &&& m = m ↔ ∀ i, m.testBit i = true → x.testBit i = true := by
  constructor
  · intro h i hi
    rw [← h, Nat.testBit_and, Bool.and_eq_true] at hi
    exact hi.1
  · intro h
    refine Nat.eq_of_testBit_eq fun i => ?_
    rw [Nat.testBit_and]
    cases e : m.testBit i
    · simp
    · simp [h i e]
theorem full_bit (r : Riv) (i : Nat) : (fullR r).testBit i = decide (i < r.gauges.length) := by
  unfold fullR; rw [Nat.testBit_two_pow_sub_one]
theorem right_full {r : Riv} {t : Tr} : rightR r t = fullR r ↔ ∀ i, i < r.gauges.length → okG r t i = true := by
  constructor
  · intro h i hi
    have := right_bit r t i
    rw [h, full_bit] at this
    simpa [hi] using this
  · intro h
    refine Nat.eq_of_testBit_eq fun i => ?_
    rw [right_bit, full_bit]
    by_cases hi : i < r.gauges.length
    · simp [hi, h i hi]
    · simp [hi]
theorem fit_lens {r : Riv} (ok : Ok r) {t : Tr} (ht : fitT r t = true) : (t.salt.length : Int) = r.last + 1 ∧ (t.mud.length : Int) = r.last + 1 := by
  simp only [fitT, Bool.and_eq_true] at ht
  have := fitL_len ht.1; have := fitL_len ht.2; have := ok.ns; have := ok.nm
  omega
/-- The numbers of a truth. -/
def numT (t : Tr) : List Int := pad12 (t.salt ++ t.mud)
theorem numT_salt (t : Tr) (d : Nat) (h : d < t.salt.length) : (numT t).getD d 0 = t.salt.getD d 0 := by
  simp only [numT, pad12, List.getD_eq_getElem?_getD]
  rw [List.append_assoc, List.getElem?_append_left h]
theorem numT_mud (t : Tr) (d k : Nat) (hk : k = t.salt.length) (h : d < t.mud.length) : (numT t).getD (k + d) 0 = t.mud.getD d 0 := by
  subst hk
  simp only [numT, pad12, List.getD_eq_getElem?_getD]
  rw [List.append_assoc, List.getElem?_append_right (by omega), Nat.add_sub_cancel_left, List.getElem?_append_left h]
theorem gauge_num {r : Riv} (ok : Ok r) {t : Tr} (ht : fitT r t = true) {g : Gg} (hg : g ∈ r.gauges) : (numT t).getD (gaugeAt r g) 0 = gval t g := by
  have hl := fit_lens ok ht
  have hd := (ok.go g hg).1
  unfold gaugeAt gval
  cases g.mud
  · simp only [Bool.false_eq_true, if_false, Nat.add_zero]
    exact numT_salt t _ (by omega)
  · simp only [if_true]
    rw [Nat.add_comm]
    have := ok.l0
    exact numT_mud t _ _ (by omega) (by omega)
theorem rightB_iff {r : Riv} (ok : Ok r) {t : Tr} (ht : fitT r t = true) (out : List Int) : rightB r (numT t) out = true ↔ ∀ i, i < r.gauges.length → (i : Int) ∉ out → okG r t i = true := by
  simp only [rightB, List.all_eq_true, List.mem_range]
  refine forall_congr' fun i => forall_congr' fun hi => ?_
  have hm : r.gauges.getD i default ∈ r.gauges := by
    rw [List.getD_eq_getElem?_getD, List.getElem?_eq_getElem hi]; simp
  simp only [gaugeOk, Bool.or_eq_true, okG, gauge_num ok ht hm, List.contains_iff_mem]
  constructor
  · rintro (h | h) hn
    · exact absurd h hn
    · exact h
  · intro h
    by_cases e : (i : Int) ∈ out
    · exact .inl e
    · exact .inr (h e)
theorem mem_truthsL {r : Riv} {ns : List Int} : ns ∈ truthsL r ↔ ∃ t, fitT r t = true ∧ ns = numT t := by
  unfold truthsL
  rw [List.mem_map]
  constructor
  · rintro ⟨c, hc, rfl⟩
    rw [mem_combos] at hc
    have hl := fitL_len hc
    rw [List.length_append] at hl
    refine ⟨⟨c.take r.salt.length, c.drop r.salt.length⟩, ?_, by simp [numT]⟩
    rw [← List.take_append_drop r.salt.length c] at hc
    rw [fitL_append (by rw [List.length_take]; omega), Bool.and_eq_true] at hc
    simp [fitT, hc]
  · rintro ⟨t, ht, rfl⟩
    simp only [fitT, Bool.and_eq_true] at ht
    refine ⟨t.salt ++ t.mud, ?_, rfl⟩
    rw [mem_combos, fitL_append (fitL_len ht.1), ht.1, ht.2]; rfl
/-- Is a truth one of the river? -/
def isT (r : Riv) (t : Tr) : Prop := fitT r t = true ∧ ∀ i, i < r.gauges.length → okG r t i = true
theorem mem_truthsR {r : Riv} (h : r.faultI = 0) {t : Tr} : t ∈ truthsR r ↔ isT r t := by
  obtain ⟨ok, _⟩ := ok_of_fault h
  simp only [truthsR, truthsK, List.mem_map, List.mem_filter, List.mem_range, fitB, decide_eq_true_eq]
  constructor
  · rintro ⟨n, ⟨hn, hf⟩, rfl⟩
    exact ⟨nthT_fit ok n, right_full.1 hf⟩
  · rintro ⟨h1, h2⟩
    obtain ⟨n, hn, rfl⟩ := nthT_onto h h1
    exact ⟨n, ⟨hn, right_full.2 h2⟩, rfl⟩
theorem isTruthR_iff {r : Riv} (ok : Ok r) {t : Tr} : isTruthR r t = true ↔ isT r t := by
  simp only [isTruthR, listedR_fit ok, Bool.and_eq_true, decide_eq_true_eq, right_full, isT]
/-- The good days of a truth. -/
def gOf (r : Riv) (t : Tr) : List Bool := goodL r (numT t)
theorem mem_addG {gs : List (List Bool)} {g x : List Bool} : x ∈ addG gs g ↔ x ∈ gs ∨ x = g := by
  unfold addG
  split
  · rename_i h
    rw [List.any_eq_true] at h
    obtain ⟨y, hy, e⟩ := h
    have e := eq_of_beq e
    constructor
    · exact .inl
    · rintro (h | rfl)
      · exact h
      · exact e ▸ hy
  · simp
theorem mem_goodsOf (r : Riv) : ∀ (ys : List (List Int)) (gs : List (List Bool)) (x : List Bool), x ∈ ys.foldl (stepG r) gs ↔ x ∈ gs ∨ ∃ n ∈ ys, rightB r n [] = true ∧ x = goodL r n
  | [], gs, x => by simp
  | y :: ys, gs, x => by
    rw [List.foldl_cons, mem_goodsOf r ys]
    unfold stepG
    cases h : rightB r y []
    · simp [h]
    · simp only [if_true, mem_addG, List.mem_cons]
      constructor
      · rintro ((h1 | h1) | ⟨n, h1, h2, h3⟩)
        · exact .inl h1
        · exact .inr ⟨y, .inl rfl, h, h1⟩
        · exact .inr ⟨n, .inr h1, h2, h3⟩
      · rintro (h1 | ⟨n, rfl | h1, h2, h3⟩)
        · exact .inl (.inl h1)
        · exact .inl (.inr h3)
        · exact .inr ⟨n, h1, h2, h3⟩
theorem mem_goodsL {r : Riv} (ok : Ok r) {x : List Bool} : x ∈ goodsL r ↔ ∃ t, isT r t ∧ x = gOf r t := by
  unfold goodsL goodsOf
  rw [mem_goodsOf]
  constructor
  · rintro (h | ⟨n, h1, h2, h3⟩)
    · simp at h
    · obtain ⟨t, ht, rfl⟩ := mem_truthsL.1 h1
      exact ⟨t, ⟨ht, fun i hi => (rightB_iff ok ht []).1 h2 i hi (by simp)⟩, h3⟩
  · rintro ⟨t, ⟨h1, h2⟩, rfl⟩
    exact .inr ⟨numT t, mem_truthsL.2 ⟨t, h1, rfl⟩, (rightB_iff ok h1 []).2 fun i hi _ => h2 i hi, rfl⟩
theorem goods_map {r : Riv} (h : r.faultI = 0) {x : List Bool} : x ∈ goodsL r ↔ x ∈ (truthsR r).map (gOf r) := by
  rw [mem_goodsL (ok_of_fault h).1, List.mem_map]
  constructor
  · rintro ⟨t, ht, rfl⟩; exact ⟨t, (mem_truthsR h).2 ht, rfl⟩
  · rintro ⟨t, ht, rfl⟩; exact ⟨t, (mem_truthsR h).1 ht, rfl⟩
theorem posB_iff {r : Riv} (ok : Ok r) (out : List Int) : posB r out = true ↔ ∃ t, fitT r t = true ∧ ∀ i, i < r.gauges.length → (i : Int) ∉ out → okG r t i = true := by
  unfold posB
  rw [List.any_eq_true]
  constructor
  · rintro ⟨ns, h1, h2⟩
    obtain ⟨t, ht, rfl⟩ := mem_truthsL.1 h1
    exact ⟨t, ht, (rightB_iff ok ht out).1 h2⟩
  · rintro ⟨t, ht, h⟩
    exact ⟨numT t, mem_truthsL.2 ⟨t, ht, rfl⟩, (rightB_iff ok ht out).2 h⟩
theorem mem_allF {r : Riv} (h : r.faultI = 0) {x : Nat} : x ∈ allF r ↔ ∃ t, fitT r t = true ∧ x = rightR r t := by
  unfold allF
  rw [List.mem_map]
  constructor
  · rintro ⟨n, _, rfl⟩; exact ⟨nthT r n, nthT_fit (ok_of_fault h).1 n, rfl⟩
  · rintro ⟨t, ht, rfl⟩
    obtain ⟨n, hn, rfl⟩ := nthT_onto h ht
    exact ⟨n, by simpa using hn, rfl⟩
theorem canF_iff {r : Riv} (h : r.faultI = 0) (m : Nat) (hm : ∀ i, m.testBit i = true → i < r.gauges.length) : canF (allF r) m = true ↔ ∃ t, fitT r t = true ∧ ∀ i, m.testBit i = true → okG r t i = true := by
  unfold canF
  rw [List.any_eq_true]
  constructor
  · rintro ⟨x, hx, h2⟩
    obtain ⟨t, ht, rfl⟩ := (mem_allF h).1 hx
    refine ⟨t, ht, fun i hi => ?_⟩
    have := and_sub_iff.1 (eq_of_beq h2) i hi
    rw [right_bit] at this
    simp only [Bool.and_eq_true] at this
    exact this.2
  · rintro ⟨t, ht, h2⟩
    refine ⟨rightR r t, (mem_allF h).2 ⟨t, ht, rfl⟩, ?_⟩
    rw [beq_iff_eq]
    refine and_sub_iff.2 fun i hi => ?_
    rw [right_bit, h2 i hi]
    simp [hm i hi]
end Go.Proofs.Ytgglfngkomgadaa
/- Plain maths: the program's answers over the good days of the truths are those over the truths. -/
namespace Go.Proofs.Ytgglfngkomgadaa
set_option linter.unusedVariables false
set_option linter.unusedSimpArgs false

/-! ### Folds that ask only which elements there are -/
theorem foldMin_le {α : Type} (f : α → Int) : ∀ (l : List α) (n c : Int), c < l.foldl (fun n x => min n (f x)) n ↔ c < n ∧ ∀ x ∈ l, c < f x
  | [], n, c => by simp
  | y :: l, n, c => by
    rw [List.foldl_cons, foldMin_le f l]
    simp only [List.mem_cons, forall_eq_or_imp]
    constructor
    · rintro ⟨h1, h2⟩; exact ⟨by omega, by omega, h2⟩
    · rintro ⟨h1, h2, h3⟩; exact ⟨by omega, h3⟩
theorem foldMin_eq {α β : Type} (f : α → Int) (g : β → Int) (l : List α) (m : List β) (n : Int) (h1 : ∀ x ∈ l, ∃ y ∈ m, g y = f x) (h2 : ∀ y ∈ m, ∃ x ∈ l, f x = g y) :
    l.foldl (fun n x => min n (f x)) n = m.foldl (fun n x => min n (g x)) n := by
  have key : ∀ c, c < l.foldl (fun n x => min n (f x)) n ↔ c < m.foldl (fun n x => min n (g x)) n := fun c => by
    rw [foldMin_le, foldMin_le]
    constructor
    · rintro ⟨a, b⟩
      refine ⟨a, fun y hy => ?_⟩
      obtain ⟨x, hx, e⟩ := h2 y hy
      exact e ▸ b x hx
    · rintro ⟨a, b⟩
      refine ⟨a, fun x hx => ?_⟩
      obtain ⟨y, hy, e⟩ := h1 x hx
      exact e ▸ b y hy
  have k1 := key (l.foldl (fun n x => min n (f x)) n)
  have k2 := key (m.foldl (fun n x => min n (g x)) n)
  omega
theorem bnd_fold : ∀ (l : List Int) (o : Rg), o.lo ≤ o.hi → let q := l.foldl (fun (o : Rg) n => (⟨min o.lo n, max o.hi n⟩ : Rg)) o
    (q.lo ≤ o.lo ∧ o.hi ≤ q.hi ∧ (∀ x ∈ l, q.lo ≤ x ∧ x ≤ q.hi) ∧ (q.lo = o.lo ∨ q.lo ∈ l) ∧ (q.hi = o.hi ∨ q.hi ∈ l))
  | [], o, h => by simp
  | y :: l, o, h => by
    have ih := bnd_fold l ⟨min o.lo y, max o.hi y⟩ (by simp only []; omega)
    simp only [List.foldl_cons] at ih ⊢
    generalize l.foldl (fun (o : Rg) n => (⟨min o.lo n, max o.hi n⟩ : Rg)) ⟨min o.lo y, max o.hi y⟩ = q at ih ⊢
    obtain ⟨h1, h2, h3, h4, h5⟩ := ih
    simp only [List.mem_cons, forall_eq_or_imp]
    refine ⟨by omega, by omega, ⟨by omega, h3⟩, ?_, ?_⟩
    · rcases h4 with h4 | h4
      · by_cases e : o.lo ≤ y
        · exact .inl (by omega)
        · exact .inr (.inl (by omega))
      · exact .inr (.inr h4)
    · rcases h5 with h5 | h5
      · by_cases e : y ≤ o.hi
        · exact .inl (by omega)
        · exact .inr (.inl (by omega))
      · exact .inr (.inr h5)
theorem bndF_spec {l : List Int} (h : l ≠ []) : (∀ x ∈ l, (bndF l).lo ≤ x ∧ x ≤ (bndF l).hi) ∧ (bndF l).lo ∈ l ∧ (bndF l).hi ∈ l := by
  cases l with
  | nil => exact absurd rfl h
  | cons n t =>
    have := bnd_fold t ⟨n, n⟩ (Int.le_refl _)
    simp only [bndF]
    simp only [] at this
    generalize t.foldl (fun (o : Rg) n => (⟨min o.lo n, max o.hi n⟩ : Rg)) ⟨n, n⟩ = q at this ⊢
    obtain ⟨h1, h2, h3, h4, h5⟩ := this
    simp only [List.mem_cons, forall_eq_or_imp]
    exact ⟨⟨⟨h1, h2⟩, h3⟩, h4, h5⟩
theorem bndF_eq {l m : List Int} (h : ∀ x, x ∈ l ↔ x ∈ m) : bndF l = bndF m := by
  by_cases e : l = []
  · subst e
    have : m = [] := List.eq_nil_iff_forall_not_mem.2 fun x hx => by have := (h x).2 hx; simp at this
    rw [this]
  · have e2 : m ≠ [] := by
      rintro rfl
      exact e (List.eq_nil_iff_forall_not_mem.2 fun x hx => by have := (h x).1 hx; simp at this)
    obtain ⟨a1, a2, a3⟩ := bndF_spec e
    obtain ⟨b1, b2, b3⟩ := bndF_spec e2
    have c1 := b1 _ ((h _).1 a2)
    have c2 := b1 _ ((h _).1 a3)
    have c3 := a1 _ ((h _).2 b2)
    have c4 := a1 _ ((h _).2 b3)
    cases hl : bndF l; cases hm : bndF m
    rw [hl] at c1 c2 c3 c4; rw [hm] at c1 c2 c3 c4
    simp only [Rg.mk.injEq] at *
    omega
theorem filter_len_eq {α : Type} {p : α → Bool} {l : List α} : (l.filter p).length = l.length ↔ ∀ x ∈ l, p x = true := by
  rw [List.length_filter_eq_length_iff]
theorem filter_len_zero {α : Type} {p : α → Bool} {l : List α} : (l.filter p).length = 0 ↔ ∀ x ∈ l, p x = false := by
  rw [List.length_eq_zero_iff, List.filter_eq_nil_iff]
  simp
theorem verd_eq {p : List Bool → Bool} {gs : List (List Bool)} {ts : List Tr} {f : Tr → List Bool} {q : Tr → Bool} (hm : ∀ x, x ∈ gs ↔ x ∈ ts.map f) (hq : ∀ t ∈ ts, p (f t) = q t) : verdI p gs = vI (cntP q ts) ts.length := by
  have h1 : (gs.filter p).length = gs.length ↔ cntP q ts = ts.length := by
    unfold cntP
    rw [filter_len_eq, filter_len_eq]
    constructor
    · intro h t ht
      rw [← hq t ht]; exact h _ ((hm _).2 (List.mem_map.2 ⟨t, ht, rfl⟩))
    · intro h x hx
      obtain ⟨t, ht, rfl⟩ := List.mem_map.1 ((hm x).1 hx)
      rw [hq t ht]; exact h t ht
  have h2 : (gs.filter p).length = 0 ↔ cntP q ts = 0 := by
    unfold cntP
    rw [filter_len_zero, filter_len_zero]
    constructor
    · intro h t ht
      rw [← hq t ht]; exact h _ ((hm _).2 (List.mem_map.2 ⟨t, ht, rfl⟩))
    · intro h x hx
      obtain ⟨t, ht, rfl⟩ := List.mem_map.1 ((hm x).1 hx)
      rw [hq t ht]; exact h t ht
  unfold verdI vI
  by_cases c1 : (gs.filter p).length = gs.length
  · rw [if_pos c1, if_pos (h1.1 c1)]
  · rw [if_neg c1, if_neg (fun e => c1 (h1.2 e))]
    by_cases c2 : (gs.filter p).length = 0
    · rw [if_pos c2, if_pos (h2.1 c2)]
    · rw [if_neg c2, if_neg (fun e => c2 (h2.2 e))]

/-! ### One truth -/
theorem gOf_at {r : Riv} (ok : Ok r) {t : Tr} (ht : fitT r t = true) (D : Nat) (hD : (D : Int) ≤ r.last) : (gOf r t).getD D false = goodD r t D := by
  have hl := fit_lens ok ht
  have := ok.l5; have := ok.l0
  simp only [gOf, goodL, List.getD_eq_getElem?_getD, List.getElem?_map]
  rw [List.getElem?_range (by omega)]
  have e1 := numT_salt t D (by omega)
  have e2 := numT_mud t D (r.last.toNat + 1) (by omega) (by omega)
  rw [List.getD_eq_getElem?_getD] at e1 e2
  simp [hD, e1, e2, goodD]
theorem bitsN_bit : ∀ (xs : List Int) (a : Nat) (d : Nat), (∀ x ∈ xs, 0 ≤ x) → (xs.foldl (fun acc x => acc ||| 2 ^ x.toNat) a).testBit d = (a.testBit d || xs.contains (d : Int))
  | [], a, d, _ => by simp
  | x :: xs, a, d, h => by
    rw [List.foldl_cons, bitsN_bit xs _ d (fun y hy => h y (List.mem_cons_of_mem _ hy)), Nat.testBit_or, Nat.testBit_two_pow, Bool.or_assoc, List.contains_cons]
    congr 2
    have := h x List.mem_cons_self
    rw [show decide (x.toNat = d) = decide ((d : Int) = x) by rw [decide_eq_decide]; omega]
    rw [Bool.eq_iff_iff]; simp
theorem bitsN_has {xs : List Int} (h : ∀ x ∈ xs, 0 ≤ x) (d : Nat) : (bitsN xs).testBit d = xs.contains (d : Int) := by
  unfold bitsN; rw [bitsN_bit xs 0 d h]; simp
theorem lackT_bef {r : Riv} (ok : Ok r) {t : Tr} (ht : fitT r t = true) {xs : List Int} (hx : ∀ x ∈ xs, 0 ≤ x) (S T : Int) (D : Nat) (hD : (D : Int) ≤ r.last) (n : Int) :
    lackT (gOf r t) (bitsN xs) S r.draw T D n = befV r t xs S T D n := by
  unfold lackT befV
  simp only [gOf_at ok ht D hD, bitsN_has hx, Bool.and_comm]
theorem lackGo_eq {r : Riv} (ok : Ok r) {t : Tr} (ht : fitT r t = true) {xs : List Int} (hx : ∀ x ∈ xs, 0 ≤ x) (S T : Int) : ∀ (k D : Nat), D + k = r.use.length →
    lackGo r.last r.draw (gOf r t) (bitsN xs) S T D (aftV r t xs S T D) (r.use.drop D) = lackO r ((List.range' D k).find? (fun D => decide (befR r t xs S T D < r.use.getD D 0)))
  | 0, D, h => by
    rw [List.drop_of_length_le (by omega)]
    simp [lackGo, lackO]
  | k + 1, D, h => by
    have hlt : D < r.use.length := by omega
    have hu := ok.nu
    rw [List.drop_eq_getElem_cons hlt]
    simp only [lackGo]
    rw [lackT_bef ok ht hx S T D (by omega)]
    have eu : r.use.getD D 0 = r.use[D] := by rw [List.getD_eq_getElem?_getD, List.getElem?_eq_getElem hlt]; rfl
    rw [List.range'_succ, List.find?_cons]
    have eb : befR r t xs S T D = befV r t xs S T D (aftV r t xs S T D) := rfl
    rw [eb, eu]
    by_cases c : befV r t xs S T D (aftV r t xs S T D) < r.use[D]
    · simp [c, lackO]
    · rw [if_neg c]
      simp only [c, decide_false]
      have ih := lackGo_eq ok ht hx S T k (D + 1) (by omega)
      rw [← ih]
      congr 1
      simp only [aftV, eu]
      omega
theorem lack_eq {r : Riv} (ok : Ok r) {t : Tr} (ht : fitT r t = true) {xs : List Int} (hx : ∀ x ∈ xs, 0 ≤ x) (S T : Int) : lackI r (gOf r t) (bitsN xs) S T = lackR r t xs S T := by
  rw [lackR_eq]
  have := lackGo_eq ok ht hx S T r.use.length 0 (by omega)
  simpa [lackI, aftV] using this
theorem lack_iff {r : Riv} (ok : Ok r) (t : Tr) (xs : List Int) (S T : Int) : r.last < lackR r t xs S T ↔ ∀ D : Nat, (D : Int) ≤ r.last → r.use.getD D 0 ≤ befR r t xs S T D := by
  have hu := ok.nu
  unfold lackR
  cases e : (List.range r.use.length).find? (fun D => decide (befR r t xs S T D < r.use.getD D 0)) with
  | none =>
    rw [List.find?_eq_none] at e
    simp only [List.mem_range, decide_eq_true_eq, Int.not_lt] at e
    exact ⟨fun _ D hD => e D (by omega), fun _ => by simp only []; omega⟩
  | some D =>
    have h1 := List.find?_some e
    have h2 := List.mem_of_find?_eq_some e
    simp only [List.mem_range, decide_eq_true_eq] at h1 h2
    constructor
    · intro h; simp only [] at h; omega
    · intro h; have := h D (by omega); omega
theorem tank_aft {r : Riv} (ok : Ok r) {t : Tr} (ht : fitT r t = true) (xs : List Int) : ∀ D : Nat, (D : Int) ≤ r.last + 1 → tankAt r (gOf r t) xs D = aftV r t xs r.size (-1) D
  | 0, _ => rfl
  | D + 1, h => by
    have ih := tank_aft ok ht xs D (by omega)
    simp only [tankAt, aftV, stepT, befV, ih]
    rw [gOf_at ok ht D (by omega), Bool.and_comm]
    have : ¬ (D : Int) = -1 := by omega
    simp only [if_neg this]
theorem play_len (r : Riv) (g : List Bool) (xs : List Int) : (playL r g xs).length = r.use.length := by simp [playL]
theorem play_at {r : Riv} (ok : Ok r) {t : Tr} (ht : fitT r t = true) (xs : List Int) (D : Nat) (hD : (D : Int) ≤ r.last) : (playL r (gOf r t) xs).getD D 0 = aftV r t xs r.size (-1) (D + 1) := by
  have hu := ok.nu
  simp only [playL, List.getD_eq_getElem?_getD, List.getElem?_map]
  rw [List.getElem?_range (by omega)]
  simpa using tank_aft ok ht xs (D + 1) (by omega)

/-! ### All truths -/
theorem ask_eq (r : Riv) (fine : Bool) : askE r fine = askR r fine := by
  unfold askE askR
  by_cases h : r.faultI = 0
  · simp only [h, ne_eq, not_true_eq_false, if_false]
    cases fine
    · rfl
    · simp only [Bool.not_true, Bool.false_eq_true, if_false]
      have : (goodsL r).isEmpty = (truthsR r).isEmpty := by
        rw [Bool.eq_iff_iff, List.isEmpty_iff, List.isEmpty_iff]
        constructor
        · intro e
          refine List.eq_nil_iff_forall_not_mem.2 fun t ht => ?_
          have := (goods_map h).2 (List.mem_map.2 ⟨t, ht, rfl⟩)
          rw [e] at this; simp at this
        · intro e
          refine List.eq_nil_iff_forall_not_mem.2 fun g hg => ?_
          have := (goods_map h).1 hg
          rw [e] at this; simp at this
      rw [this]
  · simp [h]
theorem askOk {r : Riv} {fine : Bool} (h : askR r fine = 0) : r.faultI = 0 ∧ fine = true ∧ truthsR r ≠ [] := by
  unfold askR at h
  split at h
  · omega
  · rename_i h1
    split at h
    · cases h
    · rename_i h2
      split at h
      · cases h
      · rename_i h3
        exact ⟨by simpa using h1, by simpa using h2, by simpa using h3⟩
theorem fits_truths {r : Riv} (h : r.faultI = 0) : Fits r (truthsR r) := fun t ht => fit_lens (ok_of_fault h).1 ((mem_truthsR h).1 ht).1
theorem truths_len {r : Riv} (h : r.faultI = 0) : (truthsR r).length ≤ 2000 := by
  have := many_prod h
  unfold truthsR truthsK
  rw [List.length_map]
  refine Nat.le_trans (List.length_filter_le _ _) ?_
  rw [List.length_range]
  omega
theorem good_eq {r : Riv} (h : r.faultI = 0) (D : Nat) (hD : (D : Int) ≤ r.last) : verdI (fun g => g.getD D false) (goodsL r) = goodRf r (truthsR r) D :=
  verd_eq (fun x => goods_map h) fun t ht => gOf_at (ok_of_fault h).1 ((mem_truthsR h).1 ht).1 D hD
theorem plan_pos {last : Int} {xs : List Int} (h : isPlanB last xs = true) (h5 : last ≤ 5) : ∀ x ∈ xs, 0 ≤ x := fun x hx => (isPlanB_in last h5 xs h x hx).1
theorem lacks_eq {r : Riv} (h : r.faultI = 0) {xs : List Int} (hx : ∀ x ∈ xs, 0 ≤ x) (S T : Int) : lacksI r (goodsL r) (bitsN xs) S T = lacksR r (truthsR r) xs S T := by
  have ok := (ok_of_fault h).1
  unfold lacksI lacksR
  refine foldMin_eq _ _ _ _ _ (fun g hg => ?_) (fun t ht => ?_)
  · obtain ⟨t, ht, rfl⟩ := List.mem_map.1 ((goods_map h).1 hg)
    exact ⟨t, ht, (lack_eq ok ((mem_truthsR h).1 ht).1 hx S T).symm⟩
  · exact ⟨gOf r t, (goods_map h).2 (List.mem_map.2 ⟨t, ht, rfl⟩), lack_eq ok ((mem_truthsR h).1 ht).1 hx S T⟩
theorem lasts_eq {r : Riv} (h : r.faultI = 0) {xs : List Int} (hx : ∀ x ∈ xs, 0 ≤ x) : verdI (fun g => decide (r.last < lackI r g (bitsN xs) r.size (-1))) (goodsL r) = lastsRf r (truthsR r) xs :=
  verd_eq (fun x => goods_map h) fun t ht => by rw [lack_eq (ok_of_fault h).1 ((mem_truthsR h).1 ht).1 hx]
theorem bnd_eq {r : Riv} (h : r.faultI = 0) (xs : List Int) (D : Nat) (hD : (D : Int) ≤ r.last) : bndL r xs D (goodsL r) = tankRf r (truthsR r) xs D := by
  have ok := (ok_of_fault h).1
  unfold bndL tankRf
  refine bndF_eq fun x => ?_
  simp only [List.mem_map]
  constructor
  · rintro ⟨g, hg, rfl⟩
    obtain ⟨t, ht, rfl⟩ := List.mem_map.1 ((goods_map h).1 hg)
    exact ⟨t, ht, (play_at ok ((mem_truthsR h).1 ht).1 xs D hD).symm⟩
  · rintro ⟨t, ht, rfl⟩
    exact ⟨gOf r t, (goods_map h).2 (List.mem_map.2 ⟨t, ht, rfl⟩), play_at ok ((mem_truthsR h).1 ht).1 xs D hD⟩
/-- Is a plan sure, with a size and a storm? -/
def Sure (r : Riv) (S T : Int) (xs : List Int) : Prop := ∀ t, isT r t → ∀ D : Nat, (D : Int) ≤ r.last → r.use.getD D 0 ≤ befR r t xs S T D
theorem sureR_iff {r : Riv} (h : r.faultI = 0) (S T : Int) (xs : List Int) : sureR r (truthsR r) S T xs = true ↔ Sure r S T xs := by
  have ok := (ok_of_fault h).1
  unfold sureR lacksR
  rw [decide_eq_true_eq, foldMin_le]
  unfold Sure
  constructor
  · rintro ⟨_, h2⟩ t ht
    exact (lack_iff ok t xs S T).1 (h2 t ((mem_truthsR h).2 ht))
  · intro H
    exact ⟨by omega, fun t ht => (lack_iff ok t xs S T).2 (H t ((mem_truthsR h).1 ht))⟩
theorem sureB_eq {r : Riv} (h : r.faultI = 0) {xs : List Int} (hx : ∀ x ∈ xs, 0 ≤ x) (S T : Int) : sureB r (goodsL r) S T xs = sureR r (truthsR r) S T xs := by
  unfold sureB sureR; rw [lacks_eq h hx]
end Go.Proofs.Ytgglfngkomgadaa
/- Plain maths: the choice of the fewest, by length and then in order. -/
namespace Go.Proofs.Ytgglfngkomgadaa
set_option linter.unusedVariables false
set_option linter.unusedSimpArgs false
set_option maxRecDepth 100000

/-! ### The order -/
theorem soonB_trans : ∀ {a b c : List Int}, soonB a b = true → soonB b c = true → soonB a c = true
  | [], [], _, h, _ => by simp [soonB] at h
  | [], _ :: _, [], _, h => by simp [soonB] at h
  | [], _ :: _, _ :: _, _, _ => by simp [soonB]
  | _ :: _, [], _, h, _ => by simp [soonB] at h
  | _ :: _, _ :: _, [], _, h => by simp [soonB] at h
  | x :: a, y :: b, z :: c, h1, h2 => by
    simp only [soonB] at h1 h2 ⊢
    split at h1
    · rename_i e1
      split at h2
      · rename_i e2
        rw [if_pos (e1.trans e2)]
        exact soonB_trans h1 h2
      · rename_i e2
        rw [if_neg (by omega)]
        simp only [decide_eq_true_eq] at h2 ⊢
        omega
    · rename_i e1
      simp only [decide_eq_true_eq] at h1
      split at h2
      · rw [if_neg (by omega)]
        simp only [decide_eq_true_eq]; omega
      · simp only [decide_eq_true_eq] at h2
        rw [if_neg (by omega)]
        simp only [decide_eq_true_eq]; omega
theorem soonB_tot : ∀ {a b : List Int}, soonB a b = false → soonB b a = false → a = b
  | [], [], _, _ => rfl
  | [], _ :: _, h, _ => by simp [soonB] at h
  | _ :: _, [], _, h => by simp [soonB] at h
  | x :: a, y :: b, h1, h2 => by
    simp only [soonB] at h1 h2
    by_cases e : x = y
    · subst e
      rw [if_pos rfl] at h1 h2
      rw [soonB_tot h1 h2]
    · rw [if_neg e] at h1
      rw [if_neg (fun e2 => e e2.symm)] at h2
      simp only [decide_eq_false_iff_not] at h1 h2
      omega
theorem soonB_irr : ∀ (a : List Int), soonB a a = false
  | [] => rfl
  | x :: a => by simp [soonB, soonB_irr a]
theorem shortB_iff {a b : List Int} : shortB a b = true ↔ a.length < b.length ∨ (a.length = b.length ∧ soonB a b = true) := by
  simp [shortB]
theorem shortB_trans {a b c : List Int} (h1 : shortB a b = true) (h2 : shortB b c = true) : shortB a c = true := by
  rw [shortB_iff] at *
  rcases h1 with h1 | ⟨h1, h3⟩ <;> rcases h2 with h2 | ⟨h2, h4⟩
  · exact .inl (by omega)
  · exact .inl (by omega)
  · exact .inl (by omega)
  · exact .inr ⟨by omega, soonB_trans h3 h4⟩
theorem shortB_tot {a b : List Int} (h1 : shortB a b = false) (h2 : shortB b a = false) : a = b := by
  have e1 : ¬ shortB a b = true := by simp [h1]
  have e2 : ¬ shortB b a = true := by simp [h2]
  rw [shortB_iff] at e1 e2
  simp only [not_or, not_and, Bool.not_eq_true] at e1 e2
  exact soonB_tot (e1.2 (by omega)) (e2.2 (by omega))
theorem shortB_irr (a : List Int) : shortB a a = false := by
  cases h : shortB a a with
  | false => rfl
  | true => rw [shortB_iff] at h; simp [soonB_irr] at h
theorem shortB_len {a b : List Int} (h : shortB a b = false) : b.length ≤ a.length := by
  have e1 : ¬ shortB a b = true := by simp [h]
  rw [shortB_iff] at e1
  omega

/-! ### The choice -/
def chL (N : Nat) : Nat → List Int → Nat → List (List Int)
  | 0, xs, _ => [xs]
  | k + 1, xs, fr => (List.range' fr (N - k - fr)).flatMap fun (d : Nat) => chL N k (xs ++ [(d : Int)]) (d + 1)
def allL (N : Nat) : List (List Int) := (List.range (N + 1)).flatMap fun k => chL N k [] 0
theorem chooseF_find (N : Nat) (fine : List Int → Bool) : ∀ (k : Nat) (xs : List Int) (fr : Nat), chooseF N fine k xs fr = (chL N k xs fr).find? fine
  | 0, xs, fr => by
    simp only [chooseF, chL, List.find?_cons, List.find?_nil]
    cases fine xs <;> rfl
  | k + 1, xs, fr => by
    simp only [chooseF, chL, List.find?_flatMap]
    congr 1
    funext d
    exact chooseF_find N fine k _ _
theorem fewestF_find (N : Nat) (fine : List Int → Bool) : fewestF N fine = (allL N).find? fine := by
  unfold fewestF allL
  rw [List.find?_flatMap]
  congr 1
  funext k
  exact chooseF_find N fine k [] 0
def ordLL : List (List Int) → Bool
  | [] => true
  | x :: xs => xs.all (fun y => shortB x y) && ordLL xs
theorem all_facts : ∀ N : Nat, N ≤ 6 → ordLL (allL N) = true ∧ (∀ x ∈ allL N, bitsN x < 2 ^ N ∧ bitsL (bitsN x) = x) ∧ (∀ m : Nat, m < 2 ^ N → bitsL m ∈ allL N ∧ bitsN (bitsL m) = m) := by decide +kernel
theorem ordLL_find {fine : List Int → Bool} : ∀ {l : List (List Int)}, ordLL l = true → ∀ {y : List Int}, l.find? fine = some y → ∀ z ∈ l, fine z = true → shortB z y = false
  | [], _, y, h, _, _, _ => by simp at h
  | x :: l, ho, y, h, z, hz, hf => by
    simp only [ordLL, Bool.and_eq_true, List.all_eq_true] at ho
    rw [List.find?_cons] at h
    split at h
    · cases h
      rcases List.mem_cons.1 hz with rfl | hz
      · exact shortB_irr z
      · have h1 := ho.1 z hz
        cases e : shortB z x with
        | false => rfl
        | true =>
          have := shortB_trans h1 e
          rw [shortB_irr] at this; cases this
    · rename_i hx
      rcases List.mem_cons.1 hz with rfl | hz
      · rw [hf] at hx; cases hx
      · exact ordLL_find ho.2 h z hz hf
/-- It is the fewest of those that are fine. -/
structure MinB (N : Nat) (fine : List Int → Bool) (y : List Int) : Prop where
  bits : bitsN y < 2 ^ N ∧ bitsL (bitsN y) = y
  ok : fine y = true
  best : ∀ m : Nat, m < 2 ^ N → fine (bitsL m) = true → shortB (bitsL m) y = false
theorem MinB.uniq {N : Nat} {f g : List Int → Bool} {x y : List Int} (h1 : MinB N f x) (h2 : MinB N g y) (h : ∀ m : Nat, m < 2 ^ N → f (bitsL m) = g (bitsL m)) : x = y := by
  have a := h1.best (bitsN y) h2.bits.1 (by rw [h _ h2.bits.1, h2.bits.2]; exact h2.ok)
  have b := h2.best (bitsN x) h1.bits.1 (by rw [← h _ h1.bits.1, h1.bits.2]; exact h1.ok)
  rw [h2.bits.2] at a
  rw [h1.bits.2] at b
  exact shortB_tot b a
theorem fewestF_some {N : Nat} (hN : N ≤ 6) {fine : List Int → Bool} {y : List Int} (h : fewestF N fine = some y) : MinB N fine y := by
  rw [fewestF_find] at h
  obtain ⟨a1, a2, a3⟩ := all_facts N hN
  have hm := List.mem_of_find?_eq_some h
  exact ⟨a2 y hm, List.find?_some h, fun m hm2 hf => ordLL_find a1 h _ (a3 m hm2).1 hf⟩
theorem fewestF_none {N : Nat} (hN : N ≤ 6) {fine : List Int → Bool} (h : fewestF N fine = none) : ∀ m : Nat, m < 2 ^ N → fine (bitsL m) = false := by
  rw [fewestF_find, List.find?_eq_none] at h
  intro m hm
  simpa using h _ ((all_facts N hN).2.2 m hm).1
theorem fewestF_congr {N : Nat} (hN : N ≤ 6) {f g : List Int → Bool} (h : ∀ m : Nat, m < 2 ^ N → f (bitsL m) = g (bitsL m)) : fewestF N f = fewestF N g := by
  cases e1 : fewestF N f with
  | none =>
    cases e2 : fewestF N g with
    | none => rfl
    | some y =>
      have m2 := fewestF_some hN e2
      have := fewestF_none hN e1 _ m2.bits.1
      rw [h _ m2.bits.1, m2.bits.2, m2.ok] at this
      cases this
  | some x =>
    have m1 := fewestF_some hN e1
    cases e2 : fewestF N g with
    | none =>
      have := fewestF_none hN e2 _ m1.bits.1
      rw [← h _ m1.bits.1, m1.bits.2, m1.ok] at this
      cases this
    | some y => rw [m1.uniq (fewestF_some hN e2) h]

/-! ### The search of the reference -/
def bestS (fine : List Int → Bool) (best : Option (List Int)) (m : Nat) : Option (List Int) :=
  match best with
  | none => if fine (bitsL m) then some (bitsL m) else none
  | some b => if shortB (bitsL m) b && fine (bitsL m) then some (bitsL m) else some b
theorem best_inv (fine : List Int → Bool) : ∀ k : Nat, match (List.range k).foldl (bestS fine) none with
    | none => ∀ m, m < k → fine (bitsL m) = false
    | some b => (∃ m, m < k ∧ b = bitsL m) ∧ fine b = true ∧ ∀ m, m < k → fine (bitsL m) = true → shortB (bitsL m) b = false
  | 0 => by simp
  | k + 1 => by
    have ih := best_inv fine k
    rw [List.range_succ, List.foldl_append, List.foldl_cons, List.foldl_nil]
    cases e : (List.range k).foldl (bestS fine) none with
    | none =>
      rw [e] at ih
      simp only [bestS]
      cases hf : fine (bitsL k) with
      | false =>
        simp only [Bool.false_eq_true, if_false]
        intro m hm
        by_cases em : m = k
        · rw [em, hf]
        · exact ih m (by omega)
      | true =>
        simp only [if_true]
        refine ⟨⟨k, by omega, rfl⟩, hf, fun m hm h => ?_⟩
        by_cases em : m = k
        · rw [em]; exact shortB_irr _
        · have := ih m (by omega)
          rw [h] at this; cases this
    | some b =>
      rw [e] at ih
      obtain ⟨⟨n, hn, hb⟩, hf, hbest⟩ := ih
      simp only [bestS]
      cases hc : shortB (bitsL k) b && fine (bitsL k) with
      | false =>
        simp only [Bool.false_eq_true, if_false]
        refine ⟨⟨n, by omega, hb⟩, hf, fun m hm h => ?_⟩
        by_cases em : m = k
        · subst em
          rw [h, Bool.and_true] at hc; exact hc
        · exact hbest m (by omega) h
      | true =>
        rw [Bool.and_eq_true] at hc
        simp only [if_true]
        refine ⟨⟨k, by omega, rfl⟩, hc.2, fun m hm h => ?_⟩
        by_cases em : m = k
        · rw [em]; exact shortB_irr _
        · cases hs : shortB (bitsL m) (bitsL k) with
          | false => rfl
          | true =>
            have := shortB_trans hs hc.1
            rw [hbest m (by omega) h] at this
            cases this
theorem best_eq {N : Nat} (hN : N ≤ 6) (fine : List Int → Bool) : (List.range (2 ^ N)).foldl (bestS fine) none = fewestF N fine := by
  have h := best_inv fine (2 ^ N)
  cases e : (List.range (2 ^ N)).foldl (bestS fine) none with
  | none =>
    rw [e] at h
    cases e2 : fewestF N fine with
    | none => rfl
    | some y =>
      have m2 := fewestF_some hN e2
      have := h _ m2.bits.1
      rw [m2.bits.2, m2.ok] at this
      cases this
  | some b =>
    rw [e] at h
    obtain ⟨⟨n, hn, hb⟩, hf, hbest⟩ := h
    have hbits := ((all_facts N hN).2.2 n hn).2
    have m1 : MinB N fine b := ⟨by rw [hb, hbits]; exact ⟨hn, rfl⟩, hf, hbest⟩
    cases e2 : fewestF N fine with
    | none =>
      have := fewestF_none hN e2 _ hn
      rw [← hb, hf] at this
      cases this
    | some y => rw [m1.uniq (fewestF_some hN e2) fun _ _ => rfl]
theorem pow_last {r : Riv} (ok : Ok r) : 2 * 2 ^ r.last.toNat = 2 ^ (r.last + 1).toNat ∧ (r.last + 1).toNat ≤ 6 := by
  have := ok.l0; have := ok.l5
  rw [show (r.last + 1).toNat = r.last.toNat + 1 by omega, Nat.pow_succ, Nat.mul_comm]
  exact ⟨rfl, by omega⟩
theorem fewRf_eq {r : Riv} (ok : Ok r) (ts : List Tr) (S T : Int) : fewRf r ts S T = fewestF (r.last + 1).toNat (sureR r ts S T) := by
  have h := pow_last ok
  rw [← best_eq h.2, ← h.1]
  rfl
theorem bitsL_pos (m : Nat) : ∀ x ∈ bitsL m, 0 ≤ x := by
  intro x hx
  unfold bitsL at hx
  obtain ⟨n, _, rfl⟩ := List.mem_map.1 hx
  exact Int.natCast_nonneg n
theorem bitsL_mem (m d : Nat) (hm : m < 64) : (d : Int) ∈ bitsL m ↔ m.testBit d = true := by
  unfold bitsL bitsK
  rw [List.mem_map]
  constructor
  · rintro ⟨n, hn, e⟩
    have e : (n : Int) = (d : Int) := e
    have e : n = d := by omega
    subst e
    exact (List.mem_filter.1 hn).2
  · intro h
    refine ⟨d, List.mem_filter.2 ⟨List.mem_range.2 ?_, h⟩, rfl⟩
    have := Nat.ge_two_pow_of_testBit h
    rcases Nat.lt_or_ge d 6 with h6 | h6
    · exact h6
    · have := Nat.pow_le_pow_right (show 0 < 2 by omega) h6
      omega
theorem few_eq {r : Riv} (h : r.faultI = 0) (T : Int) : fewestF (r.last + 1).toNat (sureB r (goodsL r) r.size T) = fewRf r (truthsR r) r.size T := by
  have ok := (ok_of_fault h).1
  rw [fewRf_eq ok]
  exact fewestF_congr (pow_last ok).2 fun m _ => sureB_eq h (bitsL_pos m) _ _

/-! ### Leaving out -/
def fineLv (r : Riv) (xs : List Nat) (out : List Int) : Bool := canF xs (fullR r ^^^ (fullR r &&& bitsN out))
theorem lv_inv (r : Riv) (xs : List Nat) (hg : r.gauges.length ≤ 5) (hF : fineLv r xs (bitsL (fullR r)) = true) : ∀ k, k ≤ fullR r + 1 →
    (∃ m, m ≤ fullR r ∧ lvFold r xs k = bitsL m) ∧ fineLv r xs (lvFold r xs k) = true ∧ ∀ m, m < k → fineLv r xs (bitsL m) = true → shortB (bitsL m) (lvFold r xs k) = false
  | 0, _ => ⟨⟨_, Nat.le_refl _, rfl⟩, hF, fun m h => by omega⟩
  | k + 1, hk => by
    obtain ⟨⟨n, hn, hb⟩, hf, hbest⟩ := lv_inv r xs hg hF k (by omega)
    have hfull : fullR r + 1 = 2 ^ r.gauges.length := by unfold fullR; have := Nat.two_pow_pos r.gauges.length; omega
    have hkb : bitsN (bitsL k) = k := ((all_facts _ (show r.gauges.length ≤ 6 by omega)).2.2 k (by omega)).2
    have hfk : canF xs (fullR r ^^^ (fullR r &&& k)) = fineLv r xs (bitsL k) := by unfold fineLv; rw [hkb]
    rw [lvFold_succ]
    generalize lvFold r xs k = b at *
    unfold lvStep
    rw [hfk]
    cases hc : shortB (bitsL k) b && fineLv r xs (bitsL k) with
    | false =>
      simp only [Bool.false_eq_true, if_false]
      refine ⟨⟨n, hn, hb⟩, hf, fun m hm h => ?_⟩
      by_cases em : m = k
      · subst em
        rw [h, Bool.and_true] at hc; exact hc
      · exact hbest m (by omega) h
    | true =>
      rw [Bool.and_eq_true] at hc
      simp only [if_true]
      refine ⟨⟨k, by omega, rfl⟩, hc.2, fun m hm h => ?_⟩
      by_cases em : m = k
      · rw [em]; exact shortB_irr _
      · cases hs : shortB (bitsL m) (bitsL k) with
        | false => rfl
        | true =>
          have := shortB_trans hs hc.1
          rw [hbest m (by omega) h] at this
          cases this
theorem full_succ (r : Riv) : fullR r + 1 = 2 ^ r.gauges.length := by unfold fullR; have := Nat.two_pow_pos r.gauges.length; omega
theorem fineLv_pos {r : Riv} (h : r.faultI = 0) (m : Nat) (hm : m < 2 ^ r.gauges.length) : fineLv r (allF r) (bitsL m) = posB r (bitsL m) := by
  have ok := (ok_of_fault h).1
  have hg := ok.ng
  have hm6 : m < 64 := Nat.lt_of_lt_of_le hm (Nat.le_trans (Nat.pow_le_pow_right (by omega) (show r.gauges.length ≤ 6 by omega)) (by decide))
  have hb : bitsN (bitsL m) = m := ((all_facts _ (show r.gauges.length ≤ 6 by omega)).2.2 m hm).2
  have hbit : ∀ i, (fullR r ^^^ (fullR r &&& m)).testBit i = (decide (i < r.gauges.length) && !m.testBit i) := fun i => by
    rw [Nat.testBit_xor, Nat.testBit_and, full_bit]
    cases decide (i < r.gauges.length) <;> cases m.testBit i <;> rfl
  unfold fineLv
  rw [hb, Bool.eq_iff_iff, posB_iff ok, canF_iff h _ (fun i hi => by rw [hbit, Bool.and_eq_true] at hi; simpa using hi.1)]
  constructor
  · rintro ⟨t, ht, H⟩
    refine ⟨t, ht, fun i hi hn => H i ?_⟩
    rw [hbit]
    rw [bitsL_mem m i hm6, Bool.not_eq_true] at hn
    simp [hi, hn]
  · rintro ⟨t, ht, H⟩
    refine ⟨t, ht, fun i hi => ?_⟩
    rw [hbit, Bool.and_eq_true] at hi
    refine H i (by simpa using hi.1) ?_
    rw [bitsL_mem m i hm6]
    simpa using hi.2
theorem posB_all {r : Riv} (h : r.faultI = 0) : posB r (bitsL (fullR r)) = true := by
  have ok := (ok_of_fault h).1
  have hg := ok.ng
  rw [posB_iff ok]
  refine ⟨nthT r 0, nthT_fit ok 0, fun i hi hn => absurd ?_ hn⟩
  have : fullR r < 64 := by
    have := full_succ r
    have := Nat.le_trans (Nat.pow_le_pow_right (show 0 < 2 by omega) (show r.gauges.length ≤ 5 by omega)) (show 2 ^ 5 ≤ 32 by decide)
    omega
  rw [bitsL_mem _ _ this, full_bit]
  simpa using hi
theorem leave_eq {r : Riv} (h : r.faultI = 0) : fewestF r.gauges.length (posB r) = some (leaveRf r (allF r)) := by
  have ok := (ok_of_fault h).1
  have hg := ok.ng
  have hs := full_succ r
  have hN : r.gauges.length ≤ 6 := by omega
  have hF : fineLv r (allF r) (bitsL (fullR r)) = true := by rw [fineLv_pos h _ (by omega)]; exact posB_all h
  obtain ⟨⟨n, hn, hb⟩, hf, hbest⟩ := lv_inv r (allF r) hg hF (fullR r + 1) (Nat.le_refl _)
  have hnb := ((all_facts _ hN).2.2 n (by omega)).2
  have m1 : MinB r.gauges.length (fineLv r (allF r)) (leaveRf r (allF r)) := ⟨by unfold leaveRf; rw [hb, hnb]; exact ⟨by omega, rfl⟩, hf, fun m hm => hbest m (by omega)⟩
  cases e : fewestF r.gauges.length (posB r) with
  | none =>
    have := fewestF_none hN e (fullR r) (by omega)
    rw [posB_all h] at this
    cases this
  | some y => rw [(fewestF_some hN e).uniq m1 fun m hm => (fineLv_pos h m hm).symm]
theorem first_eq {r : Riv} (h : r.faultI = 0) : (List.range r.gauges.length).find? (fun i => !posB (cutG r (i + 1)) []) = (List.range r.gauges.length).find? fun n => !canF (allF r) (2 ^ (n + 1) - 1) := by
  have ok := (ok_of_fault h).1
  have key : ∀ i, i < r.gauges.length → posB (cutG r (i + 1)) [] = canF (allF r) (2 ^ (i + 1) - 1) := by
    intro i hi
    have okc : Ok (cutG r (i + 1)) := { ok with ng := by have := ok.ng; simp only [cutG, List.length_take]; omega, go := fun g hg => ok.go g (List.mem_of_mem_take hg) }
    rw [Bool.eq_iff_iff, posB_iff okc, canF_iff h _ (fun j hj => by rw [Nat.testBit_two_pow_sub_one] at hj; simp at hj; omega)]
    have hfit : ∀ t, fitT (cutG r (i + 1)) t = fitT r t := fun t => rfl
    have hok : ∀ t j, j < i + 1 → okG (cutG r (i + 1)) t j = okG r t j := fun t j hj => by
      unfold okG cutG
      simp only [List.getD_eq_getElem?_getD, List.getElem?_take_of_lt hj]
    constructor
    · rintro ⟨t, ht, H⟩
      refine ⟨t, (hfit t).symm.trans ht, fun j hj => ?_⟩
      rw [Nat.testBit_two_pow_sub_one] at hj
      have hj : j < i + 1 := by simpa using hj
      rw [← hok t j hj]
      exact H j (by simp only [cutG, List.length_take]; omega) (by simp)
    · rintro ⟨t, ht, H⟩
      refine ⟨t, (hfit t).trans ht, fun j hj _ => ?_⟩
      simp only [cutG, List.length_take] at hj
      rw [hok t j (by omega)]
      refine H j ?_
      rw [Nat.testBit_two_pow_sub_one]
      simpa using (by omega : j < i + 1)
  generalize allF r = xs at *
  have : ∀ (l : List Nat), (∀ i ∈ l, i < r.gauges.length) → l.find? (fun i => !posB (cutG r (i + 1)) []) = l.find? fun n => !canF xs (2 ^ (n + 1) - 1) := by
    intro l
    induction l with
    | nil => intro _; rfl
    | cons a l ih =>
      intro hl
      rw [List.find?_cons, List.find?_cons, key a (hl a List.mem_cons_self), ih fun i hi => hl i (List.mem_cons_of_mem _ hi)]
  exact this _ fun i hi => List.mem_range.1 hi
theorem firstF_eq {r : Riv} (h : r.faultI = 0) : firstO (firstF r) = firstRf r (allF r) := by
  unfold firstF firstRf; rw [first_eq h]
end Go.Proofs.Ytgglfngkomgadaa
/- Walks: the laws' helpers, on. -/
namespace Go.Proofs.Ytgglfngkomgadaa
open Go.RowKit Go.Shelf
set_option linter.unusedVariables false
set_option linter.unusedSimpArgs false
set_option maxRecDepth 100000

theorem ready_c (r : Riv) (A : RA) (w : World) (hr : Rd w r A) :
    Calls Try.prog 55 #[rivV r A] w fun e w' => e = .returned (.bool (thinB r && decide (r.faultI = 0))) ∧ Below w.heap.size w w' := by
  obtain ⟨R, hR⟩ : ∃ R, R = (thinB r && decide (r.faultI = 0)) := ⟨_, rfl⟩
  have HR := Lib.hid hR
  rw [← hR]
  have hb := (Below.refl w.heap.size w).alloc (Nat.le_refl _) (rO26 r A)
  have hbx := box_new w r A
  clear hR
  go_enter Try.func55, Try.ntmps55
  go_wp2_with fail
  obtain ⟨wq, hwq⟩ : ∃ wq, w.alloc (rO26 r A) = wq := ⟨_, rfl⟩
  rw [hwq] at hbx hb ⊢
  refine (thin_c r A _).mono ?_
  rintro e w2 ⟨rfl, hb2⟩
  have hX := hbx.below hb2
  obtain ⟨k0, k1, k2, k3, k4, k5, k6, k7, k8, k9⟩ := hX
  have hb02 := hb.trans (hb2.mono hb.size)
  cases ht : thinB r
  · have HT := Lib.hid ht
    go_wp2_with fail
    go_ret
    exact ⟨ret_bool (by rw [HR.out, HT.out]; rfl), hb02⟩
  · have HT := Lib.hid ht
    have htt : r.salt.length ≤ 30 ∧ r.mud.length ≤ 30 ∧ r.use.length ≤ 30 ∧ r.gauges.length ≤ 30 := by
      simp only [thinB, Bool.and_eq_true, decide_eq_true_eq] at ht
      exact ht
    go_wp2_with fail
    refine (Fault_c r A _ (hr.below hb02) htt.1 htt.2.1 htt.2.2.1 htt.2.2.2).mono ?_
    rintro e w3 ⟨rfl, hb3⟩
    obtain ⟨F, hF⟩ : ∃ F, F = r.faultI := ⟨_, rfl⟩
    have HF := Lib.hid hF
    rw [← hF]
    clear hF
    go_wp2_with fail
    go_ret
    refine ⟨ret_bool ?_, hb02.trans (hb3.mono hb02.size)⟩
    rw [HR.out, HT.out, ← HF.out]
    rw [Bool.true_and, Bool.eq_iff_iff]; simp

/-- Is a plan sure, for the program? -/
def sureP (r : Riv) (xs : List Int) : Bool := proveP r xs 99
theorem sure_c (r : Riv) (A : RA) (a : Option Addr) (xs : List Int) (c : Nat) (w : World) (hr : Rd w r A) (hl1 : r.salt.length ≤ 30) (hl2 : r.mud.length ≤ 30) (hl3 : r.use.length ≤ 30) (hl4 : r.gauges.length ≤ 30) (hs : Sl w a (ints xs)) (hlen : xs.length ≤ 1000) :
    Calls Try.prog 58 #[rivV r A, .slice a xs.length c] w fun e w' => e = .returned (.bool (sureP r xs)) ∧ Below w.heap.size w w' := by
  go_enter Try.func58, Try.ntmps58
  go_wp2_with fail
  have hb := (Below.refl w.heap.size w).alloc (Nat.le_refl _) (rO26 r A)
  refine (River_c r A _ (hr.below hb) hl1 hl2 hl3 hl4).mono ?_
  rintro e w1 ⟨A1, rfl, hr1, -, hb1⟩
  have hb01 := hb.trans (hb1.mono hb.size)
  go_wp2_with fail
  refine (list_c a xs c _ (hs.below hb01) hlen).mono ?_
  rintro e w2 ⟨v2, rfl, hown, hb2⟩
  obtain ⟨a2, c2, rfl, -, hs2⟩ := own_Sl hown
  have HS2 := Lib.hid hs2
  clear hown hs2
  go_wp2_with fail
  refine (ProvePlan_c r A1 a2 xs c2 99 _ (hr1.below hb2) hl1 hl2 hl3 hl4 HS2.out hlen).mono ?_
  rintro e w3 ⟨rfl, hb3⟩
  go_wp2_with fail
  go_ret
  exact ⟨rfl, (hb01.trans (hb2.mono hb01.size)).trans (hb3.mono (by have := hb01.size; have := hb2.size; omega))⟩

def canE (r : Riv) : Int := (goodA r 0).2
theorem can_c (r : Riv) (A : RA) (w : World) (hr : Rd w r A) (hl1 : r.salt.length ≤ 30) (hl2 : r.mud.length ≤ 30) (hl3 : r.use.length ≤ 30) (hl4 : r.gauges.length ≤ 30) :
    Calls Try.prog 63 #[rivV r A] w (RetErr (canE r) w) := by
  go_enter Try.func63, Try.ntmps63
  go_wp2_with fail
  have hb := (Below.refl w.heap.size w).alloc (Nat.le_refl _) (rO26 r A)
  refine (River_c r A _ (hr.below hb) hl1 hl2 hl3 hl4).mono ?_
  rintro e w1 ⟨A1, rfl, hr1, -, hb1⟩
  have hb01 := hb.trans (hb1.mono hb.size)
  go_wp2_with fail
  refine (Good_c r A1 0 _ hr1 hl1 hl2 hl3 hl4).mono ?_
  rintro e w2 ⟨rfl, hb2⟩
  go_wp2_with fail
  go_ret
  exact ⟨rfl, hb01.trans (hb2.mono hb01.size)⟩

/-- A plan by bits. -/
def planL (r : Riv) (b : Nat) : List Int := bitsL (b &&& (2 * 2 ^ r.last.toNat - 1))
theorem and256 : ∀ P : Nat, P < 256 → ∀ Q : Nat, Q < 64 → Go.bits BinOp.and IntKind.i64 (P : Int) (Q : Int) = ((P &&& Q : Nat) : Int) ∧ P &&& Q < 64 := by decide +kernel
theorem shl2m : ∀ L : Nat, L ≤ 5 → wrap64 (wrap64 (2 * 2 ^ L) - 1) = ((2 * 2 ^ L - 1 : Nat) : Int) ∧ 2 * 2 ^ L - 1 < 64 := by
  intro L hL
  have : L = 0 ∨ L = 1 ∨ L = 2 ∨ L = 3 ∨ L = 4 ∨ L = 5 := by omega
  rcases this with rfl | rfl | rfl | rfl | rfl | rfl <;> decide +kernel
theorem Planned_c (r : Riv) (A : RA) (b : Nat) (w : World) (h0 : 0 ≤ r.last) (h5 : r.last ≤ 5) (hb : b < 256) :
    Calls Try.prog 57 #[rivV r A, .int .i64 b] w (RetOwn 3 1 (planL r b).length (ints (planL r b)) w) := by
  obtain ⟨L, hL⟩ : ∃ L : Nat, r.last = L := ⟨r.last.toNat, by omega⟩
  have hL5 : L ≤ 5 := by omega
  have hp : planL r b = bitsL (b &&& (2 * 2 ^ L - 1)) := by unfold planL; rw [hL]; rfl
  rw [hp]
  obtain ⟨Q, hQ⟩ : ∃ Q, Q = 2 * 2 ^ L - 1 := ⟨_, rfl⟩
  have hs := (shl2m L hL5).1
  have hq := (shl2m L hL5).2
  rw [← hQ] at hs hq ⊢
  have HA := Lib.hid (and256 b hb Q hq)
  have HS := Lib.hid hs
  clear hp hQ hs
  go_enter Try.func57, Try.ntmps57
  go_wp2_with fail
  rw [HS.out, HA.out.1]
  refine (Bits_c _ _ HA.out.2).mono ?_
  rintro e w2 ⟨v, rfl, hown, hb2⟩
  go_wp2_with fail
  go_ret
  refine ⟨v, rfl, own_mono hown (by rw [World.size_alloc]; omega), ?_⟩
  refine ((Below.refl w.heap.size w).alloc (Nat.le_refl _) _).trans (hb2.mono ?_)
  rw [World.size_alloc]; omega
end Go.Proofs.Ytgglfngkomgadaa
/- Plain maths: more is never less; the answers of the program, as facts about truths and sure plans. -/
namespace Go.Proofs.Ytgglfngkomgadaa
set_option linter.unusedVariables false
set_option linter.unusedSimpArgs false
set_option maxRecDepth 100000

/-! ### More is never less -/
theorem aft_le {r : Riv} (ok : Ok r) (t : Tr) (xs : List Int) (S T : Int) (h0 : 0 ≤ S) (hS : r.start ≤ S) : ∀ D, aftV r t xs S T D ≤ S
  | 0 => hS
  | D + 1 => by
    have ih := aft_le ok t xs S T h0 hS D
    have hu := use_bd ok D
    simp only [aftV, befV]
    split
    · omega
    · split <;> omega
theorem aft_nn {r : Riv} (ok : Ok r) (t : Tr) (xs : List Int) (S T : Int) : ∀ D, 0 ≤ aftV r t xs S T D
  | 0 => by have := ok.st; simp only [aftV]; omega
  | D + 1 => by simp only [aftV]; omega
/-- One river, size, storm and plan are no worse than another. -/
structure Mo (r r' : Riv) (t t' : Tr) (xs xs' : List Int) (S S' T T' : Int) : Prop where
  ok : Ok r
  ok' : Ok r'
  last : r'.last = r.last
  s0 : 0 ≤ S
  ss : S ≤ S'
  s1 : r.start ≤ S
  s2 : r'.start ≤ S'
  st : r.start ≤ r'.start
  dr : r.draw ≤ r'.draw
  us : ∀ D, r'.use.getD D 0 ≤ r.use.getD D 0
  gd : ∀ D : Nat, (D : Int) ≤ r.last → goodD r t D = true → goodD r' t' D = true
  pl : ∀ D : Nat, (D : Int) ∈ xs → (D : Int) ∈ xs'
  sm : T' = T ∨ T' = -1
theorem Mo.bef {r r' : Riv} {t t' : Tr} {xs xs' : List Int} {S S' T T' : Int} (h : Mo r r' t t' xs xs' S S' T T') (D : Nat) (hD : (D : Int) ≤ r.last) {n n' : Int} (h0 : 0 ≤ n) (h1 : n ≤ n') (h2 : n ≤ S) (h3 : n' ≤ S') :
    befV r t xs S T D n ≤ befV r' t' xs' S' T' D n' := by
  have d1 := h.ok.dr; have d2 := h.ok'.dr; have s0 := h.s0; have ss := h.ss; have dr := h.dr
  obtain ⟨m, hm⟩ : ∃ m, m = if (D : Int) = T then 0 else n := ⟨_, rfl⟩
  obtain ⟨m', hm'⟩ : ∃ m', m' = if (D : Int) = T' then 0 else n' := ⟨_, rfl⟩
  have hmm : 0 ≤ m ∧ m ≤ m' ∧ m ≤ S ∧ m' ≤ S' := by
    rcases h.sm with e | e
    · subst e
      by_cases c : (D : Int) = T'
      · rw [if_pos c] at hm hm'; omega
      · rw [if_neg c] at hm hm'; omega
    · rw [if_neg (by omega)] at hm'
      split at hm <;> omega
  unfold befV
  rw [← hm, ← hm']
  by_cases c : (xs.contains (D : Int) && goodD r t D) = true
  · have c' : (xs'.contains (D : Int) && goodD r' t' D) = true := by
      rw [Bool.and_eq_true, List.contains_iff_mem] at c ⊢
      exact ⟨h.pl D c.1, h.gd D hD c.2⟩
    rw [if_pos c, if_pos c']
    omega
  · rw [if_neg c]
    split <;> omega
theorem Mo.aft {r r' : Riv} {t t' : Tr} {xs xs' : List Int} {S S' T T' : Int} (h : Mo r r' t t' xs xs' S S' T T') : ∀ D : Nat, (D : Int) ≤ r.last + 1 → aftV r t xs S T D ≤ aftV r' t' xs' S' T' D
  | 0, _ => h.st
  | D + 1, hD => by
    have ih := h.aft D (by omega)
    have hb := h.bef D (by omega) (aft_nn h.ok t xs S T D) ih (aft_le h.ok t xs S T h.s0 h.s1 D) (aft_le h.ok' t' xs' S' T' (by have := h.s0; have := h.ss; omega) h.s2 D)
    have hu := h.us D
    simp only [aftV]
    omega
theorem Mo.befR {r r' : Riv} {t t' : Tr} {xs xs' : List Int} {S S' T T' : Int} (h : Mo r r' t t' xs xs' S S' T T') (D : Nat) (hD : (D : Int) ≤ r.last) : befR r t xs S T D ≤ befR r' t' xs' S' T' D :=
  h.bef D hD (aft_nn h.ok t xs S T D) (h.aft D (by omega)) (aft_le h.ok t xs S T h.s0 h.s1 D) (aft_le h.ok' t' xs' S' T' (by have := h.s0; have := h.ss; omega) h.s2 D)
theorem Mo.lack {r r' : Riv} {t t' : Tr} {xs xs' : List Int} {S S' T T' : Int} (h : Mo r r' t t' xs xs' S S' T T') : lackR r t xs S T ≤ lackR r' t' xs' S' T' := by
  have hu := h.ok.nu; have hu' := h.ok'.nu; have hl := h.last
  have b1 := lackR_bd h.ok t xs S T
  have e' : r'.use.length = r.use.length := by omega
  unfold lackR at b1 ⊢
  rw [e']
  cases f2 : (List.range r.use.length).find? (fun D => decide (Go.Proofs.Ytgglfngkomgadaa.befR r' t' xs' S' T' D < r'.use.getD D 0)) with
  | none => simp only []; omega
  | some D' =>
    have h1 := List.find?_some f2
    have h2 := List.mem_of_find?_eq_some f2
    simp only [List.mem_range, decide_eq_true_eq] at h1 h2
    have hb := h.befR D' (by omega)
    have hd := h.us D'
    cases f1 : (List.range r.use.length).find? (fun D => decide (Go.Proofs.Ytgglfngkomgadaa.befR r t xs S T D < r.use.getD D 0)) with
    | none =>
      rw [List.find?_eq_none] at f1
      have := f1 D' (List.mem_range.2 h2)
      simp only [decide_eq_true_eq, Int.not_lt] at this
      omega
    | some D =>
      simp only []
      rcases Nat.lt_or_ge D' D with c | c
      · rw [List.find?_range_eq_some] at f1
        have := f1.2.2 D' c
        simp only [Bool.not_eq_true', decide_eq_false_iff_not, Int.not_lt] at this
        omega
      · omega
theorem sure_mono {r r' : Riv} {xs xs' : List Int} {S S' T T' : Int} (h : ∀ t', isT r' t' → ∃ t, isT r t ∧ Mo r r' t t' xs xs' S S' T T') (hs : Sure r S T xs) : Sure r' S' T' xs' := by
  intro t' ht' D hD
  obtain ⟨t, ht, m⟩ := h t' ht'
  have h1 := hs t ht D (by have := m.last; omega)
  have h2 := m.befR D (by have := m.last; omega)
  have h3 := m.us D
  omega

/-! ### The answers -/
theorem askR_true {r : Riv} (h : r.faultI = 0) : askR r true = if (truthsR r).isEmpty then 11 else 0 := by
  unfold askR; simp [h]
theorem truths_ne {r : Riv} (h : r.faultI = 0) : truthsR r ≠ [] ↔ ∃ t, isT r t := by
  have : truthsR r ≠ [] ↔ ∃ t, t ∈ truthsR r := ⟨List.exists_mem_of_ne_nil _, fun ⟨t, ht⟩ e => by rw [e] at ht; simp at ht⟩
  rw [this]
  exact exists_congr fun t => mem_truthsR h
theorem askR_ok {r : Riv} (h : r.faultI = 0) : askR r true = 0 ↔ ∃ t, isT r t := by
  rw [askR_true h, ← truths_ne h]
  cases truthsR r <;> simp
theorem askR_no {r : Riv} (h : r.faultI = 0) : askR r true = 11 ↔ ¬ ∃ t, isT r t := by
  rw [askR_true h, ← truths_ne h]
  cases truthsR r <;> simp
theorem askR_or {r : Riv} (h : r.faultI = 0) : askR r true = 0 ∨ askR r true = 11 := by
  rw [askR_true h]; split <;> simp
/-- What the search for the fewest days with a storm hands back, of a river with a truth. -/
structure Few (r : Riv) (T : Int) (y : List Int) : Prop where
  bits : bitsN y < 2 ^ (r.last + 1).toNat ∧ bitsL (bitsN y) = y
  sure : Sure r r.size T y
  best : ∀ m : Nat, m < 2 ^ (r.last + 1).toNat → Sure r r.size T (bitsL m) → shortB (bitsL m) y = false
theorem sureB_iff {r : Riv} (h : r.faultI = 0) (S T : Int) (m : Nat) : sureB r (goodsL r) S T (bitsL m) = true ↔ Sure r S T (bitsL m) := by
  rw [sureB_eq h (bitsL_pos m), sureR_iff h]
theorem few_cases {r : Riv} (h : r.faultI = 0) (T : Int) {fine : Bool} (ha : askR r fine = 0) :
    (fewA r fine T = ([], 10) ∧ ∀ m : Nat, m < 2 ^ (r.last + 1).toNat → ¬ Sure r r.size T (bitsL m)) ∨ (∃ y, fewA r fine T = (y, 0) ∧ Few r T y) := by
  have ok := (ok_of_fault h).1
  have hN := (pow_last ok).2
  unfold fewA
  rw [ask_eq, if_pos ha]
  cases e : fewestF (r.last + 1).toNat (sureB r (goodsL r) r.size T) with
  | none =>
    refine .inl ⟨rfl, fun m hm hs => ?_⟩
    have := fewestF_none hN e m hm
    rw [(sureB_iff h _ _ m).2 hs] at this
    cases this
  | some y =>
    have mb := fewestF_some hN e
    refine .inr ⟨y, rfl, mb.bits, ?_, fun m hm hs => mb.best m hm ((sureB_iff h _ _ m).2 hs)⟩
    have := mb.ok
    rw [← mb.bits.2] at this ⊢
    exact (sureB_iff h _ _ _).1 this
theorem few_err {r : Riv} {T : Int} {fine : Bool} (ha : askR r fine ≠ 0) : fewA r fine T = ([], askR r fine) := by
  unfold fewA; rw [ask_eq, if_neg ha]
theorem dry_err {r : Riv} {xs : List Int} (ha : askR r (isPlanB r.last xs) ≠ 0) : dryA r xs = (0, askR r (isPlanB r.last xs)) := by
  unfold dryA; rw [ask_eq, if_neg ha]
theorem dry_ok {r : Riv} {xs : List Int} (ha : askR r (isPlanB r.last xs) = 0) : dryA r xs = if r.last < lacksR r (truthsR r) xs r.size (-1) then (0, 7) else (lacksR r (truthsR r) xs r.size (-1), 0) := by
  have h := (askOk ha).1
  unfold dryA dryN
  rw [ask_eq, if_pos ha, lacks_eq h (plan_pos (askOk ha).2.1 (ok_of_fault h).1.l5)]
theorem fault_ne7 (r : Riv) : r.faultI ≠ 7 := by unfold Riv.faultI; (repeat' split) <;> decide
theorem prove_iff {r : Riv} (h : r.faultI = 0) {xs : List Int} (hp : isPlanB r.last xs = true) (many : Int) : proveP r xs many = true ↔ (∃ t, isT r t) ∧ Sure r r.size (-1) xs ∧ (xs.length : Int) ≤ many := by
  unfold proveP
  rw [Bool.and_eq_true, decide_eq_true_eq, decide_eq_true_eq]
  rcases askR_or h with ha | ha
  · have hd : dryA r xs = _ := dry_ok (r := r) (xs := xs) (by rw [hp]; exact ha)
    have hsu : r.last < lacksR r (truthsR r) xs r.size (-1) ↔ Sure r r.size (-1) xs := by
      rw [← sureR_iff h]; unfold sureR; rw [decide_eq_true_eq]
    rw [hd, ← and_assoc]
    have hT := (askR_ok h).1 ha
    split
    · rename_i c
      simp [hT, hsu.1 c]
    · rename_i c
      have c2 : ¬ Sure r r.size (-1) xs := fun e => c (hsu.2 e)
      simp [c2]
  · have hd : dryA r xs = _ := dry_err (r := r) (xs := xs) (by rw [hp, ha]; decide)
    rw [hd, hp, ha]
    have hT := (askR_no h).1 ha
    simp [hT]
theorem bits_plan : ∀ N : Nat, N < 6 → ∀ m : Nat, m < 2 ^ (N + 1) → isPlanB N (bitsL m) = true := by decide +kernel
theorem plan_bits {r : Riv} (ok : Ok r) {m : Nat} (hm : m < 2 ^ (r.last + 1).toNat) : isPlanB r.last (bitsL m) = true := by
  obtain ⟨N, hN⟩ : ∃ N : Nat, r.last = N := ⟨r.last.toNat, by have := ok.l0; omega⟩
  have := ok.l5
  have hb := bits_plan N (by omega) m (by rw [show N + 1 = (r.last + 1).toNat by omega]; exact hm)
  rw [hN]; exact hb
theorem Few.plan {r : Riv} (ok : Ok r) {T : Int} {y : List Int} (h : Few r T y) : isPlanB r.last y = true := by
  rw [← h.bits.2]; exact plan_bits ok h.bits.1
/-- The bits of a plan of the laws. -/
def planM (r : Riv) (b : Nat) : Nat := b &&& (2 * 2 ^ r.last.toNat - 1)
theorem planL_eq (r : Riv) (b : Nat) : planL r b = bitsL (planM r b) := rfl
theorem planM_lt {r : Riv} (ok : Ok r) (b : Nat) : planM r b < 2 ^ (r.last + 1).toNat := by
  rw [← (pow_last ok).1]
  unfold planM
  have h1 : b &&& (2 * 2 ^ r.last.toNat - 1) ≤ 2 * 2 ^ r.last.toNat - 1 := Nat.and_le_right
  have h2 := Nat.two_pow_pos r.last.toNat
  omega
theorem pow6 {r : Riv} (ok : Ok r) : 2 ^ (r.last + 1).toNat ≤ 64 := Nat.le_trans (Nat.pow_le_pow_right (by omega) (pow_last ok).2) (by decide)
theorem planM_bit {r : Riv} (ok : Ok r) (b i : Nat) : (planM r b).testBit i = (b.testBit i && decide ((i : Int) ≤ r.last)) := by
  have := ok.l0
  unfold planM
  rw [(pow_last ok).1, Nat.testBit_and, Nat.testBit_two_pow_sub_one]
  congr 1
  rw [decide_eq_decide]; omega
theorem planL_len (r : Riv) (b : Nat) : (planL r b).length ≤ 6 := bitsL_len _
theorem sureP_iff {r : Riv} (h : r.faultI = 0) {m : Nat} (hm : m < 2 ^ (r.last + 1).toNat) : sureP r (bitsL m) = true ↔ (∃ t, isT r t) ∧ Sure r r.size (-1) (bitsL m) := by
  unfold sureP
  rw [prove_iff h (plan_bits (ok_of_fault h).1 hm)]
  have := bitsL_len m
  constructor
  · rintro ⟨a, b, _⟩; exact ⟨a, b⟩
  · rintro ⟨a, b⟩; exact ⟨a, b, by omega⟩
theorem tank_at {r : Riv} (h : r.faultI = 0) (xs : List Int) (D : Nat) (hD : (D : Int) ≤ r.last) : (tanksL r xs)[D]? = some (tankRf r (truthsR r) xs D) := by
  have hu := (ok_of_fault h).1.nu
  unfold tanksL
  rw [List.getElem?_map, List.getElem?_range (by omega)]
  simp only [Option.map_some]
  rw [bnd_eq h xs D hD]
theorem tank_spec {r : Riv} (h : r.faultI = 0) (hne : ∃ t, isT r t) (xs : List Int) (D : Nat) :
    (∀ t, isT r t → (tankRf r (truthsR r) xs D).lo ≤ aftV r t xs r.size (-1) (D + 1) ∧ aftV r t xs r.size (-1) (D + 1) ≤ (tankRf r (truthsR r) xs D).hi) ∧
    (∃ t, isT r t ∧ (tankRf r (truthsR r) xs D).lo = aftV r t xs r.size (-1) (D + 1)) ∧ (∃ t, isT r t ∧ (tankRf r (truthsR r) xs D).hi = aftV r t xs r.size (-1) (D + 1)) := by
  have hn := (truths_ne h).2 hne
  have := bndF_spec (l := (truthsR r).map fun t => aftV r t xs r.size (-1) (D + 1)) (by simpa using hn)
  unfold tankRf
  generalize bndF ((truthsR r).map fun t => aftV r t xs r.size (-1) (D + 1)) = b at this ⊢
  obtain ⟨h1, h2, h3⟩ := this
  rw [List.mem_map] at h2 h3
  obtain ⟨t2, ht2, e2⟩ := h2
  obtain ⟨t3, ht3, e3⟩ := h3
  exact ⟨fun t ht => h1 _ (List.mem_map.2 ⟨t, (mem_truthsR h).2 ht, rfl⟩), ⟨t2, (mem_truthsR h).1 ht2, e2.symm⟩, ⟨t3, (mem_truthsR h).1 ht3, e3.symm⟩⟩
theorem vI_one {y m : Nat} : vI y m = 1 ↔ y = m := by unfold vI; split; simp_all; split <;> simp_all
theorem vI_two {y m : Nat} : vI y m = 2 ↔ y = 0 ∧ y ≠ m := by unfold vI; split; simp_all; split <;> simp_all
theorem vI_range (y m : Nat) : 1 ≤ vI y m ∧ vI y m ≤ 3 := by unfold vI; split; simp; split <;> simp
/-- Whether a day is good, in all truths: the verdict. -/
theorem good_spec {r : Riv} (h : r.faultI = 0) (D : Nat) : (goodRf r (truthsR r) D = 1 ↔ ∀ t, isT r t → goodD r t D = true) ∧ ((∃ t, isT r t) → (goodRf r (truthsR r) D = 2 ↔ ∀ t, isT r t → goodD r t D = false)) := by
  unfold goodRf cntP
  constructor
  · rw [vI_one, filter_len_eq]
    exact forall_congr' fun t => by rw [mem_truthsR h]
  · intro hne
    have hn := (truths_ne h).2 hne
    rw [vI_two, filter_len_zero]
    have hpos : (truthsR r).length ≠ 0 := by simpa using hn
    constructor
    · rintro ⟨h1, h2⟩ t ht; exact h1 t ((mem_truthsR h).2 ht)
    · intro h1
      have h2 : ∀ t ∈ truthsR r, goodD r t D = false := fun t ht => h1 t ((mem_truthsR h).1 ht)
      refine ⟨h2, ?_⟩
      rw [filter_len_zero.2 h2]
      omega
theorem good_ans {r : Riv} (D : Nat) (hD : (D : Int) ≤ r.last) (h : r.faultI = 0) : goodA r D = if askR r true = 0 then (goodRf r (truthsR r) D, 0) else (0, askR r true) := by
  have hin : inB (D : Int) 0 r.last = true := by simp [inB]; omega
  unfold goodA
  rw [hin, ask_eq]
  split
  · rw [Int.toNat_natCast, good_eq h D hD]
  · rfl
theorem can_ans {r : Riv} (h : r.faultI = 0) : canE r = askR r true := by
  have ok := (ok_of_fault h).1
  have := good_ans (r := r) 0 (by have := ok.l0; simpa using this) h
  unfold canE
  rw [show ((0 : Nat) : Int) = 0 from rfl] at this
  rw [this]
  split
  · rename_i e; exact e.symm
  · rfl
theorem leave_ans {r : Riv} (h : r.faultI = 0) : leaveA r = (leaveRf r (allF r), 0) := by
  unfold leaveA; rw [if_pos h, leave_eq h]; rfl
theorem leave_spec {r : Riv} (h : r.faultI = 0) : MinB r.gauges.length (posB r) (leaveRf r (allF r)) := by
  have ok := (ok_of_fault h).1
  exact fewestF_some (by have := ok.ng; omega) (leave_eq h)
theorem first_ans {r : Riv} (h : r.faultI = 0) : firstA r = firstR ((List.range r.gauges.length).find? fun n => !posB (cutG r (n + 1)) []) := by
  unfold firstA firstF; rw [if_pos h]
theorem allbits : ∀ N : Nat, N < 6 → bitsN (bitsL (2 ^ (N + 1) - 1)) = 2 ^ (N + 1) - 1 := by decide +kernel
theorem need_ans {r : Riv} (h : r.faultI = 0) (ha : askR r true = 0) : needA r = needR ((List.range' r.start.toNat (100 - r.start.toNat)).find? fun (s : Nat) => decide (r.last < lacksR r (truthsR r) (bitsL (2 ^ (r.last.toNat + 1) - 1)) s (-1))) := by
  have ok := (ok_of_fault h).1
  unfold needA needF
  rw [ask_eq, if_pos ha]
  have e := allbits r.last.toNat (by have := ok.l5; have := ok.l0; omega)
  have : ∀ s : Nat, lacksI r (goodsL r) (2 ^ (r.last.toNat + 1) - 1) s (-1) = lacksR r (truthsR r) (bitsL (2 ^ (r.last.toNat + 1) - 1)) s (-1) := fun s => by
    rw [← lacks_eq h (bitsL_pos _), e]
  simp only [this]
end Go.Proofs.Ytgglfngkomgadaa
