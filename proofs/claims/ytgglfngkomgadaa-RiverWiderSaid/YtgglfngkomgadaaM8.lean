/- Plain maths: fewer truths, more truths. -/
import Derived.Test.YtgglfngkomgadaaM7
namespace Go.Proofs.Ytgglfngkomgadaa
set_option linter.unusedVariables false
set_option linter.unusedSimpArgs false
set_option maxRecDepth 100000

/-- Two rivers that differ in what is known of them alone. -/
structure Same (r x : Riv) : Prop where
  last : x.last = r.last
  start : x.start = r.start
  draw : x.draw = r.draw
  use : x.use = r.use
  size : x.size = r.size
  sweet : x.sweet = r.sweet
  clear : x.clear = r.clear
theorem Same.good {r x : Riv} (h : Same r x) (t : Tr) (D : Nat) : goodD x t D = goodD r t D := by unfold goodD; rw [h.sweet, h.clear]
theorem Same.bef {r x : Riv} (h : Same r x) (t : Tr) (xs : List Int) (S T : Int) (D : Nat) (n : Int) : befV x t xs S T D n = befV r t xs S T D n := by unfold befV; rw [h.good, h.draw]
theorem Same.aft {r x : Riv} (h : Same r x) (t : Tr) (xs : List Int) (S T : Int) : ∀ D, aftV x t xs S T D = aftV r t xs S T D
  | 0 => h.start
  | D + 1 => by simp only [aftV, h.aft t xs S T D, h.bef, h.use]
theorem Same.sure {r x : Riv} (h : Same r x) (ht : ∀ t, isT x t → isT r t) {S T : Int} {xs : List Int} (hs : Sure r S T xs) : Sure x S T xs := by
  intro t hx D hD
  have := hs t (ht t hx) D (by have := h.last; omega)
  unfold befR at this ⊢
  rw [h.bef, h.aft, h.use]
  exact this
/-- Fewer truths: the bounds are no wider. -/
theorem same_tanks {r x : Riv} (h : Same r x) (hr : r.faultI = 0) (hx : x.faultI = 0) (ht : ∀ t, isT x t → isT r t) (hT : ∃ t, isT x t) (xs : List Int) :
    ∀ (k : Nat) (a b : Rg), (tanksL x xs)[k]? = some a → (tanksL r xs)[k]? = some b → b.lo ≤ a.lo ∧ a.hi ≤ b.hi := by
  intro k a b ha hb
  have okx := (ok_of_fault hx).1
  have hk : k < x.use.length := by
    have := (List.getElem?_eq_some_iff.1 ha).1
    simpa [tanksL] using this
  have hkl : (k : Int) ≤ x.last := by have := okx.nu; omega
  rw [tank_at hx xs k hkl] at ha
  rw [tank_at hr xs k (by have := h.last; omega)] at hb
  cases ha; cases hb
  obtain ⟨_, ⟨t1, i1, e1⟩, t2, i2, e2⟩ := tank_spec hx hT xs k
  obtain ⟨g1, _, _⟩ := tank_spec hr (hT.imp fun t => ht t) xs k
  rw [e1, e2, h.aft, h.aft, h.size]
  exact ⟨(g1 t1 (ht t1 i1)).1, (g1 t2 (ht t2 i2)).2⟩
theorem same_good {r x : Riv} (h : Same r x) (hr : r.faultI = 0) (hx : x.faultI = 0) (ht : ∀ t, isT x t → isT r t) (hT : ∃ t, isT x t) (D : Nat) :
    goodRf r (truthsR r) D = 3 ∨ goodRf r (truthsR r) D = goodRf x (truthsR x) D := by
  have hTr := hT.imp fun t => ht t
  have h1 := good_spec hr D
  have h2 := good_spec hx D
  have b := vI_range (cntP (fun t => goodD r t D) (truthsR r)) (truthsR r).length
  have b' : 1 ≤ goodRf r (truthsR r) D ∧ goodRf r (truthsR r) D ≤ 3 := b
  by_cases c1 : goodRf r (truthsR r) D = 1
  · right
    rw [c1]
    exact (h2.1.2 fun t hxt => by rw [h.good]; exact h1.1.1 c1 t (ht t hxt)).symm
  · by_cases c2 : goodRf r (truthsR r) D = 2
    · right
      rw [c2]
      exact ((h2.2 hT).2 fun t hxt => by rw [h.good]; exact (h1.2 hTr).1 c2 t (ht t hxt)).symm
    · left; omega
theorem same_mo {r x : Riv} (h : Same r x) (ok : Ok r) (okx : Ok x) (t : Tr) (xs : List Int) : Mo r x t t xs xs r.size x.size (-1) (-1) :=
  ⟨ok, okx, h.last, ok.sz.1, by rw [h.size]; exact Int.le_refl _, ok.st.2, okx.st.2, by rw [h.start]; exact Int.le_refl _, by rw [h.draw]; exact Int.le_refl _, fun _ => by rw [h.use]; exact Int.le_refl _, fun D _ hg => by rw [h.good]; exact hg, fun _ h => h, .inl rfl⟩
theorem same_fewer {r x : Riv} (h : Same r x) (hr : r.faultI = 0) (hx : x.faultI = 0) (ht : ∀ t, isT x t → isT r t) (hT : ∃ t, isT x t) {m : Nat} (hm : m < 2 ^ (r.last + 1).toNat) : FewerOk r x (bitsL m) :=
  fewer_ok hr hx h.last hT (fun t hxt => ⟨ht t hxt, fun xs => same_mo h (ok_of_fault hr).1 (ok_of_fault hx).1 t xs⟩) hm

/-! ### One more gauge -/
def addR (r : Riv) (g : Gg) : Riv := { r with gauges := r.gauges ++ [g] }
theorem add_same (r : Riv) (g : Gg) : Same r (addR r g) := ⟨rfl, rfl, rfl, rfl, rfl, rfl, rfl⟩
theorem add_okG (r : Riv) (g : Gg) (t : Tr) (i : Nat) (hi : i < r.gauges.length) : okG (addR r g) t i = okG r t i := by
  unfold okG addR
  simp only [List.getD_eq_getElem?_getD, List.getElem?_append_left hi]
theorem add_isT (r : Riv) (g : Gg) (t : Tr) (h : isT (addR r g) t) : isT r t := by
  refine ⟨h.1, fun i hi => ?_⟩
  rw [← add_okG r g t i hi]
  exact h.2 i (by unfold addR; rw [List.length_append]; omega)
theorem len_and : ∀ m : Nat, m < 64 → ∀ N : Nat, N ≤ 6 → (bitsL (m &&& (2 ^ N - 1))).length ≤ (bitsL m).length := by decide +kernel
theorem len_or : ∀ N : Nat, N ≤ 5 → ∀ m : Nat, m < 2 ^ N → (bitsL (m ||| 2 ^ N)).length = (bitsL m).length + 1 := by decide +kernel
theorem read_leave {r : Riv} {g : Gg} (hr : r.faultI = 0) (hx : (addR r g).faultI = 0) : (leaveRf r (allF r)).length ≤ (leaveRf (addR r g) (allF (addR r g))).length ∧ (leaveRf (addR r g) (allF (addR r g))).length ≤ (leaveRf r (allF r)).length + 1 := by
  have ok := (ok_of_fault hr).1
  have okx := (ok_of_fault hx).1
  have m1 := leave_spec hr
  have m2 := leave_spec hx
  generalize leaveRf r (allF r) = LR at m1 ⊢
  generalize leaveRf (addR r g) (allF (addR r g)) = LX at m2 ⊢
  have hlen : (addR r g).gauges.length = r.gauges.length + 1 := by unfold addR; rw [List.length_append]; rfl
  have hg := okx.ng
  rw [hlen] at hg
  obtain ⟨N, hN⟩ : ∃ N, N = r.gauges.length := ⟨_, rfl⟩
  rw [hlen] at m2
  have h64 : 2 ^ (N + 1) ≤ 64 := Nat.le_trans (Nat.pow_le_pow_right (by omega) (show N + 1 ≤ 6 by omega)) (by decide)
  have h32 : 2 ^ N < 2 ^ (N + 1) := Nat.pow_lt_pow_right (by omega) (by omega)
  obtain ⟨a, ha⟩ : ∃ a, a = bitsN LR := ⟨_, rfl⟩
  obtain ⟨b, hb⟩ : ∃ b, b = bitsN LX := ⟨_, rfl⟩
  have b1 := m1.bits
  have b2 := m2.bits
  rw [← ha, ← hN] at b1
  rw [← hb, ← hN] at b2
  have p1 := m1.ok
  have p2 := m2.ok
  rw [← b1.2, posB_iff ok] at p1
  rw [← b2.2, posB_iff okx] at p2
  constructor
  · obtain ⟨t, ht, hh⟩ := p2
    have hlt : b &&& (2 ^ N - 1) < 2 ^ N := by
      have : b &&& (2 ^ N - 1) ≤ 2 ^ N - 1 := Nat.and_le_right
      have := Nat.two_pow_pos N
      omega
    have hp : posB r (bitsL (b &&& (2 ^ N - 1))) = true := by
      rw [posB_iff ok]
      refine ⟨t, ht, fun i hi hn => ?_⟩
      rw [← add_okG r g t i hi]
      refine hh i (by omega) (fun hm => hn ?_)
      rw [bitsL_mem _ _ (by omega)] at hm
      rw [bitsL_mem _ _ (by omega), Nat.testBit_and, hm, Nat.testBit_two_pow_sub_one]
      simp; omega
    have h1 := shortB_len (m1.best _ (by rw [← hN]; exact hlt) hp)
    have h2 := len_and b (by omega) N (by omega)
    rw [b2.2] at h2
    omega
  · obtain ⟨t, ht, hh⟩ := p1
    have hlt : a ||| 2 ^ N < 2 ^ (N + 1) := Nat.or_lt_two_pow (by omega) h32
    have hp : posB (addR r g) (bitsL (a ||| 2 ^ N)) = true := by
      rw [posB_iff okx]
      refine ⟨t, ht, fun i hi hn => ?_⟩
      rw [bitsL_mem _ _ (by omega), Nat.testBit_or, Nat.testBit_two_pow] at hn
      have hiN : i ≠ N := by rintro rfl; simp at hn
      have hir : i < r.gauges.length := by rw [hlen] at hi; omega
      rw [add_okG r g t i hir]
      refine hh i hir (fun hm => hn ?_)
      rw [bitsL_mem _ _ (by omega)] at hm
      rw [hm]; rfl
    have h1 := shortB_len (m2.best _ (by rw [← hN]; exact hlt) hp)
    have h2 := len_or N (by omega) a b1.1
    rw [b1.2] at h2
    omega
theorem leave_nil {r : Riv} (h : r.faultI = 0) (e : leaveRf r (allF r) = []) : ∃ t, isT r t := by
  have m := (leave_spec h).ok
  rw [e, posB_iff (ok_of_fault h).1] at m
  obtain ⟨t, ht, hh⟩ := m
  exact ⟨t, ht, fun i hi => hh i hi (by simp)⟩

/-! ### Wider ranges -/
/-- What is known is no narrower. -/
structure Wide (r x : Riv) : Prop where
  same : Same r x
  fit : ∀ t, fitT r t = true → fitT x t = true
  len : x.gauges.length = r.gauges.length
  okg : ∀ t i, i < r.gauges.length → okG r t i = true → okG x t i = true
theorem Wide.isT {r x : Riv} (h : Wide r x) {t : Tr} (ht : Go.Proofs.Ytgglfngkomgadaa.isT r t) : Go.Proofs.Ytgglfngkomgadaa.isT x t := ⟨h.fit t ht.1, fun i hi => h.okg t i (by rw [← h.len]; exact hi) (ht.2 i (by rw [← h.len]; exact hi))⟩
theorem wide_leave {r x : Riv} (h : Wide r x) (hr : r.faultI = 0) (hx : x.faultI = 0) : (leaveRf x (allF x)).length ≤ (leaveRf r (allF r)).length := by
  have m1 := leave_spec hr
  have m2 := leave_spec hx
  have p := m1.ok
  rw [← m1.bits.2, posB_iff (ok_of_fault hr).1] at p
  obtain ⟨t, ht, hh⟩ := p
  have hp : posB x (bitsL (bitsN (leaveRf r (allF r)))) = true := by
    rw [posB_iff (ok_of_fault hx).1]
    exact ⟨t, h.fit t ht, fun i hi hn => h.okg t i (by rw [← h.len]; exact hi) (hh i (by rw [← h.len]; exact hi) hn)⟩
  have := shortB_len (m2.best _ (by rw [h.len]; exact m1.bits.1) hp)
  rw [m1.bits.2] at this
  exact this
theorem Same.symm {r x : Riv} (h : Same r x) : Same x r := ⟨h.last.symm, h.start.symm, h.draw.symm, h.use.symm, h.size.symm, h.sweet.symm, h.clear.symm⟩
theorem wide_sure {r x : Riv} (h : Wide r x) (hr : r.faultI = 0) (hx : x.faultI = 0) (hT : ∃ t, isT r t) {m : Nat} (hm : m < 2 ^ (r.last + 1).toNat) (hs : sureP x (bitsL m) = true) : sureP r (bitsL m) = true := by
  rw [sureP_iff hx (by rw [h.same.last]; exact hm)] at hs
  rw [sureP_iff hr hm]
  refine ⟨hT, ?_⟩
  have := h.same.symm.sure (fun t ht => h.isT ht) hs.2
  rw [h.same.size] at this
  exact this
theorem fitL_set : ∀ {xs : List Rg} {ns : List Int} {k : Nat} {y : Rg}, (∀ n, (xs.getD k default).has n = true → y.has n = true) → fitL xs ns = true → fitL (xs.set k y) ns = true
  | [], [], _, _, _, _ => by simp [fitL]
  | x :: xs, n :: ns, 0, y, h, hf => by
    simp only [fitL, List.set_cons_zero, Bool.and_eq_true] at hf ⊢
    exact ⟨h n (by simpa using hf.1), hf.2⟩
  | x :: xs, n :: ns, k + 1, y, h, hf => by
    simp only [fitL, List.set_cons_succ, Bool.and_eq_true] at hf ⊢
    exact ⟨hf.1, fitL_set (by simpa using h) hf.2⟩
  | [], _ :: _, _, _, _, hf => by simp [fitL] at hf
  | _ :: _, [], _, _, _, hf => by simp [fitL] at hf
def wideRg (x : Rg) (a b : Int) : Rg := ⟨x.lo - a, x.hi + b⟩
theorem wideRg_has {x : Rg} {a b n : Int} (ha : 0 ≤ a) (hb : 0 ≤ b) (h : x.has n = true) : (wideRg x a b).has n = true := by
  rw [has_iff] at h ⊢
  unfold wideRg
  simp only
  omega
theorem wide_salt (r : Riv) (k : Nat) {a b : Int} (ha : 0 ≤ a) (hb : 0 ≤ b) : Wide r { r with salt := r.salt.set k (wideRg (r.salt.getD k default) a b) } :=
  ⟨⟨rfl, rfl, rfl, rfl, rfl, rfl, rfl⟩, fun t ht => by
    simp only [fitT, Bool.and_eq_true] at ht ⊢
    exact ⟨fitL_set (fun n h => wideRg_has ha hb h) ht.1, ht.2⟩, rfl, fun t i _ h => h⟩
theorem wide_mud (r : Riv) (k : Nat) {a b : Int} (ha : 0 ≤ a) (hb : 0 ≤ b) : Wide r { r with mud := r.mud.set k (wideRg (r.mud.getD k default) a b) } :=
  ⟨⟨rfl, rfl, rfl, rfl, rfl, rfl, rfl⟩, fun t ht => by
    simp only [fitT, Bool.and_eq_true] at ht ⊢
    exact ⟨ht.1, fitL_set (fun n h => wideRg_has ha hb h) ht.2⟩, rfl, fun t i _ h => h⟩
theorem wide_read (r : Riv) (k : Nat) {a b : Int} (ha : 0 ≤ a) (hb : 0 ≤ b) : Wide r { r with gauges := r.gauges.set k { (r.gauges.getD k default) with rd := wideRg (r.gauges.getD k default).rd a b } } :=
  ⟨⟨rfl, rfl, rfl, rfl, rfl, rfl, rfl⟩, fun t ht => ht, by simp, fun t i hi h => by
    unfold okG at h ⊢
    simp only [List.getD_eq_getElem?_getD, List.getElem?_set] at h ⊢
    split
    · rename_i e
      subst e
      rw [if_pos hi]
      simp only [Option.getD_some]
      exact wideRg_has ha hb h
    · exact h⟩
end Go.Proofs.Ytgglfngkomgadaa
