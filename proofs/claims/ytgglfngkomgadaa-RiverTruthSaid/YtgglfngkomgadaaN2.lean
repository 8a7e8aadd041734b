/- Plain maths: gauges that are right in a truth. -/
import Derived.Test.YtgglfngkomgadaaN1
namespace Go.Proofs.Ytgglfngkomgadaa
set_option linter.unusedVariables false
set_option linter.unusedSimpArgs false
set_option maxRecDepth 100000

/-- A gauge with a day, of mud or salt, about a number. -/
def mkG (D : Nat) (m : Bool) (n : Int) (a b : Nat) : Gg := ⟨D, m, ⟨max 0 (n - a), min 9 (n + b)⟩⟩
def gaugeOf (r : Riv) (t : Tr) (v : Nat) : Gg :=
  mkG (v % (r.last.toNat + 1)) (v / 8 % 2 == 1) (if (v / 8 % 2 == 1) = true then t.mud.getD (v % (r.last.toNat + 1)) 0 else t.salt.getD (v % (r.last.toNat + 1)) 0) (v / 16 % 3) (v / 64 % 3)
def gaugesK (r : Riv) (t : Tr) (f : Nat → Nat) : Nat → List Gg
  | 0 => []
  | k + 1 => gaugesK r t f k ++ [gaugeOf r t (f k)]
def gdR (r : Riv) (t : Tr) (f : Nat → Nat) (n : Nat) : Riv := { r with gauges := gaugesK r t f n }
theorem gaugesK_len (r : Riv) (t : Tr) (f : Nat → Nat) : ∀ k, (gaugesK r t f k).length = k
  | 0 => rfl
  | k + 1 => by rw [gaugesK, List.length_append, gaugesK_len r t f k]; rfl
theorem gaugesK_mem {r : Riv} {t : Tr} {f : Nat → Nat} {g : Gg} : ∀ {k : Nat}, g ∈ gaugesK r t f k → ∃ v, g = gaugeOf r t v
  | 0, h => by simp [gaugesK] at h
  | k + 1, h => by
    rw [gaugesK, List.mem_append, List.mem_singleton] at h
    rcases h with h | h
    · exact gaugesK_mem h
    · exact ⟨_, h⟩
theorem fit_num {r : Riv} (ok : Ok r) {t : Tr} (ht : fitT r t = true) (D : Nat) (hD : (D : Int) ≤ r.last) : (0 ≤ t.salt.getD D 0 ∧ t.salt.getD D 0 ≤ 9) ∧ (0 ≤ t.mud.getD D 0 ∧ t.mud.getD D 0 ≤ 9) := by
  have hns := ok.ns; have hnm := ok.nm
  unfold fitT at ht
  obtain ⟨h1, h2⟩ := Bool.and_eq_true_iff.1 ht
  have a := has_iff.1 (fitL_at h1 D (by omega))
  have b := has_iff.1 (fitL_at h2 D (by omega))
  have ha : r.salt.getD D default ∈ r.salt := by
    rw [List.getD_eq_getElem?_getD, List.getElem?_eq_getElem (show D < r.salt.length by omega)]; exact List.getElem_mem _
  have hb : r.mud.getD D default ∈ r.mud := by
    rw [List.getD_eq_getElem?_getD, List.getElem?_eq_getElem (show D < r.mud.length by omega)]; exact List.getElem_mem _
  have c := ok.so _ ha
  have d := ok.mo _ hb
  exact ⟨⟨by omega, by omega⟩, ⟨by omega, by omega⟩⟩
theorem gaugeOf_spec {r : Riv} (ok : Ok r) {t : Tr} (ht : fitT r t = true) (v : Nat) :
    ((0 ≤ (gaugeOf r t v).day ∧ (gaugeOf r t v).day ≤ r.last) ∧ (0 ≤ (gaugeOf r t v).rd.lo ∧ (gaugeOf r t v).rd.lo ≤ (gaugeOf r t v).rd.hi ∧ (gaugeOf r t v).rd.hi ≤ 9)) ∧ (gaugeOf r t v).rd.has (gval t (gaugeOf r t v)) = true := by
  have h0 := ok.l0
  have hlt : v % (r.last.toNat + 1) < r.last.toNat + 1 := Nat.mod_lt _ (by omega)
  have hD : ((v % (r.last.toNat + 1) : Nat) : Int) ≤ r.last := by omega
  have hf := fit_num ok ht _ hD
  unfold gaugeOf gval mkG
  generalize v % (r.last.toNat + 1) = D at *
  generalize v / 16 % 3 = a
  generalize v / 64 % 3 = b
  simp only [Int.toNat_natCast]
  rw [has_iff]
  cases (v / 8 % 2 == 1)
  · simp only [Bool.false_eq_true, if_false]; omega
  · simp only [if_true]; omega
theorem gd_fault {r : Riv} (h : r.faultI = 0) {t : Tr} (ht : fitT r t = true) (f : Nat → Nat) {n : Nat} (hn : n ≤ 5) : (gdR r t f n).faultI = 0 :=
  fault_gauges h _ (by rw [gaugesK_len]; exact hn) fun g hg => by
    obtain ⟨v, rfl⟩ := gaugesK_mem hg
    exact (gaugeOf_spec (ok_of_fault h).1 ht v).1
theorem gd_isT {r : Riv} (h : r.faultI = 0) {t : Tr} (ht : fitT r t = true) (f : Nat → Nat) (n : Nat) : isT (gdR r t f n) t :=
  isT_all.2 ⟨ht, fun g hg => by
    obtain ⟨v, rfl⟩ := gaugesK_mem hg
    exact (gaugeOf_spec (ok_of_fault h).1 ht v).2⟩
theorem truth_leave {x : Riv} {t : Tr} (h : x.faultI = 0) (ht : isT x t) : leaveA x = ([], 0) := by
  have ok := (ok_of_fault h).1
  rw [leave_ans h]
  have hb := (leave_spec h).best 0 (Nat.two_pow_pos _) (by
    rw [show bitsL 0 = [] by decide +kernel, posB_iff ok]
    exact ⟨t, ht.1, fun i hi _ => ht.2 i hi⟩)
  rw [show bitsL 0 = [] by decide +kernel] at hb
  have hl := shortB_len hb
  rw [List.eq_nil_of_length_eq_zero (Nat.le_zero.1 hl)]
theorem truth_first {x : Riv} {t : Tr} (h : x.faultI = 0) (ht : isT x t) : firstA x = (0, 7) := by
  have ok := (ok_of_fault h).1
  rw [first_ans h, List.find?_eq_none.2]
  · rfl
  · intro n _
    rw [(cut_iff ok (n + 1)).2 ⟨t, ht.1, fun i hi _ => ht.2 i hi⟩]
    decide
theorem truth_prove {x : Riv} {t : Tr} (h : x.faultI = 0) (ht : isT x t) : proveT x t = true := by
  have ok := (ok_of_fault h).1
  unfold proveT
  rw [listedB_fit, ht.1, decide_eq_true h, Bool.true_and, Bool.true_and]
  exact (rightB_iff ok ht.1 []).2 fun i hi _ => ht.2 i hi
theorem truth_play {x : Riv} {xs : List Int} {t : Tr} (h : x.faultI = 0) (ht : fitT x t = true) (hp : isPlanB x.last xs = true) : playA x xs t = (playL x (gOf x t) xs, 0) := by
  unfold playA
  rw [if_neg (by simp [h]), listedB_fit, ht, hp]
  rfl
theorem truth_tank {x : Riv} {t : Tr} (h : x.faultI = 0) (ht : isT x t) (xs : List Int) (k : Nat) (hk : (k : Int) ≤ x.last) (y : Rg) (hy : (tanksL x xs)[k]? = some y) :
    y.lo ≤ aftV x t xs x.size (-1) (k + 1) ∧ aftV x t xs x.size (-1) (k + 1) ≤ y.hi := by
  rw [tank_at h xs k hk] at hy
  cases hy
  exact (tank_spec h ⟨t, ht⟩ xs k).1 t ht
theorem truth_good {x : Riv} {t : Tr} (h : x.faultI = 0) (ht : isT x t) (k : Nat) (hk : (k : Int) ≤ x.last) :
    ∃ v : Int, goodA x k = (v, 0) ∧ inB v 1 3 = true ∧ ((v = 1 ∧ goodD x t k = true) ∨ (v = 2 ∧ goodD x t k = false) ∨ v = 3) := by
  obtain ⟨h1, h2⟩ := good_spec h k
  have h2 := h2 ⟨t, ht⟩
  have hr : 1 ≤ goodRf x (truthsR x) k ∧ goodRf x (truthsR x) k ≤ 3 := by unfold goodRf; exact vI_range _ _
  refine ⟨goodRf x (truthsR x) k, by rw [good_ans k hk h, if_pos ((askR_ok h).2 ⟨t, ht⟩)], by simp only [inB, decide_eq_true_eq]; exact hr, ?_⟩
  have hc : goodRf x (truthsR x) k = 1 ∨ goodRf x (truthsR x) k = 2 ∨ goodRf x (truthsR x) k = 3 := by omega
  rcases hc with e | e | e
  · exact .inl ⟨e, h1.1 e t ht⟩
  · exact .inr (.inl ⟨e, h2.1 e t ht⟩)
  · exact .inr (.inr e)
theorem truth_sure {x : Riv} {t : Tr} (h : x.faultI = 0) (ht : isT x t) {m : Nat} (hm : m < 2 ^ (x.last + 1).toNat) (hs : sureP x (bitsL m) = true) (k : Nat) (hk : (k : Int) ≤ x.last) : x.use.getD k 0 ≤ befR x t (bitsL m) x.size (-1) k :=
  ((sureP_iff h hm).1 hs).2 t ht k hk
/-- What holds of a river with such gauges and a plan. -/
structure GdF (r x : Riv) (t : Tr) (PL : List Int) : Prop where
  leave : leaveA x = ([], 0)
  first : firstA x = (0, 7)
  prove : proveT x t = true
  ask : askR x (isPlanB x.last PL) = 0
  play : ∃ Q : List Int, playA x PL t = (Q, 0) ∧ Q.length = r.use.length ∧ ∀ (k : Nat) (n : Int), (k : Int) ≤ r.last → Q[k]? = some n → aftV x t PL r.size (-1) (k + 1) = n
  tank : ∀ (k : Nat) (y : Rg), (k : Int) ≤ r.last → (tanksL x PL)[k]? = some y → y.lo ≤ aftV x t PL r.size (-1) (k + 1) ∧ aftV x t PL r.size (-1) (k + 1) ≤ y.hi
  tlen : (tanksL x PL).length = r.use.length
  good : ∀ k : Nat, (k : Int) ≤ r.last → ∃ v : Int, goodA x k = (v, 0) ∧ inB v 1 3 = true ∧ ((v = 1 ∧ goodD r t k = true) ∨ (v = 2 ∧ goodD r t k = false) ∨ v = 3)
  sure : sureP x PL = true → ∀ (k : Nat) (n : Int), (k : Int) ≤ r.last → aftV x t PL r.size (-1) k = n → r.use.getD k 0 ≤ if PL.contains (k : Int) && goodD r t k then min r.size (n + r.draw) else n
  bd : ∀ k, 0 ≤ aftV x t PL r.size (-1) k ∧ aftV x t PL r.size (-1) k ≤ 99
  start : aftV x t PL r.size (-1) 0 = r.start
  lens : x.salt.length ≤ 30 ∧ x.mud.length ≤ 30 ∧ x.use.length ≤ 30 ∧ x.gauges.length ≤ 30
  ul : x.use.length = r.use.length
theorem gd_facts {r : Riv} (h : r.faultI = 0) {t : Tr} (ht : fitT r t = true) (f : Nat → Nat) {n : Nat} (hn : n ≤ 5) {m : Nat} (hm : m < 2 ^ (r.last + 1).toNat) {PL : List Int} (hP : bitsL m = PL) : GdF r (gdR r t f n) t PL := by
  have ok := (ok_of_fault h).1
  have hz := gd_fault h ht f hn
  have hi := gd_isT h ht f n
  have okx := (ok_of_fault hz).1
  have hpl : isPlanB r.last PL = true := hP ▸ plan_bits ok hm
  have h5 := ok.l5; have hns := ok.ns; have hnm := ok.nm; have hnu := ok.nu
  refine ⟨truth_leave hz hi, truth_first hz hi, truth_prove hz hi, ?_, ⟨_, truth_play hz ht hpl, play_len _ _ _, fun k x hk hx => ?_⟩, fun k y hk hy => truth_tank hz hi PL k hk y hy, by simp [tanksL, gdR], fun k hk => truth_good hz hi k hk, fun hs k z hk hzz => ?_, fun k => ⟨aft_nn okx t PL r.size (-1) k, ?_⟩, rfl, ⟨?_, ?_, ?_, ?_⟩, rfl⟩
  · show askR _ (isPlanB r.last PL) = 0
    rw [hpl]; exact (askR_ok hz).2 ⟨t, hi⟩
  · have := play_at okx ht PL k hk
    rw [List.getD_eq_getElem?_getD, hx] at this
    exact this.symm
  · have h1 := truth_sure hz hi (m := m) hm (by rw [hP]; exact hs) k hk
    rw [hP] at h1
    have h2 : befR (gdR r t f n) t PL r.size (-1) k = if PL.contains (k : Int) && goodD r t k then min r.size (z + r.draw) else z := by
      have h3 : ¬ (k : Int) = -1 := by omega
      unfold befR
      rw [hzz]
      unfold befV
      simp only [if_neg h3]
      rfl
    rw [← h2]
    exact h1
  · have h1 := aft_le okx t PL r.size (-1) ok.sz.1 ok.st.2 k
    have h2 := ok.sz.2
    omega
  · show r.salt.length ≤ 30; omega
  · show r.mud.length ≤ 30; omega
  · show r.use.length ≤ 30; omega
  · show (gaugesK r t f n).length ≤ 30
    rw [gaugesK_len]; omega
end Go.Proofs.Ytgglfngkomgadaa
