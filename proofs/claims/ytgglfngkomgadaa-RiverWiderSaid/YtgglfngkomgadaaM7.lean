/- Plain maths: more of anything. -/
import Derived.Test.YtgglfngkomgadaaM6
namespace Go.Proofs.Ytgglfngkomgadaa
set_option linter.unusedVariables false
set_option linter.unusedSimpArgs false
set_option maxRecDepth 100000

/-- What 'fewer' asks. -/
abbrev FewerOk (r x : Riv) (xs : List Int) : Prop := (sureP r xs = true → sureP x xs = true) ∧
  ((∃ y y' e, fewA r true (-1) = (y, 10) ∧ fewA x true (-1) = (y', e) ∧ (e = 0 ∨ e = 10)) ∨ (∃ y y', fewA r true (-1) = (y, 0) ∧ fewA x true (-1) = (y', 0) ∧ y'.length ≤ y.length))
theorem fewer_ok {r x : Riv} (h : r.faultI = 0) (hx : x.faultI = 0) (hl : x.last = r.last) (hT : ∃ t, isT x t) (hm : ∀ t, isT x t → isT r t ∧ ∀ xs, Mo r x t t xs xs r.size x.size (-1) (-1)) {m : Nat} (hmm : m < 2 ^ (r.last + 1).toNat) : FewerOk r x (bitsL m) := by
  have hTr : ∃ t, isT r t := hT.imp fun t ht => (hm t ht).1
  have ha := (askR_ok h).2 hTr
  have hax := (askR_ok hx).2 hT
  have mono : ∀ xs, Sure r r.size (-1) xs → Sure x x.size (-1) xs := fun xs hs => sure_mono (fun t ht => ⟨t, (hm t ht).1, (hm t ht).2 xs⟩) hs
  refine ⟨fun hs => ?_, ?_⟩
  · rw [sureP_iff h hmm] at hs
    rw [sureP_iff hx (by rw [hl]; exact hmm)]
    exact ⟨hT, mono _ hs.2⟩
  · rcases few_cases h (-1) ha with ⟨e, _⟩ | ⟨y, e, fy⟩
    · left
      rcases few_cases hx (-1) hax with ⟨e', _⟩ | ⟨y', e', _⟩
      · exact ⟨_, _, _, e, e', .inr rfl⟩
      · exact ⟨_, _, _, e, e', .inl rfl⟩
    · right
      have hs := mono y fy.sure
      rw [← fy.bits.2] at hs
      have hb : bitsN y < 2 ^ (x.last + 1).toNat := by rw [hl]; exact fy.bits.1
      rcases few_cases hx (-1) hax with ⟨_, no⟩ | ⟨y', e', fy'⟩
      · exact absurd hs (no _ hb)
      · refine ⟨_, _, e, e', ?_⟩
        have := fy'.best _ hb hs
        rw [fy.bits.2] at this
        exact shortB_len this

/-- A river with the same truths, and more of something. -/
theorem more_ok {r x : Riv} (h : r.faultI = 0) (ok' : Ok x) (hsalt : x.salt = r.salt) (hmud : x.mud = r.mud) (hg : x.gauges = r.gauges) (hl : x.last = r.last) (ha : askR r true = 0)
    (hsz : r.size ≤ x.size) (hst : r.start ≤ x.start) (hdr : r.draw ≤ x.draw) (hus : ∀ D, x.use.getD D 0 ≤ r.use.getD D 0) (hsw : r.sweet ≤ x.sweet) (hcl : r.clear ≤ x.clear) {m : Nat} (hmm : m < 2 ^ (r.last + 1).toNat) : FewerOk r x (bitsL m) := by
  have ok := (ok_of_fault h).1
  have hx : x.faultI = 0 := fault_mk ok' (by rw [hsalt, hmud]; exact (ok_of_fault h).2)
  have hTT : ∀ t, isT x t ↔ isT r t := fun t => by
    unfold isT fitT okG
    rw [hsalt, hmud, hg]
  refine fewer_ok h hx hl (((askR_ok h).1 ha).imp fun t ht => (hTT t).2 ht) (fun t ht => ⟨(hTT t).1 ht, fun xs => ?_⟩) hmm
  refine ⟨ok, ok', hl, ok.sz.1, hsz, ok.st.2, ok'.st.2, hst, hdr, hus, fun D hD hg => ?_, fun _ h => h, .inl rfl⟩
  unfold goodD at hg ⊢
  rw [Bool.and_eq_true, decide_eq_true_eq, decide_eq_true_eq] at hg ⊢
  omega
theorem more_size {r : Riv} (h : r.faultI = 0) (ha : askR r true = 0) (n : Nat) {m : Nat} (hm : m < 2 ^ (r.last + 1).toNat) : FewerOk r { r with size := min 99 (r.size + (1 + (n : Int))) } (bitsL m) := by
  have ok := (ok_of_fault h).1
  have := ok.sz; have := ok.st
  exact more_ok (x := { r with size := min 99 (r.size + (1 + (n : Int))) }) h { ok with sz := ⟨by show 0 ≤ min 99 _; omega, by show min 99 _ ≤ 99; omega⟩, st := ⟨ok.st.1, by show r.start ≤ min 99 _; omega⟩ } rfl rfl rfl rfl ha (by show r.size ≤ min 99 _; omega) (Int.le_refl _) (Int.le_refl _) (fun _ => Int.le_refl _) (Int.le_refl _) (Int.le_refl _) hm
theorem more_start {r : Riv} (h : r.faultI = 0) (ha : askR r true = 0) (n : Nat) {m : Nat} (hm : m < 2 ^ (r.last + 1).toNat) : FewerOk r { r with start := min r.size (r.start + (1 + (n : Int))) } (bitsL m) := by
  have ok := (ok_of_fault h).1
  have := ok.sz; have := ok.st
  exact more_ok (x := { r with start := min r.size (r.start + (1 + (n : Int))) }) h { ok with st := ⟨by show 0 ≤ min r.size _; omega, by show min r.size _ ≤ r.size; omega⟩ } rfl rfl rfl rfl ha (Int.le_refl _) (by show r.start ≤ min r.size _; omega) (Int.le_refl _) (fun _ => Int.le_refl _) (Int.le_refl _) (Int.le_refl _) hm
theorem more_draw {r : Riv} (h : r.faultI = 0) (ha : askR r true = 0) (n : Nat) {m : Nat} (hm : m < 2 ^ (r.last + 1).toNat) : FewerOk r { r with draw := min 99 (r.draw + (1 + (n : Int))) } (bitsL m) := by
  have ok := (ok_of_fault h).1
  have := ok.dr
  exact more_ok (x := { r with draw := min 99 (r.draw + (1 + (n : Int))) }) h { ok with dr := ⟨by show 0 ≤ min 99 _; omega, by show min 99 _ ≤ 99; omega⟩ } rfl rfl rfl rfl ha (Int.le_refl _) (Int.le_refl _) (by show r.draw ≤ min 99 _; omega) (fun _ => Int.le_refl _) (Int.le_refl _) (Int.le_refl _) hm
theorem more_sweet {r : Riv} (h : r.faultI = 0) (ha : askR r true = 0) (n : Nat) {m : Nat} (hm : m < 2 ^ (r.last + 1).toNat) : FewerOk r { r with sweet := min 9 (r.sweet + (1 + (n : Int))) } (bitsL m) := by
  have ok := (ok_of_fault h).1
  have := ok.sw
  exact more_ok (x := { r with sweet := min 9 (r.sweet + (1 + (n : Int))) }) h { ok with sw := ⟨by show 0 ≤ min 9 _; omega, by show min 9 _ ≤ 9; omega⟩ } rfl rfl rfl rfl ha (Int.le_refl _) (Int.le_refl _) (Int.le_refl _) (fun _ => Int.le_refl _) (by show r.sweet ≤ min 9 _; omega) (Int.le_refl _) hm
theorem more_clear {r : Riv} (h : r.faultI = 0) (ha : askR r true = 0) (n : Nat) {m : Nat} (hm : m < 2 ^ (r.last + 1).toNat) : FewerOk r { r with clear := min 9 (r.clear + (1 + (n : Int))) } (bitsL m) := by
  have ok := (ok_of_fault h).1
  have := ok.cl
  exact more_ok (x := { r with clear := min 9 (r.clear + (1 + (n : Int))) }) h { ok with cl := ⟨by show 0 ≤ min 9 _; omega, by show min 9 _ ≤ 9; omega⟩ } rfl rfl rfl rfl ha (Int.le_refl _) (Int.le_refl _) (Int.le_refl _) (fun _ => Int.le_refl _) (Int.le_refl _) (by show r.clear ≤ min 9 _; omega) hm
theorem more_use {r : Riv} (h : r.faultI = 0) (ha : askR r true = 0) (n D : Nat) (hD : D < r.use.length) {m : Nat} (hm : m < 2 ^ (r.last + 1).toNat) : FewerOk r { r with use := r.use.set D (max 0 (r.use.getD D 0 - (1 + (n : Int)))) } (bitsL m) := by
  have ok := (ok_of_fault h).1
  have hu := use_bd ok D
  refine more_ok (x := { r with use := r.use.set D (max 0 (r.use.getD D 0 - (1 + (n : Int)))) }) h { ok with nu := by show ((r.use.set D _).length : Int) = _; rw [List.length_set]; exact ok.nu, uo := fun u hu2 => ?_ } rfl rfl rfl rfl ha (Int.le_refl _) (Int.le_refl _) (Int.le_refl _) (fun k => ?_) (Int.le_refl _) (Int.le_refl _) hm
  · rcases List.mem_or_eq_of_mem_set hu2 with h1 | h1
    · exact ok.uo u h1
    · omega
  · show (r.use.set D _).getD k 0 ≤ _
    rw [List.getD_eq_getElem?_getD, List.getElem?_set]
    split
    · rename_i e
      subst e
      simp only [Option.getD_some]
      omega
    · rw [List.getD_eq_getElem?_getD]
      exact Int.le_refl _
end Go.Proofs.Ytgglfngkomgadaa
