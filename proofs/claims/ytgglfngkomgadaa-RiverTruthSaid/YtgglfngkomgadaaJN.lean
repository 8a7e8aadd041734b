/- the chapter's examples -/
import Derived.Test.YtgglfngkomgadaaJM
import Derived.Test.YtgglfngkomgadaaJG
import Derived.Test.YtgglfngkomgadaaJI
import Derived.Test.YtgglfngkomgadaaJK
import Derived.Test.YtgglfngkomgadaaJB
/- Walks: awake. -/
namespace Go.Proofs.Ytgglfngkomgadaa
open Go.RowKit Go.Shelf
set_option linter.unusedVariables false
set_option linter.unusedSimpArgs false
set_option maxRecDepth 100000

theorem tid0_c (w : World) : Calls Try.prog 74 #[.int .i64 2, .int .i64 1, .int .i64 0] w (RetRiv tR0 w) := tidal_c 2 1 0 (by omega) w
theorem tid1_c (w : World) : Calls Try.prog 74 #[.int .i64 2, .int .i64 1, .int .i64 1] w (RetRiv tR1 w) := tidal_c 2 1 1 (by omega) w
theorem tid2_c (w : World) : Calls Try.prog 74 #[.int .i64 2, .int .i64 1, .int .i64 2] w (RetRiv tR2 w) := tidal_c 2 1 2 (by omega) w
theorem tidS_c (w : World) : Calls Try.prog 74 #[.int .i64 0, .int .i64 0, .int .i64 0] w (RetRiv tS0 w) := tidal_c 0 0 0 (by omega) w
def RrS (b o : Nat) (W : World) : Prop := W.cell? ⟨b, o + 2, none⟩ = some (.int .i64 3) ∧ W.cell? ⟨b, o + 2 + 1, none⟩ = some (.int .i64 7) ∧ W.cell? ⟨b, o + 6, none⟩ = some (.int .i64 0) ∧ W.cell? ⟨b, o + 6 + 1, none⟩ = some (.int .i64 4)
theorem RrS.below {b o : Nat} {W W' : World} (h : RrS b o W) (hb : Below W.heap.size W W') : RrS b o W' :=
  have hw : Wr (fun _ => False) W W' := Wr.of_below hb
  ⟨hw.cell (fun e => e) h.1, hw.cell (fun e => e) h.2.1, hw.cell (fun e => e) h.2.2.1, hw.cell (fun e => e) h.2.2.2⟩
def Lens (r : Riv) : Prop := r.salt.length ≤ 30 ∧ r.mud.length ≤ 30 ∧ r.use.length ≤ 30 ∧ r.gauges.length ≤ 30
theorem lens0 : Lens tR0 := by unfold Lens; decide
theorem lens1 : Lens tR1 := by unfold Lens; decide
theorem lens2 : Lens tR2 := by unfold Lens; decide
theorem lensS : Lens tS0 := by unfold Lens; decide
theorem al_b (w : World) (o : Obj) : Below w.heap.size w (w.alloc o) := (Below.refl _ _).alloc (Nat.le_refl _) _

set_option maxHeartbeats 12000000 in
theorem awake_c (w0 : World) : Calls Try.prog 24 #[] w0 fun e w' => e = .returned (.bool true) ∧ Below w0.heap.size w0 w' := by
  go_enter Try.func24, Try.ntmps24
  go_wp2_with fail
  refine (tid0_c _).mono ?_
  rintro e w1 ⟨A1, rfl, hr1, hg1, hb1⟩
  have B1 := Lib.hid hb1
  have R1 := Lib.hid hr1
  clear hb1 hr1
  go_wp2_with fail
  have ha1 := al_b w1 (.cells #[.int .i64 1, .int .i64 2] 3)
  have ha2 := al_b ((w1).alloc (.cells #[.int .i64 1, .int .i64 2] 3)) (.cells #[.int .i64 2, .int .i64 3, .int .i64 0, .int .i64 5] 3)
  have ha3 := al_b (((w1).alloc (.cells #[.int .i64 1, .int .i64 2] 3)).alloc (.cells #[.int .i64 2, .int .i64 3, .int .i64 0, .int .i64 5] 3)) (.cells #[.int .i64 0, .int .i64 1, .int .i64 5, .int .i64 0] 3)
  have hp1 : Sl ((((w1).alloc (.cells #[.int .i64 1, .int .i64 2] 3)).alloc (.cells #[.int .i64 2, .int .i64 3, .int .i64 0, .int .i64 5] 3)).alloc (.cells #[.int .i64 0, .int .i64 1, .int .i64 5, .int .i64 0] 3)) (some ⟨w1.heap.size, 0, none⟩) (ints [1, 2]) := ((Sl_new w1 [.int .i64 1, .int .i64 2] 3).below ha2).below ha3
  have hp2 : Sl ((((w1).alloc (.cells #[.int .i64 1, .int .i64 2] 3)).alloc (.cells #[.int .i64 2, .int .i64 3, .int .i64 0, .int .i64 5] 3)).alloc (.cells #[.int .i64 0, .int .i64 1, .int .i64 5, .int .i64 0] 3)) (some ⟨w1.heap.size + 1, 0, none⟩) (ints [2, 3, 0, 5]) := by
    have h9 := (Sl_new ((w1).alloc (.cells #[.int .i64 1, .int .i64 2] 3)) [.int .i64 2, .int .i64 3, .int .i64 0, .int .i64 5] 3).below ha3
    rw [World.size_alloc] at h9
    exact h9
  have hp3 : Sl ((((w1).alloc (.cells #[.int .i64 1, .int .i64 2] 3)).alloc (.cells #[.int .i64 2, .int .i64 3, .int .i64 0, .int .i64 5] 3)).alloc (.cells #[.int .i64 0, .int .i64 1, .int .i64 5, .int .i64 0] 3)) (some ⟨w1.heap.size + 1 + 1, 0, none⟩) (ints [0, 1, 5, 0]) := by
    have h9 := Sl_new (((w1).alloc (.cells #[.int .i64 1, .int .i64 2] 3)).alloc (.cells #[.int .i64 2, .int .i64 3, .int .i64 0, .int .i64 5] 3)) [.int .i64 0, .int .i64 1, .int .i64 5, .int .i64 0] 3
    rw [World.size_alloc, World.size_alloc] at h9
    exact h9
  have hr := (((R1.out).below ha1).below ha2).below ha3
  have hbw := (ha1.trans (ha2.mono (by simp))).trans (ha3.mono (by simp; omega))
  clear ha1 ha2 ha3
  refine (Play_c tR0 A1 (some ⟨w1.heap.size, 0, none⟩) [1, 2] 2 ⟨[2, 3, 0, 5], [0, 1, 5, 0]⟩ ⟨some ⟨w1.heap.size + 1, 0, none⟩, 4, some ⟨w1.heap.size + 1 + 1, 0, none⟩, 4⟩ _ hr ⟨hp2, hp3⟩ lens0.1 lens0.2.1 lens0.2.2.1 lens0.2.2.2 hp1 (by simp)).mono ?_
  rintro e w2 ⟨ap, cp, rfl, hsp, hbp⟩
  rw [v_play] at hsp ⊢
  have SP := Lib.hid hsp
  have hb2 := hbw.trans (hbp.mono hbw.size)
  clear hsp hbp hr hbw hp1 hp2 hp3
  simp only [List.length_cons, List.length_nil, Nat.zero_add, Nat.reduceAdd]
  have B2 := Lib.hid hb2
  clear hb2
  go_wp2_with fail
  refine (tid0_c _).mono ?_
  rintro e w3 ⟨A3, rfl, hr3, hg3, hb3⟩
  have B3 := Lib.hid hb3
  have R3 := Lib.hid hr3
  clear hb3 hr3
  go_wp2_with fail
  have ha1 := al_b w3 (.cells #[.int .i64 0, .int .i64 1] 3)
  have hp1 : Sl ((w3).alloc (.cells #[.int .i64 0, .int .i64 1] 3)) (some ⟨w3.heap.size, 0, none⟩) (ints [0, 1]) := Sl_new w3 [.int .i64 0, .int .i64 1] 3
  have hr := (R3.out).below ha1
  refine (Tank_c tR0 A3 (some ⟨w3.heap.size, 0, none⟩) [0, 1] 2 _ hr lens0.1 lens0.2.1 lens0.2.2.1 lens0.2.2.2 hp1 (by simp)).mono ?_
  rintro e w4 hrt
  unfold RetTk at hrt
  rw [if_pos v_ask0, v_tank] at hrt
  obtain ⟨vr, rfl, hown, hbp⟩ := hrt
  obtain ⟨ar, cr, rfl, hcr, hsr⟩ := own_Sl hown
  have SR := Lib.hid hsr
  have hb4 := ha1.trans (hbp.mono ha1.size)
  clear hown hsr hbp ha1 hp1 hr
  rw [show tR0.use.length = 4 from rfl]
  rw [show tR0.use.length = 4 from rfl] at hcr
  have B4 := Lib.hid hb4
  clear hb4
  go_wp2_with fail
  refine (tid0_c _).mono ?_
  rintro e w5 ⟨A5, rfl, hr5, hg5, hb5⟩
  have B5 := Lib.hid hb5
  have R5 := Lib.hid hr5
  clear hb5 hr5
  go_wp2_with fail
  refine (Good_c tR0 A5 1 _ R5.out lens0.1 lens0.2.1 lens0.2.2.1 lens0.2.2.2).mono ?_
  rintro e w6 ⟨rfl, hb6⟩
  rw [v_good]
  have B6 := Lib.hid hb6
  clear hb6
  go_wp2_with fail
  refine (tid1_c _).mono ?_
  rintro e w7 ⟨A7, rfl, hr7, hg7, hb7⟩
  have B7 := Lib.hid hb7
  have R7 := Lib.hid hr7
  clear hb7 hr7
  go_wp2_with fail
  have ha1 := al_b w7 (.cells #[.int .i64 1] 3)
  have hp1 : Sl ((w7).alloc (.cells #[.int .i64 1] 3)) (some ⟨w7.heap.size, 0, none⟩) (ints [1]) := Sl_new w7 [.int .i64 1] 3
  have hr := (R7.out).below ha1
  refine (Lasts_c tR1 A7 (some ⟨w7.heap.size, 0, none⟩) [1] 1 _ hr lens1.1 lens1.2.1 lens1.2.2.1 lens1.2.2.2 hp1 (by simp)).mono ?_
  rintro e w8 ⟨rfl, hbp⟩
  rw [v_lasts]
  have hb8 := ha1.trans (hbp.mono ha1.size)
  clear hbp ha1 hp1 hr
  have B8 := Lib.hid hb8
  clear hb8
  go_wp2_with fail
  refine (tid0_c _).mono ?_
  rintro e w9 ⟨A9, rfl, hr9, hg9, hb9⟩
  have B9 := Lib.hid hb9
  have R9 := Lib.hid hr9
  clear hb9 hr9
  go_wp2_with fail
  have ha1 := al_b w9 (.cells #[.int .i64 1] 3)
  have hp1 : Sl ((w9).alloc (.cells #[.int .i64 1] 3)) (some ⟨w9.heap.size, 0, none⟩) (ints [1]) := Sl_new w9 [.int .i64 1] 3
  have hr := (R9.out).below ha1
  refine (Dry_c tR0 A9 (some ⟨w9.heap.size, 0, none⟩) [1] 1 _ hr lens0.1 lens0.2.1 lens0.2.2.1 lens0.2.2.2 hp1 (by simp)).mono ?_
  rintro e w10 ⟨rfl, hbp⟩
  rw [v_dry]
  have hb10 := ha1.trans (hbp.mono ha1.size)
  clear hbp ha1 hp1 hr
  have B10 := Lib.hid hb10
  clear hb10
  go_wp2_with fail
  refine (tid0_c _).mono ?_
  rintro e w11 ⟨A11, rfl, hr11, hg11, hb11⟩
  have B11 := Lib.hid hb11
  have R11 := Lib.hid hr11
  clear hb11 hr11
  go_wp2_with fail
  refine (Fewest_c tR0 A11 _ R11.out lens0.1 lens0.2.1 lens0.2.2.1 lens0.2.2.2).mono ?_
  rintro e w12 ⟨aL, cL, rfl, hsL, hb12⟩
  rw [v_few] at hsL ⊢
  have SL := Lib.hid hsL
  clear hsL
  simp only [List.length_cons, List.length_nil, Nat.zero_add]
  have B12 := Lib.hid hb12
  clear hb12
  go_wp2_with fail
  refine (tid0_c _).mono ?_
  rintro e w13 ⟨A13, rfl, hr13, hg13, hb13⟩
  have B13 := Lib.hid hb13
  have R13 := Lib.hid hr13
  clear hb13 hr13
  go_wp2_with fail
  refine (Need_c tR0 A13 _ R13.out lens0.1 lens0.2.1 lens0.2.2.1 lens0.2.2.2).mono ?_
  rintro e w14 ⟨rfl, hb14⟩
  rw [v_need]
  have B14 := Lib.hid hb14
  clear hb14
  go_wp2_with fail
  refine (tidS_c _).mono ?_
  rintro e w15 ⟨A15, rfl, hr15, hg15, hb15⟩
  have B15 := Lib.hid hb15
  have R15 := Lib.hid hr15
  clear hb15 hr15
  go_wp2_with fail
  refine (Storm_c tS0 A15 0 _ R15.out lensS.1 lensS.2.1 lensS.2.2.1 lensS.2.2.2).mono ?_
  rintro e w16 ⟨aT, cT, rfl, hsT, hb16⟩
  rw [v_storm] at hsT ⊢
  have ST := Lib.hid hsT
  clear hsT
  simp only [List.length_cons, List.length_nil, Nat.zero_add]
  have B16 := Lib.hid hb16
  clear hb16
  go_wp2_with fail
  refine (tid2_c _).mono ?_
  rintro e w17 ⟨A17, rfl, hr17, hg17, hb17⟩
  have B17 := Lib.hid hb17
  have R17 := Lib.hid hr17
  clear hb17 hr17
  go_wp2_with fail
  refine (First_c tR2 A17 _ R17.out lens2.1 lens2.2.1 lens2.2.2.1 lens2.2.2.2 hg17).mono ?_
  rintro e w18 ⟨rfl, hb18⟩
  rw [v_first]
  have B18 := Lib.hid hb18
  clear hb18
  go_wp2_with fail
  refine (tid2_c _).mono ?_
  rintro e w19 ⟨A19, rfl, hr19, hg19, hb19⟩
  have B19 := Lib.hid hb19
  have R19 := Lib.hid hr19
  clear hb19 hr19
  go_wp2_with fail
  refine (Leave_c tR2 A19 _ R19.out lens2.1 lens2.2.1 lens2.2.2.1 lens2.2.2.2).mono ?_
  rintro e w20 ⟨aV, cV, rfl, hsV, hb20⟩
  rw [v_leave] at hsV ⊢
  have SV := Lib.hid hsV
  clear hsV
  simp only [List.length_cons, List.length_nil, Nat.zero_add]
  have B20 := Lib.hid hb20
  clear hb20
  go_wp2_with fail
  have T1 := B1
  have T2 := Lib.hid (T1.out.trans (B2.out.mono T1.out.size))
  have T3 := Lib.hid (T2.out.trans (B3.out.mono T2.out.size))
  have T4 := Lib.hid (T3.out.trans (B4.out.mono T3.out.size))
  have T5 := Lib.hid (T4.out.trans (B5.out.mono T4.out.size))
  have T6 := Lib.hid (T5.out.trans (B6.out.mono T5.out.size))
  have T7 := Lib.hid (T6.out.trans (B7.out.mono T6.out.size))
  have T8 := Lib.hid (T7.out.trans (B8.out.mono T7.out.size))
  have T9 := Lib.hid (T8.out.trans (B9.out.mono T8.out.size))
  have T10 := Lib.hid (T9.out.trans (B10.out.mono T9.out.size))
  have T11 := Lib.hid (T10.out.trans (B11.out.mono T10.out.size))
  have T12 := Lib.hid (T11.out.trans (B12.out.mono T11.out.size))
  have T13 := Lib.hid (T12.out.trans (B13.out.mono T12.out.size))
  have T14 := Lib.hid (T13.out.trans (B14.out.mono T13.out.size))
  have T15 := Lib.hid (T14.out.trans (B15.out.mono T14.out.size))
  have T16 := Lib.hid (T15.out.trans (B16.out.mono T15.out.size))
  have T17 := Lib.hid (T16.out.trans (B17.out.mono T16.out.size))
  have T18 := Lib.hid (T17.out.trans (B18.out.mono T17.out.size))
  have T19 := Lib.hid (T18.out.trans (B19.out.mono T18.out.size))
  have T20 := Lib.hid (T19.out.trans (B20.out.mono T19.out.size))
  have SPf := Lib.hid (((((((((((((((((((SP.out).below B3.out).below B4.out).below B5.out).below B6.out).below B7.out).below B8.out).below B9.out).below B10.out).below B11.out).below B12.out).below B13.out).below B14.out).below B15.out).below B16.out).below B17.out).below B18.out).below B19.out).below B20.out)
  have SRf := Lib.hid (((((((((((((((((SR.out).below B5.out).below B6.out).below B7.out).below B8.out).below B9.out).below B10.out).below B11.out).below B12.out).below B13.out).below B14.out).below B15.out).below B16.out).below B17.out).below B18.out).below B19.out).below B20.out)
  have SLf := Lib.hid (((((((((SL.out).below B13.out).below B14.out).below B15.out).below B16.out).below B17.out).below B18.out).below B19.out).below B20.out)
  have STf := Lib.hid (((((ST.out).below B17.out).below B18.out).below B19.out).below B20.out)
  have SVf := Lib.hid (SV.out)
  obtain ⟨br, orr, har, hr1, hr2⟩ := SRf.out.rg_at (k := 1) (x := ⟨3, 7⟩) rfl
  obtain ⟨br', orr', har', hr3, hr4⟩ := SRf.out.rg_at (k := 3) (x := ⟨0, 4⟩) rfl
  rw [har] at har'
  cases har'
  subst har
  have HRR := Lib.hid (show RrS br orr w20 from ⟨by simpa using hr1, by simpa using hr2, by simpa using hr3, by simpa using hr4⟩)
  clear hr1 hr2 hr3 hr4
  clear B1  B2  B3  B4  B5  B6  B7  B8  B9  B10  B11  B12  B13  B14  B15  B16  B17  B18  B19  B20 
  refine region_m (S := RrS br orr) (.take 0 (.take 1 (.take 2 (.take 3 (.one 4 (.one 5 (.take 6 (.take 7 (.take 8 (.take 9 (.take 10 (.take 11 (.take 12 (.take 13 (.take 14 (.take 15 (.take 16 (.take 17 (.take 18 (.take 19 (.one 20 (.take 21 (.take 22 (.take 23 (.take 24 (.take 25 (.take 26 (.one 27 (.take 28 (.take 29 (.take 30 (.take 31 (.take 32 (.take 33 (.take 34 (.take 35 (.take 36 (.take 37 (.take 38 (.take 39 (.take 40 (.take 41 (.take 42 (.take 43 (.take 44 (.take 45 (.take 46 (.take 47 (.take 48 (.take 49 (.take 50 (.take 51 (.take 52 (.take 53 (.take 54 (.take 55 (.take 56 (.take 57 (.take 58 (.take 59 (.one 60 (.one 61 (.take 62 (.take 63 (.take 64 (.take 65 (.take 66 (.take 67 (.take 68 (.take 69 (.take 70 (.take 71 (.take 72 (.take 73 (.take 74 (.take 75 (.take 76 (.one 77 (.one 78 (.take 79 (.take 80 (.take 81 (.take 82 (.take 83 (.take 84 (.take 85 (.take 86 (.take 87 (.take 88 (.take 89 (.take 90 (.take 91 (.take 92 (.take 93 (.one 94 (.one 95 (.take 96 (.take 97 .nil)))))))))))))))))))))))))))))))))))))))))))))))))))))))))))))))))))))))))))))))))))))))))))))))))) (by kernel_rfl) (by kernel_rfl) (fun _ _ d _ _ h => by cases d <;> exact h) (HRR.out.below (Below.refl _ _).drew) ?_
  intro W0 hW0 hS0
  have hBW : Below w20.heap.size w20 W0 := by subst hW0; exact (Below.refl _ _).drew
  clear hW0
  have hBc := hBW
  repeat (first
    | (refine ord_skip rfl ?_ ?_; rfl; simp only [pz])
    | (refine ord_take (v := ?_) rfl ?_ (fun W hW => ?_) ?_; rotate_left; rfl; (obtain ⟨r1, r2, r3, r4⟩ := hW; go_simp; (first | done | with_reducible rfl)); simp only [pz]))
  refine ord_op rfl ?_ (fun K hK => ?_)
  rfl
  go_simp
  obtain ⟨bx, hbx⟩ : ∃ n, n = (W0).heap.size := ⟨_, rfl⟩
  obtain ⟨W1, hW1⟩ : ∃ Q, Q = (W0).alloc (.cells #[.int .i64 0, .int .i64 3, .int .i64 1, .int .i64 0] 3) := ⟨_, rfl⟩
  have hbb : Below (W0).heap.size (W0) W1 := by rw [hW1]; exact (Below.refl _ _).alloc (Nat.le_refl _) _
  have hsl : Sl W1 (some ⟨bx, 0, none⟩) (ints [0, 3, 1, 0]) := by rw [hW1, hbx]; exact Sl_new _ _ _
  replace hBc := hBc.trans (hbb.mono hBc.size)
  have hS1 := RrS.below hS0 hbb
  rw [← hW1, ← hbx]
  clear hW1 hbx hbb
  refine hK _ _ hS1 ?_
  clear hK K
  try simp only [pz]
  refine ord_op rfl ?_ (fun K hK => ?_)
  rfl
  go_simp
  refine (ints_c ap (some ⟨bx, 0, none⟩) [0, 3, 1, 0] [0, 3, 1, 0] cp 4 _ (SPf.out.below hBc) hsl (by simp)).mono ?_
  rintro e W2 ⟨rfl, hb2⟩
  rw [show (([0, 3, 1, 0] : List Int) == [0, 3, 1, 0]) = true from rfl]
  have hS2 := RrS.below hS1 hb2
  replace hBc := hBc.trans (hb2.mono hBc.size)
  clear hsl
  refine hK _ _ hS2 ?_
  clear hK K
  try simp only [pz]
  repeat (first
    | (refine ord_skip rfl ?_ ?_; rfl; simp only [pz])
    | (refine ord_take (v := ?_) rfl ?_ (fun W hW => ?_) ?_; rotate_left; rfl; (obtain ⟨r1, r2, r3, r4⟩ := hW; go_simp; (first | done | with_reducible rfl)); simp only [pz]))
  refine ord_op rfl ?_ (fun K hK => ?_)
  rfl
  go_simp
  refine (between_c _ _ _).mono ?_
  rintro e W3 ⟨rfl, hb3⟩
  have hS3 := RrS.below hS2 hb3
  replace hBc := hBc.trans (hb3.mono hBc.size)
  refine hK _ _ hS3 ?_
  clear hK K
  try simp only [pz]
  repeat (first
    | (refine ord_skip rfl ?_ ?_; rfl; simp only [pz])
    | (refine ord_take (v := ?_) rfl ?_ (fun W hW => ?_) ?_; rotate_left; rfl; (obtain ⟨r1, r2, r3, r4⟩ := hW; go_simp; (first | done | with_reducible rfl)); simp only [pz]))
  refine ord_op rfl ?_ (fun K hK => ?_)
  rfl
  go_simp
  refine (between_c _ _ _).mono ?_
  rintro e W4 ⟨rfl, hb4⟩
  have hS4 := RrS.below hS3 hb4
  replace hBc := hBc.trans (hb4.mono hBc.size)
  refine hK _ _ hS4 ?_
  clear hK K
  try simp only [pz]
  repeat (first
    | (refine ord_skip rfl ?_ ?_; rfl; simp only [pz])
    | (refine ord_take (v := ?_) rfl ?_ (fun W hW => ?_) ?_; rotate_left; rfl; (obtain ⟨r1, r2, r3, r4⟩ := hW; go_simp; (first | done | with_reducible rfl)); simp only [pz]))
  refine ord_op rfl ?_ (fun K hK => ?_)
  rfl
  go_simp
  obtain ⟨bx, hbx⟩ : ∃ n, n = (W4).heap.size := ⟨_, rfl⟩
  obtain ⟨W5, hW5⟩ : ∃ Q, Q = (W4).alloc (.cells #[.int .i64 0] 3) := ⟨_, rfl⟩
  have hbb : Below (W4).heap.size (W4) W5 := by rw [hW5]; exact (Below.refl _ _).alloc (Nat.le_refl _) _
  have hsl : Sl W5 (some ⟨bx, 0, none⟩) (ints [0]) := by rw [hW5, hbx]; exact Sl_new _ _ _
  replace hBc := hBc.trans (hbb.mono hBc.size)
  have hS5 := RrS.below hS4 hbb
  rw [← hW5, ← hbx]
  clear hW5 hbx hbb
  refine hK _ _ hS5 ?_
  clear hK K
  try simp only [pz]
  refine ord_op rfl ?_ (fun K hK => ?_)
  rfl
  go_simp
  refine (ints_c aL (some ⟨bx, 0, none⟩) [0] [0] cL 1 _ (SLf.out.below hBc) hsl (by simp)).mono ?_
  rintro e W6 ⟨rfl, hb6⟩
  rw [show (([0] : List Int) == [0]) = true from rfl]
  have hS6 := RrS.below hS5 hb6
  replace hBc := hBc.trans (hb6.mono hBc.size)
  clear hsl
  refine hK _ _ hS6 ?_
  clear hK K
  try simp only [pz]
  repeat (first
    | (refine ord_skip rfl ?_ ?_; rfl; simp only [pz])
    | (refine ord_take (v := ?_) rfl ?_ (fun W hW => ?_) ?_; rotate_left; rfl; (obtain ⟨r1, r2, r3, r4⟩ := hW; go_simp; (first | done | with_reducible rfl)); simp only [pz]))
  refine ord_op rfl ?_ (fun K hK => ?_)
  rfl
  go_simp
  obtain ⟨bx, hbx⟩ : ∃ n, n = (W6).heap.size := ⟨_, rfl⟩
  obtain ⟨W7, hW7⟩ : ∃ Q, Q = (W6).alloc (.cells #[.int .i64 0] 3) := ⟨_, rfl⟩
  have hbb : Below (W6).heap.size (W6) W7 := by rw [hW7]; exact (Below.refl _ _).alloc (Nat.le_refl _) _
  have hsl : Sl W7 (some ⟨bx, 0, none⟩) (ints [0]) := by rw [hW7, hbx]; exact Sl_new _ _ _
  replace hBc := hBc.trans (hbb.mono hBc.size)
  have hS7 := RrS.below hS6 hbb
  rw [← hW7, ← hbx]
  clear hW7 hbx hbb
  refine hK _ _ hS7 ?_
  clear hK K
  try simp only [pz]
  refine ord_op rfl ?_ (fun K hK => ?_)
  rfl
  go_simp
  refine (ints_c aT (some ⟨bx, 0, none⟩) [0] [0] cT 1 _ (STf.out.below hBc) hsl (by simp)).mono ?_
  rintro e W8 ⟨rfl, hb8⟩
  rw [show (([0] : List Int) == [0]) = true from rfl]
  have hS8 := RrS.below hS7 hb8
  replace hBc := hBc.trans (hb8.mono hBc.size)
  clear hsl
  refine hK _ _ hS8 ?_
  clear hK K
  try simp only [pz]
  repeat (first
    | (refine ord_skip rfl ?_ ?_; rfl; simp only [pz])
    | (refine ord_take (v := ?_) rfl ?_ (fun W hW => ?_) ?_; rotate_left; rfl; (obtain ⟨r1, r2, r3, r4⟩ := hW; go_simp; (first | done | with_reducible rfl)); simp only [pz]))
  refine ord_op rfl ?_ (fun K hK => ?_)
  rfl
  go_simp
  obtain ⟨bx, hbx⟩ : ∃ n, n = (W8).heap.size := ⟨_, rfl⟩
  obtain ⟨W9, hW9⟩ : ∃ Q, Q = (W8).alloc (.cells #[.int .i64 0] 3) := ⟨_, rfl⟩
  have hbb : Below (W8).heap.size (W8) W9 := by rw [hW9]; exact (Below.refl _ _).alloc (Nat.le_refl _) _
  have hsl : Sl W9 (some ⟨bx, 0, none⟩) (ints [0]) := by rw [hW9, hbx]; exact Sl_new _ _ _
  replace hBc := hBc.trans (hbb.mono hBc.size)
  have hS9 := RrS.below hS8 hbb
  rw [← hW9, ← hbx]
  clear hW9 hbx hbb
  refine hK _ _ hS9 ?_
  clear hK K
  try simp only [pz]
  refine ord_op rfl ?_ (fun K hK => ?_)
  rfl
  go_simp
  refine (ints_c aV (some ⟨bx, 0, none⟩) [0] [0] cV 1 _ (SVf.out.below hBc) hsl (by simp)).mono ?_
  rintro e W10 ⟨rfl, hb10⟩
  rw [show (([0] : List Int) == [0]) = true from rfl]
  have hS10 := RrS.below hS9 hb10
  replace hBc := hBc.trans (hb10.mono hBc.size)
  clear hsl
  refine hK _ _ hS10 ?_
  clear hK K
  try simp only [pz]
  repeat (first
    | (refine ord_skip rfl ?_ ?_; rfl; simp only [pz])
    | (refine ord_take (v := ?_) rfl ?_ (fun W hW => ?_) ?_; rotate_left; rfl; (obtain ⟨r1, r2, r3, r4⟩ := hW; go_simp; (first | done | with_reducible rfl)); simp only [pz]))
  refine ord_nil ?_
  go_wp2_with fail
  go_ret
  exact ⟨rfl, T20.out.trans (hBc.mono T20.out.size)⟩
end Go.Proofs.Ytgglfngkomgadaa
