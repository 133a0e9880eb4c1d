-- Laid by this session's wip/hp/hp.py: the kit's print with own contracts for what it does not take
import Derived.Test.YtpoapiphnhmdmaaDoorPAx0
import Derived.Test.YtpoapiphnhmdmaaDoorPAx1
import Derived.Test.YtpoapiphnhmdmaaDoorPAx2
import Derived.Test.YtpoapiphnhmdmaaDoorPAx3
import Derived.Test.YtpoapiphnhmdmaaDoorPAx4
import Derived.Test.YtpoapiphnhmdmaaDoorPAx6
namespace Go.Proofs.YtpoapiphnhmdmaaDoor.PA
open Go.RowKit Go.Proofs.YtpoapiphnhmdmaaDoorW.PrintWords Go.Proofs.YtpoapiphnhmdmaaDoorW.PrintLast Go.Proofs.YtpoapiphnhmdmaaDoorW.PrintMore
attribute [local go_sem] max2_int min2_int max_two min_two max_three min_three max_four min_four   -- for this text's walks alone
set_option linter.unusedVariables false
set_option linter.unusedSimpArgs false

/-! ### scarflaw03_NumFits: function 6 -/
def scarflaw03_NumFits.j0 : Nat → Int → Int → Int → Int → Int → Int → Int → Bool → Option (Bool)
  | 0, _, _, _, _, _, _, _, _ => none
  | k + 1, x0, x1, x2, x8, x10, x12, x13, x77 => if x77 = true then (some false) else (if x8 = 127 then ((num_U32.f x1).bind fun t292 => ((num_Un.f k x0 t292).bind fun bt293 => ((num_S32.f x1).bind fun t295 => ((num_U32.f x2).bind fun t296 => ((num_Bin.f k x0 t295 t296).bind fun bt297 => (if bt293.1 = x10 then (if bt297.1 = x12 then (if x13 = bt297.2.1 then ((scarflaw03_awake.f k).bind fun t300 => (some t300)) else (some false)) else (some false)) else (some false))))))) else ((scarflaw03_awake.f k).bind fun t291 => (some t291)))
def scarflaw03_NumFits.f (k : Nat) (a0 : Int) (a1 : Int) (a2 : Int) : Option (Bool) := (num_Sig.f k a0).bind fun bt283 => ((num_Un.f k a0 a1).bind fun bt286 => ((num_Bin.f k a0 a1 a2).bind fun bt288 => (if (bt286.2 != (bt283.1 == 1)) = true then (scarflaw03_NumFits.j0 k a0 a1 a2 bt283.2.1 bt286.1 bt288.1 bt288.2.1 true) else (if (bt288.2.2 != (bt283.1 == 2)) = true then (scarflaw03_NumFits.j0 k a0 a1 a2 bt283.2.1 bt286.1 bt288.1 bt288.2.1 true) else (if bt283.2.2 = 127 then (if bt286.1 < 0 then (scarflaw03_NumFits.j0 k a0 a1 a2 bt283.2.1 bt286.1 bt288.1 bt288.2.1 true) else (if bt286.1 ≥ 4294967296 then (scarflaw03_NumFits.j0 k a0 a1 a2 bt283.2.1 bt286.1 bt288.1 bt288.2.1 true) else (if bt288.1 < 0 then (scarflaw03_NumFits.j0 k a0 a1 a2 bt283.2.1 bt286.1 bt288.1 bt288.2.1 true) else (if bt288.1 ≥ 4294967296 then (scarflaw03_NumFits.j0 k a0 a1 a2 bt283.2.1 bt286.1 bt288.1 bt288.2.1 true) else (if bt288.2.1 = 0 then (scarflaw03_NumFits.j0 k a0 a1 a2 bt283.2.1 bt286.1 bt288.1 bt288.2.1 false) else (scarflaw03_NumFits.j0 k a0 a1 a2 bt283.2.1 bt286.1 bt288.1 bt288.2.1 (bt288.1 != 0))))))) else (if bt288.2.1 = 0 then (scarflaw03_NumFits.j0 k a0 a1 a2 bt283.2.1 bt286.1 bt288.1 bt288.2.1 false) else (scarflaw03_NumFits.j0 k a0 a1 a2 bt283.2.1 bt286.1 bt288.1 bt288.2.1 (bt288.1 != 0))))))))
theorem scarflaw03_NumFits.mono_l : ∀ k, (∀ y0 y1 y2 y3 y4 y5 y6 y7, LeO (scarflaw03_NumFits.j0 k y0 y1 y2 y3 y4 y5 y6 y7) (scarflaw03_NumFits.j0 (k + 1) y0 y1 y2 y3 y4 y5 y6 y7))
  | 0 => fun _ _ _ _ _ _ _ _ r h => by simp [scarflaw03_NumFits.j0] at h
  | k + 1 => by
    have ih0 := scarflaw03_NumFits.mono_l k
    · intro y0 y1 y2 y3 y4 y5 y6 y7
      unfold scarflaw03_NumFits.j0
      repeat' first
      | (with_reducible exact ih0 _ _ _ _ _ _ _ _)
      | (with_reducible exact num_Bin.mono _ _ _ _)
      | (with_reducible exact num_Sig.mono _ _)
      | (with_reducible exact num_Un.mono _ _ _)
      | (with_reducible exact scarflaw03_awake.mono _)
      | (with_reducible exact LeO.refl _)
      | (with_reducible exact LeO.none _)
      | (with_reducible refine LeO.ite ?_ ?_)
      | (with_reducible refine LeO.bind ?_ (fun _ => ?_))
      | exact ih0 _ _ _ _ _ _ _ _
      | exact num_Bin.mono _ _ _ _
      | exact num_Sig.mono _ _
      | exact num_Un.mono _ _ _
      | exact scarflaw03_awake.mono _
      | exact LeO.none _
      | refine LeO.ite ?_ ?_
      | refine LeO.bind ?_ (fun _ => ?_)
theorem scarflaw03_NumFits.mono : ∀ a0 a1 a2 k, LeO (scarflaw03_NumFits.f k a0 a1 a2) (scarflaw03_NumFits.f (k + 1) a0 a1 a2) := by
  intro a0 a1 a2 k
  have ih0 := scarflaw03_NumFits.mono_l k
  unfold scarflaw03_NumFits.f
  repeat' first
      | (with_reducible exact ih0 _ _ _ _ _ _ _ _)
      | (with_reducible exact num_Bin.mono _ _ _ _)
      | (with_reducible exact num_Sig.mono _ _)
      | (with_reducible exact num_Un.mono _ _ _)
      | (with_reducible exact scarflaw03_awake.mono _)
      | (with_reducible exact LeO.refl _)
      | (with_reducible exact LeO.none _)
      | (with_reducible refine LeO.ite ?_ ?_)
      | (with_reducible refine LeO.bind ?_ (fun _ => ?_))
      | exact ih0 _ _ _ _ _ _ _ _
      | exact num_Bin.mono _ _ _ _
      | exact num_Sig.mono _ _
      | exact num_Un.mono _ _ _
      | exact scarflaw03_awake.mono _
      | exact LeO.none _
      | refine LeO.ite ?_ ?_
      | refine LeO.bind ?_ (fun _ => ?_)
set_option maxHeartbeats 8000000 in
set_option maxRecDepth 100000 in
theorem scarflaw03_NumFits.calls (k : Nat) (a0 : Int) (a1 : Int) (a2 : Int) (r : Bool) (w : World) (hT : Tabs w) (h : scarflaw03_NumFits.f k a0 a1 a2 = some r) :
    Calls Tryd.prog 6 #[.int .i64 a0, .int .i64 a1, .int .i64 a2] w fun e w' => e = .returned (.bool r) ∧ Drawn0 w w' := by
  have HT := Aside0.mk hT
  clear hT
  have H : ((num_Sig.f k a0).bind fun bt283 => ((num_Un.f k a0 a1).bind fun bt286 => ((num_Bin.f k a0 a1 a2).bind fun bt288 => (if (bt286.2 != (bt283.1 == 1)) = true then (scarflaw03_NumFits.j0 k a0 a1 a2 bt283.2.1 bt286.1 bt288.1 bt288.2.1 true) else (if (bt288.2.2 != (bt283.1 == 2)) = true then (scarflaw03_NumFits.j0 k a0 a1 a2 bt283.2.1 bt286.1 bt288.1 bt288.2.1 true) else (if bt283.2.2 = 127 then (if bt286.1 < 0 then (scarflaw03_NumFits.j0 k a0 a1 a2 bt283.2.1 bt286.1 bt288.1 bt288.2.1 true) else (if bt286.1 ≥ 4294967296 then (scarflaw03_NumFits.j0 k a0 a1 a2 bt283.2.1 bt286.1 bt288.1 bt288.2.1 true) else (if bt288.1 < 0 then (scarflaw03_NumFits.j0 k a0 a1 a2 bt283.2.1 bt286.1 bt288.1 bt288.2.1 true) else (if bt288.1 ≥ 4294967296 then (scarflaw03_NumFits.j0 k a0 a1 a2 bt283.2.1 bt286.1 bt288.1 bt288.2.1 true) else (if bt288.2.1 = 0 then (scarflaw03_NumFits.j0 k a0 a1 a2 bt283.2.1 bt286.1 bt288.1 bt288.2.1 false) else (scarflaw03_NumFits.j0 k a0 a1 a2 bt283.2.1 bt286.1 bt288.1 bt288.2.1 (bt288.1 != 0))))))) else (if bt288.2.1 = 0 then (scarflaw03_NumFits.j0 k a0 a1 a2 bt283.2.1 bt286.1 bt288.1 bt288.2.1 false) else (scarflaw03_NumFits.j0 k a0 a1 a2 bt283.2.1 bt286.1 bt288.1 bt288.2.1 (bt288.1 != 0))))))))) = some r := h
  clear h
  replace H := Option.bind_eq_some_iff.mp H
  obtain ⟨⟨t283, t284, t285⟩, A40, H⟩ := H
  replace H : ((num_Un.f k a0 a1).bind fun bt286 => ((num_Bin.f k a0 a1 a2).bind fun bt288 => (if (bt286.2 != (t283 == 1)) = true then (scarflaw03_NumFits.j0 k a0 a1 a2 t284 bt286.1 bt288.1 bt288.2.1 true) else (if (bt288.2.2 != (t283 == 2)) = true then (scarflaw03_NumFits.j0 k a0 a1 a2 t284 bt286.1 bt288.1 bt288.2.1 true) else (if t285 = 127 then (if bt286.1 < 0 then (scarflaw03_NumFits.j0 k a0 a1 a2 t284 bt286.1 bt288.1 bt288.2.1 true) else (if bt286.1 ≥ 4294967296 then (scarflaw03_NumFits.j0 k a0 a1 a2 t284 bt286.1 bt288.1 bt288.2.1 true) else (if bt288.1 < 0 then (scarflaw03_NumFits.j0 k a0 a1 a2 t284 bt286.1 bt288.1 bt288.2.1 true) else (if bt288.1 ≥ 4294967296 then (scarflaw03_NumFits.j0 k a0 a1 a2 t284 bt286.1 bt288.1 bt288.2.1 true) else (if bt288.2.1 = 0 then (scarflaw03_NumFits.j0 k a0 a1 a2 t284 bt286.1 bt288.1 bt288.2.1 false) else (scarflaw03_NumFits.j0 k a0 a1 a2 t284 bt286.1 bt288.1 bt288.2.1 (bt288.1 != 0))))))) else (if bt288.2.1 = 0 then (scarflaw03_NumFits.j0 k a0 a1 a2 t284 bt286.1 bt288.1 bt288.2.1 false) else (scarflaw03_NumFits.j0 k a0 a1 a2 t284 bt286.1 bt288.1 bt288.2.1 (bt288.1 != 0)))))))) = some r := H
  have A4 := Aside0.mk A40
  clear A40
  replace H := Option.bind_eq_some_iff.mp H
  obtain ⟨⟨t286, t287⟩, A50, H⟩ := H
  replace H : ((num_Bin.f k a0 a1 a2).bind fun bt288 => (if (t287 != (t283 == 1)) = true then (scarflaw03_NumFits.j0 k a0 a1 a2 t284 t286 bt288.1 bt288.2.1 true) else (if (bt288.2.2 != (t283 == 2)) = true then (scarflaw03_NumFits.j0 k a0 a1 a2 t284 t286 bt288.1 bt288.2.1 true) else (if t285 = 127 then (if t286 < 0 then (scarflaw03_NumFits.j0 k a0 a1 a2 t284 t286 bt288.1 bt288.2.1 true) else (if t286 ≥ 4294967296 then (scarflaw03_NumFits.j0 k a0 a1 a2 t284 t286 bt288.1 bt288.2.1 true) else (if bt288.1 < 0 then (scarflaw03_NumFits.j0 k a0 a1 a2 t284 t286 bt288.1 bt288.2.1 true) else (if bt288.1 ≥ 4294967296 then (scarflaw03_NumFits.j0 k a0 a1 a2 t284 t286 bt288.1 bt288.2.1 true) else (if bt288.2.1 = 0 then (scarflaw03_NumFits.j0 k a0 a1 a2 t284 t286 bt288.1 bt288.2.1 false) else (scarflaw03_NumFits.j0 k a0 a1 a2 t284 t286 bt288.1 bt288.2.1 (bt288.1 != 0))))))) else (if bt288.2.1 = 0 then (scarflaw03_NumFits.j0 k a0 a1 a2 t284 t286 bt288.1 bt288.2.1 false) else (scarflaw03_NumFits.j0 k a0 a1 a2 t284 t286 bt288.1 bt288.2.1 (bt288.1 != 0))))))) = some r := H
  have A5 := Aside0.mk A50
  clear A50
  replace H := Option.bind_eq_some_iff.mp H
  obtain ⟨⟨t288, t289, t290⟩, A60, H⟩ := H
  replace H : (if (t287 != (t283 == 1)) = true then (scarflaw03_NumFits.j0 k a0 a1 a2 t284 t286 t288 t289 true) else (if (t290 != (t283 == 2)) = true then (scarflaw03_NumFits.j0 k a0 a1 a2 t284 t286 t288 t289 true) else (if t285 = 127 then (if t286 < 0 then (scarflaw03_NumFits.j0 k a0 a1 a2 t284 t286 t288 t289 true) else (if t286 ≥ 4294967296 then (scarflaw03_NumFits.j0 k a0 a1 a2 t284 t286 t288 t289 true) else (if t288 < 0 then (scarflaw03_NumFits.j0 k a0 a1 a2 t284 t286 t288 t289 true) else (if t288 ≥ 4294967296 then (scarflaw03_NumFits.j0 k a0 a1 a2 t284 t286 t288 t289 true) else (if t289 = 0 then (scarflaw03_NumFits.j0 k a0 a1 a2 t284 t286 t288 t289 false) else (scarflaw03_NumFits.j0 k a0 a1 a2 t284 t286 t288 t289 (t288 != 0))))))) else (if t289 = 0 then (scarflaw03_NumFits.j0 k a0 a1 a2 t284 t286 t288 t289 false) else (scarflaw03_NumFits.j0 k a0 a1 a2 t284 t286 t288 t289 (t288 != 0)))))) = some r := H
  have A6 := Aside0.mk A60
  clear A60
  have HC7 := Aside0.mk H
  clear H
  go_enter Tryd.func6, Tryd.ntmps6
  go_upto_region 4 with (first | ((with_reducible refine gate_callee (f := 9) rfl ?_); refine goesL_ (some 22) rfl rfl Tryd.func9 (by kernel_rfl) rfl #[.int .i64 a0] rfl (by (try simp only [List.map_toArray, List.map_cons, List.map_nil]); first | done | rfl | (simp only [List.length_drop, List.length_take]; rfl)) ?_; (with_reducible refine (num_Sig.calls k a0 t283 t284 t285 _ A4.out).mono ?_); rintro e w' ⟨rfl, ⟨nd, rfl⟩⟩; refine ⟨_, rfl, ?_⟩) | ((with_reducible refine gate_callee (f := 16) rfl ?_); refine goesL_ (some 29) rfl rfl Tryd.func16 (by kernel_rfl) rfl #[.int .i64 a0, .int .i64 a1] rfl (by (try simp only [List.map_toArray, List.map_cons, List.map_nil]); first | done | rfl | (simp only [List.length_drop, List.length_take]; rfl)) ?_; (with_reducible refine (num_Un.calls k a0 a1 t286 t287 _ (by first | exact HT.out | exact Tabs.below HB.out HT.out | (repeat (first | exact HT.out | exact Tabs.below HB.out HT.out | apply Tabs.drewN | apply Tabs.drew | apply Tabs.alloc))) A5.out).mono ?_); rintro e w' ⟨rfl, ⟨nd, rfl⟩⟩; refine ⟨_, rfl, ?_⟩) | ((with_reducible refine gate_callee (f := 18) rfl ?_); refine goesL_ (some 36) rfl rfl Tryd.func18 (by kernel_rfl) rfl #[.int .i64 a0, .int .i64 a1, .int .i64 a2] rfl (by (try simp only [List.map_toArray, List.map_cons, List.map_nil]); first | done | rfl | (simp only [List.length_drop, List.length_take]; rfl)) ?_; (with_reducible refine (num_Bin.calls k a0 a1 a2 t288 t289 t290 _ A6.out).mono ?_); rintro e w' ⟨rfl, ⟨nd, rfl⟩⟩; refine ⟨_, rfl, ?_⟩))
  (try simp only [Act.put, List.setIfInBounds_toArray, List.set_cons_zero, List.set_cons_succ])
  go_cut [77] (fun v77 wc => ∃ (kq : Nat) (x77_6 : Bool), v77 = .bool x77_6 ∧ Aside0 (scarflaw03_NumFits.j0 kq a0 a1 a2 t284 t286 t288 t289 x77_6 = some r) ∧ Aside0 (kq ≤ k) ∧ Drawn0 w wc)
  case first =>
    have H := HC7.out
    clear HC7
    by_cases c8 : (t287 != (t283 == 1)) = true
    · rw [if_pos c8] at H
      have c8b0 : (t287 != (t283 == 1)) = true := c8
      (try (have c8b1 : decide (t287 = (t283 == 1)) = false := by simpa using c8))
      (try (have c8b2 : (t287 == (t283 == 1)) = false := by simpa using c8))
      (try (have c8b3 : ¬ (t287 = (t283 == 1)) := by simpa using c8))
      clear c8
      (first | rw [c8b0] | (simp only [i64_w, i32_w]; rw [c8b0]) | skip)
      have H' := Aside0.mk H
      clear H
      go_wp2
      go_meet
      case rel => exact ⟨_, (true), (by first | rfl | (simp; done) | (simp [*]; done)), H', ⟨by first | omega | exact Nat.le_refl _⟩, by repeat (first | exact Drawn0.refl _ | apply Drawn0.step)⟩
    · rw [if_neg c8] at H
      have c8b0 : (t287 != (t283 == 1)) = false := by simpa using c8
      (try (have c8b1 : decide (t287 = (t283 == 1)) = true := by simpa using c8))
      (try (have c8b2 : (t287 == (t283 == 1)) = true := by simpa using c8))
      clear c8
      (first | rw [c8b0] | (simp only [i64_w, i32_w]; rw [c8b0]) | skip)
      by_cases c9 : (t290 != (t283 == 2)) = true
      · rw [if_pos c9] at H
        have c9b0 : (t290 != (t283 == 2)) = true := c9
        (try (have c9b1 : decide (t290 = (t283 == 2)) = false := by simpa using c9))
        (try (have c9b2 : (t290 == (t283 == 2)) = false := by simpa using c9))
        (try (have c9b3 : ¬ (t290 = (t283 == 2)) := by simpa using c9))
        clear c9
        have H' := Aside0.mk H
        clear H
        go_wp2
        go_meet
        case rel => exact ⟨_, (true), (by first | rfl | (simp; done) | (simp [*]; done)), H', ⟨by first | omega | exact Nat.le_refl _⟩, by repeat (first | exact Drawn0.refl _ | apply Drawn0.step)⟩
      · rw [if_neg c9] at H
        have c9b0 : (t290 != (t283 == 2)) = false := by simpa using c9
        (try (have c9b1 : decide (t290 = (t283 == 2)) = true := by simpa using c9))
        (try (have c9b2 : (t290 == (t283 == 2)) = true := by simpa using c9))
        clear c9
        by_cases c10 : t285 = 127
        · rw [if_pos c10] at H
          have c10b0 : (t285 == 127) = true := beq_iff_eq.mpr c10
          have c10b1 : (t285 != 127) = false := bne_eq_false_iff_eq.mpr c10
          clear c10
          by_cases c11 : t286 < 0
          · rw [if_pos c11] at H
            have c11b0 : decide (t286 < 0) = true := decide_eq_true c11
            clear c11
            have H' := Aside0.mk H
            clear H
            go_wp2
            go_meet
            case rel => exact ⟨_, (true), (by first | rfl | (simp; done) | (simp [*]; done)), H', ⟨by first | omega | exact Nat.le_refl _⟩, by repeat (first | exact Drawn0.refl _ | apply Drawn0.step)⟩
          · rw [if_neg c11] at H
            have c11b0 : decide (t286 < 0) = false := decide_eq_false c11
            clear c11
            by_cases c12 : t286 ≥ 4294967296
            · rw [if_pos c12] at H
              have c12b0 : decide (4294967296 ≤ t286) = true := decide_eq_true c12
              clear c12
              have H' := Aside0.mk H
              clear H
              go_wp2
              go_meet
              case rel => exact ⟨_, (true), (by first | rfl | (simp; done) | (simp [*]; done)), H', ⟨by first | omega | exact Nat.le_refl _⟩, by repeat (first | exact Drawn0.refl _ | apply Drawn0.step)⟩
            · rw [if_neg c12] at H
              have c12b0 : decide (4294967296 ≤ t286) = false := decide_eq_false c12
              clear c12
              by_cases c13 : t288 < 0
              · rw [if_pos c13] at H
                have c13b0 : decide (t288 < 0) = true := decide_eq_true c13
                clear c13
                have H' := Aside0.mk H
                clear H
                go_wp2
                go_meet
                case rel => exact ⟨_, (true), (by first | rfl | (simp; done) | (simp [*]; done)), H', ⟨by first | omega | exact Nat.le_refl _⟩, by repeat (first | exact Drawn0.refl _ | apply Drawn0.step)⟩
              · rw [if_neg c13] at H
                have c13b0 : decide (t288 < 0) = false := decide_eq_false c13
                clear c13
                by_cases c14 : t288 ≥ 4294967296
                · rw [if_pos c14] at H
                  have c14b0 : decide (4294967296 ≤ t288) = true := decide_eq_true c14
                  clear c14
                  have H' := Aside0.mk H
                  clear H
                  go_wp2
                  go_meet
                  case rel => exact ⟨_, (true), (by first | rfl | (simp; done) | (simp [*]; done)), H', ⟨by first | omega | exact Nat.le_refl _⟩, by repeat (first | exact Drawn0.refl _ | apply Drawn0.step)⟩
                · rw [if_neg c14] at H
                  have c14b0 : decide (4294967296 ≤ t288) = false := decide_eq_false c14
                  clear c14
                  by_cases c15 : t289 = 0
                  · rw [if_pos c15] at H
                    have c15b0 : (t289 == 0) = true := beq_iff_eq.mpr c15
                    have c15b1 : (t289 != 0) = false := bne_eq_false_iff_eq.mpr c15
                    clear c15
                    have H' := Aside0.mk H
                    clear H
                    go_wp2
                    go_meet
                    case rel => exact ⟨_, (false), (by first | rfl | (simp; done) | (simp [*]; done)), H', ⟨by first | omega | exact Nat.le_refl _⟩, by repeat (first | exact Drawn0.refl _ | apply Drawn0.step)⟩
                  · rw [if_neg c15] at H
                    have c15b0 : (t289 == 0) = false := beq_eq_false_iff_ne.mpr c15
                    have c15b1 : (t289 != 0) = true := bne_iff_ne.mpr c15
                    have H' := Aside0.mk H
                    clear H
                    go_wp2
                    go_meet
                    case rel => exact ⟨_, ((t288 != 0)), (by first | rfl | (simp; done) | (simp [*]; done)), H', ⟨by first | omega | exact Nat.le_refl _⟩, by repeat (first | exact Drawn0.refl _ | apply Drawn0.step)⟩
        · rw [if_neg c10] at H
          have c10b0 : (t285 == 127) = false := beq_eq_false_iff_ne.mpr c10
          have c10b1 : (t285 != 127) = true := bne_iff_ne.mpr c10
          by_cases c16 : t289 = 0
          · rw [if_pos c16] at H
            have c16b0 : (t289 == 0) = true := beq_iff_eq.mpr c16
            have c16b1 : (t289 != 0) = false := bne_eq_false_iff_eq.mpr c16
            clear c16
            have H' := Aside0.mk H
            clear H
            go_wp2
            go_meet
            case rel => exact ⟨_, (false), (by first | rfl | (simp; done) | (simp [*]; done)), H', ⟨by first | omega | exact Nat.le_refl _⟩, by repeat (first | exact Drawn0.refl _ | apply Drawn0.step)⟩
          · rw [if_neg c16] at H
            have c16b0 : (t289 == 0) = false := beq_eq_false_iff_ne.mpr c16
            have c16b1 : (t289 != 0) = true := bne_iff_ne.mpr c16
            have H' := Aside0.mk H
            clear H
            go_wp2
            go_meet
            case rel => exact ⟨_, ((t288 != 0)), (by first | rfl | (simp; done) | (simp [*]; done)), H', ⟨by first | omega | exact Nat.le_refl _⟩, by repeat (first | exact Drawn0.refl _ | apply Drawn0.step)⟩
  case rest =>
    clear HC7
    try clear c1
    try clear p2
    try clear c6
    try clear c8
    try clear c8b0
    try clear c8b1
    try clear c8b2
    try clear c9
    try clear c9b0
    try clear c9b1
    try clear c9b2
    try clear c10
    try clear c10b0
    try clear c10b1
    try clear c11
    try clear c11b0
    try clear c12
    try clear c12b0
    try clear c13
    try clear c13b0
    try clear c14
    try clear c14b0
    try clear c15
    try clear c15b0
    try clear c15b1
    try clear c16
    try clear c16b0
    try clear c16b1
    obtain ⟨kq, x77_6, rfl, HA, HJ6, ⟨mc6, rfl⟩⟩ := hcut
    cases kq with
    | zero => exact absurd HA.out (by simp [scarflaw03_NumFits.j0])
    | succ kj6 =>
      have H := HA.out
      clear HA
      simp only [scarflaw03_NumFits.j0] at H
      by_cases c17 : x77_6 = true
      · subst c17
        have H1 : (some false) = some r := by rw [if_pos rfl] at H; exact H
        clear H
        have H := H1
        clear H1
        obtain rfl := Option.some.inj H
        go_wp2
        go_ret
        exact ⟨by first | rfl | (simp; done) | (simp [*]; done), by repeat (first | exact Drawn0.refl _ | apply Drawn0.step)⟩
      · replace c17 := Bool.eq_false_iff.mpr c17
        subst c17
        have H1 : (if t284 = 127 then ((num_U32.f a1).bind fun t292 => ((num_Un.f kj6 a0 t292).bind fun bt293 => ((num_S32.f a1).bind fun t295 => ((num_U32.f a2).bind fun t296 => ((num_Bin.f kj6 a0 t295 t296).bind fun bt297 => (if bt293.1 = t286 then (if bt297.1 = t288 then (if t289 = bt297.2.1 then ((scarflaw03_awake.f kj6).bind fun t300 => (some t300)) else (some false)) else (some false)) else (some false))))))) else ((scarflaw03_awake.f kj6).bind fun t291 => (some t291))) = some r := by rw [if_neg (show ¬ (false = true) by decide)] at H; exact H
        clear H
        have H := H1
        clear H1
        by_cases c18 : t284 = 127
        · rw [if_pos c18] at H
          have c18b0 : (t284 == 127) = true := beq_iff_eq.mpr c18
          have c18b1 : (t284 != 127) = false := bne_eq_false_iff_eq.mpr c18
          clear c18
          replace H := Option.bind_eq_some_iff.mp H
          obtain ⟨t292, A190, H⟩ := H
          replace H : ((num_Un.f kj6 a0 t292).bind fun bt293 => ((num_S32.f a1).bind fun t295 => ((num_U32.f a2).bind fun t296 => ((num_Bin.f kj6 a0 t295 t296).bind fun bt297 => (if bt293.1 = t286 then (if bt297.1 = t288 then (if t289 = bt297.2.1 then ((scarflaw03_awake.f kj6).bind fun t300 => (some t300)) else (some false)) else (some false)) else (some false)))))) = some r := H
          have A19 := Aside0.mk A190
          clear A190
          replace H := Option.bind_eq_some_iff.mp H
          obtain ⟨⟨t293, t294⟩, A200, H⟩ := H
          replace H : ((num_S32.f a1).bind fun t295 => ((num_U32.f a2).bind fun t296 => ((num_Bin.f kj6 a0 t295 t296).bind fun bt297 => (if t293 = t286 then (if bt297.1 = t288 then (if t289 = bt297.2.1 then ((scarflaw03_awake.f kj6).bind fun t300 => (some t300)) else (some false)) else (some false)) else (some false))))) = some r := H
          have A20 := Aside0.mk A200
          clear A200
          replace H := Option.bind_eq_some_iff.mp H
          obtain ⟨t295, A210, H⟩ := H
          replace H : ((num_U32.f a2).bind fun t296 => ((num_Bin.f kj6 a0 t295 t296).bind fun bt297 => (if t293 = t286 then (if bt297.1 = t288 then (if t289 = bt297.2.1 then ((scarflaw03_awake.f kj6).bind fun t300 => (some t300)) else (some false)) else (some false)) else (some false)))) = some r := H
          have A21 := Aside0.mk A210
          clear A210
          replace H := Option.bind_eq_some_iff.mp H
          obtain ⟨t296, A220, H⟩ := H
          replace H : ((num_Bin.f kj6 a0 t295 t296).bind fun bt297 => (if t293 = t286 then (if bt297.1 = t288 then (if t289 = bt297.2.1 then ((scarflaw03_awake.f kj6).bind fun t300 => (some t300)) else (some false)) else (some false)) else (some false))) = some r := H
          have A22 := Aside0.mk A220
          clear A220
          replace H := Option.bind_eq_some_iff.mp H
          obtain ⟨⟨t297, t298, t299⟩, A230, H⟩ := H
          replace H : (if t293 = t286 then (if t297 = t288 then (if t289 = t298 then ((scarflaw03_awake.f kj6).bind fun t300 => (some t300)) else (some false)) else (some false)) else (some false)) = some r := H
          have A23 := Aside0.mk A230
          clear A230
          by_cases c24 : t293 = t286
          · rw [if_pos c24] at H
            have c24b0 : (t293 == t286) = true := beq_iff_eq.mpr c24
            have c24b1 : (t293 != t286) = false := bne_eq_false_iff_eq.mpr c24
            clear c24
            by_cases c25 : t297 = t288
            · rw [if_pos c25] at H
              have c25b0 : (t297 == t288) = true := beq_iff_eq.mpr c25
              have c25b1 : (t297 != t288) = false := bne_eq_false_iff_eq.mpr c25
              clear c25
              by_cases c26 : t289 = t298
              · rw [if_pos c26] at H
                have c26b0 : (t289 == t298) = true := beq_iff_eq.mpr c26
                have c26b1 : (t289 != t298) = false := bne_eq_false_iff_eq.mpr c26
                clear c26
                replace H := Option.bind_eq_some_iff.mp H
                obtain ⟨t300, A270, H⟩ := H
                replace H : (some t300) = some r := H
                have A27 := Aside0.mk A270
                clear A270
                obtain rfl := Option.some.inj H
                go_wp2_with (first | ((with_reducible refine gate_callee (f := 11) rfl ?_); refine goesL_ (some 84) rfl rfl Tryd.func11 (by kernel_rfl) rfl #[.int .i64 a1] rfl (by (try simp only [List.map_toArray, List.map_cons, List.map_nil]); first | done | rfl | (simp only [List.length_drop, List.length_take]; rfl)) ?_; (with_reducible refine (num_U32.calls a1 t292 _ A19.out).mono ?_); rintro e w' ⟨rfl, ⟨nd, rfl⟩⟩; refine ⟨_, rfl, ?_⟩) | ((with_reducible refine gate_callee (f := 16) rfl ?_); refine goesL_ (some 85) rfl rfl Tryd.func16 (by kernel_rfl) rfl #[.int .i64 a0, .int .i64 t292] rfl (by (try simp only [List.map_toArray, List.map_cons, List.map_nil]); first | done | rfl | (simp only [List.length_drop, List.length_take]; rfl)) ?_; (with_reducible refine (num_Un.calls kj6 a0 t292 t293 t294 _ (by first | exact HT.out | exact Tabs.below HB.out HT.out | (repeat (first | exact HT.out | exact Tabs.below HB.out HT.out | apply Tabs.drewN | apply Tabs.drew | apply Tabs.alloc))) A20.out).mono ?_); rintro e w' ⟨rfl, ⟨nd, rfl⟩⟩; refine ⟨_, rfl, ?_⟩) | ((with_reducible refine gate_callee (f := 13) rfl ?_); refine goesL_ (some 91) rfl rfl Tryd.func13 (by kernel_rfl) rfl #[.int .i64 a1] rfl (by (try simp only [List.map_toArray, List.map_cons, List.map_nil]); first | done | rfl | (simp only [List.length_drop, List.length_take]; rfl)) ?_; (with_reducible refine (num_S32.calls a1 t295 _ A21.out).mono ?_); rintro e w' ⟨rfl, ⟨nd, rfl⟩⟩; refine ⟨_, rfl, ?_⟩) | ((with_reducible refine gate_callee (f := 11) rfl ?_); refine goesL_ (some 93) rfl rfl Tryd.func11 (by kernel_rfl) rfl #[.int .i64 a2] rfl (by (try simp only [List.map_toArray, List.map_cons, List.map_nil]); first | done | rfl | (simp only [List.length_drop, List.length_take]; rfl)) ?_; (with_reducible refine (num_U32.calls a2 t296 _ A22.out).mono ?_); rintro e w' ⟨rfl, ⟨nd, rfl⟩⟩; refine ⟨_, rfl, ?_⟩) | ((with_reducible refine gate_callee (f := 18) rfl ?_); refine goesL_ (some 94) rfl rfl Tryd.func18 (by kernel_rfl) rfl #[.int .i64 a0, .int .i64 t295, .int .i64 t296] rfl (by (try simp only [List.map_toArray, List.map_cons, List.map_nil]); first | done | rfl | (simp only [List.length_drop, List.length_take]; rfl)) ?_; (with_reducible refine (num_Bin.calls kj6 a0 t295 t296 t297 t298 t299 _ A23.out).mono ?_); rintro e w' ⟨rfl, ⟨nd, rfl⟩⟩; refine ⟨_, rfl, ?_⟩) | (go_at_call 15; (with_reducible refine (scarflaw03_awake.calls kj6  t300 _ (by first | exact HT.out | exact Tabs.below HB.out HT.out | (repeat (first | exact HT.out | exact Tabs.below HB.out HT.out | apply Tabs.drewN | apply Tabs.drew | apply Tabs.alloc))) A27.out).mono ?_); rintro e w' ⟨rfl, ⟨nd, rfl⟩⟩))
                go_ret
                exact ⟨by first | rfl | (simp; done) | (simp [*]; done), by repeat (first | exact Drawn0.refl _ | apply Drawn0.step)⟩
              · rw [if_neg c26] at H
                have c26b0 : (t289 == t298) = false := beq_eq_false_iff_ne.mpr c26
                have c26b1 : (t289 != t298) = true := bne_iff_ne.mpr c26
                obtain rfl := Option.some.inj H
                go_wp2_with (first | ((with_reducible refine gate_callee (f := 11) rfl ?_); refine goesL_ (some 84) rfl rfl Tryd.func11 (by kernel_rfl) rfl #[.int .i64 a1] rfl (by (try simp only [List.map_toArray, List.map_cons, List.map_nil]); first | done | rfl | (simp only [List.length_drop, List.length_take]; rfl)) ?_; (with_reducible refine (num_U32.calls a1 t292 _ A19.out).mono ?_); rintro e w' ⟨rfl, ⟨nd, rfl⟩⟩; refine ⟨_, rfl, ?_⟩) | ((with_reducible refine gate_callee (f := 16) rfl ?_); refine goesL_ (some 85) rfl rfl Tryd.func16 (by kernel_rfl) rfl #[.int .i64 a0, .int .i64 t292] rfl (by (try simp only [List.map_toArray, List.map_cons, List.map_nil]); first | done | rfl | (simp only [List.length_drop, List.length_take]; rfl)) ?_; (with_reducible refine (num_Un.calls kj6 a0 t292 t293 t294 _ (by first | exact HT.out | exact Tabs.below HB.out HT.out | (repeat (first | exact HT.out | exact Tabs.below HB.out HT.out | apply Tabs.drewN | apply Tabs.drew | apply Tabs.alloc))) A20.out).mono ?_); rintro e w' ⟨rfl, ⟨nd, rfl⟩⟩; refine ⟨_, rfl, ?_⟩) | ((with_reducible refine gate_callee (f := 13) rfl ?_); refine goesL_ (some 91) rfl rfl Tryd.func13 (by kernel_rfl) rfl #[.int .i64 a1] rfl (by (try simp only [List.map_toArray, List.map_cons, List.map_nil]); first | done | rfl | (simp only [List.length_drop, List.length_take]; rfl)) ?_; (with_reducible refine (num_S32.calls a1 t295 _ A21.out).mono ?_); rintro e w' ⟨rfl, ⟨nd, rfl⟩⟩; refine ⟨_, rfl, ?_⟩) | ((with_reducible refine gate_callee (f := 11) rfl ?_); refine goesL_ (some 93) rfl rfl Tryd.func11 (by kernel_rfl) rfl #[.int .i64 a2] rfl (by (try simp only [List.map_toArray, List.map_cons, List.map_nil]); first | done | rfl | (simp only [List.length_drop, List.length_take]; rfl)) ?_; (with_reducible refine (num_U32.calls a2 t296 _ A22.out).mono ?_); rintro e w' ⟨rfl, ⟨nd, rfl⟩⟩; refine ⟨_, rfl, ?_⟩) | ((with_reducible refine gate_callee (f := 18) rfl ?_); refine goesL_ (some 94) rfl rfl Tryd.func18 (by kernel_rfl) rfl #[.int .i64 a0, .int .i64 t295, .int .i64 t296] rfl (by (try simp only [List.map_toArray, List.map_cons, List.map_nil]); first | done | rfl | (simp only [List.length_drop, List.length_take]; rfl)) ?_; (with_reducible refine (num_Bin.calls kj6 a0 t295 t296 t297 t298 t299 _ A23.out).mono ?_); rintro e w' ⟨rfl, ⟨nd, rfl⟩⟩; refine ⟨_, rfl, ?_⟩))
                go_ret
                exact ⟨by first | rfl | (simp; done) | (simp [*]; done), by repeat (first | exact Drawn0.refl _ | apply Drawn0.step)⟩
            · rw [if_neg c25] at H
              have c25b0 : (t297 == t288) = false := beq_eq_false_iff_ne.mpr c25
              have c25b1 : (t297 != t288) = true := bne_iff_ne.mpr c25
              obtain rfl := Option.some.inj H
              go_wp2_with (first | ((with_reducible refine gate_callee (f := 11) rfl ?_); refine goesL_ (some 84) rfl rfl Tryd.func11 (by kernel_rfl) rfl #[.int .i64 a1] rfl (by (try simp only [List.map_toArray, List.map_cons, List.map_nil]); first | done | rfl | (simp only [List.length_drop, List.length_take]; rfl)) ?_; (with_reducible refine (num_U32.calls a1 t292 _ A19.out).mono ?_); rintro e w' ⟨rfl, ⟨nd, rfl⟩⟩; refine ⟨_, rfl, ?_⟩) | ((with_reducible refine gate_callee (f := 16) rfl ?_); refine goesL_ (some 85) rfl rfl Tryd.func16 (by kernel_rfl) rfl #[.int .i64 a0, .int .i64 t292] rfl (by (try simp only [List.map_toArray, List.map_cons, List.map_nil]); first | done | rfl | (simp only [List.length_drop, List.length_take]; rfl)) ?_; (with_reducible refine (num_Un.calls kj6 a0 t292 t293 t294 _ (by first | exact HT.out | exact Tabs.below HB.out HT.out | (repeat (first | exact HT.out | exact Tabs.below HB.out HT.out | apply Tabs.drewN | apply Tabs.drew | apply Tabs.alloc))) A20.out).mono ?_); rintro e w' ⟨rfl, ⟨nd, rfl⟩⟩; refine ⟨_, rfl, ?_⟩) | ((with_reducible refine gate_callee (f := 13) rfl ?_); refine goesL_ (some 91) rfl rfl Tryd.func13 (by kernel_rfl) rfl #[.int .i64 a1] rfl (by (try simp only [List.map_toArray, List.map_cons, List.map_nil]); first | done | rfl | (simp only [List.length_drop, List.length_take]; rfl)) ?_; (with_reducible refine (num_S32.calls a1 t295 _ A21.out).mono ?_); rintro e w' ⟨rfl, ⟨nd, rfl⟩⟩; refine ⟨_, rfl, ?_⟩) | ((with_reducible refine gate_callee (f := 11) rfl ?_); refine goesL_ (some 93) rfl rfl Tryd.func11 (by kernel_rfl) rfl #[.int .i64 a2] rfl (by (try simp only [List.map_toArray, List.map_cons, List.map_nil]); first | done | rfl | (simp only [List.length_drop, List.length_take]; rfl)) ?_; (with_reducible refine (num_U32.calls a2 t296 _ A22.out).mono ?_); rintro e w' ⟨rfl, ⟨nd, rfl⟩⟩; refine ⟨_, rfl, ?_⟩) | ((with_reducible refine gate_callee (f := 18) rfl ?_); refine goesL_ (some 94) rfl rfl Tryd.func18 (by kernel_rfl) rfl #[.int .i64 a0, .int .i64 t295, .int .i64 t296] rfl (by (try simp only [List.map_toArray, List.map_cons, List.map_nil]); first | done | rfl | (simp only [List.length_drop, List.length_take]; rfl)) ?_; (with_reducible refine (num_Bin.calls kj6 a0 t295 t296 t297 t298 t299 _ A23.out).mono ?_); rintro e w' ⟨rfl, ⟨nd, rfl⟩⟩; refine ⟨_, rfl, ?_⟩))
              go_ret
              exact ⟨by first | rfl | (simp; done) | (simp [*]; done), by repeat (first | exact Drawn0.refl _ | apply Drawn0.step)⟩
          · rw [if_neg c24] at H
            have c24b0 : (t293 == t286) = false := beq_eq_false_iff_ne.mpr c24
            have c24b1 : (t293 != t286) = true := bne_iff_ne.mpr c24
            obtain rfl := Option.some.inj H
            go_wp2_with (first | ((with_reducible refine gate_callee (f := 11) rfl ?_); refine goesL_ (some 84) rfl rfl Tryd.func11 (by kernel_rfl) rfl #[.int .i64 a1] rfl (by (try simp only [List.map_toArray, List.map_cons, List.map_nil]); first | done | rfl | (simp only [List.length_drop, List.length_take]; rfl)) ?_; (with_reducible refine (num_U32.calls a1 t292 _ A19.out).mono ?_); rintro e w' ⟨rfl, ⟨nd, rfl⟩⟩; refine ⟨_, rfl, ?_⟩) | ((with_reducible refine gate_callee (f := 16) rfl ?_); refine goesL_ (some 85) rfl rfl Tryd.func16 (by kernel_rfl) rfl #[.int .i64 a0, .int .i64 t292] rfl (by (try simp only [List.map_toArray, List.map_cons, List.map_nil]); first | done | rfl | (simp only [List.length_drop, List.length_take]; rfl)) ?_; (with_reducible refine (num_Un.calls kj6 a0 t292 t293 t294 _ (by first | exact HT.out | exact Tabs.below HB.out HT.out | (repeat (first | exact HT.out | exact Tabs.below HB.out HT.out | apply Tabs.drewN | apply Tabs.drew | apply Tabs.alloc))) A20.out).mono ?_); rintro e w' ⟨rfl, ⟨nd, rfl⟩⟩; refine ⟨_, rfl, ?_⟩) | ((with_reducible refine gate_callee (f := 13) rfl ?_); refine goesL_ (some 91) rfl rfl Tryd.func13 (by kernel_rfl) rfl #[.int .i64 a1] rfl (by (try simp only [List.map_toArray, List.map_cons, List.map_nil]); first | done | rfl | (simp only [List.length_drop, List.length_take]; rfl)) ?_; (with_reducible refine (num_S32.calls a1 t295 _ A21.out).mono ?_); rintro e w' ⟨rfl, ⟨nd, rfl⟩⟩; refine ⟨_, rfl, ?_⟩) | ((with_reducible refine gate_callee (f := 11) rfl ?_); refine goesL_ (some 93) rfl rfl Tryd.func11 (by kernel_rfl) rfl #[.int .i64 a2] rfl (by (try simp only [List.map_toArray, List.map_cons, List.map_nil]); first | done | rfl | (simp only [List.length_drop, List.length_take]; rfl)) ?_; (with_reducible refine (num_U32.calls a2 t296 _ A22.out).mono ?_); rintro e w' ⟨rfl, ⟨nd, rfl⟩⟩; refine ⟨_, rfl, ?_⟩) | ((with_reducible refine gate_callee (f := 18) rfl ?_); refine goesL_ (some 94) rfl rfl Tryd.func18 (by kernel_rfl) rfl #[.int .i64 a0, .int .i64 t295, .int .i64 t296] rfl (by (try simp only [List.map_toArray, List.map_cons, List.map_nil]); first | done | rfl | (simp only [List.length_drop, List.length_take]; rfl)) ?_; (with_reducible refine (num_Bin.calls kj6 a0 t295 t296 t297 t298 t299 _ A23.out).mono ?_); rintro e w' ⟨rfl, ⟨nd, rfl⟩⟩; refine ⟨_, rfl, ?_⟩))
            go_ret
            exact ⟨by first | rfl | (simp; done) | (simp [*]; done), by repeat (first | exact Drawn0.refl _ | apply Drawn0.step)⟩
        · rw [if_neg c18] at H
          have c18b0 : (t284 == 127) = false := beq_eq_false_iff_ne.mpr c18
          have c18b1 : (t284 != 127) = true := bne_iff_ne.mpr c18
          replace H := Option.bind_eq_some_iff.mp H
          obtain ⟨t291, A280, H⟩ := H
          replace H : (some t291) = some r := H
          have A28 := Aside0.mk A280
          clear A280
          obtain rfl := Option.some.inj H
          go_wp2_with (first | ((with_reducible refine gate_callee (f := 15) rfl ?_); refine goesL_ (some 80) rfl rfl Tryd.func15 (by kernel_rfl) rfl #[] rfl (by (try simp only [List.map_toArray, List.map_cons, List.map_nil]); first | done | rfl | (simp only [List.length_drop, List.length_take]; rfl)) ?_; (with_reducible refine (scarflaw03_awake.calls kj6  t291 _ (by first | exact HT.out | exact Tabs.below HB.out HT.out | (repeat (first | exact HT.out | exact Tabs.below HB.out HT.out | apply Tabs.drewN | apply Tabs.drew | apply Tabs.alloc))) A28.out).mono ?_); rintro e w' ⟨rfl, ⟨nd, rfl⟩⟩; refine ⟨_, rfl, ?_⟩))
          go_ret
          exact ⟨by first | rfl | (simp; done) | (simp [*]; done), by repeat (first | exact Drawn0.refl _ | apply Drawn0.step)⟩

/-- THE ONE PURE STATEMENT of scarflaw03_NumFits: yours. -/
def scarflaw03_NumFits.Pure : Prop := ∀ (a0 : Int) (a1 : Int) (a2 : Int), (Lit.int .i64 a0).wf = true → (Lit.int .i64 a1).wf = true → (Lit.int .i64 a2).wf = true → ∃ k, scarflaw03_NumFits.f k a0 a1 a2 = some true
theorem scarflaw03_NumFits.walk (P : scarflaw03_NumFits.Pure) (a0 : Int) (a1 : Int) (a2 : Int) (w : World) (hT : Tabs w) (w0 : (Lit.int .i64 a0).wf = true) (w1 : (Lit.int .i64 a1).wf = true) (w2 : (Lit.int .i64 a2).wf = true) :
    Calls Tryd.prog 6 #[.int .i64 a0, .int .i64 a1, .int .i64 a2] w fun e w' => e = .returned (.bool true) ∧ Below w.heap.size w w' := by
  obtain ⟨k, h⟩ := P a0 a1 a2 w0 w1 w2
  refine (scarflaw03_NumFits.calls k a0 a1 a2 true w hT h).mono ?_
  rintro e w' ⟨rfl, hd⟩
  exact ⟨rfl, hd.below⟩

end Go.Proofs.YtpoapiphnhmdmaaDoor.PA
