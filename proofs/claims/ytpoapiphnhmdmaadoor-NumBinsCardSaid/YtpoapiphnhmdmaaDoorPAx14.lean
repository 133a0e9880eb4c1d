-- Laid by this session's wip/hp/hp.py: the kit's print with own contracts for what it does not take
import Derived.Test.YtpoapiphnhmdmaaDoorPAx0
import Derived.Test.YtpoapiphnhmdmaaDoorPAx2
import Derived.Test.YtpoapiphnhmdmaaDoorPAx3
import Derived.Test.YtpoapiphnhmdmaaDoorPAx4
import Derived.Test.YtpoapiphnhmdmaaDoorPAx6
namespace Go.Proofs.YtpoapiphnhmdmaaDoor.PA
open Go.RowKit Go.Proofs.YtpoapiphnhmdmaaDoorW.PrintWords Go.Proofs.YtpoapiphnhmdmaaDoorW.PrintLast Go.Proofs.YtpoapiphnhmdmaaDoorW.PrintMore
attribute [local go_sem] max2_int min2_int max_two min_two max_three min_three max_four min_four   -- for this text's walks alone
set_option linter.unusedVariables false
set_option linter.unusedSimpArgs false

/-! ### scarflaw03_NumTurns: function 8 -/
def scarflaw03_NumTurns.j0 : Nat → Int → Int → Int → Int → Int → Int → Option (Bool)
  | 0, _, _, _, _, _, _ => none
  | k + 1, x0, x1, x7, x8, x9, x10 => (num_Bin.f k x7 x0 (Go.bits .and .i64 x1 255)).bind fun bt347 => ((num_Bin.f k x8 bt347.1 (Go.bits .and .i64 x1 255)).bind fun bt350 => (if x10 = 0 then (none) else ((num_Bin.f k x8 x0 (Int.tmod (wrap64 (x10 - (Int.tmod (Go.bits .and .i64 x1 255) x10))) x10)).bind fun bt353 => ((num_Un.f k x9 x0).bind fun bt356 => ((num_Un.f k x9 bt347.1).bind fun bt358 => (if bt350.1 = x0 then (if bt353.1 = bt347.1 then (if bt356.1 = bt358.1 then ((scarflaw03_awake.f k).bind fun t360 => (some t360)) else (some false)) else (some false)) else (some false)))))))
def scarflaw03_NumTurns.f (k : Nat) (a0 : Int) (a1 : Int) (a2 : Bool) : Option (Bool) := if a2 = true then (scarflaw03_NumTurns.j0 k a0 a1 137 138 123 64) else ((num_U32.f a0).bind fun t346 => (scarflaw03_NumTurns.j0 k t346 a1 119 120 105 32))
theorem scarflaw03_NumTurns.mono_l : ∀ k, (∀ y0 y1 y2 y3 y4 y5, LeO (scarflaw03_NumTurns.j0 k y0 y1 y2 y3 y4 y5) (scarflaw03_NumTurns.j0 (k + 1) y0 y1 y2 y3 y4 y5))
  | 0 => fun _ _ _ _ _ _ r h => by simp [scarflaw03_NumTurns.j0] at h
  | k + 1 => by
    have ih0 := scarflaw03_NumTurns.mono_l k
    · intro y0 y1 y2 y3 y4 y5
      unfold scarflaw03_NumTurns.j0
      repeat' first
      | (with_reducible exact ih0 _ _ _ _ _ _)
      | (with_reducible exact num_Bin.mono _ _ _ _)
      | (with_reducible exact num_Un.mono _ _ _)
      | (with_reducible exact scarflaw03_awake.mono _)
      | (with_reducible exact LeO.refl _)
      | (with_reducible exact LeO.none _)
      | (with_reducible refine LeO.ite ?_ ?_)
      | (with_reducible refine LeO.bind ?_ (fun _ => ?_))
      | exact ih0 _ _ _ _ _ _
      | exact num_Bin.mono _ _ _ _
      | exact num_Un.mono _ _ _
      | exact scarflaw03_awake.mono _
      | exact LeO.none _
      | refine LeO.ite ?_ ?_
      | refine LeO.bind ?_ (fun _ => ?_)
theorem scarflaw03_NumTurns.mono : ∀ a0 a1 a2 k, LeO (scarflaw03_NumTurns.f k a0 a1 a2) (scarflaw03_NumTurns.f (k + 1) a0 a1 a2) := by
  intro a0 a1 a2 k
  have ih0 := scarflaw03_NumTurns.mono_l k
  unfold scarflaw03_NumTurns.f
  repeat' first
      | (with_reducible exact ih0 _ _ _ _ _ _)
      | (with_reducible exact num_Bin.mono _ _ _ _)
      | (with_reducible exact num_Un.mono _ _ _)
      | (with_reducible exact scarflaw03_awake.mono _)
      | (with_reducible exact LeO.refl _)
      | (with_reducible exact LeO.none _)
      | (with_reducible refine LeO.ite ?_ ?_)
      | (with_reducible refine LeO.bind ?_ (fun _ => ?_))
      | exact ih0 _ _ _ _ _ _
      | exact num_Bin.mono _ _ _ _
      | exact num_Un.mono _ _ _
      | exact scarflaw03_awake.mono _
      | exact LeO.none _
      | refine LeO.ite ?_ ?_
      | refine LeO.bind ?_ (fun _ => ?_)
set_option maxHeartbeats 8000000 in
set_option maxRecDepth 100000 in
theorem scarflaw03_NumTurns.calls (k : Nat) (a0 : Int) (a1 : Int) (a2 : Bool) (r : Bool) (w : World) (hT : Tabs w) (h : scarflaw03_NumTurns.f k a0 a1 a2 = some r) :
    Calls Tryd.prog 8 #[.int .i64 a0, .int .i64 a1, .bool a2] w fun e w' => e = .returned (.bool r) ∧ Drawn0 w w' := by
  have HT := Aside0.mk hT
  clear hT
  have H : (if a2 = true then (scarflaw03_NumTurns.j0 k a0 a1 137 138 123 64) else ((num_U32.f a0).bind fun t346 => (scarflaw03_NumTurns.j0 k t346 a1 119 120 105 32))) = some r := h
  clear h
  have HC4 := Aside0.mk H
  clear H
  go_enter Tryd.func8, Tryd.ntmps8
  go_upto_if 24 with (fail)
  go_cut [0, 7, 8, 9, 10] (fun v0 v7 v8 v9 v10 wc => ∃ (kq : Nat) (x0_3 : Int) (x7_3 : Int) (x8_3 : Int) (x9_3 : Int) (x10_3 : Int), v0 = .int .i64 x0_3 ∧ v7 = .int .i64 x7_3 ∧ v8 = .int .i64 x8_3 ∧ v9 = .int .i64 x9_3 ∧ v10 = .int .i64 x10_3 ∧ Aside0 (scarflaw03_NumTurns.j0 kq x0_3 a1 x7_3 x8_3 x9_3 x10_3 = some r) ∧ Aside0 (kq ≤ k) ∧ Drawn0 w wc)
  case first =>
    have H := HC4.out
    clear HC4
    by_cases c5 : a2 = true
    · subst c5
      have H1 : (scarflaw03_NumTurns.j0 k a0 a1 137 138 123 64) = some r := by rw [if_pos rfl] at H; exact H
      clear H
      have H := H1
      clear H1
      have H' := Aside0.mk H
      clear H
      go_wp2
      go_meet
      case rel => exact ⟨_, (a0), (137), (138), (123), (64), (by first | rfl | (simp; done) | (simp [*]; done)), (by first | rfl | (simp; done) | (simp [*]; done)), (by first | rfl | (simp; done) | (simp [*]; done)), (by first | rfl | (simp; done) | (simp [*]; done)), (by first | rfl | (simp; done) | (simp [*]; done)), H', ⟨by first | omega | exact Nat.le_refl _⟩, by repeat (first | exact Drawn0.refl _ | apply Drawn0.step)⟩
    · replace c5 := Bool.eq_false_iff.mpr c5
      subst c5
      have H1 : ((num_U32.f a0).bind fun t346 => (scarflaw03_NumTurns.j0 k t346 a1 119 120 105 32)) = some r := by rw [if_neg (show ¬ (false = true) by decide)] at H; exact H
      clear H
      have H := H1
      clear H1
      replace H := Option.bind_eq_some_iff.mp H
      obtain ⟨t346, A60, H⟩ := H
      replace H : (scarflaw03_NumTurns.j0 k t346 a1 119 120 105 32) = some r := H
      have A6 := Aside0.mk A60
      clear A60
      have H' := Aside0.mk H
      clear H
      go_wp2_with (first | ((with_reducible refine gate_callee (f := 11) rfl ?_); refine goesL_ (some 26) rfl rfl Tryd.func11 (by kernel_rfl) rfl #[.int .i64 a0] rfl (by (try simp only [List.map_toArray, List.map_cons, List.map_nil]); first | done | rfl | (simp only [List.length_drop, List.length_take]; rfl)) ?_; (with_reducible refine (num_U32.calls a0 t346 _ A6.out).mono ?_); rintro e w' ⟨rfl, ⟨nd, rfl⟩⟩; refine ⟨_, rfl, ?_⟩))
      go_meet
      case rel => exact ⟨_, (t346), (119), (120), (105), (32), (by first | rfl | (simp; done) | (simp [*]; done)), (by first | rfl | (simp; done) | (simp [*]; done)), (by first | rfl | (simp; done) | (simp [*]; done)), (by first | rfl | (simp; done) | (simp [*]; done)), (by first | rfl | (simp; done) | (simp [*]; done)), H', ⟨by first | omega | exact Nat.le_refl _⟩, by repeat (first | exact Drawn0.refl _ | apply Drawn0.step)⟩
  case rest =>
    clear HC4
    try clear c1
    try clear p2
    try clear c5
    obtain ⟨kq, x0_3, x7_3, x8_3, x9_3, x10_3, rfl, rfl, rfl, rfl, rfl, HA, HJ3, ⟨mc3, rfl⟩⟩ := hcut
    cases kq with
    | zero => exact absurd HA.out (by simp [scarflaw03_NumTurns.j0])
    | succ kj3 =>
      have H := HA.out
      clear HA
      simp only [scarflaw03_NumTurns.j0] at H
      replace H := Option.bind_eq_some_iff.mp H
      obtain ⟨⟨t347, t348, t349⟩, A70, H⟩ := H
      replace H : ((num_Bin.f kj3 x8_3 t347 (Go.bits .and .i64 a1 255)).bind fun bt350 => (if x10_3 = 0 then (none) else ((num_Bin.f kj3 x8_3 x0_3 (Int.tmod (wrap64 (x10_3 - (Int.tmod (Go.bits .and .i64 a1 255) x10_3))) x10_3)).bind fun bt353 => ((num_Un.f kj3 x9_3 x0_3).bind fun bt356 => ((num_Un.f kj3 x9_3 t347).bind fun bt358 => (if bt350.1 = x0_3 then (if bt353.1 = t347 then (if bt356.1 = bt358.1 then ((scarflaw03_awake.f kj3).bind fun t360 => (some t360)) else (some false)) else (some false)) else (some false))))))) = some r := H
      have A7 := Aside0.mk A70
      clear A70
      replace H := Option.bind_eq_some_iff.mp H
      obtain ⟨⟨t350, t351, t352⟩, A80, H⟩ := H
      replace H : (if x10_3 = 0 then (none) else ((num_Bin.f kj3 x8_3 x0_3 (Int.tmod (wrap64 (x10_3 - (Int.tmod (Go.bits .and .i64 a1 255) x10_3))) x10_3)).bind fun bt353 => ((num_Un.f kj3 x9_3 x0_3).bind fun bt356 => ((num_Un.f kj3 x9_3 t347).bind fun bt358 => (if t350 = x0_3 then (if bt353.1 = t347 then (if bt356.1 = bt358.1 then ((scarflaw03_awake.f kj3).bind fun t360 => (some t360)) else (some false)) else (some false)) else (some false)))))) = some r := H
      have A8 := Aside0.mk A80
      clear A80
      by_cases c9 : x10_3 = 0
      · rw [if_pos c9] at H
        exact absurd H (by simp)
      · rw [if_neg c9] at H
        have c9b0 : (x10_3 == 0) = false := beq_eq_false_iff_ne.mpr c9
        have c9b1 : (x10_3 != 0) = true := bne_iff_ne.mpr c9
        replace H := Option.bind_eq_some_iff.mp H
        obtain ⟨⟨t353, t354, t355⟩, A100, H⟩ := H
        replace H : ((num_Un.f kj3 x9_3 x0_3).bind fun bt356 => ((num_Un.f kj3 x9_3 t347).bind fun bt358 => (if t350 = x0_3 then (if t353 = t347 then (if bt356.1 = bt358.1 then ((scarflaw03_awake.f kj3).bind fun t360 => (some t360)) else (some false)) else (some false)) else (some false)))) = some r := H
        have A10 := Aside0.mk A100
        clear A100
        replace H := Option.bind_eq_some_iff.mp H
        obtain ⟨⟨t356, t357⟩, A110, H⟩ := H
        replace H : ((num_Un.f kj3 x9_3 t347).bind fun bt358 => (if t350 = x0_3 then (if t353 = t347 then (if t356 = bt358.1 then ((scarflaw03_awake.f kj3).bind fun t360 => (some t360)) else (some false)) else (some false)) else (some false))) = some r := H
        have A11 := Aside0.mk A110
        clear A110
        replace H := Option.bind_eq_some_iff.mp H
        obtain ⟨⟨t358, t359⟩, A120, H⟩ := H
        replace H : (if t350 = x0_3 then (if t353 = t347 then (if t356 = t358 then ((scarflaw03_awake.f kj3).bind fun t360 => (some t360)) else (some false)) else (some false)) else (some false)) = some r := H
        have A12 := Aside0.mk A120
        clear A120
        by_cases c13 : t350 = x0_3
        · rw [if_pos c13] at H
          have c13b0 : (t350 == x0_3) = true := beq_iff_eq.mpr c13
          have c13b1 : (t350 != x0_3) = false := bne_eq_false_iff_eq.mpr c13
          clear c13
          by_cases c14 : t353 = t347
          · rw [if_pos c14] at H
            have c14b0 : (t353 == t347) = true := beq_iff_eq.mpr c14
            have c14b1 : (t353 != t347) = false := bne_eq_false_iff_eq.mpr c14
            clear c14
            by_cases c15 : t356 = t358
            · rw [if_pos c15] at H
              have c15b0 : (t356 == t358) = true := beq_iff_eq.mpr c15
              have c15b1 : (t356 != t358) = false := bne_eq_false_iff_eq.mpr c15
              clear c15
              replace H := Option.bind_eq_some_iff.mp H
              obtain ⟨t360, A160, H⟩ := H
              replace H : (some t360) = some r := H
              have A16 := Aside0.mk A160
              clear A160
              obtain rfl := Option.some.inj H
              go_wp2_with (first | ((with_reducible refine gate_callee (f := 18) rfl ?_); refine goesL_ (some 33) rfl rfl Tryd.func18 (by kernel_rfl) rfl #[.int .i64 x7_3, .int .i64 x0_3, .int .i64 (Go.bits .and .i64 a1 255)] rfl (by (try simp only [List.map_toArray, List.map_cons, List.map_nil]); first | done | rfl | (simp only [List.length_drop, List.length_take]; rfl)) ?_; (with_reducible refine (num_Bin.calls kj3 x7_3 x0_3 (Go.bits .and .i64 a1 255) t347 t348 t349 _ A7.out).mono ?_); rintro e w' ⟨rfl, ⟨nd, rfl⟩⟩; refine ⟨_, rfl, ?_⟩) | ((with_reducible refine gate_callee (f := 18) rfl ?_); refine goesL_ (some 41) rfl rfl Tryd.func18 (by kernel_rfl) rfl #[.int .i64 x8_3, .int .i64 t347, .int .i64 (Go.bits .and .i64 a1 255)] rfl (by (try simp only [List.map_toArray, List.map_cons, List.map_nil]); first | done | rfl | (simp only [List.length_drop, List.length_take]; rfl)) ?_; (with_reducible refine (num_Bin.calls kj3 x8_3 t347 (Go.bits .and .i64 a1 255) t350 t351 t352 _ A8.out).mono ?_); rintro e w' ⟨rfl, ⟨nd, rfl⟩⟩; refine ⟨_, rfl, ?_⟩) | ((with_reducible refine gate_callee (f := 18) rfl ?_); refine goesL_ (some 55) rfl rfl Tryd.func18 (by kernel_rfl) rfl #[.int .i64 x8_3, .int .i64 x0_3, .int .i64 (Int.tmod (wrap64 (x10_3 - (Int.tmod (Go.bits .and .i64 a1 255) x10_3))) x10_3)] rfl (by (try simp only [List.map_toArray, List.map_cons, List.map_nil]); first | done | rfl | (simp only [List.length_drop, List.length_take]; rfl)) ?_; (with_reducible refine (num_Bin.calls kj3 x8_3 x0_3 (Int.tmod (wrap64 (x10_3 - (Int.tmod (Go.bits .and .i64 a1 255) x10_3))) x10_3) t353 t354 t355 _ A10.out).mono ?_); rintro e w' ⟨rfl, ⟨nd, rfl⟩⟩; refine ⟨_, rfl, ?_⟩) | ((with_reducible refine gate_callee (f := 16) rfl ?_); refine goesL_ (some 62) rfl rfl Tryd.func16 (by kernel_rfl) rfl #[.int .i64 x9_3, .int .i64 x0_3] rfl (by (try simp only [List.map_toArray, List.map_cons, List.map_nil]); first | done | rfl | (simp only [List.length_drop, List.length_take]; rfl)) ?_; (with_reducible refine (num_Un.calls kj3 x9_3 x0_3 t356 t357 _ (by first | exact HT.out | exact Tabs.below HB.out HT.out | (repeat (first | exact HT.out | exact Tabs.below HB.out HT.out | apply Tabs.drewN | apply Tabs.drew | apply Tabs.alloc))) A11.out).mono ?_); rintro e w' ⟨rfl, ⟨nd, rfl⟩⟩; refine ⟨_, rfl, ?_⟩) | ((with_reducible refine gate_callee (f := 16) rfl ?_); refine goesL_ (some 68) rfl rfl Tryd.func16 (by kernel_rfl) rfl #[.int .i64 x9_3, .int .i64 t347] rfl (by (try simp only [List.map_toArray, List.map_cons, List.map_nil]); first | done | rfl | (simp only [List.length_drop, List.length_take]; rfl)) ?_; (with_reducible refine (num_Un.calls kj3 x9_3 t347 t358 t359 _ (by first | exact HT.out | exact Tabs.below HB.out HT.out | (repeat (first | exact HT.out | exact Tabs.below HB.out HT.out | apply Tabs.drewN | apply Tabs.drew | apply Tabs.alloc))) A12.out).mono ?_); rintro e w' ⟨rfl, ⟨nd, rfl⟩⟩; refine ⟨_, rfl, ?_⟩) | (go_at_call 15; (with_reducible refine (scarflaw03_awake.calls kj3  t360 _ (by first | exact HT.out | exact Tabs.below HB.out HT.out | (repeat (first | exact HT.out | exact Tabs.below HB.out HT.out | apply Tabs.drewN | apply Tabs.drew | apply Tabs.alloc))) A16.out).mono ?_); rintro e w' ⟨rfl, ⟨nd, rfl⟩⟩))
              go_ret
              exact ⟨by first | rfl | (simp; done) | (simp [*]; done), by repeat (first | exact Drawn0.refl _ | apply Drawn0.step)⟩
            · rw [if_neg c15] at H
              have c15b0 : (t356 == t358) = false := beq_eq_false_iff_ne.mpr c15
              have c15b1 : (t356 != t358) = true := bne_iff_ne.mpr c15
              obtain rfl := Option.some.inj H
              go_wp2_with (first | ((with_reducible refine gate_callee (f := 18) rfl ?_); refine goesL_ (some 33) rfl rfl Tryd.func18 (by kernel_rfl) rfl #[.int .i64 x7_3, .int .i64 x0_3, .int .i64 (Go.bits .and .i64 a1 255)] rfl (by (try simp only [List.map_toArray, List.map_cons, List.map_nil]); first | done | rfl | (simp only [List.length_drop, List.length_take]; rfl)) ?_; (with_reducible refine (num_Bin.calls kj3 x7_3 x0_3 (Go.bits .and .i64 a1 255) t347 t348 t349 _ A7.out).mono ?_); rintro e w' ⟨rfl, ⟨nd, rfl⟩⟩; refine ⟨_, rfl, ?_⟩) | ((with_reducible refine gate_callee (f := 18) rfl ?_); refine goesL_ (some 41) rfl rfl Tryd.func18 (by kernel_rfl) rfl #[.int .i64 x8_3, .int .i64 t347, .int .i64 (Go.bits .and .i64 a1 255)] rfl (by (try simp only [List.map_toArray, List.map_cons, List.map_nil]); first | done | rfl | (simp only [List.length_drop, List.length_take]; rfl)) ?_; (with_reducible refine (num_Bin.calls kj3 x8_3 t347 (Go.bits .and .i64 a1 255) t350 t351 t352 _ A8.out).mono ?_); rintro e w' ⟨rfl, ⟨nd, rfl⟩⟩; refine ⟨_, rfl, ?_⟩) | ((with_reducible refine gate_callee (f := 18) rfl ?_); refine goesL_ (some 55) rfl rfl Tryd.func18 (by kernel_rfl) rfl #[.int .i64 x8_3, .int .i64 x0_3, .int .i64 (Int.tmod (wrap64 (x10_3 - (Int.tmod (Go.bits .and .i64 a1 255) x10_3))) x10_3)] rfl (by (try simp only [List.map_toArray, List.map_cons, List.map_nil]); first | done | rfl | (simp only [List.length_drop, List.length_take]; rfl)) ?_; (with_reducible refine (num_Bin.calls kj3 x8_3 x0_3 (Int.tmod (wrap64 (x10_3 - (Int.tmod (Go.bits .and .i64 a1 255) x10_3))) x10_3) t353 t354 t355 _ A10.out).mono ?_); rintro e w' ⟨rfl, ⟨nd, rfl⟩⟩; refine ⟨_, rfl, ?_⟩) | ((with_reducible refine gate_callee (f := 16) rfl ?_); refine goesL_ (some 62) rfl rfl Tryd.func16 (by kernel_rfl) rfl #[.int .i64 x9_3, .int .i64 x0_3] rfl (by (try simp only [List.map_toArray, List.map_cons, List.map_nil]); first | done | rfl | (simp only [List.length_drop, List.length_take]; rfl)) ?_; (with_reducible refine (num_Un.calls kj3 x9_3 x0_3 t356 t357 _ (by first | exact HT.out | exact Tabs.below HB.out HT.out | (repeat (first | exact HT.out | exact Tabs.below HB.out HT.out | apply Tabs.drewN | apply Tabs.drew | apply Tabs.alloc))) A11.out).mono ?_); rintro e w' ⟨rfl, ⟨nd, rfl⟩⟩; refine ⟨_, rfl, ?_⟩) | ((with_reducible refine gate_callee (f := 16) rfl ?_); refine goesL_ (some 68) rfl rfl Tryd.func16 (by kernel_rfl) rfl #[.int .i64 x9_3, .int .i64 t347] rfl (by (try simp only [List.map_toArray, List.map_cons, List.map_nil]); first | done | rfl | (simp only [List.length_drop, List.length_take]; rfl)) ?_; (with_reducible refine (num_Un.calls kj3 x9_3 t347 t358 t359 _ (by first | exact HT.out | exact Tabs.below HB.out HT.out | (repeat (first | exact HT.out | exact Tabs.below HB.out HT.out | apply Tabs.drewN | apply Tabs.drew | apply Tabs.alloc))) A12.out).mono ?_); rintro e w' ⟨rfl, ⟨nd, rfl⟩⟩; refine ⟨_, rfl, ?_⟩))
              go_ret
              exact ⟨by first | rfl | (simp; done) | (simp [*]; done), by repeat (first | exact Drawn0.refl _ | apply Drawn0.step)⟩
          · rw [if_neg c14] at H
            have c14b0 : (t353 == t347) = false := beq_eq_false_iff_ne.mpr c14
            have c14b1 : (t353 != t347) = true := bne_iff_ne.mpr c14
            obtain rfl := Option.some.inj H
            go_wp2_with (first | ((with_reducible refine gate_callee (f := 18) rfl ?_); refine goesL_ (some 33) rfl rfl Tryd.func18 (by kernel_rfl) rfl #[.int .i64 x7_3, .int .i64 x0_3, .int .i64 (Go.bits .and .i64 a1 255)] rfl (by (try simp only [List.map_toArray, List.map_cons, List.map_nil]); first | done | rfl | (simp only [List.length_drop, List.length_take]; rfl)) ?_; (with_reducible refine (num_Bin.calls kj3 x7_3 x0_3 (Go.bits .and .i64 a1 255) t347 t348 t349 _ A7.out).mono ?_); rintro e w' ⟨rfl, ⟨nd, rfl⟩⟩; refine ⟨_, rfl, ?_⟩) | ((with_reducible refine gate_callee (f := 18) rfl ?_); refine goesL_ (some 41) rfl rfl Tryd.func18 (by kernel_rfl) rfl #[.int .i64 x8_3, .int .i64 t347, .int .i64 (Go.bits .and .i64 a1 255)] rfl (by (try simp only [List.map_toArray, List.map_cons, List.map_nil]); first | done | rfl | (simp only [List.length_drop, List.length_take]; rfl)) ?_; (with_reducible refine (num_Bin.calls kj3 x8_3 t347 (Go.bits .and .i64 a1 255) t350 t351 t352 _ A8.out).mono ?_); rintro e w' ⟨rfl, ⟨nd, rfl⟩⟩; refine ⟨_, rfl, ?_⟩) | ((with_reducible refine gate_callee (f := 18) rfl ?_); refine goesL_ (some 55) rfl rfl Tryd.func18 (by kernel_rfl) rfl #[.int .i64 x8_3, .int .i64 x0_3, .int .i64 (Int.tmod (wrap64 (x10_3 - (Int.tmod (Go.bits .and .i64 a1 255) x10_3))) x10_3)] rfl (by (try simp only [List.map_toArray, List.map_cons, List.map_nil]); first | done | rfl | (simp only [List.length_drop, List.length_take]; rfl)) ?_; (with_reducible refine (num_Bin.calls kj3 x8_3 x0_3 (Int.tmod (wrap64 (x10_3 - (Int.tmod (Go.bits .and .i64 a1 255) x10_3))) x10_3) t353 t354 t355 _ A10.out).mono ?_); rintro e w' ⟨rfl, ⟨nd, rfl⟩⟩; refine ⟨_, rfl, ?_⟩) | ((with_reducible refine gate_callee (f := 16) rfl ?_); refine goesL_ (some 62) rfl rfl Tryd.func16 (by kernel_rfl) rfl #[.int .i64 x9_3, .int .i64 x0_3] rfl (by (try simp only [List.map_toArray, List.map_cons, List.map_nil]); first | done | rfl | (simp only [List.length_drop, List.length_take]; rfl)) ?_; (with_reducible refine (num_Un.calls kj3 x9_3 x0_3 t356 t357 _ (by first | exact HT.out | exact Tabs.below HB.out HT.out | (repeat (first | exact HT.out | exact Tabs.below HB.out HT.out | apply Tabs.drewN | apply Tabs.drew | apply Tabs.alloc))) A11.out).mono ?_); rintro e w' ⟨rfl, ⟨nd, rfl⟩⟩; refine ⟨_, rfl, ?_⟩) | ((with_reducible refine gate_callee (f := 16) rfl ?_); refine goesL_ (some 68) rfl rfl Tryd.func16 (by kernel_rfl) rfl #[.int .i64 x9_3, .int .i64 t347] rfl (by (try simp only [List.map_toArray, List.map_cons, List.map_nil]); first | done | rfl | (simp only [List.length_drop, List.length_take]; rfl)) ?_; (with_reducible refine (num_Un.calls kj3 x9_3 t347 t358 t359 _ (by first | exact HT.out | exact Tabs.below HB.out HT.out | (repeat (first | exact HT.out | exact Tabs.below HB.out HT.out | apply Tabs.drewN | apply Tabs.drew | apply Tabs.alloc))) A12.out).mono ?_); rintro e w' ⟨rfl, ⟨nd, rfl⟩⟩; refine ⟨_, rfl, ?_⟩))
            go_ret
            exact ⟨by first | rfl | (simp; done) | (simp [*]; done), by repeat (first | exact Drawn0.refl _ | apply Drawn0.step)⟩
        · rw [if_neg c13] at H
          have c13b0 : (t350 == x0_3) = false := beq_eq_false_iff_ne.mpr c13
          have c13b1 : (t350 != x0_3) = true := bne_iff_ne.mpr c13
          obtain rfl := Option.some.inj H
          go_wp2_with (first | ((with_reducible refine gate_callee (f := 18) rfl ?_); refine goesL_ (some 33) rfl rfl Tryd.func18 (by kernel_rfl) rfl #[.int .i64 x7_3, .int .i64 x0_3, .int .i64 (Go.bits .and .i64 a1 255)] rfl (by (try simp only [List.map_toArray, List.map_cons, List.map_nil]); first | done | rfl | (simp only [List.length_drop, List.length_take]; rfl)) ?_; (with_reducible refine (num_Bin.calls kj3 x7_3 x0_3 (Go.bits .and .i64 a1 255) t347 t348 t349 _ A7.out).mono ?_); rintro e w' ⟨rfl, ⟨nd, rfl⟩⟩; refine ⟨_, rfl, ?_⟩) | ((with_reducible refine gate_callee (f := 18) rfl ?_); refine goesL_ (some 41) rfl rfl Tryd.func18 (by kernel_rfl) rfl #[.int .i64 x8_3, .int .i64 t347, .int .i64 (Go.bits .and .i64 a1 255)] rfl (by (try simp only [List.map_toArray, List.map_cons, List.map_nil]); first | done | rfl | (simp only [List.length_drop, List.length_take]; rfl)) ?_; (with_reducible refine (num_Bin.calls kj3 x8_3 t347 (Go.bits .and .i64 a1 255) t350 t351 t352 _ A8.out).mono ?_); rintro e w' ⟨rfl, ⟨nd, rfl⟩⟩; refine ⟨_, rfl, ?_⟩) | ((with_reducible refine gate_callee (f := 18) rfl ?_); refine goesL_ (some 55) rfl rfl Tryd.func18 (by kernel_rfl) rfl #[.int .i64 x8_3, .int .i64 x0_3, .int .i64 (Int.tmod (wrap64 (x10_3 - (Int.tmod (Go.bits .and .i64 a1 255) x10_3))) x10_3)] rfl (by (try simp only [List.map_toArray, List.map_cons, List.map_nil]); first | done | rfl | (simp only [List.length_drop, List.length_take]; rfl)) ?_; (with_reducible refine (num_Bin.calls kj3 x8_3 x0_3 (Int.tmod (wrap64 (x10_3 - (Int.tmod (Go.bits .and .i64 a1 255) x10_3))) x10_3) t353 t354 t355 _ A10.out).mono ?_); rintro e w' ⟨rfl, ⟨nd, rfl⟩⟩; refine ⟨_, rfl, ?_⟩) | ((with_reducible refine gate_callee (f := 16) rfl ?_); refine goesL_ (some 62) rfl rfl Tryd.func16 (by kernel_rfl) rfl #[.int .i64 x9_3, .int .i64 x0_3] rfl (by (try simp only [List.map_toArray, List.map_cons, List.map_nil]); first | done | rfl | (simp only [List.length_drop, List.length_take]; rfl)) ?_; (with_reducible refine (num_Un.calls kj3 x9_3 x0_3 t356 t357 _ (by first | exact HT.out | exact Tabs.below HB.out HT.out | (repeat (first | exact HT.out | exact Tabs.below HB.out HT.out | apply Tabs.drewN | apply Tabs.drew | apply Tabs.alloc))) A11.out).mono ?_); rintro e w' ⟨rfl, ⟨nd, rfl⟩⟩; refine ⟨_, rfl, ?_⟩) | ((with_reducible refine gate_callee (f := 16) rfl ?_); refine goesL_ (some 68) rfl rfl Tryd.func16 (by kernel_rfl) rfl #[.int .i64 x9_3, .int .i64 t347] rfl (by (try simp only [List.map_toArray, List.map_cons, List.map_nil]); first | done | rfl | (simp only [List.length_drop, List.length_take]; rfl)) ?_; (with_reducible refine (num_Un.calls kj3 x9_3 t347 t358 t359 _ (by first | exact HT.out | exact Tabs.below HB.out HT.out | (repeat (first | exact HT.out | exact Tabs.below HB.out HT.out | apply Tabs.drewN | apply Tabs.drew | apply Tabs.alloc))) A12.out).mono ?_); rintro e w' ⟨rfl, ⟨nd, rfl⟩⟩; refine ⟨_, rfl, ?_⟩))
          go_ret
          exact ⟨by first | rfl | (simp; done) | (simp [*]; done), by repeat (first | exact Drawn0.refl _ | apply Drawn0.step)⟩

/-- THE ONE PURE STATEMENT of scarflaw03_NumTurns: yours. -/
def scarflaw03_NumTurns.Pure : Prop := ∀ (a0 : Int) (a1 : Int) (a2 : Bool), (Lit.int .i64 a0).wf = true → (Lit.int .i64 a1).wf = true → ∃ k, scarflaw03_NumTurns.f k a0 a1 a2 = some true
theorem scarflaw03_NumTurns.walk (P : scarflaw03_NumTurns.Pure) (a0 : Int) (a1 : Int) (a2 : Bool) (w : World) (hT : Tabs w) (w0 : (Lit.int .i64 a0).wf = true) (w1 : (Lit.int .i64 a1).wf = true) :
    Calls Tryd.prog 8 #[.int .i64 a0, .int .i64 a1, .bool a2] w fun e w' => e = .returned (.bool true) ∧ Below w.heap.size w w' := by
  obtain ⟨k, h⟩ := P a0 a1 a2 w0 w1
  refine (scarflaw03_NumTurns.calls k a0 a1 a2 true w hT h).mono ?_
  rintro e w' ⟨rfl, hd⟩
  exact ⟨rfl, hd.below⟩

end Go.Proofs.YtpoapiphnhmdmaaDoor.PA
