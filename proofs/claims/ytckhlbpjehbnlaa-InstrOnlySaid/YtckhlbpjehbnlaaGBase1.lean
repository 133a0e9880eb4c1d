/- Several texts of this session, laid into one for a claim: PBx4, PBx9, PBx11, PBx12, PBx13, PBx14, PBx19. -/
import Derived.Test.YtckhlbpjehbnlaaGBase0
namespace Go.Proofs.Ytckhlbpjehbnlaa.PB
open Go.RowKit Go.Proofs.YtckhlbpjehbnlaaW.PrintWords Go.Proofs.YtckhlbpjehbnlaaW.PrintLast Go.Proofs.YtckhlbpjehbnlaaW.PrintMore
attribute [local go_sem] max2_int min2_int max_two min_two max_three min_three max_four min_four   -- for this text's walks alone
set_option linter.unusedVariables false
set_option linter.unusedSimpArgs false
mutual
def instr_Shape.j0 : Nat → Int → Int → Bool → Option (Int × Int)
  | 0, _, _, _ => none
  | k + 1, x0, x10, x11 => if x11 = true then (some (1, 0)) else (if x10 = 2 then (instr_Shape.j1 k x0 x10 (x10 == 2)) else (if x10 = 3 then (instr_Shape.j1 k x0 x10 (x10 == 3)) else (instr_Shape.j1 k x0 x10 (x10 == 4))))
def instr_Shape.j1 : Nat → Int → Int → Bool → Option (Int × Int)
  | 0, _, _, _ => none
  | k + 1, x0, x10, x18 => if x18 = true then (some (2, 0)) else (if x10 = 12 then (instr_Shape.j2 k x0 x10 (x10 == 12)) else (if x10 = 13 then (instr_Shape.j2 k x0 x10 (x10 == 13)) else (if x10 = 16 then (instr_Shape.j2 k x0 x10 (x10 == 16)) else (if x10 = 32 then (instr_Shape.j2 k x0 x10 (x10 == 32)) else (if x10 = 33 then (instr_Shape.j2 k x0 x10 (x10 == 33)) else (if x10 = 34 then (instr_Shape.j2 k x0 x10 (x10 == 34)) else (if x10 = 35 then (instr_Shape.j2 k x0 x10 (x10 == 35)) else (if x10 = 36 then (instr_Shape.j2 k x0 x10 (x10 == 36)) else (instr_Shape.j2 k x0 x10 (x10 == 210))))))))))
def instr_Shape.j2 : Nat → Int → Int → Bool → Option (Int × Int)
  | 0, _, _, _ => none
  | k + 1, x0, x10, x22 => if x22 = true then (some (3, 0)) else (if x10 = 14 then (some (4, 0)) else (if x10 = 17 then (some (5, 0)) else (if x10 = 28 then (some (6, 0)) else (if x10 = 37 then (instr_Shape.j3 k x0 x10 (x10 == 37)) else (if x10 = 38 then (instr_Shape.j3 k x0 x10 (x10 == 38)) else (if x10 = 63 then (instr_Shape.j3 k x0 x10 (x10 == 63)) else (if x10 = 64 then (instr_Shape.j3 k x0 x10 (x10 == 64)) else (if x10 = 64523 then (instr_Shape.j3 k x0 x10 (x10 == 64523)) else (if x10 = 64527 then (instr_Shape.j3 k x0 x10 (x10 == 64527)) else (if x10 = 64528 then (instr_Shape.j3 k x0 x10 (x10 == 64528)) else (instr_Shape.j3 k x0 x10 (x10 == 64529))))))))))))
def instr_Shape.j3 : Nat → Int → Int → Bool → Option (Int × Int)
  | 0, _, _, _ => none
  | k + 1, x0, x10, x38 => if x38 = true then (some (8, 0)) else (if x10 = 64522 then (instr_Shape.j4 k x0 x10 (x10 == 64522)) else (instr_Shape.j4 k x0 x10 (x10 == 64526)))
def instr_Shape.j4 : Nat → Int → Int → Bool → Option (Int × Int)
  | 0, _, _, _ => none
  | k + 1, x0, x10, x47 => if x47 = true then (some (9, 0)) else (if x10 = 65 then (instr_Shape.j5 k x0 x10 (x10 == 65)) else (instr_Shape.j5 k x0 x10 (x10 == 66)))
def instr_Shape.j5 : Nat → Int → Int → Bool → Option (Int × Int)
  | 0, _, _, _ => none
  | k + 1, x0, x10, x50 => if x50 = true then (some (10, 0)) else (if x10 = 208 then (some (11, 0)) else ((mem_Width.f k x0).bind fun bt101 => (if bt101.1 > 0 then (some (7, 0)) else ((num_Sig.f k x0).bind fun bt104 => (if bt104.1 > 0 then (some (1, 0)) else ((instr_float.f k x0).bind fun t107 => (if t107 = true then (some (0, 3)) else (if x0 = 253 then (some (0, 4)) else (some (0, 5))))))))))
end
def instr_Shape.f (k : Nat) (a0 : Int) : Option (Int × Int) := if a0 = 0 then (instr_Shape.j0 k a0 a0 (a0 == 0)) else (if a0 = 1 then (instr_Shape.j0 k a0 a0 (a0 == 1)) else (if a0 = 15 then (instr_Shape.j0 k a0 a0 (a0 == 15)) else (if a0 = 26 then (instr_Shape.j0 k a0 a0 (a0 == 26)) else (if a0 = 27 then (instr_Shape.j0 k a0 a0 (a0 == 27)) else (instr_Shape.j0 k a0 a0 (a0 == 209))))))
theorem instr_Shape.mono_l : ∀ k, (∀ y0 y1 y2, LeO (instr_Shape.j0 k y0 y1 y2) (instr_Shape.j0 (k + 1) y0 y1 y2)) ∧ (∀ y0 y1 y2, LeO (instr_Shape.j1 k y0 y1 y2) (instr_Shape.j1 (k + 1) y0 y1 y2)) ∧ (∀ y0 y1 y2, LeO (instr_Shape.j2 k y0 y1 y2) (instr_Shape.j2 (k + 1) y0 y1 y2)) ∧ (∀ y0 y1 y2, LeO (instr_Shape.j3 k y0 y1 y2) (instr_Shape.j3 (k + 1) y0 y1 y2)) ∧ (∀ y0 y1 y2, LeO (instr_Shape.j4 k y0 y1 y2) (instr_Shape.j4 (k + 1) y0 y1 y2)) ∧ (∀ y0 y1 y2, LeO (instr_Shape.j5 k y0 y1 y2) (instr_Shape.j5 (k + 1) y0 y1 y2))
  | 0 => ⟨fun _ _ _ r h => by simp [instr_Shape.j0] at h, fun _ _ _ r h => by simp [instr_Shape.j1] at h, fun _ _ _ r h => by simp [instr_Shape.j2] at h, fun _ _ _ r h => by simp [instr_Shape.j3] at h, fun _ _ _ r h => by simp [instr_Shape.j4] at h, fun _ _ _ r h => by simp [instr_Shape.j5] at h⟩
  | k + 1 => by
    obtain ⟨ih0, ih1, ih2, ih3, ih4, ih5⟩ := instr_Shape.mono_l k
    refine ⟨?_, ?_, ?_, ?_, ?_, ?_⟩
    · intro y0 y1 y2
      unfold instr_Shape.j0
      repeat' first
      | (with_reducible exact ih0 _ _ _)
      | (with_reducible exact ih1 _ _ _)
      | (with_reducible exact ih2 _ _ _)
      | (with_reducible exact ih3 _ _ _)
      | (with_reducible exact ih4 _ _ _)
      | (with_reducible exact ih5 _ _ _)
      | (with_reducible exact instr_float.mono _ _)
      | (with_reducible exact mem_Width.mono _ _)
      | (with_reducible exact num_Sig.mono _ _)
      | (with_reducible exact LeO.refl _)
      | (with_reducible exact LeO.none _)
      | (with_reducible refine LeO.ite ?_ ?_)
      | (with_reducible refine LeO.bind ?_ (fun _ => ?_))
      | exact ih0 _ _ _
      | exact ih1 _ _ _
      | exact ih2 _ _ _
      | exact ih3 _ _ _
      | exact ih4 _ _ _
      | exact ih5 _ _ _
      | exact instr_float.mono _ _
      | exact mem_Width.mono _ _
      | exact num_Sig.mono _ _
      | exact LeO.none _
      | refine LeO.ite ?_ ?_
      | refine LeO.bind ?_ (fun _ => ?_)
    · intro y0 y1 y2
      unfold instr_Shape.j1
      repeat' first
      | (with_reducible exact ih0 _ _ _)
      | (with_reducible exact ih1 _ _ _)
      | (with_reducible exact ih2 _ _ _)
      | (with_reducible exact ih3 _ _ _)
      | (with_reducible exact ih4 _ _ _)
      | (with_reducible exact ih5 _ _ _)
      | (with_reducible exact instr_float.mono _ _)
      | (with_reducible exact mem_Width.mono _ _)
      | (with_reducible exact num_Sig.mono _ _)
      | (with_reducible exact LeO.refl _)
      | (with_reducible exact LeO.none _)
      | (with_reducible refine LeO.ite ?_ ?_)
      | (with_reducible refine LeO.bind ?_ (fun _ => ?_))
      | exact ih0 _ _ _
      | exact ih1 _ _ _
      | exact ih2 _ _ _
      | exact ih3 _ _ _
      | exact ih4 _ _ _
      | exact ih5 _ _ _
      | exact instr_float.mono _ _
      | exact mem_Width.mono _ _
      | exact num_Sig.mono _ _
      | exact LeO.none _
      | refine LeO.ite ?_ ?_
      | refine LeO.bind ?_ (fun _ => ?_)
    · intro y0 y1 y2
      unfold instr_Shape.j2
      repeat' first
      | (with_reducible exact ih0 _ _ _)
      | (with_reducible exact ih1 _ _ _)
      | (with_reducible exact ih2 _ _ _)
      | (with_reducible exact ih3 _ _ _)
      | (with_reducible exact ih4 _ _ _)
      | (with_reducible exact ih5 _ _ _)
      | (with_reducible exact instr_float.mono _ _)
      | (with_reducible exact mem_Width.mono _ _)
      | (with_reducible exact num_Sig.mono _ _)
      | (with_reducible exact LeO.refl _)
      | (with_reducible exact LeO.none _)
      | (with_reducible refine LeO.ite ?_ ?_)
      | (with_reducible refine LeO.bind ?_ (fun _ => ?_))
      | exact ih0 _ _ _
      | exact ih1 _ _ _
      | exact ih2 _ _ _
      | exact ih3 _ _ _
      | exact ih4 _ _ _
      | exact ih5 _ _ _
      | exact instr_float.mono _ _
      | exact mem_Width.mono _ _
      | exact num_Sig.mono _ _
      | exact LeO.none _
      | refine LeO.ite ?_ ?_
      | refine LeO.bind ?_ (fun _ => ?_)
    · intro y0 y1 y2
      unfold instr_Shape.j3
      repeat' first
      | (with_reducible exact ih0 _ _ _)
      | (with_reducible exact ih1 _ _ _)
      | (with_reducible exact ih2 _ _ _)
      | (with_reducible exact ih3 _ _ _)
      | (with_reducible exact ih4 _ _ _)
      | (with_reducible exact ih5 _ _ _)
      | (with_reducible exact instr_float.mono _ _)
      | (with_reducible exact mem_Width.mono _ _)
      | (with_reducible exact num_Sig.mono _ _)
      | (with_reducible exact LeO.refl _)
      | (with_reducible exact LeO.none _)
      | (with_reducible refine LeO.ite ?_ ?_)
      | (with_reducible refine LeO.bind ?_ (fun _ => ?_))
      | exact ih0 _ _ _
      | exact ih1 _ _ _
      | exact ih2 _ _ _
      | exact ih3 _ _ _
      | exact ih4 _ _ _
      | exact ih5 _ _ _
      | exact instr_float.mono _ _
      | exact mem_Width.mono _ _
      | exact num_Sig.mono _ _
      | exact LeO.none _
      | refine LeO.ite ?_ ?_
      | refine LeO.bind ?_ (fun _ => ?_)
    · intro y0 y1 y2
      unfold instr_Shape.j4
      repeat' first
      | (with_reducible exact ih0 _ _ _)
      | (with_reducible exact ih1 _ _ _)
      | (with_reducible exact ih2 _ _ _)
      | (with_reducible exact ih3 _ _ _)
      | (with_reducible exact ih4 _ _ _)
      | (with_reducible exact ih5 _ _ _)
      | (with_reducible exact instr_float.mono _ _)
      | (with_reducible exact mem_Width.mono _ _)
      | (with_reducible exact num_Sig.mono _ _)
      | (with_reducible exact LeO.refl _)
      | (with_reducible exact LeO.none _)
      | (with_reducible refine LeO.ite ?_ ?_)
      | (with_reducible refine LeO.bind ?_ (fun _ => ?_))
      | exact ih0 _ _ _
      | exact ih1 _ _ _
      | exact ih2 _ _ _
      | exact ih3 _ _ _
      | exact ih4 _ _ _
      | exact ih5 _ _ _
      | exact instr_float.mono _ _
      | exact mem_Width.mono _ _
      | exact num_Sig.mono _ _
      | exact LeO.none _
      | refine LeO.ite ?_ ?_
      | refine LeO.bind ?_ (fun _ => ?_)
    · intro y0 y1 y2
      unfold instr_Shape.j5
      repeat' first
      | (with_reducible exact ih0 _ _ _)
      | (with_reducible exact ih1 _ _ _)
      | (with_reducible exact ih2 _ _ _)
      | (with_reducible exact ih3 _ _ _)
      | (with_reducible exact ih4 _ _ _)
      | (with_reducible exact ih5 _ _ _)
      | (with_reducible exact instr_float.mono _ _)
      | (with_reducible exact mem_Width.mono _ _)
      | (with_reducible exact num_Sig.mono _ _)
      | (with_reducible exact LeO.refl _)
      | (with_reducible exact LeO.none _)
      | (with_reducible refine LeO.ite ?_ ?_)
      | (with_reducible refine LeO.bind ?_ (fun _ => ?_))
      | exact ih0 _ _ _
      | exact ih1 _ _ _
      | exact ih2 _ _ _
      | exact ih3 _ _ _
      | exact ih4 _ _ _
      | exact ih5 _ _ _
      | exact instr_float.mono _ _
      | exact mem_Width.mono _ _
      | exact num_Sig.mono _ _
      | exact LeO.none _
      | refine LeO.ite ?_ ?_
      | refine LeO.bind ?_ (fun _ => ?_)
theorem instr_Shape.mono : ∀ a0 k, LeO (instr_Shape.f k a0) (instr_Shape.f (k + 1) a0) := by
  intro a0 k
  obtain ⟨ih0, ih1, ih2, ih3, ih4, ih5⟩ := instr_Shape.mono_l k
  unfold instr_Shape.f
  repeat' first
      | (with_reducible exact ih0 _ _ _)
      | (with_reducible exact ih1 _ _ _)
      | (with_reducible exact ih2 _ _ _)
      | (with_reducible exact ih3 _ _ _)
      | (with_reducible exact ih4 _ _ _)
      | (with_reducible exact ih5 _ _ _)
      | (with_reducible exact instr_float.mono _ _)
      | (with_reducible exact mem_Width.mono _ _)
      | (with_reducible exact num_Sig.mono _ _)
      | (with_reducible exact LeO.refl _)
      | (with_reducible exact LeO.none _)
      | (with_reducible refine LeO.ite ?_ ?_)
      | (with_reducible refine LeO.bind ?_ (fun _ => ?_))
      | exact ih0 _ _ _
      | exact ih1 _ _ _
      | exact ih2 _ _ _
      | exact ih3 _ _ _
      | exact ih4 _ _ _
      | exact ih5 _ _ _
      | exact instr_float.mono _ _
      | exact mem_Width.mono _ _
      | exact num_Sig.mono _ _
      | exact LeO.none _
      | refine LeO.ite ?_ ?_
      | refine LeO.bind ?_ (fun _ => ?_)
set_option maxHeartbeats 8000000 in
set_option maxRecDepth 100000 in
theorem instr_Shape.calls (k : Nat) (a0 : Int) (r1 : Int) (r2 : Int) (w : World) (h : instr_Shape.f k a0 = some (r1, r2)) :
    Calls Try.prog 10 #[.int .i64 a0] w fun e w' => e = .returned (.tuple #[.int .i64 r1, .int .i64 r2]) ∧ Drawn0 w w' := by
  have H : (if a0 = 0 then (instr_Shape.j0 k a0 a0 (a0 == 0)) else (if a0 = 1 then (instr_Shape.j0 k a0 a0 (a0 == 1)) else (if a0 = 15 then (instr_Shape.j0 k a0 a0 (a0 == 15)) else (if a0 = 26 then (instr_Shape.j0 k a0 a0 (a0 == 26)) else (if a0 = 27 then (instr_Shape.j0 k a0 a0 (a0 == 27)) else (instr_Shape.j0 k a0 a0 (a0 == 209))))))) = some (r1, r2) := h
  clear h
  have HC2 := Aside0.mk H
  clear H
  go_enter Try.func10, Try.ntmps10
  go_upto_if 11 with (fail)
  go_cut [11] (fun v11 wc => ∃ (kq : Nat) (x11_1 : Bool), v11 = .bool x11_1 ∧ Aside0 (instr_Shape.j0 kq a0 a0 x11_1 = some (r1, r2)) ∧ Aside0 (kq ≤ k) ∧ Drawn0 w wc)
  case first =>
    have H := HC2.out
    clear HC2
    by_cases c3 : a0 = 0
    · rw [if_pos c3] at H
      have c3b0 : (a0 == 0) = true := beq_iff_eq.mpr c3
      have c3b1 : (a0 != 0) = false := bne_eq_false_iff_eq.mpr c3
      clear c3
      (first | rw [c3b0] | (simp only [i64_w, i32_w]; rw [c3b0]) | skip)
      have H' := Aside0.mk H
      clear H
      go_wp2
      go_meet
      case rel => exact ⟨_, ((a0 == 0)), (by first | rfl | (simp; done) | (simp [*]; done)), H', ⟨by first | omega | exact Nat.le_refl _⟩, by repeat (first | exact Drawn0.refl _ | apply Drawn0.step)⟩
    · rw [if_neg c3] at H
      have c3b0 : (a0 == 0) = false := beq_eq_false_iff_ne.mpr c3
      have c3b1 : (a0 != 0) = true := bne_iff_ne.mpr c3
      (first | rw [c3b0] | (simp only [i64_w, i32_w]; rw [c3b0]) | skip)
      by_cases c4 : a0 = 1
      · rw [if_pos c4] at H
        have c4b0 : (a0 == 1) = true := beq_iff_eq.mpr c4
        have c4b1 : (a0 != 1) = false := bne_eq_false_iff_eq.mpr c4
        clear c4
        have H' := Aside0.mk H
        clear H
        go_wp2
        go_meet
        case rel => exact ⟨_, ((a0 == 1)), (by first | rfl | (simp; done) | (simp [*]; done)), H', ⟨by first | omega | exact Nat.le_refl _⟩, by repeat (first | exact Drawn0.refl _ | apply Drawn0.step)⟩
      · rw [if_neg c4] at H
        have c4b0 : (a0 == 1) = false := beq_eq_false_iff_ne.mpr c4
        have c4b1 : (a0 != 1) = true := bne_iff_ne.mpr c4
        by_cases c5 : a0 = 15
        · rw [if_pos c5] at H
          have c5b0 : (a0 == 15) = true := beq_iff_eq.mpr c5
          have c5b1 : (a0 != 15) = false := bne_eq_false_iff_eq.mpr c5
          clear c5
          have H' := Aside0.mk H
          clear H
          go_wp2
          go_meet
          case rel => exact ⟨_, ((a0 == 15)), (by first | rfl | (simp; done) | (simp [*]; done)), H', ⟨by first | omega | exact Nat.le_refl _⟩, by repeat (first | exact Drawn0.refl _ | apply Drawn0.step)⟩
        · rw [if_neg c5] at H
          have c5b0 : (a0 == 15) = false := beq_eq_false_iff_ne.mpr c5
          have c5b1 : (a0 != 15) = true := bne_iff_ne.mpr c5
          by_cases c6 : a0 = 26
          · rw [if_pos c6] at H
            have c6b0 : (a0 == 26) = true := beq_iff_eq.mpr c6
            have c6b1 : (a0 != 26) = false := bne_eq_false_iff_eq.mpr c6
            clear c6
            have H' := Aside0.mk H
            clear H
            go_wp2
            go_meet
            case rel => exact ⟨_, ((a0 == 26)), (by first | rfl | (simp; done) | (simp [*]; done)), H', ⟨by first | omega | exact Nat.le_refl _⟩, by repeat (first | exact Drawn0.refl _ | apply Drawn0.step)⟩
          · rw [if_neg c6] at H
            have c6b0 : (a0 == 26) = false := beq_eq_false_iff_ne.mpr c6
            have c6b1 : (a0 != 26) = true := bne_iff_ne.mpr c6
            by_cases c7 : a0 = 27
            · rw [if_pos c7] at H
              have c7b0 : (a0 == 27) = true := beq_iff_eq.mpr c7
              have c7b1 : (a0 != 27) = false := bne_eq_false_iff_eq.mpr c7
              clear c7
              have H' := Aside0.mk H
              clear H
              go_wp2
              go_meet
              case rel => exact ⟨_, ((a0 == 27)), (by first | rfl | (simp; done) | (simp [*]; done)), H', ⟨by first | omega | exact Nat.le_refl _⟩, by repeat (first | exact Drawn0.refl _ | apply Drawn0.step)⟩
            · rw [if_neg c7] at H
              have c7b0 : (a0 == 27) = false := beq_eq_false_iff_ne.mpr c7
              have c7b1 : (a0 != 27) = true := bne_iff_ne.mpr c7
              have H' := Aside0.mk H
              clear H
              go_wp2
              go_meet
              case rel => exact ⟨_, ((a0 == 209)), (by first | rfl | (simp; done) | (simp [*]; done)), H', ⟨by first | omega | exact Nat.le_refl _⟩, by repeat (first | exact Drawn0.refl _ | apply Drawn0.step)⟩
  case rest =>
    clear HC2
    try clear c1
    try clear p2
    try clear c3
    try clear c3b0
    try clear c3b1
    try clear c4
    try clear c4b0
    try clear c4b1
    try clear c5
    try clear c5b0
    try clear c5b1
    try clear c6
    try clear c6b0
    try clear c6b1
    try clear c7
    try clear c7b0
    try clear c7b1
    obtain ⟨kq, x11_1, rfl, HA, HJ1, ⟨mc1, rfl⟩⟩ := hcut
    cases kq with
    | zero => exact absurd HA.out (by simp [instr_Shape.j0])
    | succ kj1 =>
      have H := HA.out
      clear HA
      simp only [instr_Shape.j0] at H
      by_cases c8 : x11_1 = true
      · subst c8
        have H1 : (some (1, 0)) = some (r1, r2) := by rw [if_pos rfl] at H; exact H
        clear H
        have H := H1
        clear H1
        simp only [Option.some.injEq, Prod.mk.injEq] at H
        obtain ⟨rfl, rfl⟩ := H
        go_wp2
        go_ret2
        exact ⟨by first | rfl | (simp; done) | (simp [*]; done), by repeat (first | exact Drawn0.refl _ | apply Drawn0.step)⟩
      · replace c8 := Bool.eq_false_iff.mpr c8
        subst c8
        have H1 : (if a0 = 2 then (instr_Shape.j1 kj1 a0 a0 (a0 == 2)) else (if a0 = 3 then (instr_Shape.j1 kj1 a0 a0 (a0 == 3)) else (instr_Shape.j1 kj1 a0 a0 (a0 == 4)))) = some (r1, r2) := by rw [if_neg (show ¬ (false = true) by decide)] at H; exact H
        clear H
        have H := H1
        clear H1
        have HC9 := Aside0.mk H
        clear H
        go_upto_if 18 with (fail)
        go_cut [18] (fun v18 wc => ∃ (kq : Nat) (x18_8 : Bool), v18 = .bool x18_8 ∧ Aside0 (instr_Shape.j1 kq a0 a0 x18_8 = some (r1, r2)) ∧ Aside0 (kq ≤ kj1) ∧ Drawn0 w wc)
        case first =>
          have H := HC9.out
          clear HC9
          by_cases c10 : a0 = 2
          · rw [if_pos c10] at H
            have c10b0 : (a0 == 2) = true := beq_iff_eq.mpr c10
            have c10b1 : (a0 != 2) = false := bne_eq_false_iff_eq.mpr c10
            clear c10
            (first | rw [c10b0] | (simp only [i64_w, i32_w]; rw [c10b0]) | skip)
            have H' := Aside0.mk H
            clear H
            go_wp2
            go_meet
            case rel => exact ⟨_, ((a0 == 2)), (by first | rfl | (simp; done) | (simp [*]; done)), H', ⟨by have := HJ1.out; first | omega | exact Nat.le_refl _⟩, by repeat (first | exact Drawn0.refl _ | apply Drawn0.step)⟩
          · rw [if_neg c10] at H
            have c10b0 : (a0 == 2) = false := beq_eq_false_iff_ne.mpr c10
            have c10b1 : (a0 != 2) = true := bne_iff_ne.mpr c10
            (first | rw [c10b0] | (simp only [i64_w, i32_w]; rw [c10b0]) | skip)
            by_cases c11 : a0 = 3
            · rw [if_pos c11] at H
              have c11b0 : (a0 == 3) = true := beq_iff_eq.mpr c11
              have c11b1 : (a0 != 3) = false := bne_eq_false_iff_eq.mpr c11
              clear c11
              have H' := Aside0.mk H
              clear H
              go_wp2
              go_meet
              case rel => exact ⟨_, ((a0 == 3)), (by first | rfl | (simp; done) | (simp [*]; done)), H', ⟨by have := HJ1.out; first | omega | exact Nat.le_refl _⟩, by repeat (first | exact Drawn0.refl _ | apply Drawn0.step)⟩
            · rw [if_neg c11] at H
              have c11b0 : (a0 == 3) = false := beq_eq_false_iff_ne.mpr c11
              have c11b1 : (a0 != 3) = true := bne_iff_ne.mpr c11
              have H' := Aside0.mk H
              clear H
              go_wp2
              go_meet
              case rel => exact ⟨_, ((a0 == 4)), (by first | rfl | (simp; done) | (simp [*]; done)), H', ⟨by have := HJ1.out; first | omega | exact Nat.le_refl _⟩, by repeat (first | exact Drawn0.refl _ | apply Drawn0.step)⟩
        case rest =>
          clear HC9
          try clear c1
          try clear p2
          try clear c3
          try clear c3b0
          try clear c3b1
          try clear c4
          try clear c4b0
          try clear c4b1
          try clear c5
          try clear c5b0
          try clear c5b1
          try clear c6
          try clear c6b0
          try clear c6b1
          try clear c7
          try clear c7b0
          try clear c7b1
          try clear c8
          try clear c10
          try clear c10b0
          try clear c10b1
          try clear c11
          try clear c11b0
          try clear c11b1
          try clear p2
          obtain ⟨kq, x18_8, rfl, HA, HJ8, ⟨mc8, rfl⟩⟩ := hcut
          cases kq with
          | zero => exact absurd HA.out (by simp [instr_Shape.j1])
          | succ kj8 =>
            have H := HA.out
            clear HA
            simp only [instr_Shape.j1] at H
            by_cases c12 : x18_8 = true
            · subst c12
              have H1 : (some (2, 0)) = some (r1, r2) := by rw [if_pos rfl] at H; exact H
              clear H
              have H := H1
              clear H1
              simp only [Option.some.injEq, Prod.mk.injEq] at H
              obtain ⟨rfl, rfl⟩ := H
              go_wp2
              go_ret2
              exact ⟨by first | rfl | (simp; done) | (simp [*]; done), by repeat (first | exact Drawn0.refl _ | apply Drawn0.step)⟩
            · replace c12 := Bool.eq_false_iff.mpr c12
              subst c12
              have H1 : (if a0 = 12 then (instr_Shape.j2 kj8 a0 a0 (a0 == 12)) else (if a0 = 13 then (instr_Shape.j2 kj8 a0 a0 (a0 == 13)) else (if a0 = 16 then (instr_Shape.j2 kj8 a0 a0 (a0 == 16)) else (if a0 = 32 then (instr_Shape.j2 kj8 a0 a0 (a0 == 32)) else (if a0 = 33 then (instr_Shape.j2 kj8 a0 a0 (a0 == 33)) else (if a0 = 34 then (instr_Shape.j2 kj8 a0 a0 (a0 == 34)) else (if a0 = 35 then (instr_Shape.j2 kj8 a0 a0 (a0 == 35)) else (if a0 = 36 then (instr_Shape.j2 kj8 a0 a0 (a0 == 36)) else (instr_Shape.j2 kj8 a0 a0 (a0 == 210)))))))))) = some (r1, r2) := by rw [if_neg (show ¬ (false = true) by decide)] at H; exact H
              clear H
              have H := H1
              clear H1
              have HC13 := Aside0.mk H
              clear H
              go_upto_if 22 with (fail)
              go_cut [22] (fun v22 wc => ∃ (kq : Nat) (x22_12 : Bool), v22 = .bool x22_12 ∧ Aside0 (instr_Shape.j2 kq a0 a0 x22_12 = some (r1, r2)) ∧ Aside0 (kq ≤ kj8) ∧ Drawn0 w wc)
              case first =>
                have H := HC13.out
                clear HC13
                by_cases c14 : a0 = 12
                · rw [if_pos c14] at H
                  have c14b0 : (a0 == 12) = true := beq_iff_eq.mpr c14
                  have c14b1 : (a0 != 12) = false := bne_eq_false_iff_eq.mpr c14
                  clear c14
                  (first | rw [c14b0] | (simp only [i64_w, i32_w]; rw [c14b0]) | skip)
                  have H' := Aside0.mk H
                  clear H
                  go_wp2
                  go_meet
                  case rel => exact ⟨_, ((a0 == 12)), (by first | rfl | (simp; done) | (simp [*]; done)), H', ⟨by have := HJ1.out; have := HJ8.out; first | omega | exact Nat.le_refl _⟩, by repeat (first | exact Drawn0.refl _ | apply Drawn0.step)⟩
                · rw [if_neg c14] at H
                  have c14b0 : (a0 == 12) = false := beq_eq_false_iff_ne.mpr c14
                  have c14b1 : (a0 != 12) = true := bne_iff_ne.mpr c14
                  (first | rw [c14b0] | (simp only [i64_w, i32_w]; rw [c14b0]) | skip)
                  by_cases c15 : a0 = 13
                  · rw [if_pos c15] at H
                    have c15b0 : (a0 == 13) = true := beq_iff_eq.mpr c15
                    have c15b1 : (a0 != 13) = false := bne_eq_false_iff_eq.mpr c15
                    clear c15
                    have H' := Aside0.mk H
                    clear H
                    go_wp2
                    go_meet
                    case rel => exact ⟨_, ((a0 == 13)), (by first | rfl | (simp; done) | (simp [*]; done)), H', ⟨by have := HJ1.out; have := HJ8.out; first | omega | exact Nat.le_refl _⟩, by repeat (first | exact Drawn0.refl _ | apply Drawn0.step)⟩
                  · rw [if_neg c15] at H
                    have c15b0 : (a0 == 13) = false := beq_eq_false_iff_ne.mpr c15
                    have c15b1 : (a0 != 13) = true := bne_iff_ne.mpr c15
                    by_cases c16 : a0 = 16
                    · rw [if_pos c16] at H
                      have c16b0 : (a0 == 16) = true := beq_iff_eq.mpr c16
                      have c16b1 : (a0 != 16) = false := bne_eq_false_iff_eq.mpr c16
                      clear c16
                      have H' := Aside0.mk H
                      clear H
                      go_wp2
                      go_meet
                      case rel => exact ⟨_, ((a0 == 16)), (by first | rfl | (simp; done) | (simp [*]; done)), H', ⟨by have := HJ1.out; have := HJ8.out; first | omega | exact Nat.le_refl _⟩, by repeat (first | exact Drawn0.refl _ | apply Drawn0.step)⟩
                    · rw [if_neg c16] at H
                      have c16b0 : (a0 == 16) = false := beq_eq_false_iff_ne.mpr c16
                      have c16b1 : (a0 != 16) = true := bne_iff_ne.mpr c16
                      by_cases c17 : a0 = 32
                      · rw [if_pos c17] at H
                        have c17b0 : (a0 == 32) = true := beq_iff_eq.mpr c17
                        have c17b1 : (a0 != 32) = false := bne_eq_false_iff_eq.mpr c17
                        clear c17
                        have H' := Aside0.mk H
                        clear H
                        go_wp2
                        go_meet
                        case rel => exact ⟨_, ((a0 == 32)), (by first | rfl | (simp; done) | (simp [*]; done)), H', ⟨by have := HJ1.out; have := HJ8.out; first | omega | exact Nat.le_refl _⟩, by repeat (first | exact Drawn0.refl _ | apply Drawn0.step)⟩
                      · rw [if_neg c17] at H
                        have c17b0 : (a0 == 32) = false := beq_eq_false_iff_ne.mpr c17
                        have c17b1 : (a0 != 32) = true := bne_iff_ne.mpr c17
                        by_cases c18 : a0 = 33
                        · rw [if_pos c18] at H
                          have c18b0 : (a0 == 33) = true := beq_iff_eq.mpr c18
                          have c18b1 : (a0 != 33) = false := bne_eq_false_iff_eq.mpr c18
                          clear c18
                          have H' := Aside0.mk H
                          clear H
                          go_wp2
                          go_meet
                          case rel => exact ⟨_, ((a0 == 33)), (by first | rfl | (simp; done) | (simp [*]; done)), H', ⟨by have := HJ1.out; have := HJ8.out; first | omega | exact Nat.le_refl _⟩, by repeat (first | exact Drawn0.refl _ | apply Drawn0.step)⟩
                        · rw [if_neg c18] at H
                          have c18b0 : (a0 == 33) = false := beq_eq_false_iff_ne.mpr c18
                          have c18b1 : (a0 != 33) = true := bne_iff_ne.mpr c18
                          by_cases c19 : a0 = 34
                          · rw [if_pos c19] at H
                            have c19b0 : (a0 == 34) = true := beq_iff_eq.mpr c19
                            have c19b1 : (a0 != 34) = false := bne_eq_false_iff_eq.mpr c19
                            clear c19
                            have H' := Aside0.mk H
                            clear H
                            go_wp2
                            go_meet
                            case rel => exact ⟨_, ((a0 == 34)), (by first | rfl | (simp; done) | (simp [*]; done)), H', ⟨by have := HJ1.out; have := HJ8.out; first | omega | exact Nat.le_refl _⟩, by repeat (first | exact Drawn0.refl _ | apply Drawn0.step)⟩
                          · rw [if_neg c19] at H
                            have c19b0 : (a0 == 34) = false := beq_eq_false_iff_ne.mpr c19
                            have c19b1 : (a0 != 34) = true := bne_iff_ne.mpr c19
                            by_cases c20 : a0 = 35
                            · rw [if_pos c20] at H
                              have c20b0 : (a0 == 35) = true := beq_iff_eq.mpr c20
                              have c20b1 : (a0 != 35) = false := bne_eq_false_iff_eq.mpr c20
                              clear c20
                              have H' := Aside0.mk H
                              clear H
                              go_wp2
                              go_meet
                              case rel => exact ⟨_, ((a0 == 35)), (by first | rfl | (simp; done) | (simp [*]; done)), H', ⟨by have := HJ1.out; have := HJ8.out; first | omega | exact Nat.le_refl _⟩, by repeat (first | exact Drawn0.refl _ | apply Drawn0.step)⟩
                            · rw [if_neg c20] at H
                              have c20b0 : (a0 == 35) = false := beq_eq_false_iff_ne.mpr c20
                              have c20b1 : (a0 != 35) = true := bne_iff_ne.mpr c20
                              by_cases c21 : a0 = 36
                              · rw [if_pos c21] at H
                                have c21b0 : (a0 == 36) = true := beq_iff_eq.mpr c21
                                have c21b1 : (a0 != 36) = false := bne_eq_false_iff_eq.mpr c21
                                clear c21
                                have H' := Aside0.mk H
                                clear H
                                go_wp2
                                go_meet
                                case rel => exact ⟨_, ((a0 == 36)), (by first | rfl | (simp; done) | (simp [*]; done)), H', ⟨by have := HJ1.out; have := HJ8.out; first | omega | exact Nat.le_refl _⟩, by repeat (first | exact Drawn0.refl _ | apply Drawn0.step)⟩
                              · rw [if_neg c21] at H
                                have c21b0 : (a0 == 36) = false := beq_eq_false_iff_ne.mpr c21
                                have c21b1 : (a0 != 36) = true := bne_iff_ne.mpr c21
                                have H' := Aside0.mk H
                                clear H
                                go_wp2
                                go_meet
                                case rel => exact ⟨_, ((a0 == 210)), (by first | rfl | (simp; done) | (simp [*]; done)), H', ⟨by have := HJ1.out; have := HJ8.out; first | omega | exact Nat.le_refl _⟩, by repeat (first | exact Drawn0.refl _ | apply Drawn0.step)⟩
              case rest =>
                clear HC13
                try clear c1
                try clear c2
                try clear p2
                try clear c3
                try clear c3b0
                try clear c3b1
                try clear c4
                try clear c4b0
                try clear c4b1
                try clear c5
                try clear c5b0
                try clear c5b1
                try clear c6
                try clear c6b0
                try clear c6b1
                try clear c7
                try clear c7b0
                try clear c7b1
                try clear c8
                try clear c10
                try clear c10b0
                try clear c10b1
                try clear c11
                try clear c11b0
                try clear c11b1
                try clear c12
                try clear c14
                try clear c14b0
                try clear c14b1
                try clear c15
                try clear c15b0
                try clear c15b1
                try clear c16
                try clear c16b0
                try clear c16b1
                try clear c17
                try clear c17b0
                try clear c17b1
                try clear c18
                try clear c18b0
                try clear c18b1
                try clear c19
                try clear c19b0
                try clear c19b1
                try clear c20
                try clear c20b0
                try clear c20b1
                try clear c21
                try clear c21b0
                try clear c21b1
                try clear p2
                obtain ⟨kq, x22_12, rfl, HA, HJ12, ⟨mc12, rfl⟩⟩ := hcut
                cases kq with
                | zero => exact absurd HA.out (by simp [instr_Shape.j2])
                | succ kj12 =>
                  have H := HA.out
                  clear HA
                  simp only [instr_Shape.j2] at H
                  by_cases c22 : x22_12 = true
                  · subst c22
                    have H1 : (some (3, 0)) = some (r1, r2) := by rw [if_pos rfl] at H; exact H
                    clear H
                    have H := H1
                    clear H1
                    simp only [Option.some.injEq, Prod.mk.injEq] at H
                    obtain ⟨rfl, rfl⟩ := H
                    go_wp2
                    go_ret2
                    exact ⟨by first | rfl | (simp; done) | (simp [*]; done), by repeat (first | exact Drawn0.refl _ | apply Drawn0.step)⟩
                  · replace c22 := Bool.eq_false_iff.mpr c22
                    subst c22
                    have H1 : (if a0 = 14 then (some (4, 0)) else (if a0 = 17 then (some (5, 0)) else (if a0 = 28 then (some (6, 0)) else (if a0 = 37 then (instr_Shape.j3 kj12 a0 a0 (a0 == 37)) else (if a0 = 38 then (instr_Shape.j3 kj12 a0 a0 (a0 == 38)) else (if a0 = 63 then (instr_Shape.j3 kj12 a0 a0 (a0 == 63)) else (if a0 = 64 then (instr_Shape.j3 kj12 a0 a0 (a0 == 64)) else (if a0 = 64523 then (instr_Shape.j3 kj12 a0 a0 (a0 == 64523)) else (if a0 = 64527 then (instr_Shape.j3 kj12 a0 a0 (a0 == 64527)) else (if a0 = 64528 then (instr_Shape.j3 kj12 a0 a0 (a0 == 64528)) else (instr_Shape.j3 kj12 a0 a0 (a0 == 64529)))))))))))) = some (r1, r2) := by rw [if_neg (show ¬ (false = true) by decide)] at H; exact H
                    clear H
                    have H := H1
                    clear H1
                    by_cases c23 : a0 = 14
                    · rw [if_pos c23] at H
                      have c23b0 : (a0 == 14) = true := beq_iff_eq.mpr c23
                      have c23b1 : (a0 != 14) = false := bne_eq_false_iff_eq.mpr c23
                      clear c23
                      simp only [Option.some.injEq, Prod.mk.injEq] at H
                      obtain ⟨rfl, rfl⟩ := H
                      go_wp2
                      go_ret2
                      exact ⟨by first | rfl | (simp; done) | (simp [*]; done), by repeat (first | exact Drawn0.refl _ | apply Drawn0.step)⟩
                    · rw [if_neg c23] at H
                      have c23b0 : (a0 == 14) = false := beq_eq_false_iff_ne.mpr c23
                      have c23b1 : (a0 != 14) = true := bne_iff_ne.mpr c23
                      by_cases c24 : a0 = 17
                      · rw [if_pos c24] at H
                        have c24b0 : (a0 == 17) = true := beq_iff_eq.mpr c24
                        have c24b1 : (a0 != 17) = false := bne_eq_false_iff_eq.mpr c24
                        clear c24
                        simp only [Option.some.injEq, Prod.mk.injEq] at H
                        obtain ⟨rfl, rfl⟩ := H
                        go_wp2
                        go_ret2
                        exact ⟨by first | rfl | (simp; done) | (simp [*]; done), by repeat (first | exact Drawn0.refl _ | apply Drawn0.step)⟩
                      · rw [if_neg c24] at H
                        have c24b0 : (a0 == 17) = false := beq_eq_false_iff_ne.mpr c24
                        have c24b1 : (a0 != 17) = true := bne_iff_ne.mpr c24
                        by_cases c25 : a0 = 28
                        · rw [if_pos c25] at H
                          have c25b0 : (a0 == 28) = true := beq_iff_eq.mpr c25
                          have c25b1 : (a0 != 28) = false := bne_eq_false_iff_eq.mpr c25
                          clear c25
                          simp only [Option.some.injEq, Prod.mk.injEq] at H
                          obtain ⟨rfl, rfl⟩ := H
                          go_wp2
                          go_ret2
                          exact ⟨by first | rfl | (simp; done) | (simp [*]; done), by repeat (first | exact Drawn0.refl _ | apply Drawn0.step)⟩
                        · rw [if_neg c25] at H
                          have c25b0 : (a0 == 28) = false := beq_eq_false_iff_ne.mpr c25
                          have c25b1 : (a0 != 28) = true := bne_iff_ne.mpr c25
                          have HC26 := Aside0.mk H
                          clear H
                          go_upto_if 38 with (fail)
                          go_cut [38] (fun v38 wc => ∃ (kq : Nat) (x38_25 : Bool), v38 = .bool x38_25 ∧ Aside0 (instr_Shape.j3 kq a0 a0 x38_25 = some (r1, r2)) ∧ Aside0 (kq ≤ kj12) ∧ Drawn0 w wc)
                          case first =>
                            have H := HC26.out
                            clear HC26
                            by_cases c27 : a0 = 37
                            · rw [if_pos c27] at H
                              have c27b0 : (a0 == 37) = true := beq_iff_eq.mpr c27
                              have c27b1 : (a0 != 37) = false := bne_eq_false_iff_eq.mpr c27
                              clear c27
                              (first | rw [c27b0] | (simp only [i64_w, i32_w]; rw [c27b0]) | skip)
                              have H' := Aside0.mk H
                              clear H
                              go_wp2
                              go_meet
                              case rel => exact ⟨_, ((a0 == 37)), (by first | rfl | (simp; done) | (simp [*]; done)), H', ⟨by have := HJ1.out; have := HJ8.out; have := HJ12.out; first | omega | exact Nat.le_refl _⟩, by repeat (first | exact Drawn0.refl _ | apply Drawn0.step)⟩
                            · rw [if_neg c27] at H
                              have c27b0 : (a0 == 37) = false := beq_eq_false_iff_ne.mpr c27
                              have c27b1 : (a0 != 37) = true := bne_iff_ne.mpr c27
                              (first | rw [c27b0] | (simp only [i64_w, i32_w]; rw [c27b0]) | skip)
                              by_cases c28 : a0 = 38
                              · rw [if_pos c28] at H
                                have c28b0 : (a0 == 38) = true := beq_iff_eq.mpr c28
                                have c28b1 : (a0 != 38) = false := bne_eq_false_iff_eq.mpr c28
                                clear c28
                                have H' := Aside0.mk H
                                clear H
                                go_wp2
                                go_meet
                                case rel => exact ⟨_, ((a0 == 38)), (by first | rfl | (simp; done) | (simp [*]; done)), H', ⟨by have := HJ1.out; have := HJ8.out; have := HJ12.out; first | omega | exact Nat.le_refl _⟩, by repeat (first | exact Drawn0.refl _ | apply Drawn0.step)⟩
                              · rw [if_neg c28] at H
                                have c28b0 : (a0 == 38) = false := beq_eq_false_iff_ne.mpr c28
                                have c28b1 : (a0 != 38) = true := bne_iff_ne.mpr c28
                                by_cases c29 : a0 = 63
                                · rw [if_pos c29] at H
                                  have c29b0 : (a0 == 63) = true := beq_iff_eq.mpr c29
                                  have c29b1 : (a0 != 63) = false := bne_eq_false_iff_eq.mpr c29
                                  clear c29
                                  have H' := Aside0.mk H
                                  clear H
                                  go_wp2
                                  go_meet
                                  case rel => exact ⟨_, ((a0 == 63)), (by first | rfl | (simp; done) | (simp [*]; done)), H', ⟨by have := HJ1.out; have := HJ8.out; have := HJ12.out; first | omega | exact Nat.le_refl _⟩, by repeat (first | exact Drawn0.refl _ | apply Drawn0.step)⟩
                                · rw [if_neg c29] at H
                                  have c29b0 : (a0 == 63) = false := beq_eq_false_iff_ne.mpr c29
                                  have c29b1 : (a0 != 63) = true := bne_iff_ne.mpr c29
                                  by_cases c30 : a0 = 64
                                  · rw [if_pos c30] at H
                                    have c30b0 : (a0 == 64) = true := beq_iff_eq.mpr c30
                                    have c30b1 : (a0 != 64) = false := bne_eq_false_iff_eq.mpr c30
                                    clear c30
                                    have H' := Aside0.mk H
                                    clear H
                                    go_wp2
                                    go_meet
                                    case rel => exact ⟨_, ((a0 == 64)), (by first | rfl | (simp; done) | (simp [*]; done)), H', ⟨by have := HJ1.out; have := HJ8.out; have := HJ12.out; first | omega | exact Nat.le_refl _⟩, by repeat (first | exact Drawn0.refl _ | apply Drawn0.step)⟩
                                  · rw [if_neg c30] at H
                                    have c30b0 : (a0 == 64) = false := beq_eq_false_iff_ne.mpr c30
                                    have c30b1 : (a0 != 64) = true := bne_iff_ne.mpr c30
                                    by_cases c31 : a0 = 64523
                                    · rw [if_pos c31] at H
                                      have c31b0 : (a0 == 64523) = true := beq_iff_eq.mpr c31
                                      have c31b1 : (a0 != 64523) = false := bne_eq_false_iff_eq.mpr c31
                                      clear c31
                                      have H' := Aside0.mk H
                                      clear H
                                      go_wp2
                                      go_meet
                                      case rel => exact ⟨_, ((a0 == 64523)), (by first | rfl | (simp; done) | (simp [*]; done)), H', ⟨by have := HJ1.out; have := HJ8.out; have := HJ12.out; first | omega | exact Nat.le_refl _⟩, by repeat (first | exact Drawn0.refl _ | apply Drawn0.step)⟩
                                    · rw [if_neg c31] at H
                                      have c31b0 : (a0 == 64523) = false := beq_eq_false_iff_ne.mpr c31
                                      have c31b1 : (a0 != 64523) = true := bne_iff_ne.mpr c31
                                      by_cases c32 : a0 = 64527
                                      · rw [if_pos c32] at H
                                        have c32b0 : (a0 == 64527) = true := beq_iff_eq.mpr c32
                                        have c32b1 : (a0 != 64527) = false := bne_eq_false_iff_eq.mpr c32
                                        clear c32
                                        have H' := Aside0.mk H
                                        clear H
                                        go_wp2
                                        go_meet
                                        case rel => exact ⟨_, ((a0 == 64527)), (by first | rfl | (simp; done) | (simp [*]; done)), H', ⟨by have := HJ1.out; have := HJ8.out; have := HJ12.out; first | omega | exact Nat.le_refl _⟩, by repeat (first | exact Drawn0.refl _ | apply Drawn0.step)⟩
                                      · rw [if_neg c32] at H
                                        have c32b0 : (a0 == 64527) = false := beq_eq_false_iff_ne.mpr c32
                                        have c32b1 : (a0 != 64527) = true := bne_iff_ne.mpr c32
                                        by_cases c33 : a0 = 64528
                                        · rw [if_pos c33] at H
                                          have c33b0 : (a0 == 64528) = true := beq_iff_eq.mpr c33
                                          have c33b1 : (a0 != 64528) = false := bne_eq_false_iff_eq.mpr c33
                                          clear c33
                                          have H' := Aside0.mk H
                                          clear H
                                          go_wp2
                                          go_meet
                                          case rel => exact ⟨_, ((a0 == 64528)), (by first | rfl | (simp; done) | (simp [*]; done)), H', ⟨by have := HJ1.out; have := HJ8.out; have := HJ12.out; first | omega | exact Nat.le_refl _⟩, by repeat (first | exact Drawn0.refl _ | apply Drawn0.step)⟩
                                        · rw [if_neg c33] at H
                                          have c33b0 : (a0 == 64528) = false := beq_eq_false_iff_ne.mpr c33
                                          have c33b1 : (a0 != 64528) = true := bne_iff_ne.mpr c33
                                          have H' := Aside0.mk H
                                          clear H
                                          go_wp2
                                          go_meet
                                          case rel => exact ⟨_, ((a0 == 64529)), (by first | rfl | (simp; done) | (simp [*]; done)), H', ⟨by have := HJ1.out; have := HJ8.out; have := HJ12.out; first | omega | exact Nat.le_refl _⟩, by repeat (first | exact Drawn0.refl _ | apply Drawn0.step)⟩
                          case rest =>
                            clear HC26
                            try clear c1
                            try clear c2
                            try clear p2
                            try clear c3
                            try clear c3b0
                            try clear c3b1
                            try clear c4
                            try clear c4b0
                            try clear c4b1
                            try clear c5
                            try clear c5b0
                            try clear c5b1
                            try clear c6
                            try clear c6b0
                            try clear c6b1
                            try clear c7
                            try clear c7b0
                            try clear c7b1
                            try clear c8
                            try clear c10
                            try clear c10b0
                            try clear c10b1
                            try clear c11
                            try clear c11b0
                            try clear c11b1
                            try clear c12
                            try clear c14
                            try clear c14b0
                            try clear c14b1
                            try clear c15
                            try clear c15b0
                            try clear c15b1
                            try clear c16
                            try clear c16b0
                            try clear c16b1
                            try clear c17
                            try clear c17b0
                            try clear c17b1
                            try clear c18
                            try clear c18b0
                            try clear c18b1
                            try clear c19
                            try clear c19b0
                            try clear c19b1
                            try clear c20
                            try clear c20b0
                            try clear c20b1
                            try clear c21
                            try clear c21b0
                            try clear c21b1
                            try clear c22
                            try clear c23
                            try clear c23b0
                            try clear c23b1
                            try clear c24
                            try clear c24b0
                            try clear c24b1
                            try clear c25
                            try clear c25b0
                            try clear c25b1
                            try clear c27
                            try clear c27b0
                            try clear c27b1
                            try clear c28
                            try clear c28b0
                            try clear c28b1
                            try clear c29
                            try clear c29b0
                            try clear c29b1
                            try clear c30
                            try clear c30b0
                            try clear c30b1
                            try clear c31
                            try clear c31b0
                            try clear c31b1
                            try clear c32
                            try clear c32b0
                            try clear c32b1
                            try clear c33
                            try clear c33b0
                            try clear c33b1
                            try clear p2
                            obtain ⟨kq, x38_25, rfl, HA, HJ25, ⟨mc25, rfl⟩⟩ := hcut
                            cases kq with
                            | zero => exact absurd HA.out (by simp [instr_Shape.j3])
                            | succ kj25 =>
                              have H := HA.out
                              clear HA
                              simp only [instr_Shape.j3] at H
                              by_cases c34 : x38_25 = true
                              · subst c34
                                have H1 : (some (8, 0)) = some (r1, r2) := by rw [if_pos rfl] at H; exact H
                                clear H
                                have H := H1
                                clear H1
                                simp only [Option.some.injEq, Prod.mk.injEq] at H
                                obtain ⟨rfl, rfl⟩ := H
                                go_wp2
                                go_ret2
                                exact ⟨by first | rfl | (simp; done) | (simp [*]; done), by repeat (first | exact Drawn0.refl _ | apply Drawn0.step)⟩
                              · replace c34 := Bool.eq_false_iff.mpr c34
                                subst c34
                                have H1 : (if a0 = 64522 then (instr_Shape.j4 kj25 a0 a0 (a0 == 64522)) else (instr_Shape.j4 kj25 a0 a0 (a0 == 64526))) = some (r1, r2) := by rw [if_neg (show ¬ (false = true) by decide)] at H; exact H
                                clear H
                                have H := H1
                                clear H1
                                have HC35 := Aside0.mk H
                                clear H
                                go_upto_if 47 with (fail)
                                go_cut [47] (fun v47 wc => ∃ (kq : Nat) (x47_34 : Bool), v47 = .bool x47_34 ∧ Aside0 (instr_Shape.j4 kq a0 a0 x47_34 = some (r1, r2)) ∧ Aside0 (kq ≤ kj25) ∧ Drawn0 w wc)
                                case first =>
                                  have H := HC35.out
                                  clear HC35
                                  by_cases c36 : a0 = 64522
                                  · rw [if_pos c36] at H
                                    have c36b0 : (a0 == 64522) = true := beq_iff_eq.mpr c36
                                    have c36b1 : (a0 != 64522) = false := bne_eq_false_iff_eq.mpr c36
                                    clear c36
                                    (first | rw [c36b0] | (simp only [i64_w, i32_w]; rw [c36b0]) | skip)
                                    have H' := Aside0.mk H
                                    clear H
                                    go_wp2
                                    go_meet
                                    case rel => exact ⟨_, ((a0 == 64522)), (by first | rfl | (simp; done) | (simp [*]; done)), H', ⟨by have := HJ1.out; have := HJ8.out; have := HJ12.out; have := HJ25.out; first | omega | exact Nat.le_refl _⟩, by repeat (first | exact Drawn0.refl _ | apply Drawn0.step)⟩
                                  · rw [if_neg c36] at H
                                    have c36b0 : (a0 == 64522) = false := beq_eq_false_iff_ne.mpr c36
                                    have c36b1 : (a0 != 64522) = true := bne_iff_ne.mpr c36
                                    (first | rw [c36b0] | (simp only [i64_w, i32_w]; rw [c36b0]) | skip)
                                    have H' := Aside0.mk H
                                    clear H
                                    go_wp2
                                    go_meet
                                    case rel => exact ⟨_, ((a0 == 64526)), (by first | rfl | (simp; done) | (simp [*]; done)), H', ⟨by have := HJ1.out; have := HJ8.out; have := HJ12.out; have := HJ25.out; first | omega | exact Nat.le_refl _⟩, by repeat (first | exact Drawn0.refl _ | apply Drawn0.step)⟩
                                case rest =>
                                  clear HC35
                                  try clear c1
                                  try clear c2
                                  try clear p2
                                  try clear c3
                                  try clear c3b0
                                  try clear c3b1
                                  try clear c4
                                  try clear c4b0
                                  try clear c4b1
                                  try clear c5
                                  try clear c5b0
                                  try clear c5b1
                                  try clear c6
                                  try clear c6b0
                                  try clear c6b1
                                  try clear c7
                                  try clear c7b0
                                  try clear c7b1
                                  try clear c8
                                  try clear c10
                                  try clear c10b0
                                  try clear c10b1
                                  try clear c11
                                  try clear c11b0
                                  try clear c11b1
                                  try clear c12
                                  try clear c14
                                  try clear c14b0
                                  try clear c14b1
                                  try clear c15
                                  try clear c15b0
                                  try clear c15b1
                                  try clear c16
                                  try clear c16b0
                                  try clear c16b1
                                  try clear c17
                                  try clear c17b0
                                  try clear c17b1
                                  try clear c18
                                  try clear c18b0
                                  try clear c18b1
                                  try clear c19
                                  try clear c19b0
                                  try clear c19b1
                                  try clear c20
                                  try clear c20b0
                                  try clear c20b1
                                  try clear c21
                                  try clear c21b0
                                  try clear c21b1
                                  try clear c22
                                  try clear c23
                                  try clear c23b0
                                  try clear c23b1
                                  try clear c24
                                  try clear c24b0
                                  try clear c24b1
                                  try clear c25
                                  try clear c25b0
                                  try clear c25b1
                                  try clear c27
                                  try clear c27b0
                                  try clear c27b1
                                  try clear c28
                                  try clear c28b0
                                  try clear c28b1
                                  try clear c29
                                  try clear c29b0
                                  try clear c29b1
                                  try clear c30
                                  try clear c30b0
                                  try clear c30b1
                                  try clear c31
                                  try clear c31b0
                                  try clear c31b1
                                  try clear c32
                                  try clear c32b0
                                  try clear c32b1
                                  try clear c33
                                  try clear c33b0
                                  try clear c33b1
                                  try clear c34
                                  try clear c36
                                  try clear c36b0
                                  try clear c36b1
                                  try clear p2
                                  obtain ⟨kq, x47_34, rfl, HA, HJ34, ⟨mc34, rfl⟩⟩ := hcut
                                  cases kq with
                                  | zero => exact absurd HA.out (by simp [instr_Shape.j4])
                                  | succ kj34 =>
                                    have H := HA.out
                                    clear HA
                                    simp only [instr_Shape.j4] at H
                                    by_cases c37 : x47_34 = true
                                    · subst c37
                                      have H1 : (some (9, 0)) = some (r1, r2) := by rw [if_pos rfl] at H; exact H
                                      clear H
                                      have H := H1
                                      clear H1
                                      simp only [Option.some.injEq, Prod.mk.injEq] at H
                                      obtain ⟨rfl, rfl⟩ := H
                                      go_wp2
                                      go_ret2
                                      exact ⟨by first | rfl | (simp; done) | (simp [*]; done), by repeat (first | exact Drawn0.refl _ | apply Drawn0.step)⟩
                                    · replace c37 := Bool.eq_false_iff.mpr c37
                                      subst c37
                                      have H1 : (if a0 = 65 then (instr_Shape.j5 kj34 a0 a0 (a0 == 65)) else (instr_Shape.j5 kj34 a0 a0 (a0 == 66))) = some (r1, r2) := by rw [if_neg (show ¬ (false = true) by decide)] at H; exact H
                                      clear H
                                      have H := H1
                                      clear H1
                                      have HC38 := Aside0.mk H
                                      clear H
                                      go_upto_if 50 with (fail)
                                      go_cut [50] (fun v50 wc => ∃ (kq : Nat) (x50_37 : Bool), v50 = .bool x50_37 ∧ Aside0 (instr_Shape.j5 kq a0 a0 x50_37 = some (r1, r2)) ∧ Aside0 (kq ≤ kj34) ∧ Drawn0 w wc)
                                      case first =>
                                        have H := HC38.out
                                        clear HC38
                                        by_cases c39 : a0 = 65
                                        · rw [if_pos c39] at H
                                          have c39b0 : (a0 == 65) = true := beq_iff_eq.mpr c39
                                          have c39b1 : (a0 != 65) = false := bne_eq_false_iff_eq.mpr c39
                                          clear c39
                                          (first | rw [c39b0] | (simp only [i64_w, i32_w]; rw [c39b0]) | skip)
                                          have H' := Aside0.mk H
                                          clear H
                                          go_wp2
                                          go_meet
                                          case rel => exact ⟨_, ((a0 == 65)), (by first | rfl | (simp; done) | (simp [*]; done)), H', ⟨by have := HJ1.out; have := HJ8.out; have := HJ12.out; have := HJ25.out; have := HJ34.out; first | omega | exact Nat.le_refl _⟩, by repeat (first | exact Drawn0.refl _ | apply Drawn0.step)⟩
                                        · rw [if_neg c39] at H
                                          have c39b0 : (a0 == 65) = false := beq_eq_false_iff_ne.mpr c39
                                          have c39b1 : (a0 != 65) = true := bne_iff_ne.mpr c39
                                          (first | rw [c39b0] | (simp only [i64_w, i32_w]; rw [c39b0]) | skip)
                                          have H' := Aside0.mk H
                                          clear H
                                          go_wp2
                                          go_meet
                                          case rel => exact ⟨_, ((a0 == 66)), (by first | rfl | (simp; done) | (simp [*]; done)), H', ⟨by have := HJ1.out; have := HJ8.out; have := HJ12.out; have := HJ25.out; have := HJ34.out; first | omega | exact Nat.le_refl _⟩, by repeat (first | exact Drawn0.refl _ | apply Drawn0.step)⟩
                                      case rest =>
                                        clear HC38
                                        try clear c1
                                        try clear c2
                                        try clear p2
                                        try clear c3
                                        try clear c3b0
                                        try clear c3b1
                                        try clear c4
                                        try clear c4b0
                                        try clear c4b1
                                        try clear c5
                                        try clear c5b0
                                        try clear c5b1
                                        try clear c6
                                        try clear c6b0
                                        try clear c6b1
                                        try clear c7
                                        try clear c7b0
                                        try clear c7b1
                                        try clear c8
                                        try clear c10
                                        try clear c10b0
                                        try clear c10b1
                                        try clear c11
                                        try clear c11b0
                                        try clear c11b1
                                        try clear c12
                                        try clear c14
                                        try clear c14b0
                                        try clear c14b1
                                        try clear c15
                                        try clear c15b0
                                        try clear c15b1
                                        try clear c16
                                        try clear c16b0
                                        try clear c16b1
                                        try clear c17
                                        try clear c17b0
                                        try clear c17b1
                                        try clear c18
                                        try clear c18b0
                                        try clear c18b1
                                        try clear c19
                                        try clear c19b0
                                        try clear c19b1
                                        try clear c20
                                        try clear c20b0
                                        try clear c20b1
                                        try clear c21
                                        try clear c21b0
                                        try clear c21b1
                                        try clear c22
                                        try clear c23
                                        try clear c23b0
                                        try clear c23b1
                                        try clear c24
                                        try clear c24b0
                                        try clear c24b1
                                        try clear c25
                                        try clear c25b0
                                        try clear c25b1
                                        try clear c27
                                        try clear c27b0
                                        try clear c27b1
                                        try clear c28
                                        try clear c28b0
                                        try clear c28b1
                                        try clear c29
                                        try clear c29b0
                                        try clear c29b1
                                        try clear c30
                                        try clear c30b0
                                        try clear c30b1
                                        try clear c31
                                        try clear c31b0
                                        try clear c31b1
                                        try clear c32
                                        try clear c32b0
                                        try clear c32b1
                                        try clear c33
                                        try clear c33b0
                                        try clear c33b1
                                        try clear c34
                                        try clear c36
                                        try clear c36b0
                                        try clear c36b1
                                        try clear c37
                                        try clear c39
                                        try clear c39b0
                                        try clear c39b1
                                        try clear p2
                                        obtain ⟨kq, x50_37, rfl, HA, HJ37, ⟨mc37, rfl⟩⟩ := hcut
                                        cases kq with
                                        | zero => exact absurd HA.out (by simp [instr_Shape.j5])
                                        | succ kj37 =>
                                          have H := HA.out
                                          clear HA
                                          simp only [instr_Shape.j5] at H
                                          by_cases c40 : x50_37 = true
                                          · subst c40
                                            have H1 : (some (10, 0)) = some (r1, r2) := by rw [if_pos rfl] at H; exact H
                                            clear H
                                            have H := H1
                                            clear H1
                                            simp only [Option.some.injEq, Prod.mk.injEq] at H
                                            obtain ⟨rfl, rfl⟩ := H
                                            go_wp2
                                            go_ret2
                                            exact ⟨by first | rfl | (simp; done) | (simp [*]; done), by repeat (first | exact Drawn0.refl _ | apply Drawn0.step)⟩
                                          · replace c40 := Bool.eq_false_iff.mpr c40
                                            subst c40
                                            have H1 : (if a0 = 208 then (some (11, 0)) else ((mem_Width.f kj37 a0).bind fun bt101 => (if bt101.1 > 0 then (some (7, 0)) else ((num_Sig.f kj37 a0).bind fun bt104 => (if bt104.1 > 0 then (some (1, 0)) else ((instr_float.f kj37 a0).bind fun t107 => (if t107 = true then (some (0, 3)) else (if a0 = 253 then (some (0, 4)) else (some (0, 5)))))))))) = some (r1, r2) := by rw [if_neg (show ¬ (false = true) by decide)] at H; exact H
                                            clear H
                                            have H := H1
                                            clear H1
                                            by_cases c41 : a0 = 208
                                            · rw [if_pos c41] at H
                                              have c41b0 : (a0 == 208) = true := beq_iff_eq.mpr c41
                                              have c41b1 : (a0 != 208) = false := bne_eq_false_iff_eq.mpr c41
                                              clear c41
                                              simp only [Option.some.injEq, Prod.mk.injEq] at H
                                              obtain ⟨rfl, rfl⟩ := H
                                              go_wp2
                                              go_ret2
                                              exact ⟨by first | rfl | (simp; done) | (simp [*]; done), by repeat (first | exact Drawn0.refl _ | apply Drawn0.step)⟩
                                            · rw [if_neg c41] at H
                                              have c41b0 : (a0 == 208) = false := beq_eq_false_iff_ne.mpr c41
                                              have c41b1 : (a0 != 208) = true := bne_iff_ne.mpr c41
                                              replace H := Option.bind_eq_some_iff.mp H
                                              obtain ⟨⟨t101, t102, t103⟩, A420, H⟩ := H
                                              replace H : (if t101 > 0 then (some (7, 0)) else ((num_Sig.f kj37 a0).bind fun bt104 => (if bt104.1 > 0 then (some (1, 0)) else ((instr_float.f kj37 a0).bind fun t107 => (if t107 = true then (some (0, 3)) else (if a0 = 253 then (some (0, 4)) else (some (0, 5)))))))) = some (r1, r2) := H
                                              have A42 := Aside0.mk A420
                                              clear A420
                                              by_cases c43 : t101 > 0
                                              · rw [if_pos c43] at H
                                                have c43b0 : decide (0 < t101) = true := decide_eq_true c43
                                                clear c43
                                                simp only [Option.some.injEq, Prod.mk.injEq] at H
                                                obtain ⟨rfl, rfl⟩ := H
                                                go_wp2_with (first | ((with_reducible refine gate_callee (f := 22) rfl ?_); refine goesL_ (some 57) rfl rfl Try.func22 (by kernel_rfl) rfl #[.int .i64 a0] rfl (by (try simp only [List.map_toArray, List.map_cons, List.map_nil]); first | done | rfl | (simp only [List.length_drop, List.length_take]; rfl)) ?_; (with_reducible refine (mem_Width.calls kj37 a0 t101 t102 t103 _ A42.out).mono ?_); rintro e w' ⟨rfl, ⟨nd, rfl⟩⟩; refine ⟨_, rfl, ?_⟩))
                                                go_ret2
                                                exact ⟨by first | rfl | (simp; done) | (simp [*]; done), by repeat (first | exact Drawn0.refl _ | apply Drawn0.step)⟩
                                              · rw [if_neg c43] at H
                                                have c43b0 : decide (0 < t101) = false := decide_eq_false c43
                                                clear c43
                                                replace H := Option.bind_eq_some_iff.mp H
                                                obtain ⟨⟨t104, t105, t106⟩, A440, H⟩ := H
                                                replace H : (if t104 > 0 then (some (1, 0)) else ((instr_float.f kj37 a0).bind fun t107 => (if t107 = true then (some (0, 3)) else (if a0 = 253 then (some (0, 4)) else (some (0, 5)))))) = some (r1, r2) := H
                                                have A44 := Aside0.mk A440
                                                clear A440
                                                by_cases c45 : t104 > 0
                                                · rw [if_pos c45] at H
                                                  have c45b0 : decide (0 < t104) = true := decide_eq_true c45
                                                  clear c45
                                                  simp only [Option.some.injEq, Prod.mk.injEq] at H
                                                  obtain ⟨rfl, rfl⟩ := H
                                                  go_wp2_with (first | ((with_reducible refine gate_callee (f := 22) rfl ?_); refine goesL_ (some 57) rfl rfl Try.func22 (by kernel_rfl) rfl #[.int .i64 a0] rfl (by (try simp only [List.map_toArray, List.map_cons, List.map_nil]); first | done | rfl | (simp only [List.length_drop, List.length_take]; rfl)) ?_; (with_reducible refine (mem_Width.calls kj37 a0 t101 t102 t103 _ A42.out).mono ?_); rintro e w' ⟨rfl, ⟨nd, rfl⟩⟩; refine ⟨_, rfl, ?_⟩) | ((with_reducible refine gate_callee (f := 23) rfl ?_); refine goesL_ (some 65) rfl rfl Try.func23 (by kernel_rfl) rfl #[.int .i64 a0] rfl (by (try simp only [List.map_toArray, List.map_cons, List.map_nil]); first | done | rfl | (simp only [List.length_drop, List.length_take]; rfl)) ?_; (with_reducible refine (num_Sig.calls kj37 a0 t104 t105 t106 _ A44.out).mono ?_); rintro e w' ⟨rfl, ⟨nd, rfl⟩⟩; refine ⟨_, rfl, ?_⟩))
                                                  go_ret2
                                                  exact ⟨by first | rfl | (simp; done) | (simp [*]; done), by repeat (first | exact Drawn0.refl _ | apply Drawn0.step)⟩
                                                · rw [if_neg c45] at H
                                                  have c45b0 : decide (0 < t104) = false := decide_eq_false c45
                                                  clear c45
                                                  replace H := Option.bind_eq_some_iff.mp H
                                                  obtain ⟨t107, A460, H⟩ := H
                                                  replace H : (if t107 = true then (some (0, 3)) else (if a0 = 253 then (some (0, 4)) else (some (0, 5)))) = some (r1, r2) := H
                                                  have A46 := Aside0.mk A460
                                                  clear A460
                                                  by_cases c47 : t107 = true
                                                  · subst c47
                                                    have H1 : (some (0, 3)) = some (r1, r2) := by rw [if_pos rfl] at H; exact H
                                                    clear H
                                                    have H := H1
                                                    clear H1
                                                    simp only [Option.some.injEq, Prod.mk.injEq] at H
                                                    obtain ⟨rfl, rfl⟩ := H
                                                    go_wp2_with (first | ((with_reducible refine gate_callee (f := 22) rfl ?_); refine goesL_ (some 57) rfl rfl Try.func22 (by kernel_rfl) rfl #[.int .i64 a0] rfl (by (try simp only [List.map_toArray, List.map_cons, List.map_nil]); first | done | rfl | (simp only [List.length_drop, List.length_take]; rfl)) ?_; (with_reducible refine (mem_Width.calls kj37 a0 t101 t102 t103 _ A42.out).mono ?_); rintro e w' ⟨rfl, ⟨nd, rfl⟩⟩; refine ⟨_, rfl, ?_⟩) | ((with_reducible refine gate_callee (f := 23) rfl ?_); refine goesL_ (some 65) rfl rfl Try.func23 (by kernel_rfl) rfl #[.int .i64 a0] rfl (by (try simp only [List.map_toArray, List.map_cons, List.map_nil]); first | done | rfl | (simp only [List.length_drop, List.length_take]; rfl)) ?_; (with_reducible refine (num_Sig.calls kj37 a0 t104 t105 t106 _ A44.out).mono ?_); rintro e w' ⟨rfl, ⟨nd, rfl⟩⟩; refine ⟨_, rfl, ?_⟩) | ((with_reducible refine gate_callee (f := 24) rfl ?_); refine goesL_ (some 73) rfl rfl Try.func24 (by kernel_rfl) rfl #[.int .i64 a0] rfl (by (try simp only [List.map_toArray, List.map_cons, List.map_nil]); first | done | rfl | (simp only [List.length_drop, List.length_take]; rfl)) ?_; (with_reducible refine (instr_float.calls kj37 a0 true _ A46.out).mono ?_); rintro e w' ⟨rfl, ⟨nd, rfl⟩⟩; refine ⟨_, rfl, ?_⟩))
                                                    go_ret2
                                                    exact ⟨by first | rfl | (simp; done) | (simp [*]; done), by repeat (first | exact Drawn0.refl _ | apply Drawn0.step)⟩
                                                  · replace c47 := Bool.eq_false_iff.mpr c47
                                                    subst c47
                                                    have H1 : (if a0 = 253 then (some (0, 4)) else (some (0, 5))) = some (r1, r2) := by rw [if_neg (show ¬ (false = true) by decide)] at H; exact H
                                                    clear H
                                                    have H := H1
                                                    clear H1
                                                    by_cases c48 : a0 = 253
                                                    · rw [if_pos c48] at H
                                                      have c48b0 : (a0 == 253) = true := beq_iff_eq.mpr c48
                                                      have c48b1 : (a0 != 253) = false := bne_eq_false_iff_eq.mpr c48
                                                      clear c48
                                                      simp only [Option.some.injEq, Prod.mk.injEq] at H
                                                      obtain ⟨rfl, rfl⟩ := H
                                                      go_wp2_with (first | ((with_reducible refine gate_callee (f := 22) rfl ?_); refine goesL_ (some 57) rfl rfl Try.func22 (by kernel_rfl) rfl #[.int .i64 a0] rfl (by (try simp only [List.map_toArray, List.map_cons, List.map_nil]); first | done | rfl | (simp only [List.length_drop, List.length_take]; rfl)) ?_; (with_reducible refine (mem_Width.calls kj37 a0 t101 t102 t103 _ A42.out).mono ?_); rintro e w' ⟨rfl, ⟨nd, rfl⟩⟩; refine ⟨_, rfl, ?_⟩) | ((with_reducible refine gate_callee (f := 23) rfl ?_); refine goesL_ (some 65) rfl rfl Try.func23 (by kernel_rfl) rfl #[.int .i64 a0] rfl (by (try simp only [List.map_toArray, List.map_cons, List.map_nil]); first | done | rfl | (simp only [List.length_drop, List.length_take]; rfl)) ?_; (with_reducible refine (num_Sig.calls kj37 a0 t104 t105 t106 _ A44.out).mono ?_); rintro e w' ⟨rfl, ⟨nd, rfl⟩⟩; refine ⟨_, rfl, ?_⟩) | ((with_reducible refine gate_callee (f := 24) rfl ?_); refine goesL_ (some 73) rfl rfl Try.func24 (by kernel_rfl) rfl #[.int .i64 a0] rfl (by (try simp only [List.map_toArray, List.map_cons, List.map_nil]); first | done | rfl | (simp only [List.length_drop, List.length_take]; rfl)) ?_; (with_reducible refine (instr_float.calls kj37 a0 false _ A46.out).mono ?_); rintro e w' ⟨rfl, ⟨nd, rfl⟩⟩; refine ⟨_, rfl, ?_⟩))
                                                      go_ret2
                                                      exact ⟨by first | rfl | (simp; done) | (simp [*]; done), by repeat (first | exact Drawn0.refl _ | apply Drawn0.step)⟩
                                                    · rw [if_neg c48] at H
                                                      have c48b0 : (a0 == 253) = false := beq_eq_false_iff_ne.mpr c48
                                                      have c48b1 : (a0 != 253) = true := bne_iff_ne.mpr c48
                                                      simp only [Option.some.injEq, Prod.mk.injEq] at H
                                                      obtain ⟨rfl, rfl⟩ := H
                                                      go_wp2_with (first | ((with_reducible refine gate_callee (f := 22) rfl ?_); refine goesL_ (some 57) rfl rfl Try.func22 (by kernel_rfl) rfl #[.int .i64 a0] rfl (by (try simp only [List.map_toArray, List.map_cons, List.map_nil]); first | done | rfl | (simp only [List.length_drop, List.length_take]; rfl)) ?_; (with_reducible refine (mem_Width.calls kj37 a0 t101 t102 t103 _ A42.out).mono ?_); rintro e w' ⟨rfl, ⟨nd, rfl⟩⟩; refine ⟨_, rfl, ?_⟩) | ((with_reducible refine gate_callee (f := 23) rfl ?_); refine goesL_ (some 65) rfl rfl Try.func23 (by kernel_rfl) rfl #[.int .i64 a0] rfl (by (try simp only [List.map_toArray, List.map_cons, List.map_nil]); first | done | rfl | (simp only [List.length_drop, List.length_take]; rfl)) ?_; (with_reducible refine (num_Sig.calls kj37 a0 t104 t105 t106 _ A44.out).mono ?_); rintro e w' ⟨rfl, ⟨nd, rfl⟩⟩; refine ⟨_, rfl, ?_⟩) | ((with_reducible refine gate_callee (f := 24) rfl ?_); refine goesL_ (some 73) rfl rfl Try.func24 (by kernel_rfl) rfl #[.int .i64 a0] rfl (by (try simp only [List.map_toArray, List.map_cons, List.map_nil]); first | done | rfl | (simp only [List.length_drop, List.length_take]; rfl)) ?_; (with_reducible refine (instr_float.calls kj37 a0 false _ A46.out).mono ?_); rintro e w' ⟨rfl, ⟨nd, rfl⟩⟩; refine ⟨_, rfl, ?_⟩))
                                                      go_ret2
                                                      exact ⟨by first | rfl | (simp; done) | (simp [*]; done), by repeat (first | exact Drawn0.refl _ | apply Drawn0.step)⟩
mutual
def instr_Type.j0 : Nat → Int → Int → Bool → Option (Int × Int)
  | 0, _, _, _ => none
  | k + 1, x0, x4, x5 => if x5 = true then (some (x0, 0)) else (if x4 = 125 then (instr_Type.j1 k x4 (x4 == 125)) else (instr_Type.j1 k x4 (x4 == 124)))
def instr_Type.j1 : Nat → Int → Bool → Option (Int × Int)
  | 0, _, _ => none
  | k + 1, x4, x10 => if x10 = true then (some (0, 3)) else (if x4 = 123 then (some (0, 4)) else (some (0, 2)))
end
def instr_Type.f (k : Nat) (a0 : Int) : Option (Int × Int) := if a0 = 127 then (instr_Type.j0 k a0 a0 (a0 == 127)) else (if a0 = 126 then (instr_Type.j0 k a0 a0 (a0 == 126)) else (instr_Type.j0 k a0 a0 (a0 == 112)))
theorem instr_Type.mono_l : ∀ k, (∀ y0 y1 y2, LeO (instr_Type.j0 k y0 y1 y2) (instr_Type.j0 (k + 1) y0 y1 y2)) ∧ (∀ y0 y1, LeO (instr_Type.j1 k y0 y1) (instr_Type.j1 (k + 1) y0 y1))
  | 0 => ⟨fun _ _ _ r h => by simp [instr_Type.j0] at h, fun _ _ r h => by simp [instr_Type.j1] at h⟩
  | k + 1 => by
    obtain ⟨ih0, ih1⟩ := instr_Type.mono_l k
    refine ⟨?_, ?_⟩
    · intro y0 y1 y2
      unfold instr_Type.j0
      repeat' first
      | (with_reducible exact ih0 _ _ _)
      | (with_reducible exact ih1 _ _)
      | (with_reducible exact LeO.refl _)
      | (with_reducible exact LeO.none _)
      | (with_reducible refine LeO.ite ?_ ?_)
      | (with_reducible refine LeO.bind ?_ (fun _ => ?_))
      | exact ih0 _ _ _
      | exact ih1 _ _
      | exact LeO.none _
      | refine LeO.ite ?_ ?_
      | refine LeO.bind ?_ (fun _ => ?_)
    · intro y0 y1
      unfold instr_Type.j1
      repeat' first
      | (with_reducible exact ih0 _ _ _)
      | (with_reducible exact ih1 _ _)
      | (with_reducible exact LeO.refl _)
      | (with_reducible exact LeO.none _)
      | (with_reducible refine LeO.ite ?_ ?_)
      | (with_reducible refine LeO.bind ?_ (fun _ => ?_))
      | exact ih0 _ _ _
      | exact ih1 _ _
      | exact LeO.none _
      | refine LeO.ite ?_ ?_
      | refine LeO.bind ?_ (fun _ => ?_)
theorem instr_Type.mono : ∀ a0 k, LeO (instr_Type.f k a0) (instr_Type.f (k + 1) a0) := by
  intro a0 k
  obtain ⟨ih0, ih1⟩ := instr_Type.mono_l k
  unfold instr_Type.f
  repeat' first
      | (with_reducible exact ih0 _ _ _)
      | (with_reducible exact ih1 _ _)
      | (with_reducible exact LeO.refl _)
      | (with_reducible exact LeO.none _)
      | (with_reducible refine LeO.ite ?_ ?_)
      | (with_reducible refine LeO.bind ?_ (fun _ => ?_))
      | exact ih0 _ _ _
      | exact ih1 _ _
      | exact LeO.none _
      | refine LeO.ite ?_ ?_
      | refine LeO.bind ?_ (fun _ => ?_)
set_option maxHeartbeats 8000000 in
set_option maxRecDepth 100000 in
theorem instr_Type.calls (k : Nat) (a0 : Int) (r1 : Int) (r2 : Int) (w : World) (h : instr_Type.f k a0 = some (r1, r2)) :
    Calls Try.prog 12 #[.int .i64 a0] w fun e w' => e = .returned (.tuple #[.int .i64 r1, .int .i64 r2]) ∧ Drawn0 w w' := by
  have H : (if a0 = 127 then (instr_Type.j0 k a0 a0 (a0 == 127)) else (if a0 = 126 then (instr_Type.j0 k a0 a0 (a0 == 126)) else (instr_Type.j0 k a0 a0 (a0 == 112)))) = some (r1, r2) := h
  clear h
  have HC2 := Aside0.mk H
  clear H
  go_enter Try.func12, Try.ntmps12
  go_upto_if 5 with (fail)
  go_cut [5] (fun v5 wc => ∃ (kq : Nat) (x5_1 : Bool), v5 = .bool x5_1 ∧ Aside0 (instr_Type.j0 kq a0 a0 x5_1 = some (r1, r2)) ∧ Aside0 (kq ≤ k) ∧ Drawn0 w wc)
  case first =>
    have H := HC2.out
    clear HC2
    by_cases c3 : a0 = 127
    · rw [if_pos c3] at H
      have c3b0 : (a0 == 127) = true := beq_iff_eq.mpr c3
      have c3b1 : (a0 != 127) = false := bne_eq_false_iff_eq.mpr c3
      clear c3
      (first | rw [c3b0] | (simp only [i64_w, i32_w]; rw [c3b0]) | skip)
      have H' := Aside0.mk H
      clear H
      go_wp2
      go_meet
      case rel => exact ⟨_, ((a0 == 127)), (by first | rfl | (simp; done) | (simp [*]; done)), H', ⟨by first | omega | exact Nat.le_refl _⟩, by repeat (first | exact Drawn0.refl _ | apply Drawn0.step)⟩
    · rw [if_neg c3] at H
      have c3b0 : (a0 == 127) = false := beq_eq_false_iff_ne.mpr c3
      have c3b1 : (a0 != 127) = true := bne_iff_ne.mpr c3
      (first | rw [c3b0] | (simp only [i64_w, i32_w]; rw [c3b0]) | skip)
      by_cases c4 : a0 = 126
      · rw [if_pos c4] at H
        have c4b0 : (a0 == 126) = true := beq_iff_eq.mpr c4
        have c4b1 : (a0 != 126) = false := bne_eq_false_iff_eq.mpr c4
        clear c4
        have H' := Aside0.mk H
        clear H
        go_wp2
        go_meet
        case rel => exact ⟨_, ((a0 == 126)), (by first | rfl | (simp; done) | (simp [*]; done)), H', ⟨by first | omega | exact Nat.le_refl _⟩, by repeat (first | exact Drawn0.refl _ | apply Drawn0.step)⟩
      · rw [if_neg c4] at H
        have c4b0 : (a0 == 126) = false := beq_eq_false_iff_ne.mpr c4
        have c4b1 : (a0 != 126) = true := bne_iff_ne.mpr c4
        have H' := Aside0.mk H
        clear H
        go_wp2
        go_meet
        case rel => exact ⟨_, ((a0 == 112)), (by first | rfl | (simp; done) | (simp [*]; done)), H', ⟨by first | omega | exact Nat.le_refl _⟩, by repeat (first | exact Drawn0.refl _ | apply Drawn0.step)⟩
  case rest =>
    clear HC2
    try clear c1
    try clear p2
    try clear c3
    try clear c3b0
    try clear c3b1
    try clear c4
    try clear c4b0
    try clear c4b1
    obtain ⟨kq, x5_1, rfl, HA, HJ1, ⟨mc1, rfl⟩⟩ := hcut
    cases kq with
    | zero => exact absurd HA.out (by simp [instr_Type.j0])
    | succ kj1 =>
      have H := HA.out
      clear HA
      simp only [instr_Type.j0] at H
      by_cases c5 : x5_1 = true
      · subst c5
        have H1 : (some (a0, 0)) = some (r1, r2) := by rw [if_pos rfl] at H; exact H
        clear H
        have H := H1
        clear H1
        simp only [Option.some.injEq, Prod.mk.injEq] at H
        obtain ⟨rfl, rfl⟩ := H
        go_wp2
        go_ret2
        exact ⟨by first | rfl | (simp; done) | (simp [*]; done), by repeat (first | exact Drawn0.refl _ | apply Drawn0.step)⟩
      · replace c5 := Bool.eq_false_iff.mpr c5
        subst c5
        have H1 : (if a0 = 125 then (instr_Type.j1 kj1 a0 (a0 == 125)) else (instr_Type.j1 kj1 a0 (a0 == 124))) = some (r1, r2) := by rw [if_neg (show ¬ (false = true) by decide)] at H; exact H
        clear H
        have H := H1
        clear H1
        have HC6 := Aside0.mk H
        clear H
        go_upto_if 10 with (fail)
        go_cut [10] (fun v10 wc => ∃ (kq : Nat) (x10_5 : Bool), v10 = .bool x10_5 ∧ Aside0 (instr_Type.j1 kq a0 x10_5 = some (r1, r2)) ∧ Aside0 (kq ≤ kj1) ∧ Drawn0 w wc)
        case first =>
          have H := HC6.out
          clear HC6
          by_cases c7 : a0 = 125
          · rw [if_pos c7] at H
            have c7b0 : (a0 == 125) = true := beq_iff_eq.mpr c7
            have c7b1 : (a0 != 125) = false := bne_eq_false_iff_eq.mpr c7
            clear c7
            (first | rw [c7b0] | (simp only [i64_w, i32_w]; rw [c7b0]) | skip)
            have H' := Aside0.mk H
            clear H
            go_wp2
            go_meet
            case rel => exact ⟨_, ((a0 == 125)), (by first | rfl | (simp; done) | (simp [*]; done)), H', ⟨by have := HJ1.out; first | omega | exact Nat.le_refl _⟩, by repeat (first | exact Drawn0.refl _ | apply Drawn0.step)⟩
          · rw [if_neg c7] at H
            have c7b0 : (a0 == 125) = false := beq_eq_false_iff_ne.mpr c7
            have c7b1 : (a0 != 125) = true := bne_iff_ne.mpr c7
            (first | rw [c7b0] | (simp only [i64_w, i32_w]; rw [c7b0]) | skip)
            have H' := Aside0.mk H
            clear H
            go_wp2
            go_meet
            case rel => exact ⟨_, ((a0 == 124)), (by first | rfl | (simp; done) | (simp [*]; done)), H', ⟨by have := HJ1.out; first | omega | exact Nat.le_refl _⟩, by repeat (first | exact Drawn0.refl _ | apply Drawn0.step)⟩
        case rest =>
          clear HC6
          try clear c1
          try clear p2
          try clear c3
          try clear c3b0
          try clear c3b1
          try clear c4
          try clear c4b0
          try clear c4b1
          try clear c5
          try clear c7
          try clear c7b0
          try clear c7b1
          try clear p2
          obtain ⟨kq, x10_5, rfl, HA, HJ5, ⟨mc5, rfl⟩⟩ := hcut
          cases kq with
          | zero => exact absurd HA.out (by simp [instr_Type.j1])
          | succ kj5 =>
            have H := HA.out
            clear HA
            simp only [instr_Type.j1] at H
            by_cases c8 : x10_5 = true
            · subst c8
              have H1 : (some (0, 3)) = some (r1, r2) := by rw [if_pos rfl] at H; exact H
              clear H
              have H := H1
              clear H1
              simp only [Option.some.injEq, Prod.mk.injEq] at H
              obtain ⟨rfl, rfl⟩ := H
              go_wp2
              go_ret2
              exact ⟨by first | rfl | (simp; done) | (simp [*]; done), by repeat (first | exact Drawn0.refl _ | apply Drawn0.step)⟩
            · replace c8 := Bool.eq_false_iff.mpr c8
              subst c8
              have H1 : (if a0 = 123 then (some (0, 4)) else (some (0, 2))) = some (r1, r2) := by rw [if_neg (show ¬ (false = true) by decide)] at H; exact H
              clear H
              have H := H1
              clear H1
              by_cases c9 : a0 = 123
              · rw [if_pos c9] at H
                have c9b0 : (a0 == 123) = true := beq_iff_eq.mpr c9
                have c9b1 : (a0 != 123) = false := bne_eq_false_iff_eq.mpr c9
                clear c9
                simp only [Option.some.injEq, Prod.mk.injEq] at H
                obtain ⟨rfl, rfl⟩ := H
                go_wp2
                go_ret2
                exact ⟨by first | rfl | (simp; done) | (simp [*]; done), by repeat (first | exact Drawn0.refl _ | apply Drawn0.step)⟩
              · rw [if_neg c9] at H
                have c9b0 : (a0 == 123) = false := beq_eq_false_iff_ne.mpr c9
                have c9b1 : (a0 != 123) = true := bne_iff_ne.mpr c9
                simp only [Option.some.injEq, Prod.mk.injEq] at H
                obtain ⟨rfl, rfl⟩ := H
                go_wp2
                go_ret2
                exact ⟨by first | rfl | (simp; done) | (simp [*]; done), by repeat (first | exact Drawn0.refl _ | apply Drawn0.step)⟩
def instr_index.f (a0 : Int) : Option (Bool) := if a0 ≥ 0 then (some (decide (a0 < 4294967296))) else (some false)
set_option maxHeartbeats 8000000 in
set_option maxRecDepth 100000 in
theorem instr_index.calls (a0 : Int) (r : Bool) (w : World) (h : instr_index.f a0 = some r) :
    Calls Try.prog 56 #[.int .i64 a0] w fun e w' => e = .returned (.bool r) ∧ Drawn0 w w' := by
  have H : (if a0 ≥ 0 then (some (decide (a0 < 4294967296))) else (some false)) = some r := h
  clear h
  by_cases c2 : a0 ≥ 0
  · rw [if_pos c2] at H
    have c2b0 : decide (0 ≤ a0) = true := decide_eq_true c2
    clear c2
    obtain rfl := Option.some.inj H
    go_enter Try.func56, Try.ntmps56
    go_wp2
    go_ret
    exact ⟨by first | rfl | (simp; done) | (simp [*]; done), by repeat (first | exact Drawn0.refl _ | apply Drawn0.step)⟩
  · rw [if_neg c2] at H
    have c2b0 : decide (0 ≤ a0) = false := decide_eq_false c2
    clear c2
    obtain rfl := Option.some.inj H
    go_enter Try.func56, Try.ntmps56
    go_wp2
    go_ret
    exact ⟨by first | rfl | (simp; done) | (simp [*]; done), by repeat (first | exact Drawn0.refl _ | apply Drawn0.step)⟩
def instr_blockType.f (a0 : Int) : Option (Bool) := (instr_index.f a0).bind fun t151 => (if t151 = true then (some true) else (if a0 = (-64) then (some true) else (if a0 = (-1) then (some true) else (if a0 = (-2) then (some true) else (some (a0 == (-16)))))))
set_option maxHeartbeats 8000000 in
set_option maxRecDepth 100000 in
theorem instr_blockType.calls (a0 : Int) (r : Bool) (w : World) (h : instr_blockType.f a0 = some r) :
    Calls Try.prog 55 #[.int .i64 a0] w fun e w' => e = .returned (.bool r) ∧ Drawn0 w w' := by
  have H : ((instr_index.f a0).bind fun t151 => (if t151 = true then (some true) else (if a0 = (-64) then (some true) else (if a0 = (-1) then (some true) else (if a0 = (-2) then (some true) else (some (a0 == (-16)))))))) = some r := h
  clear h
  replace H := Option.bind_eq_some_iff.mp H
  obtain ⟨t151, A20, H⟩ := H
  replace H : (if t151 = true then (some true) else (if a0 = (-64) then (some true) else (if a0 = (-1) then (some true) else (if a0 = (-2) then (some true) else (some (a0 == (-16))))))) = some r := H
  have A2 := Aside0.mk A20
  clear A20
  by_cases c3 : t151 = true
  · subst c3
    have H1 : (some true) = some r := by rw [if_pos rfl] at H; exact H
    clear H
    have H := H1
    clear H1
    obtain rfl := Option.some.inj H
    go_enter Try.func55, Try.ntmps55
    go_wp2_with (first | ((with_reducible refine gate_callee (f := 56) rfl ?_); refine goesL_ (some 4) rfl rfl Try.func56 (by kernel_rfl) rfl #[.int .i64 a0] rfl (by (try simp only [List.map_toArray, List.map_cons, List.map_nil]); first | done | rfl | (simp only [List.length_drop, List.length_take]; rfl)) ?_; (with_reducible refine (instr_index.calls a0 true _ A2.out).mono ?_); rintro e w' ⟨rfl, ⟨nd, rfl⟩⟩; refine ⟨_, rfl, ?_⟩))
    go_ret
    exact ⟨by first | rfl | (simp; done) | (simp [*]; done), by repeat (first | exact Drawn0.refl _ | apply Drawn0.step)⟩
  · replace c3 := Bool.eq_false_iff.mpr c3
    subst c3
    have H1 : (if a0 = (-64) then (some true) else (if a0 = (-1) then (some true) else (if a0 = (-2) then (some true) else (some (a0 == (-16)))))) = some r := by rw [if_neg (show ¬ (false = true) by decide)] at H; exact H
    clear H
    have H := H1
    clear H1
    by_cases c4 : a0 = (-64)
    · rw [if_pos c4] at H
      have c4b0 : (a0 == (-64)) = true := beq_iff_eq.mpr c4
      have c4b1 : (a0 != (-64)) = false := bne_eq_false_iff_eq.mpr c4
      clear c4
      obtain rfl := Option.some.inj H
      go_enter Try.func55, Try.ntmps55
      go_wp2_with (first | ((with_reducible refine gate_callee (f := 56) rfl ?_); refine goesL_ (some 4) rfl rfl Try.func56 (by kernel_rfl) rfl #[.int .i64 a0] rfl (by (try simp only [List.map_toArray, List.map_cons, List.map_nil]); first | done | rfl | (simp only [List.length_drop, List.length_take]; rfl)) ?_; (with_reducible refine (instr_index.calls a0 false _ A2.out).mono ?_); rintro e w' ⟨rfl, ⟨nd, rfl⟩⟩; refine ⟨_, rfl, ?_⟩))
      go_ret
      exact ⟨by first | rfl | (simp; done) | (simp [*]; done), by repeat (first | exact Drawn0.refl _ | apply Drawn0.step)⟩
    · rw [if_neg c4] at H
      have c4b0 : (a0 == (-64)) = false := beq_eq_false_iff_ne.mpr c4
      have c4b1 : (a0 != (-64)) = true := bne_iff_ne.mpr c4
      by_cases c5 : a0 = (-1)
      · rw [if_pos c5] at H
        have c5b0 : (a0 == (-1)) = true := beq_iff_eq.mpr c5
        have c5b1 : (a0 != (-1)) = false := bne_eq_false_iff_eq.mpr c5
        clear c5
        obtain rfl := Option.some.inj H
        go_enter Try.func55, Try.ntmps55
        go_wp2_with (first | ((with_reducible refine gate_callee (f := 56) rfl ?_); refine goesL_ (some 4) rfl rfl Try.func56 (by kernel_rfl) rfl #[.int .i64 a0] rfl (by (try simp only [List.map_toArray, List.map_cons, List.map_nil]); first | done | rfl | (simp only [List.length_drop, List.length_take]; rfl)) ?_; (with_reducible refine (instr_index.calls a0 false _ A2.out).mono ?_); rintro e w' ⟨rfl, ⟨nd, rfl⟩⟩; refine ⟨_, rfl, ?_⟩))
        go_ret
        exact ⟨by first | rfl | (simp; done) | (simp [*]; done), by repeat (first | exact Drawn0.refl _ | apply Drawn0.step)⟩
      · rw [if_neg c5] at H
        have c5b0 : (a0 == (-1)) = false := beq_eq_false_iff_ne.mpr c5
        have c5b1 : (a0 != (-1)) = true := bne_iff_ne.mpr c5
        by_cases c6 : a0 = (-2)
        · rw [if_pos c6] at H
          have c6b0 : (a0 == (-2)) = true := beq_iff_eq.mpr c6
          have c6b1 : (a0 != (-2)) = false := bne_eq_false_iff_eq.mpr c6
          clear c6
          obtain rfl := Option.some.inj H
          go_enter Try.func55, Try.ntmps55
          go_wp2_with (first | ((with_reducible refine gate_callee (f := 56) rfl ?_); refine goesL_ (some 4) rfl rfl Try.func56 (by kernel_rfl) rfl #[.int .i64 a0] rfl (by (try simp only [List.map_toArray, List.map_cons, List.map_nil]); first | done | rfl | (simp only [List.length_drop, List.length_take]; rfl)) ?_; (with_reducible refine (instr_index.calls a0 false _ A2.out).mono ?_); rintro e w' ⟨rfl, ⟨nd, rfl⟩⟩; refine ⟨_, rfl, ?_⟩))
          go_ret
          exact ⟨by first | rfl | (simp; done) | (simp [*]; done), by repeat (first | exact Drawn0.refl _ | apply Drawn0.step)⟩
        · rw [if_neg c6] at H
          have c6b0 : (a0 == (-2)) = false := beq_eq_false_iff_ne.mpr c6
          have c6b1 : (a0 != (-2)) = true := bne_iff_ne.mpr c6
          obtain rfl := Option.some.inj H
          go_enter Try.func55, Try.ntmps55
          go_wp2_with (first | ((with_reducible refine gate_callee (f := 56) rfl ?_); refine goesL_ (some 4) rfl rfl Try.func56 (by kernel_rfl) rfl #[.int .i64 a0] rfl (by (try simp only [List.map_toArray, List.map_cons, List.map_nil]); first | done | rfl | (simp only [List.length_drop, List.length_take]; rfl)) ?_; (with_reducible refine (instr_index.calls a0 false _ A2.out).mono ?_); rintro e w' ⟨rfl, ⟨nd, rfl⟩⟩; refine ⟨_, rfl, ?_⟩))
          go_ret
          exact ⟨by first | rfl | (simp; done) | (simp [*]; done), by repeat (first | exact Drawn0.refl _ | apply Drawn0.step)⟩
def inx (n : Int) : Bool := decide (0 ≤ n) && decide (n < 4294967296)
theorem inx_at (n : Int) : instr_index.f n = some (inx n) := by
  unfold instr_index.f inx
  by_cases h : 0 ≤ n <;> simp [h]
def bty (n : Int) : Bool := inx n || n == -64 || n == -1 || n == -2 || n == -16
theorem bty_at (n : Int) : instr_blockType.f n = some (bty n) := by
  unfold instr_blockType.f bty
  rw [inx_at, Option.bind_some]
  cases inx n
  · rw [if_neg (by decide)]
    by_cases h1 : n = -64
    · simp [h1]
    by_cases h2 : n = -1
    · simp [h2]
    by_cases h3 : n = -2
    · simp [h3]
    simp [h1, h2, h3]
  · simp
theorem inx_calls (a : Int) (w : World) : Calls Try.prog 56 #[.int .i64 a] w fun e w' => e = .returned (.bool (inx a)) ∧ Drawn0 w w' := instr_index.calls a _ w (inx_at a)
theorem bty_calls (a : Int) (w : World) : Calls Try.prog 55 #[.int .i64 a] w fun e w' => e = .returned (.bool (bty a)) ∧ Drawn0 w w' := instr_blockType.calls a _ w (bty_at a)
/-- What is asked of an instruction's own numbers, by its shape: whether they may be, and what is left of them. -/
def mayS (s op a b m : Int) (N : List Int) (L E : List S54) (t : Int × Int) : Bool :=
  if s = 1 ∨ s = 11 then a == 0 && (b == 0 && (m == 0 && (N.length == 0 && (L.length == 0 && E.length == 0))))
  else if s = 2 then (bty a && (op == 4 || E.length == 0)) && (b == 0 && (m == 0 && N.length == 0))
  else if s = 3 then inx a && (b == 0 && (m == 0 && (N.length == 0 && (L.length == 0 && E.length == 0))))
  else if s = 4 then (inx a && decide (N.length ≤ 1000) && N.all inx) && (b == 0 && (m == 0 && (L.length == 0 && E.length == 0)))
  else if s = 5 ∨ s = 9 then (inx a && inx m) && (b == 0 && (N.length == 0 && (L.length == 0 && E.length == 0)))
  else if s = 6 then t.2 == 0 && (b == 0 && (m == 0 && (N.length == 0 && (L.length == 0 && E.length == 0))))
  else if s = 7 then (((inx a && inx m) && decide (0 ≤ b)) && decide (b < 64)) && (N.length == 0 && (L.length == 0 && E.length == 0))
  else if s = 8 then inx m && (a == 0 && (b == 0 && (N.length == 0 && (L.length == 0 && E.length == 0))))
  else if s = 10 then (op == 66 || (decide (-2147483648 ≤ a) && decide (a < 2147483648))) && (b == 0 && (m == 0 && (N.length == 0 && (L.length == 0 && E.length == 0))))
  else false
def instr_may.f (op a b m : Int) (N : List Int) (L E : List S54) : Option Bool :=
  if N.length < 9223372036854775807 then (instr_Shape.f 40 op).bind fun s => (instr_Type.f 5 a).bind fun t => some (s.2 == 0 && mayS s.1 op a b m N L E t) else none
theorem nat0 (n : Nat) : ((n : Int) == 0) = (n == 0) := by rw [Bool.eq_iff_iff]; simp
theorem nat1 (n : Nat) : ((n : Int) ≤ 1000) = (n ≤ 1000) := propext (by omega)
theorem set7_1 {W : World} {g : Nat} {x0 x1 x2 x3 x4 x5 x6 : Value} (h : W.heap[g]? = some (.cells #[x0, x1, x2, x3, x4, x5, x6] 54 (0, 0))) (v : Value) : (W.setCell ⟨g, 1, none⟩ v).heap[g]? = some (.cells #[x0, v, x2, x3, x4, x5, x6] 54 (0, 0)) := by simpa using blk_set h 1 v
theorem set7_2 {W : World} {g : Nat} {x0 x1 x2 x3 x4 x5 x6 : Value} (h : W.heap[g]? = some (.cells #[x0, x1, x2, x3, x4, x5, x6] 54 (0, 0))) (v : Value) : (W.setCell ⟨g, 2, none⟩ v).heap[g]? = some (.cells #[x0, x1, v, x3, x4, x5, x6] 54 (0, 0)) := by simpa using blk_set h 2 v
theorem set7_3 {W : World} {g : Nat} {x0 x1 x2 x3 x4 x5 x6 : Value} (h : W.heap[g]? = some (.cells #[x0, x1, x2, x3, x4, x5, x6] 54 (0, 0))) (v : Value) : (W.setCell ⟨g, 3, none⟩ v).heap[g]? = some (.cells #[x0, x1, x2, v, x4, x5, x6] 54 (0, 0)) := by simpa using blk_set h 3 v
theorem set7_4 {W : World} {g : Nat} {x0 x1 x2 x3 x4 x5 x6 : Value} (h : W.heap[g]? = some (.cells #[x0, x1, x2, x3, x4, x5, x6] 54 (0, 0))) (v : Value) : (W.setCell ⟨g, 4, none⟩ v).heap[g]? = some (.cells #[x0, x1, x2, x3, v, x5, x6] 54 (0, 0)) := by simpa using blk_set h 4 v
theorem set7_5 {W : World} {g : Nat} {x0 x1 x2 x3 x4 x5 x6 : Value} (h : W.heap[g]? = some (.cells #[x0, x1, x2, x3, x4, x5, x6] 54 (0, 0))) (v : Value) : (W.setCell ⟨g, 5, none⟩ v).heap[g]? = some (.cells #[x0, x1, x2, x3, x4, v, x6] 54 (0, 0)) := by simpa using blk_set h 5 v
theorem set7_6 {W : World} {g : Nat} {x0 x1 x2 x3 x4 x5 x6 : Value} (h : W.heap[g]? = some (.cells #[x0, x1, x2, x3, x4, x5, x6] 54 (0, 0))) (v : Value) : (W.setCell ⟨g, 6, none⟩ v).heap[g]? = some (.cells #[x0, x1, x2, x3, x4, x5, v] 54 (0, 0)) := by simpa using blk_set h 6 v
set_option maxHeartbeats 8000000 in
set_option maxRecDepth 100000 in
theorem instr_may.calls (a0_0 : Int) (a0_1 : Int) (a0_2 : Int) (a0_3 : Int) (A0_4 : Option Addr) (c0_4 : Nat) (l0_4 : List Int) (A0_5 : Option Addr) (c0_5 : Nat) (l0_5 : List (S54)) (A0_6 : Option Addr) (c0_6 : Nat) (l0_6 : List (S54)) (r : Bool) (w : World) (hr0_4 : Kd.C (Kd.int .i64) w A0_4 l0_4.length l0_4) (hc0_4 : l0_4.length ≤ c0_4) (hr0_5 : Kd.C k54 w A0_5 l0_5.length l0_5) (hc0_5 : l0_5.length ≤ c0_5) (hr0_6 : Kd.C k54 w A0_6 l0_6.length l0_6) (hc0_6 : l0_6.length ≤ c0_6) (h : instr_may.f a0_0 a0_1 a0_2 a0_3 l0_4 l0_5 l0_6 = some r) :
    Calls Try.prog 45 #[.agg #[.int .i64 a0_0, .int .i64 a0_1, .int .i64 a0_2, .int .i64 a0_3, .slice A0_4 l0_4.length c0_4, .slice A0_5 l0_5.length c0_5, .slice A0_6 l0_6.length c0_6]] w fun e w' => e = .returned (.bool r) ∧ Below w.heap.size w w' := by
  have hN : l0_4.length < 9223372036854775807 := by
    unfold instr_may.f at h
    split at h
    · assumption
    · cases h
  rw [instr_may.f, if_pos hN] at h
  obtain ⟨⟨s1, s2⟩, hs, hz1⟩ := Option.bind_eq_some_iff.mp h
  obtain ⟨⟨t1, t2⟩, ht, hz2⟩ := Option.bind_eq_some_iff.mp hz1
  obtain rfl := Option.some.inj hz2
  clear hz1 hz2 h
  go_enter Try.func45, Try.ntmps45
  go_upto_block 0 with (first | (go_at_call 10; (with_reducible refine (instr_Shape.calls 40 a0_0 s1 s2 _ hs).mono ?_); rintro e w' ⟨rfl, ⟨nd, rfl⟩⟩))
  have hb0 : (((w.alloc (Obj.cells #[.int .i64 a0_0, .int .i64 a0_1, .int .i64 a0_2, .int .i64 a0_3, .slice A0_4 l0_4.length c0_4, .slice A0_5 l0_5.length c0_5, .slice A0_6 l0_6.length c0_6] 54)).drewN nd).alloc (Obj.cells #[.int .i64 a0_0, .int .i64 a0_1, .int .i64 a0_2, .int .i64 a0_3, .slice A0_4 l0_4.length c0_4, .slice A0_5 l0_5.length c0_5, .slice A0_6 l0_6.length c0_6] 54)).heap[w.heap.size + 1]? = some (.cells #[.int .i64 a0_0, .int .i64 a0_1, .int .i64 a0_2, .int .i64 a0_3, .slice A0_4 l0_4.length c0_4, .slice A0_5 l0_5.length c0_5, .slice A0_6 l0_6.length c0_6] 54 (0, 0)) := by
    have := heap_alloc_new ((w.alloc (Obj.cells #[.int .i64 a0_0, .int .i64 a0_1, .int .i64 a0_2, .int .i64 a0_3, .slice A0_4 l0_4.length c0_4, .slice A0_5 l0_5.length c0_5, .slice A0_6 l0_6.length c0_6] 54)).drewN nd) (Obj.cells #[.int .i64 a0_0, .int .i64 a0_1, .int .i64 a0_2, .int .i64 a0_3, .slice A0_4 l0_4.length c0_4, .slice A0_5 l0_5.length c0_5, .slice A0_6 l0_6.length c0_6] 54)
    simpa using this
  have hi0 : (((w.alloc (Obj.cells #[.int .i64 a0_0, .int .i64 a0_1, .int .i64 a0_2, .int .i64 a0_3, .slice A0_4 l0_4.length c0_4, .slice A0_5 l0_5.length c0_5, .slice A0_6 l0_6.length c0_6] 54)).drewN nd).alloc (Obj.cells #[.int .i64 a0_0, .int .i64 a0_1, .int .i64 a0_2, .int .i64 a0_3, .slice A0_4 l0_4.length c0_4, .slice A0_5 l0_5.length c0_5, .slice A0_6 l0_6.length c0_6] 54)).heap[w.heap.size]? = some (.cells #[.int .i64 a0_0, .int .i64 a0_1, .int .i64 a0_2, .int .i64 a0_3, .slice A0_4 l0_4.length c0_4, .slice A0_5 l0_5.length c0_5, .slice A0_6 l0_6.length c0_6] 54 (0, 0)) := by
    rw [Lib.alloc_old _ _ _ (by simp)]
    exact heap_alloc_new w _
  have hB0 : Below w.heap.size w (((w.alloc (Obj.cells #[.int .i64 a0_0, .int .i64 a0_1, .int .i64 a0_2, .int .i64 a0_3, .slice A0_4 l0_4.length c0_4, .slice A0_5 l0_5.length c0_5, .slice A0_6 l0_6.length c0_6] 54)).drewN nd).alloc (Obj.cells #[.int .i64 a0_0, .int .i64 a0_1, .int .i64 a0_2, .int .i64 a0_3, .slice A0_4 l0_4.length c0_4, .slice A0_5 l0_5.length c0_5, .slice A0_6 l0_6.length c0_6] 54)) := below_alloc (pw_below_drewN (below_alloc (Below.refl _ _) _) nd) _
  generalize (((w.alloc (Obj.cells #[.int .i64 a0_0, .int .i64 a0_1, .int .i64 a0_2, .int .i64 a0_3, .slice A0_4 l0_4.length c0_4, .slice A0_5 l0_5.length c0_5, .slice A0_6 l0_6.length c0_6] 54)).drewN nd).alloc (Obj.cells #[.int .i64 a0_0, .int .i64 a0_1, .int .i64 a0_2, .int .i64 a0_3, .slice A0_4 l0_4.length c0_4, .slice A0_5 l0_5.length c0_5, .slice A0_6 l0_6.length c0_6] 54)) = W at hb0 hi0 hB0 ⊢
  generalize hg : w.heap.size + 1 = g at hb0 ⊢
  have hge : w.heap.size ≤ g := by omega
  have i0 : W.cell? ⟨w.heap.size, 0, none⟩ = some (.int .i64 a0_0) := blk_cell hi0 0
  have i1 : W.cell? ⟨w.heap.size, 1, none⟩ = some (.int .i64 a0_1) := blk_cell hi0 1
  have i2 : W.cell? ⟨w.heap.size, 2, none⟩ = some (.int .i64 a0_2) := blk_cell hi0 2
  have i3 : W.cell? ⟨w.heap.size, 3, none⟩ = some (.int .i64 a0_3) := blk_cell hi0 3
  have i4 : W.cell? ⟨w.heap.size, 4, none⟩ = some (.slice A0_4 l0_4.length c0_4) := blk_cell hi0 4
  have i6 : W.cell? ⟨w.heap.size, 6, none⟩ = some (.slice A0_6 l0_6.length c0_6) := blk_cell hi0 6
  have b1 : W.cell? ⟨g, 1, none⟩ = some (.int .i64 a0_1) := blk_cell hb0 1
  have f1 : W.frozen? ⟨g, 1, none⟩ = false := blk_frozen hb0 1
  have b2 : W.cell? ⟨g, 2, none⟩ = some (.int .i64 a0_2) := blk_cell hb0 2
  have f2 : W.frozen? ⟨g, 2, none⟩ = false := blk_frozen hb0 2
  have b3 : W.cell? ⟨g, 3, none⟩ = some (.int .i64 a0_3) := blk_cell hb0 3
  have f3 : W.frozen? ⟨g, 3, none⟩ = false := blk_frozen hb0 3
  have b4 : W.cell? ⟨g, 4, none⟩ = some (.slice A0_4 l0_4.length c0_4) := blk_cell hb0 4
  have f4 : W.frozen? ⟨g, 4, none⟩ = false := blk_frozen hb0 4
  have b5 : W.cell? ⟨g, 5, none⟩ = some (.slice A0_5 l0_5.length c0_5) := blk_cell hb0 5
  have f5 : W.frozen? ⟨g, 5, none⟩ = false := blk_frozen hb0 5
  have b6 : W.cell? ⟨g, 6, none⟩ = some (.slice A0_6 l0_6.length c0_6) := blk_cell hb0 6
  have f6 : W.frozen? ⟨g, 6, none⟩ = false := blk_frozen hb0 6
  go_cut [6] (fun v6 wc => ∃ (ok : Bool) (a b m : Int) (pN : Option Addr) (nN cN : Nat) (pL : Option Addr) (nL cL : Nat) (pE : Option Addr) (nE cE : Nat), v6 = .bool ok ∧ Aside0 (wc.heap[g]? = some (.cells #[.int .i64 a0_0, .int .i64 a, .int .i64 b, .int .i64 m, .slice pN nN cN, .slice pL nL cL, .slice pE nE cE] 54 (0, 0))) ∧ Aside0 (Below w.heap.size w wc) ∧ Aside0 (mayS s1 a0_0 a0_1 a0_2 a0_3 l0_4 l0_5 l0_6 (t1, t2) = (ok && (a == 0 && (b == 0 && (m == 0 && (nN == 0 && (nL == 0 && nE == 0))))))))
  case first =>
    by_cases h1 : s1 = 1
    · subst h1
      go_wp2
      go_meet
      case rel => exact ⟨_, _, _, _, _, _, _, _, _, _, _, _, _, rfl, ⟨hb0⟩, ⟨hB0⟩, ⟨by (try clear hi0 i0 i1 i2 i3 i4 i6 b1 b2 b3 b4 b5 b6 f1 f2 f3 f4 f5 f6 hr0_4 hr0_5 hr0_6 hc0_4 hc0_5 hc0_6 hs ht hN hb0 hB0); simp only [mayS, Int.reduceEq, or_self, or_true, true_or, or_false, false_or, if_true, if_false, nat0]; first | rfl | (simp [*]; done) | (simp only [*, Bool.false_or, Bool.true_or, Bool.true_and, Bool.false_and, Bool.and_true, Bool.and_false]; done) | (simp_all; done) | (simp_all; omega)⟩⟩
    have e1 : (s1 == 1) = false := beq_eq_false_iff_ne.mpr h1
    by_cases h11 : s1 = 11
    · subst h11
      go_wp2
      go_meet
      case rel => exact ⟨_, _, _, _, _, _, _, _, _, _, _, _, _, rfl, ⟨hb0⟩, ⟨hB0⟩, ⟨by (try clear hi0 i0 i1 i2 i3 i4 i6 b1 b2 b3 b4 b5 b6 f1 f2 f3 f4 f5 f6 hr0_4 hr0_5 hr0_6 hc0_4 hc0_5 hc0_6 hs ht hN hb0 hB0); simp only [mayS, Int.reduceEq, or_self, or_true, true_or, or_false, false_or, if_true, if_false, nat0]; first | rfl | (simp [*]; done) | (simp only [*, Bool.false_or, Bool.true_or, Bool.true_and, Bool.false_and, Bool.and_true, Bool.and_false]; done) | (simp_all; done) | (simp_all; omega)⟩⟩
    have e11 : (s1 == 11) = false := beq_eq_false_iff_ne.mpr h11
    by_cases h2 : s1 = 2
    · subst h2
      have c4 : (a0_0 == 4) = true ∨ (a0_0 == 4) = false := by cases (a0_0 == 4) <;> simp
      rcases c4 with c4 | c4
      all_goals
        go_wp2_with (first | (go_at_call 56; (with_reducible refine (inx_calls _ _).mono ?_); rintro e w' ⟨rfl, ⟨nd, rfl⟩⟩) | (go_at_call 55; (with_reducible refine (bty_calls _ _).mono ?_); rintro e w' ⟨rfl, ⟨nd, rfl⟩⟩) | (go_at_call 12; (with_reducible refine (instr_Type.calls 5 a0_1 t1 t2 _ ht).mono ?_); rintro e w' ⟨rfl, ⟨nd, rfl⟩⟩))
        all_goals (go_meet; case rel => first | exact ⟨_, _, _, _, _, _, _, _, _, _, _, _, _, rfl, ⟨set7_6 (set7_5 (set7_1 (hb0) (.int .i64 0)) (.slice none 0 0)) (.slice none 0 0)⟩, ⟨(below_set (below_set (below_set (pw_below_drewN hB0 _) hge) hge) hge)⟩, ⟨by (try clear hi0 i0 i1 i2 i3 i4 i6 b1 b2 b3 b4 b5 b6 f1 f2 f3 f4 f5 f6 hr0_4 hr0_5 hr0_6 hc0_4 hc0_5 hc0_6 hs ht hN hb0 hB0); simp only [mayS, Int.reduceEq, or_self, or_true, true_or, or_false, false_or, if_true, if_false, nat0]; first | rfl | (simp [*]; done) | (simp only [*, Bool.false_or, Bool.true_or, Bool.true_and, Bool.false_and, Bool.and_true, Bool.and_false]; done) | (simp_all; done) | (simp_all; omega)⟩⟩)
    have e2 : (s1 == 2) = false := beq_eq_false_iff_ne.mpr h2
    by_cases h3 : s1 = 3
    · subst h3
      go_wp2_with (first | (go_at_call 56; (with_reducible refine (inx_calls _ _).mono ?_); rintro e w' ⟨rfl, ⟨nd, rfl⟩⟩) | (go_at_call 55; (with_reducible refine (bty_calls _ _).mono ?_); rintro e w' ⟨rfl, ⟨nd, rfl⟩⟩) | (go_at_call 12; (with_reducible refine (instr_Type.calls 5 a0_1 t1 t2 _ ht).mono ?_); rintro e w' ⟨rfl, ⟨nd, rfl⟩⟩))
      all_goals (go_meet; case rel => first | exact ⟨_, _, _, _, _, _, _, _, _, _, _, _, _, rfl, ⟨set7_1 (hb0) (.int .i64 0)⟩, ⟨(below_set (pw_below_drewN hB0 _) hge)⟩, ⟨by (try clear hi0 i0 i1 i2 i3 i4 i6 b1 b2 b3 b4 b5 b6 f1 f2 f3 f4 f5 f6 hr0_4 hr0_5 hr0_6 hc0_4 hc0_5 hc0_6 hs ht hN hb0 hB0); simp only [mayS, Int.reduceEq, or_self, or_true, true_or, or_false, false_or, if_true, if_false, nat0]; first | rfl | (simp [*]; done) | (simp only [*, Bool.false_or, Bool.true_or, Bool.true_and, Bool.false_and, Bool.and_true, Bool.and_false]; done) | (simp_all; done) | (simp_all; omega)⟩⟩)
    have e3 : (s1 == 3) = false := beq_eq_false_iff_ne.mpr h3
    by_cases h4 : s1 = 4
    · subst h4
      have hx0 : inx a0_1 = true ∨ inx a0_1 = false := by cases inx a0_1 <;> simp
      rcases hx0 with hx0 | hx0
      all_goals
        go_wp2_with (first | (go_at_call 56; (with_reducible refine (inx_calls _ _).mono ?_); rintro e w' ⟨rfl, ⟨nd, rfl⟩⟩) | (go_at_call 55; (with_reducible refine (bty_calls _ _).mono ?_); rintro e w' ⟨rfl, ⟨nd, rfl⟩⟩) | (go_at_call 12; (with_reducible refine (instr_Type.calls 5 a0_1 t1 t2 _ ht).mono ?_); rintro e w' ⟨rfl, ⟨nd, rfl⟩⟩))
        go_loopg [6, 61] l0_4.length (fun d v6 v61 w' => ∃ (ok : Bool) (i : Nat) (m : Nat), v6 = .bool ok ∧ v61 = .int .i64 i ∧ Aside0 (i + d = l0_4.length) ∧ Aside0 ((ok && (l0_4.drop i).all inx) = (inx a0_1 && decide (l0_4.length ≤ 1000) && l0_4.all inx)) ∧ w' = W.drewN m)
        case atStart => exact ⟨_, 0, _, rfl, rfl, ⟨by simp⟩, ⟨by simp [*, nat1]⟩, rfl⟩
        case round =>
          obtain ⟨ok, i, m, rfl, rfl, hi, hok, rfl⟩ := hrel
          by_cases hlt : i < l0_4.length
          · have p0 : (0 : Int) ≤ (i : Int) := by omega
            have q0 : (i : Int) < (l0_4.length : Int) := by omega
            obtain ⟨ad, e5, hx⟩ := Kd.at_int hr0_4 (i : Int) p0 q0
            cases e5
            replace hx := (hB0.cell (World.block_lt_of_cell? w _ hx)).trans hx
            have hd : l0_4.drop i = rd l0_4 (i : Int) :: l0_4.drop (i + 1) := by
              rw [List.drop_eq_getElem_cons hlt]; simp [rd, List.getD, hlt]
            have hw1 : wrap64 ((i : Int) + 1) = ((i + 1 : Nat) : Int) := by
              have := hi.out; unfold wrap64; omega
            rw [hd] at hok
            have hx2 : W.cell? (ad.add i) = some (.int .i64 (rd l0_4 (i : Int))) := hx
            replace p0 := eq_true p0
            replace q0 := eq_true q0
            cases ok
            all_goals
              go_wp2_with (first | (go_at_call 56; (with_reducible refine (inx_calls _ _).mono ?_); rintro e w' ⟨rfl, ⟨nd, rfl⟩⟩) | (go_at_call 55; (with_reducible refine (bty_calls _ _).mono ?_); rintro e w' ⟨rfl, ⟨nd, rfl⟩⟩) | (go_at_call 12; (with_reducible refine (instr_Type.calls 5 a0_1 t1 t2 _ ht).mono ?_); rintro e w' ⟨rfl, ⟨nd, rfl⟩⟩))
              go_roundg (l0_4.length - (i + 1))
              case measure => have := hi.out; omega
              case rel => exact ⟨_, i + 1, _, rfl, by first | rfl | (rw [hw1]; done) | (simp [hw1]; done), ⟨by omega⟩, ⟨by have h5 := hok.out; simp only [List.all_cons, Bool.true_and, Bool.false_and] at h5 ⊢; exact h5⟩, by first | rfl | (simp; done)⟩
          · have hq : decide ((i : Int) < (l0_4.length : Int)) = false := decide_eq_false (by omega)
            have hd : l0_4.drop i = [] := List.drop_eq_nil_of_le (by omega)
            rw [hd] at hok
            go_wp2
            go_meet
            case rel => exact ⟨_, _, _, _, _, _, _, _, _, _, _, _, _, rfl, ⟨set7_4 (set7_1 (hb0) (.int .i64 0)) (.slice none 0 0)⟩, ⟨(below_set (below_set (pw_below_drewN hB0 _) hge) hge)⟩, ⟨by have h5 := hok.out; simp only [List.all_nil, Bool.and_true] at h5; rw [h5]; simp [mayS, nat0]⟩⟩
    have e4 : (s1 == 4) = false := beq_eq_false_iff_ne.mpr h4
    by_cases h5 : s1 = 5
    · subst h5
      go_wp2_with (first | (go_at_call 56; (with_reducible refine (inx_calls _ _).mono ?_); rintro e w' ⟨rfl, ⟨nd, rfl⟩⟩) | (go_at_call 55; (with_reducible refine (bty_calls _ _).mono ?_); rintro e w' ⟨rfl, ⟨nd, rfl⟩⟩) | (go_at_call 12; (with_reducible refine (instr_Type.calls 5 a0_1 t1 t2 _ ht).mono ?_); rintro e w' ⟨rfl, ⟨nd, rfl⟩⟩))
      all_goals (go_meet; case rel => first | exact ⟨_, _, _, _, _, _, _, _, _, _, _, _, _, rfl, ⟨set7_3 (set7_1 (hb0) (.int .i64 0)) (.int .i64 0)⟩, ⟨(below_set (below_set (pw_below_drewN hB0 _) hge) hge)⟩, ⟨by (try clear hi0 i0 i1 i2 i3 i4 i6 b1 b2 b3 b4 b5 b6 f1 f2 f3 f4 f5 f6 hr0_4 hr0_5 hr0_6 hc0_4 hc0_5 hc0_6 hs ht hN hb0 hB0); simp only [mayS, Int.reduceEq, or_self, or_true, true_or, or_false, false_or, if_true, if_false, nat0]; first | rfl | (simp [*]; done) | (simp only [*, Bool.false_or, Bool.true_or, Bool.true_and, Bool.false_and, Bool.and_true, Bool.and_false]; done) | (simp_all; done) | (simp_all; omega)⟩⟩ | exact ⟨_, _, _, _, _, _, _, _, _, _, _, _, _, rfl, ⟨set7_3 (set7_1 (hb0) (.int .i64 0)) (.int .i64 0)⟩, ⟨(below_set (below_set (pw_below_drewN (pw_below_drewN hB0 _) _) hge) hge)⟩, ⟨by (try clear hi0 i0 i1 i2 i3 i4 i6 b1 b2 b3 b4 b5 b6 f1 f2 f3 f4 f5 f6 hr0_4 hr0_5 hr0_6 hc0_4 hc0_5 hc0_6 hs ht hN hb0 hB0); simp only [mayS, Int.reduceEq, or_self, or_true, true_or, or_false, false_or, if_true, if_false, nat0]; first | rfl | (simp [*]; done) | (simp only [*, Bool.false_or, Bool.true_or, Bool.true_and, Bool.false_and, Bool.and_true, Bool.and_false]; done) | (simp_all; done) | (simp_all; omega)⟩⟩)
    have e5 : (s1 == 5) = false := beq_eq_false_iff_ne.mpr h5
    by_cases h9 : s1 = 9
    · subst h9
      go_wp2_with (first | (go_at_call 56; (with_reducible refine (inx_calls _ _).mono ?_); rintro e w' ⟨rfl, ⟨nd, rfl⟩⟩) | (go_at_call 55; (with_reducible refine (bty_calls _ _).mono ?_); rintro e w' ⟨rfl, ⟨nd, rfl⟩⟩) | (go_at_call 12; (with_reducible refine (instr_Type.calls 5 a0_1 t1 t2 _ ht).mono ?_); rintro e w' ⟨rfl, ⟨nd, rfl⟩⟩))
      all_goals (go_meet; case rel => first | exact ⟨_, _, _, _, _, _, _, _, _, _, _, _, _, rfl, ⟨set7_3 (set7_1 (hb0) (.int .i64 0)) (.int .i64 0)⟩, ⟨(below_set (below_set (pw_below_drewN hB0 _) hge) hge)⟩, ⟨by (try clear hi0 i0 i1 i2 i3 i4 i6 b1 b2 b3 b4 b5 b6 f1 f2 f3 f4 f5 f6 hr0_4 hr0_5 hr0_6 hc0_4 hc0_5 hc0_6 hs ht hN hb0 hB0); simp only [mayS, Int.reduceEq, or_self, or_true, true_or, or_false, false_or, if_true, if_false, nat0]; first | rfl | (simp [*]; done) | (simp only [*, Bool.false_or, Bool.true_or, Bool.true_and, Bool.false_and, Bool.and_true, Bool.and_false]; done) | (simp_all; done) | (simp_all; omega)⟩⟩ | exact ⟨_, _, _, _, _, _, _, _, _, _, _, _, _, rfl, ⟨set7_3 (set7_1 (hb0) (.int .i64 0)) (.int .i64 0)⟩, ⟨(below_set (below_set (pw_below_drewN (pw_below_drewN hB0 _) _) hge) hge)⟩, ⟨by (try clear hi0 i0 i1 i2 i3 i4 i6 b1 b2 b3 b4 b5 b6 f1 f2 f3 f4 f5 f6 hr0_4 hr0_5 hr0_6 hc0_4 hc0_5 hc0_6 hs ht hN hb0 hB0); simp only [mayS, Int.reduceEq, or_self, or_true, true_or, or_false, false_or, if_true, if_false, nat0]; first | rfl | (simp [*]; done) | (simp only [*, Bool.false_or, Bool.true_or, Bool.true_and, Bool.false_and, Bool.and_true, Bool.and_false]; done) | (simp_all; done) | (simp_all; omega)⟩⟩)
    have e9 : (s1 == 9) = false := beq_eq_false_iff_ne.mpr h9
    by_cases h6 : s1 = 6
    · subst h6
      go_wp2_with (first | (go_at_call 56; (with_reducible refine (inx_calls _ _).mono ?_); rintro e w' ⟨rfl, ⟨nd, rfl⟩⟩) | (go_at_call 55; (with_reducible refine (bty_calls _ _).mono ?_); rintro e w' ⟨rfl, ⟨nd, rfl⟩⟩) | (go_at_call 12; (with_reducible refine (instr_Type.calls 5 a0_1 t1 t2 _ ht).mono ?_); rintro e w' ⟨rfl, ⟨nd, rfl⟩⟩))
      all_goals (go_meet; case rel => first | exact ⟨_, _, _, _, _, _, _, _, _, _, _, _, _, rfl, ⟨set7_1 (hb0) (.int .i64 0)⟩, ⟨(below_set (pw_below_drewN hB0 _) hge)⟩, ⟨by (try clear hi0 i0 i1 i2 i3 i4 i6 b1 b2 b3 b4 b5 b6 f1 f2 f3 f4 f5 f6 hr0_4 hr0_5 hr0_6 hc0_4 hc0_5 hc0_6 hs ht hN hb0 hB0); simp only [mayS, Int.reduceEq, or_self, or_true, true_or, or_false, false_or, if_true, if_false, nat0]; first | rfl | (simp [*]; done) | (simp only [*, Bool.false_or, Bool.true_or, Bool.true_and, Bool.false_and, Bool.and_true, Bool.and_false]; done) | (simp_all; done) | (simp_all; omega)⟩⟩)
    have e6 : (s1 == 6) = false := beq_eq_false_iff_ne.mpr h6
    by_cases h7 : s1 = 7
    · subst h7
      go_wp2_with (first | (go_at_call 56; (with_reducible refine (inx_calls _ _).mono ?_); rintro e w' ⟨rfl, ⟨nd, rfl⟩⟩) | (go_at_call 55; (with_reducible refine (bty_calls _ _).mono ?_); rintro e w' ⟨rfl, ⟨nd, rfl⟩⟩) | (go_at_call 12; (with_reducible refine (instr_Type.calls 5 a0_1 t1 t2 _ ht).mono ?_); rintro e w' ⟨rfl, ⟨nd, rfl⟩⟩))
      all_goals (go_meet; case rel => first | exact ⟨_, _, _, _, _, _, _, _, _, _, _, _, _, rfl, ⟨set7_3 (set7_2 (set7_1 (hb0) (.int .i64 0)) (.int .i64 0)) (.int .i64 0)⟩, ⟨(below_set (below_set (below_set (pw_below_drewN hB0 _) hge) hge) hge)⟩, ⟨by (try clear hi0 i0 i1 i2 i3 i4 i6 b1 b2 b3 b4 b5 b6 f1 f2 f3 f4 f5 f6 hr0_4 hr0_5 hr0_6 hc0_4 hc0_5 hc0_6 hs ht hN hb0 hB0); simp only [mayS, Int.reduceEq, or_self, or_true, true_or, or_false, false_or, if_true, if_false, nat0]; first | rfl | (simp [*]; done) | (simp only [*, Bool.false_or, Bool.true_or, Bool.true_and, Bool.false_and, Bool.and_true, Bool.and_false]; done) | (simp_all; done) | (simp_all; omega)⟩⟩ | exact ⟨_, _, _, _, _, _, _, _, _, _, _, _, _, rfl, ⟨set7_3 (set7_2 (set7_1 (hb0) (.int .i64 0)) (.int .i64 0)) (.int .i64 0)⟩, ⟨(below_set (below_set (below_set (pw_below_drewN (pw_below_drewN hB0 _) _) hge) hge) hge)⟩, ⟨by (try clear hi0 i0 i1 i2 i3 i4 i6 b1 b2 b3 b4 b5 b6 f1 f2 f3 f4 f5 f6 hr0_4 hr0_5 hr0_6 hc0_4 hc0_5 hc0_6 hs ht hN hb0 hB0); simp only [mayS, Int.reduceEq, or_self, or_true, true_or, or_false, false_or, if_true, if_false, nat0]; first | rfl | (simp [*]; done) | (simp only [*, Bool.false_or, Bool.true_or, Bool.true_and, Bool.false_and, Bool.and_true, Bool.and_false]; done) | (simp_all; done) | (simp_all; omega)⟩⟩)
    have e7 : (s1 == 7) = false := beq_eq_false_iff_ne.mpr h7
    by_cases h8 : s1 = 8
    · subst h8
      go_wp2_with (first | (go_at_call 56; (with_reducible refine (inx_calls _ _).mono ?_); rintro e w' ⟨rfl, ⟨nd, rfl⟩⟩) | (go_at_call 55; (with_reducible refine (bty_calls _ _).mono ?_); rintro e w' ⟨rfl, ⟨nd, rfl⟩⟩) | (go_at_call 12; (with_reducible refine (instr_Type.calls 5 a0_1 t1 t2 _ ht).mono ?_); rintro e w' ⟨rfl, ⟨nd, rfl⟩⟩))
      all_goals (go_meet; case rel => first | exact ⟨_, _, _, _, _, _, _, _, _, _, _, _, _, rfl, ⟨set7_3 (hb0) (.int .i64 0)⟩, ⟨(below_set (pw_below_drewN hB0 _) hge)⟩, ⟨by (try clear hi0 i0 i1 i2 i3 i4 i6 b1 b2 b3 b4 b5 b6 f1 f2 f3 f4 f5 f6 hr0_4 hr0_5 hr0_6 hc0_4 hc0_5 hc0_6 hs ht hN hb0 hB0); simp only [mayS, Int.reduceEq, or_self, or_true, true_or, or_false, false_or, if_true, if_false, nat0]; first | rfl | (simp [*]; done) | (simp only [*, Bool.false_or, Bool.true_or, Bool.true_and, Bool.false_and, Bool.and_true, Bool.and_false]; done) | (simp_all; done) | (simp_all; omega)⟩⟩)
    have e8 : (s1 == 8) = false := beq_eq_false_iff_ne.mpr h8
    by_cases h10 : s1 = 10
    · subst h10
      have c4 : (a0_0 == 66) = true ∨ (a0_0 == 66) = false := by cases (a0_0 == 66) <;> simp
      rcases c4 with c4 | c4
      all_goals
        go_wp2_with (first | (go_at_call 56; (with_reducible refine (inx_calls _ _).mono ?_); rintro e w' ⟨rfl, ⟨nd, rfl⟩⟩) | (go_at_call 55; (with_reducible refine (bty_calls _ _).mono ?_); rintro e w' ⟨rfl, ⟨nd, rfl⟩⟩) | (go_at_call 12; (with_reducible refine (instr_Type.calls 5 a0_1 t1 t2 _ ht).mono ?_); rintro e w' ⟨rfl, ⟨nd, rfl⟩⟩))
        all_goals (go_meet; case rel => first | exact ⟨_, _, _, _, _, _, _, _, _, _, _, _, _, rfl, ⟨set7_1 (hb0) (.int .i64 0)⟩, ⟨(below_set hB0 hge)⟩, ⟨by (try clear hi0 i0 i1 i2 i3 i4 i6 b1 b2 b3 b4 b5 b6 f1 f2 f3 f4 f5 f6 hr0_4 hr0_5 hr0_6 hc0_4 hc0_5 hc0_6 hs ht hN hb0 hB0); simp only [mayS, Int.reduceEq, or_self, or_true, true_or, or_false, false_or, if_true, if_false, nat0]; first | rfl | (simp [*]; done) | (simp only [*, Bool.false_or, Bool.true_or, Bool.true_and, Bool.false_and, Bool.and_true, Bool.and_false]; done) | (simp_all; done) | (simp_all; omega)⟩⟩)
    have e10 : (s1 == 10) = false := beq_eq_false_iff_ne.mpr h10
    go_wp2
    all_goals (go_meet; case rel => exact ⟨_, _, _, _, _, _, _, _, _, _, _, _, _, rfl, ⟨hb0⟩, ⟨hB0⟩, ⟨by (try clear hi0 i0 i1 i2 i3 i4 i6 b1 b2 b3 b4 b5 b6 f1 f2 f3 f4 f5 f6 hr0_4 hr0_5 hr0_6 hc0_4 hc0_5 hc0_6 hs ht hN hb0 hB0); simp only [mayS, Int.reduceEq, or_self, or_true, true_or, or_false, false_or, if_true, if_false, nat0]; first | rfl | (simp [*]; done) | (simp only [*, Bool.false_or, Bool.true_or, Bool.true_and, Bool.false_and, Bool.and_true, Bool.and_false]; done) | (simp_all; done) | (simp_all; omega)⟩⟩)
  case rest =>
    obtain ⟨ok, a, b, m, pN, nN, cN, pL, nL, cL, pE, nE, cE, rfl, hb, hB, hm⟩ := hcut
    have d1 : wc.cell? ⟨g, 1, none⟩ = some (.int .i64 a) := blk_cell hb.out 1
    have d2 : wc.cell? ⟨g, 2, none⟩ = some (.int .i64 b) := blk_cell hb.out 2
    have d3 : wc.cell? ⟨g, 3, none⟩ = some (.int .i64 m) := blk_cell hb.out 3
    have d4 : wc.cell? ⟨g, 4, none⟩ = some (.slice pN nN cN) := blk_cell hb.out 4
    have d5 : wc.cell? ⟨g, 5, none⟩ = some (.slice pL nL cL) := blk_cell hb.out 5
    have d6 : wc.cell? ⟨g, 6, none⟩ = some (.slice pE nE cE) := blk_cell hb.out 6
    clear i0 i1 i2 i3 i4 i6 b1 b2 b3 b4 b5 b6 f1 f2 f3 f4 f5 f6
    cases ok
    all_goals
      go_wp2
      all_goals (go_ret; exact ⟨by rw [hm.out]; first | rfl | (simp; done) | (simp_all [nat0]; done), by first | exact hB.out | exact pw_below_drewN hB.out _⟩)
def instr_isBlock.f (a0 : Int) : Option (Bool) := if a0 ≥ 2 then (some (decide (a0 ≤ 4))) else (some false)
set_option maxHeartbeats 8000000 in
set_option maxRecDepth 100000 in
theorem instr_isBlock.calls (a0 : Int) (r : Bool) (w : World) (h : instr_isBlock.f a0 = some r) :
    Calls Try.prog 46 #[.int .i64 a0] w fun e w' => e = .returned (.bool r) ∧ Drawn0 w w' := by
  have H : (if a0 ≥ 2 then (some (decide (a0 ≤ 4))) else (some false)) = some r := h
  clear h
  by_cases c2 : a0 ≥ 2
  · rw [if_pos c2] at H
    have c2b0 : decide (2 ≤ a0) = true := decide_eq_true c2
    clear c2
    obtain rfl := Option.some.inj H
    go_enter Try.func46, Try.ntmps46
    go_wp2
    go_ret
    exact ⟨by first | rfl | (simp; done) | (simp [*]; done), by repeat (first | exact Drawn0.refl _ | apply Drawn0.step)⟩
  · rw [if_neg c2] at H
    have c2b0 : decide (2 ≤ a0) = false := decide_eq_false c2
    clear c2
    obtain rfl := Option.some.inj H
    go_enter Try.func46, Try.ntmps46
    go_wp2
    go_ret
    exact ⟨by first | rfl | (simp; done) | (simp [*]; done), by repeat (first | exact Drawn0.refl _ | apply Drawn0.step)⟩
theorem bld_u : Try.prog.underlying 84 = some .unsafePointer := Try.underlying84
theorem bld_p : Try.prog.underlying 55 = some (.pointer 57) := Try.underlying55
theorem bld_size : (Try.prog.info? 57).map (fun i => i.size) = some 2 := by kernel_rfl
set_option maxHeartbeats 8000000 in
set_option maxRecDepth 100000 in
theorem bld_check_fresh (b : Nat) (w : World) (h0 : w.cell? ⟨b, 0, none⟩ = some (.pointer none)) (hsh : w.shape? b = some (57, 2)) (hfz : w.frozen? ⟨b, 0, none⟩ = false) :
    Calls Try.prog 43 #[.pointer (some ⟨b, 0, none⟩)] w fun e w' => e = .returned (.tuple #[]) ∧ w' = w.setCell ⟨b, 0, none⟩ (.pointer (some ⟨b, 0, none⟩)) := by
  obtain ⟨j, hj, hjs⟩ := Option.map_eq_some_iff.1 bld_size
  go_enter Try.func43, Try.ntmps43
  go_wp2
  rw [Lib.run_to_unsafe w ⟨b, 0, none⟩ bld_p bld_u hj (by rw [hjs]; decide) hsh (Nat.zero_lt_succ 1)]
  simp only [Result.andThen]
  rw [Oper.upon_value]
  go_wp2
  rw [run_callFunc_extern Try.func51 (by kernel_rfl) (by kernel_rfl) (by kernel_rfl) (e := Extern.AbiNoEscape.same) (by kernel_rfl)]
  rw [Lib.run_noEscape]
  simp only [Result.andThen]
  rw [Oper.upon_value]
  go_wp2
  rw [Lib.run_from_unsafe w ⟨b, 0, none⟩ bld_u bld_p hj hsh (by kernel_rfl)]
  simp only [Result.andThen]
  rw [Oper.upon_value]
  go_wp2
  go_end0
  exact ⟨rfl, rfl⟩
set_option maxHeartbeats 8000000 in
set_option maxRecDepth 100000 in
theorem bld_check_used (b : Nat) (w : World) (h0 : w.cell? ⟨b, 0, none⟩ = some (.pointer (some ⟨b, 0, none⟩))) :
    Calls Try.prog 43 #[.pointer (some ⟨b, 0, none⟩)] w fun e w' => e = .returned (.tuple #[]) ∧ w' = w := by
  obtain ⟨j, hj, _⟩ := Option.map_eq_some_iff.1 bld_size
  go_enter Try.func43, Try.ntmps43
  go_wp2
  rw [Lib.run_neq_ptr_same w _ bld_p hj]
  go_wp2
  go_end0
  exact ⟨rfl, rfl⟩
theorem bld_check (B b : Nat) (bs : List Value) (w : World) (h : Lib.IsBuilderF 57 5 B b bs w) :
    Calls Try.prog 43 #[.pointer (some ⟨b, 0, none⟩)] w fun e w' => e = .returned (.tuple #[]) ∧ (Lib.BuilderAtF 57 5 B b (.pointer (some ⟨b, 0, none⟩)) bs w' ∧ Below B w w' ∧ Lib.OthersKept 5 (some b) w w') := by
  rcases h with h | h
  · refine (bld_check_fresh b w h.cell0 h.shape h.frozen0).mono ?_
    rintro e w' ⟨rfl, rfl⟩
    exact ⟨rfl, h.used _, (Below.refl B w).setCell (p := ⟨b, 0, none⟩) h.1 _, (Lib.OthersKept.refl _ _ w).setCell ⟨b, 0, none⟩ rfl _⟩
  · refine (bld_check_used b w h.cell0).mono ?_
    rintro e w' ⟨rfl, rfl⟩
    exact ⟨rfl, h, Below.refl B _, Lib.OthersKept.refl _ _ _⟩
theorem bld_info : (Try.prog.info? 5).map (fun i => (i.zero, i.size, i.bytes)) = some (some (.int .u8 0), 1, 1) := by kernel_rfl
set_option maxHeartbeats 8000000 in
set_option maxRecDepth 100000 in
theorem bld_byte (B b : Nat) (bs : List Value) (c : Int) (w : World) (h : Lib.IsBuilderF 57 5 B b bs w) (hlen : bs.length + 1 ≤ 140737488355328) (hBw : B ≤ w.heap.size) :
    Calls Try.prog 29 #[.pointer (some ⟨b, 0, none⟩), .int .u8 c] w fun e w' => e = .returned .nilIface ∧ (Lib.BuilderAtF 57 5 B b (.pointer (some ⟨b, 0, none⟩)) (bs ++ [.int .u8 c]) w' ∧ Below B w w' ∧ Lib.OthersKept 5 (some b) w w') := by
  obtain ⟨i0, hi, hz0, hz1, hz2⟩ := info_parts bld_info
  have e240 : ∀ args w, (callFunc 43 args).run Try.prog w = .ok (.enter 43 args) w := enters_of Try.func43 (by kernel_rfl) rfl
  go_enter Try.func29, Try.ntmps29
  go_wp2_with (go_at_fn 43; refine (bld_check B b bs _ h).mono ?_)
  rintro e w1 ⟨rfl, h1, hb1, hk1⟩
  obtain ⟨hB, v, hbk, hown, hne⟩ := h1
  have c0 : w1.cell? ⟨b, 0, none⟩ = some (.pointer (some ⟨b, 0, none⟩)) := by rw [Lib.cell_of_heap hbk]; rfl
  have c1 : w1.cell? ⟨b, 1, none⟩ = some v := by rw [Lib.cell_of_heap hbk]; rfl
  go_wp2_with (at_builtin; refine wpList_append_ownF _ rfl _ _ 43 rfl B 5 i0 (.int .u8 0) 1 1 Try.underlying43 hi hz0 hz1 hz2 rfl (by decide) _ _ _ rfl (hown.alloc _) ⟨w1.heap.size, 0, none⟩ 1 1 [.int .u8 c] rfl rfl ?c1 ?c2 ?c3 ?c4 ?c5 ?_)
  case c1 =>
    intro j u hj
    match j, hj with
    | 0, hj => simp at hj; subst hj; simp [Addr.add]
  case c2 => intro u hu; simp at hu; subst hu; rfl
  case c3 => unfold maxLen; omega
  case c4 => omega
  case c5 => have := hb1.size; simp; omega
  intro v' w2 hown' hgrow _
  have hlt : b < w1.heap.size := blk_lt hbk
  have hb2 : w2.heap[b]? = some (.cells #[.pointer (some ⟨b, 0, none⟩), v] 57 (0, 0)) := by
    rw [hgrow.block b (by simp; omega) (fun e => hne e.symm), Lib.alloc_old w1 _ b hlt]
    exact hbk
  have d0 : w2.cell? ⟨b, 0, none⟩ = some (.pointer (some ⟨b, 0, none⟩)) := by rw [Lib.cell_of_heap hb2]; rfl
  have d1 : w2.cell? ⟨b, 1, none⟩ = some v := by rw [Lib.cell_of_heap hb2]; rfl
  have f1 : w2.frozen? ⟨b, 1, none⟩ = false := Lib.frozen_of_heap hb2 1
  obtain ⟨g, cap, rfl⟩ : ∃ g cap, v' = .slice (some ⟨g, 0, none⟩) (bs.length + 1) cap := by
    rcases hown'.2 with ⟨_, h0⟩ | ⟨g, cap, cur, fz, hv, _⟩
    · omega
    · exact ⟨g, cap, hv⟩
  go_wp2
  go_ret
  refine ⟨rfl, ?_, ?_, ((hk1.alloc _).grown hgrow (Lib.ownsRowF_kind (hown.alloc _))).setCell ⟨b, 1, none⟩ rfl _⟩
  · exact Lib.BuilderAtF.put (T := 57) (e := 5) hB hb2 (bs' := bs ++ [.int .u8 c]) (by simpa using hown') (by decide)
  · exact ((hb1.alloc (by have := hb1.size; omega) _).grown hgrow (by have := hb1.size; simp; omega) (fun k hk => (hown.lt k hk).1)).setCell (p := ⟨b, 1, none⟩) hB _
set_option maxHeartbeats 8000000 in
set_option maxRecDepth 100000 in
theorem bld_string (B b : Nat) (bs : List Value) (s : ByteArray) (w : World) (h : Lib.IsBuilderF 57 5 B b bs w) (hlen : bs.length + s.size ≤ 140737488355328) (hBw : B ≤ w.heap.size) :
    Calls Try.prog 39 #[.pointer (some ⟨b, 0, none⟩), .string s] w fun e w' => e = .returned (.tuple #[.int .i64 s.size, .nilIface]) ∧ (Lib.BuilderAtF 57 5 B b (.pointer (some ⟨b, 0, none⟩)) (bs ++ Lib.strCells s) w' ∧ Below B w w' ∧ Lib.OthersKept 5 (some b) w w') := by
  obtain ⟨i0, hi, hz0, hz1, hz2⟩ := info_parts bld_info
  have e240 : ∀ args w, (callFunc 43 args).run Try.prog w = .ok (.enter 43 args) w := enters_of Try.func43 (by kernel_rfl) rfl
  go_enter Try.func39, Try.ntmps39
  go_wp2_with (go_at_fn 43; refine (bld_check B b bs _ h).mono ?_)
  rintro e w1 ⟨rfl, h1, hb1, hk1⟩
  obtain ⟨hB, v, hbk, hown, hne⟩ := h1
  have c0 : w1.cell? ⟨b, 0, none⟩ = some (.pointer (some ⟨b, 0, none⟩)) := by rw [Lib.cell_of_heap hbk]; rfl
  have c1 : w1.cell? ⟨b, 1, none⟩ = some v := by rw [Lib.cell_of_heap hbk]; rfl
  go_wp2_with (at_builtin; refine Lib.wpList_append_own_stringF _ rfl _ _ 43 9 rfl B 5 i0 Try.underlying43 Try.underlying9 hi hz0 hz1 hz2 _ _ _ rfl hown s rfl ?c3 ?c4 ?c5 ?_)
  case c3 => unfold maxLen; omega
  case c4 => omega
  case c5 => have := hb1.size; omega
  intro v' w2 hown' hgrow _
  have hlt : b < w1.heap.size := blk_lt hbk
  have hb2 : w2.heap[b]? = some (.cells #[.pointer (some ⟨b, 0, none⟩), v] 57 (0, 0)) := by
    rw [hgrow.block b hlt (fun e => hne e.symm)]
    exact hbk
  have d0 : w2.cell? ⟨b, 0, none⟩ = some (.pointer (some ⟨b, 0, none⟩)) := by rw [Lib.cell_of_heap hb2]; rfl
  have d1 : w2.cell? ⟨b, 1, none⟩ = some v := by rw [Lib.cell_of_heap hb2]; rfl
  have f1 : w2.frozen? ⟨b, 1, none⟩ = false := Lib.frozen_of_heap hb2 1
  obtain ⟨ao, n', cap, rfl⟩ : ∃ ao n' cap, v' = .slice ao n' cap := by
    rcases hown'.2 with ⟨hv, _⟩ | ⟨g, cap, cur, fz, hv, _⟩
    · exact ⟨_, _, _, hv⟩
    · exact ⟨_, _, _, hv⟩
  go_wp2
  go_ret2
  refine ⟨rfl, ?_, ?_, (hk1.grown hgrow (Lib.ownsRowF_kind hown)).setCell ⟨b, 1, none⟩ rfl _⟩
  · exact Lib.BuilderAtF.put (T := 57) (e := 5) hB hb2 (bs' := bs ++ Lib.strCells s) (by simpa [Lib.strCells_length] using hown') (by decide)
  · exact (hb1.grown hgrow (by have := hb1.size; omega) (fun k hk => (hown.lt k hk).1)).setCell (p := ⟨b, 1, none⟩) hB _
def bld_lays_ren : Go.Shelf.Ren := ⟨fun | 169 => 30 | n => n, fun | 70 => 55 | 9 => 9 | 0 => 0 | 72 => 57 | 37 => 43 | 127 => 78 | 3 => 3 | 5 => 5 | n => n, fun | n => n⟩
theorem bld_lays : Go.Proofs.Lays.n169 Try.prog bld_lays_ren := {
  mixed := by kernel_rfl
  f169 := Try.func30.trans (congrArg some (by kernel_rfl))
  t0 := Try.underlying0
  a0 := Try.isAgg0
  z0 := Try.sizeOf0
  v0 := Try.zeroValue0
  t3 := Try.underlying3
  a3 := Try.isAgg3
  z3 := Try.sizeOf3
  v3 := Try.zeroValue3
  t9 := Try.underlying9
  a9 := Try.isAgg9
  z9 := Try.sizeOf9
  v9 := Try.zeroValue9
  t37 := Try.underlying43
  a37 := Try.isAgg43
  z37 := Try.sizeOf43
  v37 := Try.zeroValue43
  t70 := Try.underlying55
  a70 := Try.isAgg55
  z70 := Try.sizeOf55
  v70 := Try.zeroValue55
  t72 := Try.underlying57
  a72 := Try.isAgg57
  z72 := Try.sizeOf57
  v72 := Try.zeroValue57
  t127 := Try.underlying78
  a127 := Try.isAgg78
  z127 := Try.sizeOf78
  v127 := Try.zeroValue78 }
theorem bld_extra : Builder.Extra Try.prog bld_lays_ren := {
  sizeBuilder := by kernel_rfl
  liesBuilder := by kernel_rfl
  t5 := Try.underlying5
  a5 := Try.isAgg5
  z5 := Try.sizeOf5
  v5 := Try.zeroValue5
  infoByte := by kernel_rfl
  cellsByte := by kernel_rfl
  sizeByte := by kernel_rfl
  neB5 := by decide }
theorem bld_String_any (B b : Nat) (l : List UInt8) (w : World) (h : Lib.IsBuilderF 57 5 B b (Lib.byteCells l) w) (hBw : B ≤ w.heap.size) :
    Calls Try.prog 30 #[.pointer (some ⟨b, 0, none⟩)] w fun e w' => e = .returned (.string ⟨l.toArray⟩) ∧ (Lib.IsBuilderF 57 5 B b (Lib.byteCells l) w' ∧ Below B w w' ∧ Lib.OthersKept 5 (some b) w w') := Any.Builder_String_any_k bld_lays bld_extra B b l w h hBw
/-- A builder at block g that holds the text f0; it is one of those that were made behind w0. -/
def IsS57 (w0 W : World) (g : Nat) (f0 : ByteArray) : Prop := Lib.IsBuilderF 57 5 w0.heap.size g (Lib.strCells f0) W
theorem bldAt_below {B g : Nat} {p : Value} {bs : List Value} {W W1 : World} (h : Lib.BuilderAtF 57 5 B g p bs W) (hw : Below W.heap.size W W1) : Lib.BuilderAtF 57 5 B g p bs W1 := by
  obtain ⟨hB, v, hb, hown, hne⟩ := h
  refine ⟨hB, v, (hw.block g (blk_lt hb)).trans hb, hown.kept (grown_of_below hw none) ?_, hne⟩
  cases v.ownBlock with
  | none => exact .inl rfl
  | some k => exact .inr (by simp)
theorem IsS57.below {w0 W : World} {g : Nat} {f0 : ByteArray} {W1 : World} (h : IsS57 w0 W g f0) (hw : Below W.heap.size W W1) : IsS57 w0 W1 g f0 := by
  rcases h with h | h
  · exact .inl (bldAt_below h hw)
  · exact .inr (bldAt_below h hw)
theorem IsS57.alloc {w0 W : World} {g : Nat} {f0 : ByteArray} (h : IsS57 w0 W g f0) (o : Obj) : IsS57 w0 (W.alloc o) g f0 := h.below (below_alloc (Below.refl _ _) o)
theorem IsS57.drewN {w0 W : World} {g : Nat} {f0 : ByteArray} (h : IsS57 w0 W g f0) (m : Nat) : IsS57 w0 (W.drewN m) g f0 := h.below (pw_below_drewN (Below.refl _ _) m)
theorem IsS57.drew {w0 W : World} {g : Nat} {f0 : ByteArray} (h : IsS57 w0 W g f0) : IsS57 w0 W.drew g f0 := h.below (Below.refl _ _).drew
theorem IsS57.at_ {w0 W : World} {g : Nat} {f0 : ByteArray} {w' : World} {m : Nat} (hq : W.drewN m = w') (h : IsS57 w0 W g f0) : IsS57 w0 w' g f0 := by subst hq; exact IsS57.drewN h m
theorem IsS57.ge {w0 W : World} {g : Nat} {f0 : ByteArray} (h : IsS57 w0 W g f0) : w0.heap.size ≤ g := by
  rcases h with h | h <;> exact h.1
theorem IsS57.lt {w0 W : World} {g : Nat} {f0 : ByteArray} (h : IsS57 w0 W g f0) : g < W.heap.size := by
  rcases h with h | h <;> exact h.lt
theorem IsS57.new (w0 W : World) (hB : Below w0.heap.size w0 W) : IsS57 w0 (W.alloc (.cells #[.pointer none, .slice none 0 0] 57)) W.heap.size ByteArray.empty :=
  .inl ⟨hB.size, .slice none 0 0, heap_alloc_new W _, World.ownsRowF_nil _ _ _ _, by simp [Value.ownBlock]⟩
/-- What a call on the builder at block g leaves as it stood: all that is no row of bytes. -/
def KeepB (w w' : World) (g : Nat) (row : Option Nat) : Prop := w.heap.size ≤ w'.heap.size ∧ Lib.OthersKept 5 (some g) w w'
theorem KeepB.refl (w : World) (g : Nat) (row : Option Nat) : KeepB w w g row := ⟨Nat.le_refl _, Lib.OthersKept.refl _ _ _⟩
theorem KeepB.of_below {w w1 : World} (h : Below w.heap.size w w1) (g : Nat) (row : Option Nat) : KeepB w w1 g row := ⟨h.size, fun k o hk _ _ => (h.block k (blk_lt hk)).trans hk⟩
theorem KeepB.trans {w w1 w2 : World} {g : Nat} {row row1 : Option Nat} (h : KeepB w w1 g row) (k : KeepB w1 w2 g row1) (hr : row1 = row ∨ ∃ b, row1 = some b ∧ w.heap.size ≤ b) : KeepB w w2 g row := ⟨Nat.le_trans h.1 k.1, h.2.trans k.2⟩
theorem KeepB.set_ {w w1 : World} {g : Nat} {row : Option Nat} (h : KeepB w w1 g row) (j : Nat) (u : Value) : KeepB w (w1.setCell ⟨g, j, none⟩ u) g row := ⟨by simpa [World.setCell] using h.1, h.2.setCell ⟨g, j, none⟩ rfl u⟩
theorem keepB_drewN {w W : World} {g : Nat} {row : Option Nat} (h : KeepB w W g row) (m : Nat) : KeepB w (W.drewN m) g row := h
theorem keepB_drew {w W : World} {g : Nat} {row : Option Nat} (h : KeepB w W g row) : KeepB w W.drew g row := h
theorem keepB_alloc {w W : World} {g : Nat} (h : KeepB w W g none) (o : Obj) : KeepB w (W.alloc o) g none := h.trans (KeepB.of_below (below_alloc (Below.refl _ _) o) g none) (.inl rfl)
theorem KeepB.blk {w w1 : World} {g g' : Nat} {row : Option Nat} {o : Obj} (h : KeepB w w1 g row) (hb : w.heap[g']? = some o) (hg : g' ≠ g) (ho : ∀ c fz, o ≠ .cells c 5 fz) : w1.heap[g']? = some o := h.2 g' o hb (by simpa using hg) ho
theorem strCells_append (s t : ByteArray) : Lib.strCells (s ++ t) = Lib.strCells s ++ Lib.strCells t := by simp [Lib.strCells]
theorem strCells_byte (c : Int) (h0 : 0 ≤ c) (h1 : c < 256) : Lib.strCells (strOfNums [c]) = [.int .u8 c] := by
  obtain ⟨n, rfl⟩ := Int.eq_ofNat_of_zero_le h0
  have hn : n < 256 := by omega
  simp [Lib.strCells, strOfNums]
  omega
def strings_Builder_WriteByte.f (s0_0 : ByteArray) (a1 : Int) : Option (Option Int × ByteArray) := if s0_0.size + 1 ≤ 140737488355328 then (if 0 ≤ a1 then (if a1 < 256 then some (none, s0_0 ++ strOfNums [a1]) else none) else none) else none
theorem strings_Builder_WriteByte.calls (g : Nat) (s0_0 : ByteArray) (a1 : Int) (r1 : Option Int) (r2 : ByteArray) (w0 w : World) (hI : IsS57 w0 w g s0_0) (hB : Below w0.heap.size w0 w) (h : strings_Builder_WriteByte.f s0_0 a1 = some (r1, r2)) :
    Calls Try.prog 29 #[.pointer (some ⟨g, 0, none⟩), .int .u8 a1] w fun e w' => e = .returned (errW r1) ∧ IsS57 w0 w' g r2 ∧ Below w0.heap.size w0 w' ∧ KeepB w w' g none := by
  unfold strings_Builder_WriteByte.f at h
  split at h <;> rename_i c1
  · split at h <;> rename_i c2
    · split at h <;> rename_i c3
      · obtain ⟨rfl, rfl⟩ := Prod.mk.inj (Option.some.inj h)
        refine (bld_byte w0.heap.size g _ a1 w hI (by rw [Lib.strCells_length]; exact c1) hB.size).mono ?_
        rintro e w' ⟨rfl, h1, h2, h3⟩
        refine ⟨rfl, .inr ?_, hB.trans h2, h2.size, h3⟩
        rw [strCells_append, strCells_byte a1 c2 c3]; exact h1
      · cases h
    · cases h
  · cases h
def strings_Builder_WriteString.f (s0_0 : ByteArray) (a1 : ByteArray) : Option (Int × Option Int × ByteArray) := if s0_0.size + a1.size ≤ 140737488355328 then some ((a1.size : Int), none, s0_0 ++ a1) else none
theorem strings_Builder_WriteString.calls (g : Nat) (s0_0 : ByteArray) (a1 : ByteArray) (r1 : Int) (r2 : Option Int) (r3 : ByteArray) (w0 w : World) (hI : IsS57 w0 w g s0_0) (hB : Below w0.heap.size w0 w) (h : strings_Builder_WriteString.f s0_0 a1 = some (r1, r2, r3)) :
    Calls Try.prog 39 #[.pointer (some ⟨g, 0, none⟩), .string a1] w fun e w' => e = .returned (.tuple #[.int .i64 r1, errW r2]) ∧ IsS57 w0 w' g r3 ∧ Below w0.heap.size w0 w' ∧ KeepB w w' g none := by
  unfold strings_Builder_WriteString.f at h
  split at h <;> rename_i c1
  · obtain ⟨rfl, h5⟩ := Prod.mk.inj (Option.some.inj h)
    obtain ⟨rfl, rfl⟩ := Prod.mk.inj h5
    refine (bld_string w0.heap.size g _ a1 w hI (by rw [Lib.strCells_length]; exact c1) hB.size).mono ?_
    rintro e w' ⟨rfl, h1, h2, h3⟩
    refine ⟨rfl, .inr ?_, hB.trans h2, h2.size, h3⟩
    rw [strCells_append]; exact h1
  · cases h
def strings_Builder_String.f (s0_0 : ByteArray) : Option (ByteArray × ByteArray) := some (s0_0, s0_0)
theorem strings_Builder_String.calls (g : Nat) (s0_0 : ByteArray) (r1 : ByteArray) (r2 : ByteArray) (w0 w : World) (hI : IsS57 w0 w g s0_0) (hB : Below w0.heap.size w0 w) (h : strings_Builder_String.f s0_0 = some (r1, r2)) :
    Calls Try.prog 30 #[.pointer (some ⟨g, 0, none⟩)] w fun e w' => e = .returned (.string r1) ∧ IsS57 w0 w' g r2 ∧ Below w0.heap.size w0 w' ∧ KeepB w w' g none := by
  obtain ⟨rfl, rfl⟩ := Prod.mk.inj (Option.some.inj h)
  refine (bld_String_any w0.heap.size g s0_0.data.toList w hI hB.size).mono ?_
  rintro e w' ⟨rfl, h1, h2, h3⟩
  exact ⟨rfl, h1, hB.trans h2, h2.size, h3⟩
end Go.Proofs.Ytckhlbpjehbnlaa.PB
