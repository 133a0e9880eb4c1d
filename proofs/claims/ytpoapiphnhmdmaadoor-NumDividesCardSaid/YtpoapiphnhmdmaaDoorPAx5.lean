-- Laid by this session's wip/hp/hp.py: the kit's print with own contracts for what it does not take
import Derived.Test.YtpoapiphnhmdmaaDoorPAx0
import Derived.Test.YtpoapiphnhmdmaaDoorPAx2
namespace Go.Proofs.YtpoapiphnhmdmaaDoor.PA
open Go.RowKit Go.Proofs.YtpoapiphnhmdmaaDoorW.PrintWords Go.Proofs.YtpoapiphnhmdmaaDoorW.PrintLast Go.Proofs.YtpoapiphnhmdmaaDoorW.PrintMore
attribute [local go_sem] max2_int min2_int max_two min_two max_three min_three max_four min_four   -- for this text's walks alone
set_option linter.unusedVariables false
set_option linter.unusedSimpArgs false

/-! ### num_quotient: function 38 -/
def num_quotient.j0 : Nat → Int → Int → Int → Bool → Option (Int × Int)
  | 0, _, _, _, _ => none
  | k + 1, x0, x1, x2, x13 => if x13 = true then (some (0, 3)) else (if x0 = 0 then (if x2 = 0 then (none) else (some (wrap64 (Int.tdiv x1 x2), 0))) else (if x0 = 1 then (if (IntKind.u64.wrap (x2)) = 0 then (none) else (some (wrap64 (IntKind.u64.wrap (Int.tdiv (IntKind.u64.wrap (x1)) (IntKind.u64.wrap (x2)))), 0))) else (if x0 = 2 then (if x2 = 0 then (none) else (some (Int.tmod x1 x2, 0))) else (if (IntKind.u64.wrap (x2)) = 0 then (none) else (some (wrap64 (Int.tmod (IntKind.u64.wrap (x1)) (IntKind.u64.wrap (x2))), 0))))))
def num_quotient.f (k : Nat) (a0 : Int) (a1 : Int) (a2 : Int) (a3 : Int) : Option (Int × Int) := if a2 = 0 then (some (0, 2)) else (if a0 = 0 then (if a1 = a3 then (num_quotient.j0 k a0 a1 a2 (a2 == (-1))) else (num_quotient.j0 k a0 a1 a2 false)) else (num_quotient.j0 k a0 a1 a2 false))
theorem num_quotient.mono_l : ∀ k, (∀ y0 y1 y2 y3, LeO (num_quotient.j0 k y0 y1 y2 y3) (num_quotient.j0 (k + 1) y0 y1 y2 y3))
  | 0 => fun _ _ _ _ r h => by simp [num_quotient.j0] at h
  | k + 1 => by
    have ih0 := num_quotient.mono_l k
    · intro y0 y1 y2 y3
      unfold num_quotient.j0
      repeat' first
      | (with_reducible exact ih0 _ _ _ _)
      | (with_reducible exact LeO.refl _)
      | (with_reducible exact LeO.none _)
      | (with_reducible refine LeO.ite ?_ ?_)
      | (with_reducible refine LeO.bind ?_ (fun _ => ?_))
      | exact ih0 _ _ _ _
      | exact LeO.none _
      | refine LeO.ite ?_ ?_
      | refine LeO.bind ?_ (fun _ => ?_)
theorem num_quotient.mono : ∀ a0 a1 a2 a3 k, LeO (num_quotient.f k a0 a1 a2 a3) (num_quotient.f (k + 1) a0 a1 a2 a3) := by
  intro a0 a1 a2 a3 k
  have ih0 := num_quotient.mono_l k
  unfold num_quotient.f
  repeat' first
      | (with_reducible exact ih0 _ _ _ _)
      | (with_reducible exact LeO.refl _)
      | (with_reducible exact LeO.none _)
      | (with_reducible refine LeO.ite ?_ ?_)
      | (with_reducible refine LeO.bind ?_ (fun _ => ?_))
      | exact ih0 _ _ _ _
      | exact LeO.none _
      | refine LeO.ite ?_ ?_
      | refine LeO.bind ?_ (fun _ => ?_)
set_option maxHeartbeats 8000000 in
set_option maxRecDepth 100000 in
theorem num_quotient.calls (k : Nat) (a0 : Int) (a1 : Int) (a2 : Int) (a3 : Int) (r1 : Int) (r2 : Int) (w : World) (h : num_quotient.f k a0 a1 a2 a3 = some (r1, r2)) :
    Calls Tryd.prog 38 #[.int .i64 a0, .int .i64 a1, .int .i64 a2, .int .i64 a3] w fun e w' => e = .returned (.tuple #[.int .i64 r1, .int .i64 r2]) ∧ Drawn0 w w' := by
  have H : (if a2 = 0 then (some (0, 2)) else (if a0 = 0 then (if a1 = a3 then (num_quotient.j0 k a0 a1 a2 (a2 == (-1))) else (num_quotient.j0 k a0 a1 a2 false)) else (num_quotient.j0 k a0 a1 a2 false))) = some (r1, r2) := h
  clear h
  by_cases c5 : a2 = 0
  · rw [if_pos c5] at H
    have c5b0 : (a2 == 0) = true := beq_iff_eq.mpr c5
    have c5b1 : (a2 != 0) = false := bne_eq_false_iff_eq.mpr c5
    clear c5
    simp only [Option.some.injEq, Prod.mk.injEq] at H
    obtain ⟨rfl, rfl⟩ := H
    go_enter Tryd.func38, Tryd.ntmps38
    go_wp2
    go_ret2
    exact ⟨by first | rfl | (simp; done) | (simp [*]; done), by repeat (first | exact Drawn0.refl _ | apply Drawn0.step)⟩
  · rw [if_neg c5] at H
    have c5b0 : (a2 == 0) = false := beq_eq_false_iff_ne.mpr c5
    have c5b1 : (a2 != 0) = true := bne_iff_ne.mpr c5
    have HC6 := Aside0.mk H
    clear H
    go_enter Tryd.func38, Tryd.ntmps38
    go_upto_region 3 with (fail)
    go_cut [13] (fun v13 wc => ∃ (kq : Nat) (x13_5 : Bool), v13 = .bool x13_5 ∧ Aside0 (num_quotient.j0 kq a0 a1 a2 x13_5 = some (r1, r2)) ∧ Aside0 (kq ≤ k) ∧ Drawn0 w wc)
    case first =>
      have H := HC6.out
      clear HC6
      by_cases c7 : a0 = 0
      · rw [if_pos c7] at H
        have c7b0 : (a0 == 0) = true := beq_iff_eq.mpr c7
        have c7b1 : (a0 != 0) = false := bne_eq_false_iff_eq.mpr c7
        clear c7
        (first | rw [c7b0] | (simp only [i64_w, i32_w]; rw [c7b0]) | skip)
        by_cases c8 : a1 = a3
        · rw [if_pos c8] at H
          have c8b0 : (a1 == a3) = true := beq_iff_eq.mpr c8
          have c8b1 : (a1 != a3) = false := bne_eq_false_iff_eq.mpr c8
          clear c8
          have H' := Aside0.mk H
          clear H
          go_wp2
          go_meet
          case rel => exact ⟨_, ((a2 == (-1))), (by first | rfl | (simp; done) | (simp [*]; done)), H', ⟨by first | omega | exact Nat.le_refl _⟩, by repeat (first | exact Drawn0.refl _ | apply Drawn0.step)⟩
        · rw [if_neg c8] at H
          have c8b0 : (a1 == a3) = false := beq_eq_false_iff_ne.mpr c8
          have c8b1 : (a1 != a3) = true := bne_iff_ne.mpr c8
          have H' := Aside0.mk H
          clear H
          go_wp2
          go_meet
          case rel => exact ⟨_, (false), (by first | rfl | (simp; done) | (simp [*]; done)), H', ⟨by first | omega | exact Nat.le_refl _⟩, by repeat (first | exact Drawn0.refl _ | apply Drawn0.step)⟩
      · rw [if_neg c7] at H
        have c7b0 : (a0 == 0) = false := beq_eq_false_iff_ne.mpr c7
        have c7b1 : (a0 != 0) = true := bne_iff_ne.mpr c7
        (first | rw [c7b0] | (simp only [i64_w, i32_w]; rw [c7b0]) | skip)
        have H' := Aside0.mk H
        clear H
        go_wp2
        go_meet
        case rel => exact ⟨_, (false), (by first | rfl | (simp; done) | (simp [*]; done)), H', ⟨by first | omega | exact Nat.le_refl _⟩, by repeat (first | exact Drawn0.refl _ | apply Drawn0.step)⟩
    case rest =>
      clear HC6
      try clear p2
      try clear c3
      try clear c5
      try clear c5b0
      try clear c5b1
      try clear c7
      try clear c7b0
      try clear c7b1
      try clear c8
      try clear c8b0
      try clear c8b1
      obtain ⟨kq, x13_5, rfl, HA, HJ5, ⟨mc5, rfl⟩⟩ := hcut
      cases kq with
      | zero => exact absurd HA.out (by simp [num_quotient.j0])
      | succ kj5 =>
        have H := HA.out
        clear HA
        simp only [num_quotient.j0] at H
        by_cases c9 : x13_5 = true
        · subst c9
          have H1 : (some (0, 3)) = some (r1, r2) := by rw [if_pos rfl] at H; exact H
          clear H
          have H := H1
          clear H1
          simp only [Option.some.injEq, Prod.mk.injEq] at H
          obtain ⟨rfl, rfl⟩ := H
          go_wp2
          go_ret2
          exact ⟨by first | rfl | (simp; done) | (simp [*]; done), by repeat (first | exact Drawn0.refl _ | apply Drawn0.step)⟩
        · replace c9 := Bool.eq_false_iff.mpr c9
          subst c9
          have H1 : (if a0 = 0 then (if a2 = 0 then (none) else (some (wrap64 (Int.tdiv a1 a2), 0))) else (if a0 = 1 then (if (IntKind.u64.wrap (a2)) = 0 then (none) else (some (wrap64 (IntKind.u64.wrap (Int.tdiv (IntKind.u64.wrap (a1)) (IntKind.u64.wrap (a2)))), 0))) else (if a0 = 2 then (if a2 = 0 then (none) else (some (Int.tmod a1 a2, 0))) else (if (IntKind.u64.wrap (a2)) = 0 then (none) else (some (wrap64 (Int.tmod (IntKind.u64.wrap (a1)) (IntKind.u64.wrap (a2))), 0)))))) = some (r1, r2) := by rw [if_neg (show ¬ (false = true) by decide)] at H; exact H
          clear H
          have H := H1
          clear H1
          by_cases c10 : a0 = 0
          · rw [if_pos c10] at H
            have c10b0 : (a0 == 0) = true := beq_iff_eq.mpr c10
            have c10b1 : (a0 != 0) = false := bne_eq_false_iff_eq.mpr c10
            clear c10
            by_cases c11 : a2 = 0
            · rw [if_pos c11] at H
              exact absurd H (by simp)
            · rw [if_neg c11] at H
              have c11b0 : (a2 == 0) = false := beq_eq_false_iff_ne.mpr c11
              have c11b1 : (a2 != 0) = true := bne_iff_ne.mpr c11
              simp only [Option.some.injEq, Prod.mk.injEq] at H
              obtain ⟨rfl, rfl⟩ := H
              go_wp2
              go_ret2
              exact ⟨by first | rfl | (simp; done) | (simp [*]; done), by repeat (first | exact Drawn0.refl _ | apply Drawn0.step)⟩
          · rw [if_neg c10] at H
            have c10b0 : (a0 == 0) = false := beq_eq_false_iff_ne.mpr c10
            have c10b1 : (a0 != 0) = true := bne_iff_ne.mpr c10
            by_cases c12 : a0 = 1
            · rw [if_pos c12] at H
              have c12b0 : (a0 == 1) = true := beq_iff_eq.mpr c12
              have c12b1 : (a0 != 1) = false := bne_eq_false_iff_eq.mpr c12
              clear c12
              by_cases c13 : (IntKind.u64.wrap (a2)) = 0
              · rw [if_pos c13] at H
                exact absurd H (by simp)
              · rw [if_neg c13] at H
                have c13b0 : ((IntKind.u64.wrap (a2)) == 0) = false := beq_eq_false_iff_ne.mpr c13
                have c13b1 : ((IntKind.u64.wrap (a2)) != 0) = true := bne_iff_ne.mpr c13
                simp only [Option.some.injEq, Prod.mk.injEq] at H
                obtain ⟨rfl, rfl⟩ := H
                go_wp2
                go_ret2
                exact ⟨by first | rfl | (simp; done) | (simp [*]; done), by repeat (first | exact Drawn0.refl _ | apply Drawn0.step)⟩
            · rw [if_neg c12] at H
              have c12b0 : (a0 == 1) = false := beq_eq_false_iff_ne.mpr c12
              have c12b1 : (a0 != 1) = true := bne_iff_ne.mpr c12
              by_cases c14 : a0 = 2
              · rw [if_pos c14] at H
                have c14b0 : (a0 == 2) = true := beq_iff_eq.mpr c14
                have c14b1 : (a0 != 2) = false := bne_eq_false_iff_eq.mpr c14
                clear c14
                by_cases c15 : a2 = 0
                · rw [if_pos c15] at H
                  exact absurd H (by simp)
                · rw [if_neg c15] at H
                  have c15b0 : (a2 == 0) = false := beq_eq_false_iff_ne.mpr c15
                  have c15b1 : (a2 != 0) = true := bne_iff_ne.mpr c15
                  simp only [Option.some.injEq, Prod.mk.injEq] at H
                  obtain ⟨rfl, rfl⟩ := H
                  go_wp2
                  go_ret2
                  exact ⟨by first | rfl | (simp; done) | (simp [*]; done), by repeat (first | exact Drawn0.refl _ | apply Drawn0.step)⟩
              · rw [if_neg c14] at H
                have c14b0 : (a0 == 2) = false := beq_eq_false_iff_ne.mpr c14
                have c14b1 : (a0 != 2) = true := bne_iff_ne.mpr c14
                by_cases c16 : (IntKind.u64.wrap (a2)) = 0
                · rw [if_pos c16] at H
                  exact absurd H (by simp)
                · rw [if_neg c16] at H
                  have c16b0 : ((IntKind.u64.wrap (a2)) == 0) = false := beq_eq_false_iff_ne.mpr c16
                  have c16b1 : ((IntKind.u64.wrap (a2)) != 0) = true := bne_iff_ne.mpr c16
                  simp only [Option.some.injEq, Prod.mk.injEq] at H
                  obtain ⟨rfl, rfl⟩ := H
                  go_wp2
                  go_ret2
                  exact ⟨by first | rfl | (simp; done) | (simp [*]; done), by repeat (first | exact Drawn0.refl _ | apply Drawn0.step)⟩

/-! ### num_reckon: function 32 -/
mutual
def num_reckon.j0 : Nat → Int → Int → Int → Int → Int → Int → Int → Bool → Option (Int × Int)
  | 0, _, _, _, _, _, _, _, _ => none
  | k + 1, x0, x1, x2, x3, x10, x11, x20, x27 => if x27 = true then (if x3 = 32 then ((num_U32.f x1).bind fun t122 => ((num_U32.f x2).bind fun t123 => ((num_quotient.f k (wrap64 (x0 - 3)) t122 t123 x11).bind fun bt124 => (some (bt124.1, bt124.2))))) else ((num_quotient.f k (wrap64 (x0 - 3)) x1 x2 x11).bind fun bt126 => (some (bt126.1, bt126.2)))) else (if x20 = 3 then (num_reckon.j1 k x0 x1 x2 x3 x10 x11 x20 (x20 == 3)) else (num_reckon.j1 k x0 x1 x2 x3 x10 x11 x20 (x20 == 5)))
def num_reckon.j1 : Nat → Int → Int → Int → Int → Int → Int → Int → Bool → Option (Int × Int)
  | 0, _, _, _, _, _, _, _, _ => none
  | k + 1, x0, x1, x2, x3, x10, x11, x20, x30 => if x30 = true then ((num_quotient.f k (wrap64 (x0 - 3)) x1 x2 x11).bind fun bt120 => (some (bt120.1, bt120.2))) else (if x20 = 7 then (some (Go.bits .and .i64 x1 x2, 0)) else (if x20 = 8 then (some (Go.bits .or .i64 x1 x2, 0)) else (if x20 = 9 then (some (Go.bits .xor .i64 x1 x2, 0)) else (if x20 = 10 then (if 0 ≤ x10 then (some (shl .i64 x1 x10, 0)) else (none)) else (if x20 = 11 then (if 0 ≤ x10 then (some (shr .i64 x1 x10, 0)) else (none)) else (if x3 = 32 then (num_reckon.j2 k x0 x1 x3 x10 ((x1) % 4294967296)) else (num_reckon.j2 k x0 x1 x3 x10 (IntKind.u64.wrap (x1)))))))))
def num_reckon.j2 : Nat → Int → Int → Int → Int → Int → Option (Int × Int)
  | 0, _, _, _, _, _ => none
  | k + 1, x0, x1, x3, x10, x12 => if x0 = 12 then (if 0 ≤ x10 then (some (wrap64 (shr .u64 x12 x10), 0)) else (none)) else (if x0 = 14 then (if (Go.bits .and .i64 (wrap64 (x3 - x10)) (wrap64 (x3 - 1))) = 0 then (some (x1, 0)) else (if 0 ≤ (Go.bits .and .i64 (wrap64 (x3 - x10)) (wrap64 (x3 - 1))) then (if 0 ≤ (wrap64 (x3 - (Go.bits .and .i64 (wrap64 (x3 - x10)) (wrap64 (x3 - 1))))) then (some (wrap64 (Go.bits .or .u64 (shl .u64 x12 (Go.bits .and .i64 (wrap64 (x3 - x10)) (wrap64 (x3 - 1)))) (shr .u64 x12 (wrap64 (x3 - (Go.bits .and .i64 (wrap64 (x3 - x10)) (wrap64 (x3 - 1))))))), 0)) else (none)) else (none))) else (if x10 = 0 then (some (x1, 0)) else (if 0 ≤ x10 then (if 0 ≤ (wrap64 (x3 - x10)) then (some (wrap64 (Go.bits .or .u64 (shl .u64 x12 x10) (shr .u64 x12 (wrap64 (x3 - x10)))), 0)) else (none)) else (none))))
end
def num_reckon.f (k : Nat) (a0 : Int) (a1 : Int) (a2 : Int) (a3 : Int) : Option (Int × Int) := if 0 ≤ (wrap64 (a3 - 1)) then (if a0 = 0 then (some (wrap64 (a1 + a2), 0)) else (if a0 = 1 then (some (wrap64 (a1 - a2), 0)) else (if a0 = 2 then (some (wrap64 (a1 * a2), 0)) else (if a0 = 4 then (num_reckon.j0 k a0 a1 a2 a3 (Go.bits .and .i64 a2 (wrap64 (a3 - 1))) (shl .i64 (-1) (wrap64 (a3 - 1))) a0 (a0 == 4)) else (num_reckon.j0 k a0 a1 a2 a3 (Go.bits .and .i64 a2 (wrap64 (a3 - 1))) (shl .i64 (-1) (wrap64 (a3 - 1))) a0 (a0 == 6)))))) else (none)
theorem num_reckon.mono_l : ∀ k, (∀ y0 y1 y2 y3 y4 y5 y6 y7, LeO (num_reckon.j0 k y0 y1 y2 y3 y4 y5 y6 y7) (num_reckon.j0 (k + 1) y0 y1 y2 y3 y4 y5 y6 y7)) ∧ (∀ y0 y1 y2 y3 y4 y5 y6 y7, LeO (num_reckon.j1 k y0 y1 y2 y3 y4 y5 y6 y7) (num_reckon.j1 (k + 1) y0 y1 y2 y3 y4 y5 y6 y7)) ∧ (∀ y0 y1 y2 y3 y4, LeO (num_reckon.j2 k y0 y1 y2 y3 y4) (num_reckon.j2 (k + 1) y0 y1 y2 y3 y4))
  | 0 => ⟨fun _ _ _ _ _ _ _ _ r h => by simp [num_reckon.j0] at h, fun _ _ _ _ _ _ _ _ r h => by simp [num_reckon.j1] at h, fun _ _ _ _ _ r h => by simp [num_reckon.j2] at h⟩
  | k + 1 => by
    obtain ⟨ih0, ih1, ih2⟩ := num_reckon.mono_l k
    refine ⟨?_, ?_, ?_⟩
    · intro y0 y1 y2 y3 y4 y5 y6 y7
      unfold num_reckon.j0
      repeat' first
      | (with_reducible exact ih0 _ _ _ _ _ _ _ _)
      | (with_reducible exact ih1 _ _ _ _ _ _ _ _)
      | (with_reducible exact ih2 _ _ _ _ _)
      | (with_reducible exact num_quotient.mono _ _ _ _ _)
      | (with_reducible exact LeO.refl _)
      | (with_reducible exact LeO.none _)
      | (with_reducible refine LeO.ite ?_ ?_)
      | (with_reducible refine LeO.bind ?_ (fun _ => ?_))
      | exact ih0 _ _ _ _ _ _ _ _
      | exact ih1 _ _ _ _ _ _ _ _
      | exact ih2 _ _ _ _ _
      | exact num_quotient.mono _ _ _ _ _
      | exact LeO.none _
      | refine LeO.ite ?_ ?_
      | refine LeO.bind ?_ (fun _ => ?_)
    · intro y0 y1 y2 y3 y4 y5 y6 y7
      unfold num_reckon.j1
      repeat' first
      | (with_reducible exact ih0 _ _ _ _ _ _ _ _)
      | (with_reducible exact ih1 _ _ _ _ _ _ _ _)
      | (with_reducible exact ih2 _ _ _ _ _)
      | (with_reducible exact num_quotient.mono _ _ _ _ _)
      | (with_reducible exact LeO.refl _)
      | (with_reducible exact LeO.none _)
      | (with_reducible refine LeO.ite ?_ ?_)
      | (with_reducible refine LeO.bind ?_ (fun _ => ?_))
      | exact ih0 _ _ _ _ _ _ _ _
      | exact ih1 _ _ _ _ _ _ _ _
      | exact ih2 _ _ _ _ _
      | exact num_quotient.mono _ _ _ _ _
      | exact LeO.none _
      | refine LeO.ite ?_ ?_
      | refine LeO.bind ?_ (fun _ => ?_)
    · intro y0 y1 y2 y3 y4
      unfold num_reckon.j2
      repeat' first
      | (with_reducible exact ih0 _ _ _ _ _ _ _ _)
      | (with_reducible exact ih1 _ _ _ _ _ _ _ _)
      | (with_reducible exact ih2 _ _ _ _ _)
      | (with_reducible exact num_quotient.mono _ _ _ _ _)
      | (with_reducible exact LeO.refl _)
      | (with_reducible exact LeO.none _)
      | (with_reducible refine LeO.ite ?_ ?_)
      | (with_reducible refine LeO.bind ?_ (fun _ => ?_))
      | exact ih0 _ _ _ _ _ _ _ _
      | exact ih1 _ _ _ _ _ _ _ _
      | exact ih2 _ _ _ _ _
      | exact num_quotient.mono _ _ _ _ _
      | exact LeO.none _
      | refine LeO.ite ?_ ?_
      | refine LeO.bind ?_ (fun _ => ?_)
theorem num_reckon.mono : ∀ a0 a1 a2 a3 k, LeO (num_reckon.f k a0 a1 a2 a3) (num_reckon.f (k + 1) a0 a1 a2 a3) := by
  intro a0 a1 a2 a3 k
  obtain ⟨ih0, ih1, ih2⟩ := num_reckon.mono_l k
  unfold num_reckon.f
  repeat' first
      | (with_reducible exact ih0 _ _ _ _ _ _ _ _)
      | (with_reducible exact ih1 _ _ _ _ _ _ _ _)
      | (with_reducible exact ih2 _ _ _ _ _)
      | (with_reducible exact num_quotient.mono _ _ _ _ _)
      | (with_reducible exact LeO.refl _)
      | (with_reducible exact LeO.none _)
      | (with_reducible refine LeO.ite ?_ ?_)
      | (with_reducible refine LeO.bind ?_ (fun _ => ?_))
      | exact ih0 _ _ _ _ _ _ _ _
      | exact ih1 _ _ _ _ _ _ _ _
      | exact ih2 _ _ _ _ _
      | exact num_quotient.mono _ _ _ _ _
      | exact LeO.none _
      | refine LeO.ite ?_ ?_
      | refine LeO.bind ?_ (fun _ => ?_)
set_option maxHeartbeats 8000000 in
set_option maxRecDepth 100000 in
theorem num_reckon.calls (k : Nat) (a0 : Int) (a1 : Int) (a2 : Int) (a3 : Int) (r1 : Int) (r2 : Int) (w : World) (h : num_reckon.f k a0 a1 a2 a3 = some (r1, r2)) :
    Calls Tryd.prog 32 #[.int .i64 a0, .int .i64 a1, .int .i64 a2, .int .i64 a3] w fun e w' => e = .returned (.tuple #[.int .i64 r1, .int .i64 r2]) ∧ Drawn0 w w' := by
  have H : (if 0 ≤ (wrap64 (a3 - 1)) then (if a0 = 0 then (some (wrap64 (a1 + a2), 0)) else (if a0 = 1 then (some (wrap64 (a1 - a2), 0)) else (if a0 = 2 then (some (wrap64 (a1 * a2), 0)) else (if a0 = 4 then (num_reckon.j0 k a0 a1 a2 a3 (Go.bits .and .i64 a2 (wrap64 (a3 - 1))) (shl .i64 (-1) (wrap64 (a3 - 1))) a0 (a0 == 4)) else (num_reckon.j0 k a0 a1 a2 a3 (Go.bits .and .i64 a2 (wrap64 (a3 - 1))) (shl .i64 (-1) (wrap64 (a3 - 1))) a0 (a0 == 6)))))) else (none)) = some (r1, r2) := h
  clear h
  obtain ⟨ji5, hji5⟩ : ∃ j_ : Int, (wrap64 (a3 - 1)) = j_ := ⟨_, rfl⟩
  replace H : (if 0 ≤ (ji5) then (if a0 = 0 then (some (wrap64 (a1 + a2), 0)) else (if a0 = 1 then (some (wrap64 (a1 - a2), 0)) else (if a0 = 2 then (some (wrap64 (a1 * a2), 0)) else (if a0 = 4 then (num_reckon.j0 k a0 a1 a2 a3 (Go.bits .and .i64 a2 (ji5)) (shl .i64 (-1) (ji5)) a0 (a0 == 4)) else (num_reckon.j0 k a0 a1 a2 a3 (Go.bits .and .i64 a2 (ji5)) (shl .i64 (-1) (ji5)) a0 (a0 == 6)))))) else (none)) = some (r1, r2) := by first | (rw [hji5] at H; exact H) | (simp only [hji5] at H ⊢; exact H)
  have hji5w : (IntKind.i64.wrap (a3 - 1)) = ji5 := (i64_w _).trans hji5
  by_cases c6 : 0 ≤ (ji5)
  · rw [if_pos c6] at H
    have c6b0 := eq_true c6
    have c6b1 : decide (0 ≤ (ji5)) = true := decide_eq_true c6
    clear c6
    obtain ⟨ji7, hji7⟩ : ∃ j_ : Int, (shl .i64 (-1) (ji5)) = j_ := ⟨_, rfl⟩
    replace H : (if a0 = 0 then (some (wrap64 (a1 + a2), 0)) else (if a0 = 1 then (some (wrap64 (a1 - a2), 0)) else (if a0 = 2 then (some (wrap64 (a1 * a2), 0)) else (if a0 = 4 then (num_reckon.j0 k a0 a1 a2 a3 (Go.bits .and .i64 a2 (ji5)) ji7 a0 (a0 == 4)) else (num_reckon.j0 k a0 a1 a2 a3 (Go.bits .and .i64 a2 (ji5)) ji7 a0 (a0 == 6)))))) = some (r1, r2) := by first | (rw [hji7] at H; exact H) | (simp only [hji7] at H ⊢; exact H)
    have hji7_ : (IntKind.i64.wrap ((-1) * 2 ^ min (ji5).toNat 64)) = ji7 := hji7
    have hji7z : (ji5) ≤ 64 → (IntKind.i64.wrap ((-1) * 2 ^ (ji5).toNat)) = ji7 := shl_small hji7
    have hji7y : (wrap64 ((-1) * 2 ^ min (ji5).toNat 64)) = ji7 := (i64_w _).symm.trans hji7_
    have hji7n : (wrap64 (-2 ^ min (ji5).toNat 64)) = ji7 := by rw [← hji7y, Int.neg_one_mul]
    have hji7x : (ji5) ≤ 64 → (wrap64 ((-1) * 2 ^ (ji5).toNat)) = ji7 := fun h_ => (i64_w _).symm.trans (hji7z h_)
    by_cases c8 : a0 = 0
    · rw [if_pos c8] at H
      have c8b0 : (a0 == 0) = true := beq_iff_eq.mpr c8
      have c8b1 : (a0 != 0) = false := bne_eq_false_iff_eq.mpr c8
      clear c8
      simp only [Option.some.injEq, Prod.mk.injEq] at H
      obtain ⟨rfl, rfl⟩ := H
      go_enter Tryd.func32, Tryd.ntmps32
      go_wp2
      repeat (go_quiet (fail); try go_wp2)
      go_ret2
      exact ⟨by first | rfl | (simp; done) | (simp only [← hji5, ← hji7] <;> (first | rfl | simp)) | (simp [*]; done), by repeat (first | exact Drawn0.refl _ | apply Drawn0.step)⟩
    · rw [if_neg c8] at H
      have c8b0 : (a0 == 0) = false := beq_eq_false_iff_ne.mpr c8
      have c8b1 : (a0 != 0) = true := bne_iff_ne.mpr c8
      by_cases c9 : a0 = 1
      · rw [if_pos c9] at H
        have c9b0 : (a0 == 1) = true := beq_iff_eq.mpr c9
        have c9b1 : (a0 != 1) = false := bne_eq_false_iff_eq.mpr c9
        clear c9
        simp only [Option.some.injEq, Prod.mk.injEq] at H
        obtain ⟨rfl, rfl⟩ := H
        go_enter Tryd.func32, Tryd.ntmps32
        go_wp2
        repeat (go_quiet (fail); try go_wp2)
        go_ret2
        exact ⟨by first | rfl | (simp; done) | (simp only [← hji5, ← hji7] <;> (first | rfl | simp)) | (simp [*]; done), by repeat (first | exact Drawn0.refl _ | apply Drawn0.step)⟩
      · rw [if_neg c9] at H
        have c9b0 : (a0 == 1) = false := beq_eq_false_iff_ne.mpr c9
        have c9b1 : (a0 != 1) = true := bne_iff_ne.mpr c9
        by_cases c10 : a0 = 2
        · rw [if_pos c10] at H
          have c10b0 : (a0 == 2) = true := beq_iff_eq.mpr c10
          have c10b1 : (a0 != 2) = false := bne_eq_false_iff_eq.mpr c10
          clear c10
          simp only [Option.some.injEq, Prod.mk.injEq] at H
          obtain ⟨rfl, rfl⟩ := H
          go_enter Tryd.func32, Tryd.ntmps32
          go_wp2
          repeat (go_quiet (fail); try go_wp2)
          go_ret2
          exact ⟨by first | rfl | (simp; done) | (simp only [← hji5, ← hji7] <;> (first | rfl | simp)) | (simp [*]; done), by repeat (first | exact Drawn0.refl _ | apply Drawn0.step)⟩
        · rw [if_neg c10] at H
          have c10b0 : (a0 == 2) = false := beq_eq_false_iff_ne.mpr c10
          have c10b1 : (a0 != 2) = true := bne_iff_ne.mpr c10
          have HC11 := Aside0.mk H
          clear H
          go_enter Tryd.func32, Tryd.ntmps32
          go_upto_if 27 with (fail)
          repeat (go_quiet (fail); go_upto_if 27 with (fail))
          go_cut [27] (fun v27 wc => ∃ (kq : Nat) (x27_10 : Bool), v27 = .bool x27_10 ∧ Aside0 (num_reckon.j0 kq a0 a1 a2 a3 (Go.bits .and .i64 a2 (ji5)) ji7 a0 x27_10 = some (r1, r2)) ∧ Aside0 (kq ≤ k) ∧ Drawn0 w wc)
          case first =>
            have H := HC11.out
            clear HC11
            by_cases c12 : a0 = 4
            · rw [if_pos c12] at H
              have c12b0 : (a0 == 4) = true := beq_iff_eq.mpr c12
              have c12b1 : (a0 != 4) = false := bne_eq_false_iff_eq.mpr c12
              clear c12
              (first | rw [c12b0] | (simp only [i64_w, i32_w]; rw [c12b0]) | skip)
              have H' := Aside0.mk H
              clear H
              go_wp2
              repeat (go_quiet (fail); try go_wp2)
              go_meet
              case rel => exact ⟨_, ((a0 == 4)), (by first | rfl | (simp; done) | (simp [*]; done)), H', ⟨by first | omega | exact Nat.le_refl _⟩, by repeat (first | exact Drawn0.refl _ | apply Drawn0.step)⟩
            · rw [if_neg c12] at H
              have c12b0 : (a0 == 4) = false := beq_eq_false_iff_ne.mpr c12
              have c12b1 : (a0 != 4) = true := bne_iff_ne.mpr c12
              (first | rw [c12b0] | (simp only [i64_w, i32_w]; rw [c12b0]) | skip)
              have H' := Aside0.mk H
              clear H
              go_wp2
              repeat (go_quiet (fail); try go_wp2)
              go_meet
              case rel => exact ⟨_, ((a0 == 6)), (by first | rfl | (simp; done) | (simp [*]; done)), H', ⟨by first | omega | exact Nat.le_refl _⟩, by repeat (first | exact Drawn0.refl _ | apply Drawn0.step)⟩
          case rest =>
            clear HC11
            try clear c1
            try clear p2
            try clear c3
            try clear c6
            try clear c6b0
            try clear c6b1
            try clear p6
            try clear c8
            try clear c8b0
            try clear c8b1
            try clear c9
            try clear c9b0
            try clear c9b1
            try clear c10
            try clear c10b0
            try clear c10b1
            try clear c12
            try clear c12b0
            try clear c12b1
            obtain ⟨kq, x27_10, rfl, HA, HJ10, ⟨mc10, rfl⟩⟩ := hcut
            cases kq with
            | zero => exact absurd HA.out (by simp [num_reckon.j0])
            | succ kj10 =>
              have H := HA.out
              clear HA
              simp only [num_reckon.j0] at H
              by_cases c13 : x27_10 = true
              · subst c13
                have H1 : (if a3 = 32 then ((num_U32.f a1).bind fun t122 => ((num_U32.f a2).bind fun t123 => ((num_quotient.f kj10 (wrap64 (a0 - 3)) t122 t123 ji7).bind fun bt124 => (some (bt124.1, bt124.2))))) else ((num_quotient.f kj10 (wrap64 (a0 - 3)) a1 a2 ji7).bind fun bt126 => (some (bt126.1, bt126.2)))) = some (r1, r2) := by rw [if_pos rfl] at H; exact H
                clear H
                have H := H1
                clear H1
                by_cases c14 : a3 = 32
                · rw [if_pos c14] at H
                  have c14b0 : (a3 == 32) = true := beq_iff_eq.mpr c14
                  have c14b1 : (a3 != 32) = false := bne_eq_false_iff_eq.mpr c14
                  clear c14
                  replace H := Option.bind_eq_some_iff.mp H
                  obtain ⟨t122, A150, H⟩ := H
                  replace H : ((num_U32.f a2).bind fun t123 => ((num_quotient.f kj10 (wrap64 (a0 - 3)) t122 t123 ji7).bind fun bt124 => (some (bt124.1, bt124.2)))) = some (r1, r2) := H
                  have A15 := Aside0.mk A150
                  clear A150
                  replace H := Option.bind_eq_some_iff.mp H
                  obtain ⟨t123, A160, H⟩ := H
                  replace H : ((num_quotient.f kj10 (wrap64 (a0 - 3)) t122 t123 ji7).bind fun bt124 => (some (bt124.1, bt124.2))) = some (r1, r2) := H
                  have A16 := Aside0.mk A160
                  clear A160
                  replace H := Option.bind_eq_some_iff.mp H
                  obtain ⟨⟨t124, t125⟩, A170, H⟩ := H
                  replace H : (some (t124, t125)) = some (r1, r2) := H
                  have A17 := Aside0.mk A170
                  clear A170
                  simp only [Option.some.injEq, Prod.mk.injEq] at H
                  obtain ⟨rfl, rfl⟩ := H
                  go_wp2_with (first | (go_at_call 11; (with_reducible refine (num_U32.calls a1 t122 _ A15.out).mono ?_); rintro e w' ⟨rfl, ⟨nd, rfl⟩⟩; (try first | exact ⟨rfl, _, World.drewN_drewN _ _ _⟩ | exact ⟨rfl, _, Eq.trans (World.drewN_drewN _ _ _) (congrArg (World.drewN _) (Nat.add_assoc _ _ _))⟩)) | (go_at_call 11; (with_reducible refine (num_U32.calls a2 t123 _ A16.out).mono ?_); rintro e w' ⟨rfl, ⟨nd, rfl⟩⟩; (try first | exact ⟨rfl, _, World.drewN_drewN _ _ _⟩ | exact ⟨rfl, _, Eq.trans (World.drewN_drewN _ _ _) (congrArg (World.drewN _) (Nat.add_assoc _ _ _))⟩)) | (go_at_call 38; (with_reducible refine (num_quotient.calls kj10 (wrap64 (a0 - 3)) t122 t123 ji7 t124 t125 _ A17.out).mono ?_); rintro e w' ⟨rfl, ⟨nd, rfl⟩⟩; (try first | exact ⟨rfl, _, World.drewN_drewN _ _ _⟩ | exact ⟨rfl, _, Eq.trans (World.drewN_drewN _ _ _) (congrArg (World.drewN _) (Nat.add_assoc _ _ _))⟩)))
                  repeat (go_quiet (first | (go_at_call 11; (with_reducible refine (num_U32.calls a1 t122 _ A15.out).mono ?_); rintro e w' ⟨rfl, ⟨nd, rfl⟩⟩; (try first | exact ⟨rfl, _, World.drewN_drewN _ _ _⟩ | exact ⟨rfl, _, Eq.trans (World.drewN_drewN _ _ _) (congrArg (World.drewN _) (Nat.add_assoc _ _ _))⟩)) | (go_at_call 11; (with_reducible refine (num_U32.calls a2 t123 _ A16.out).mono ?_); rintro e w' ⟨rfl, ⟨nd, rfl⟩⟩; (try first | exact ⟨rfl, _, World.drewN_drewN _ _ _⟩ | exact ⟨rfl, _, Eq.trans (World.drewN_drewN _ _ _) (congrArg (World.drewN _) (Nat.add_assoc _ _ _))⟩)) | (go_at_call 38; (with_reducible refine (num_quotient.calls kj10 (wrap64 (a0 - 3)) t122 t123 ji7 t124 t125 _ A17.out).mono ?_); rintro e w' ⟨rfl, ⟨nd, rfl⟩⟩; (try first | exact ⟨rfl, _, World.drewN_drewN _ _ _⟩ | exact ⟨rfl, _, Eq.trans (World.drewN_drewN _ _ _) (congrArg (World.drewN _) (Nat.add_assoc _ _ _))⟩))); try go_wp2_with (first | (go_at_call 11; (with_reducible refine (num_U32.calls a1 t122 _ A15.out).mono ?_); rintro e w' ⟨rfl, ⟨nd, rfl⟩⟩; (try first | exact ⟨rfl, _, World.drewN_drewN _ _ _⟩ | exact ⟨rfl, _, Eq.trans (World.drewN_drewN _ _ _) (congrArg (World.drewN _) (Nat.add_assoc _ _ _))⟩)) | (go_at_call 11; (with_reducible refine (num_U32.calls a2 t123 _ A16.out).mono ?_); rintro e w' ⟨rfl, ⟨nd, rfl⟩⟩; (try first | exact ⟨rfl, _, World.drewN_drewN _ _ _⟩ | exact ⟨rfl, _, Eq.trans (World.drewN_drewN _ _ _) (congrArg (World.drewN _) (Nat.add_assoc _ _ _))⟩)) | (go_at_call 38; (with_reducible refine (num_quotient.calls kj10 (wrap64 (a0 - 3)) t122 t123 ji7 t124 t125 _ A17.out).mono ?_); rintro e w' ⟨rfl, ⟨nd, rfl⟩⟩; (try first | exact ⟨rfl, _, World.drewN_drewN _ _ _⟩ | exact ⟨rfl, _, Eq.trans (World.drewN_drewN _ _ _) (congrArg (World.drewN _) (Nat.add_assoc _ _ _))⟩))))
                  go_ret2
                  exact ⟨by first | rfl | (simp; done) | (simp only [← hji5, ← hji7] <;> (first | rfl | simp)) | (simp [*]; done), by repeat (first | exact Drawn0.refl _ | apply Drawn0.step)⟩
                · rw [if_neg c14] at H
                  have c14b0 : (a3 == 32) = false := beq_eq_false_iff_ne.mpr c14
                  have c14b1 : (a3 != 32) = true := bne_iff_ne.mpr c14
                  replace H := Option.bind_eq_some_iff.mp H
                  obtain ⟨⟨t126, t127⟩, A180, H⟩ := H
                  replace H : (some (t126, t127)) = some (r1, r2) := H
                  have A18 := Aside0.mk A180
                  clear A180
                  simp only [Option.some.injEq, Prod.mk.injEq] at H
                  obtain ⟨rfl, rfl⟩ := H
                  go_wp2_with (first | (go_at_call 38; (with_reducible refine (num_quotient.calls kj10 (wrap64 (a0 - 3)) a1 a2 ji7 t126 t127 _ A18.out).mono ?_); rintro e w' ⟨rfl, ⟨nd, rfl⟩⟩; (try first | exact ⟨rfl, _, World.drewN_drewN _ _ _⟩ | exact ⟨rfl, _, Eq.trans (World.drewN_drewN _ _ _) (congrArg (World.drewN _) (Nat.add_assoc _ _ _))⟩)))
                  repeat (go_quiet (first | (go_at_call 38; (with_reducible refine (num_quotient.calls kj10 (wrap64 (a0 - 3)) a1 a2 ji7 t126 t127 _ A18.out).mono ?_); rintro e w' ⟨rfl, ⟨nd, rfl⟩⟩; (try first | exact ⟨rfl, _, World.drewN_drewN _ _ _⟩ | exact ⟨rfl, _, Eq.trans (World.drewN_drewN _ _ _) (congrArg (World.drewN _) (Nat.add_assoc _ _ _))⟩))); try go_wp2_with (first | (go_at_call 38; (with_reducible refine (num_quotient.calls kj10 (wrap64 (a0 - 3)) a1 a2 ji7 t126 t127 _ A18.out).mono ?_); rintro e w' ⟨rfl, ⟨nd, rfl⟩⟩; (try first | exact ⟨rfl, _, World.drewN_drewN _ _ _⟩ | exact ⟨rfl, _, Eq.trans (World.drewN_drewN _ _ _) (congrArg (World.drewN _) (Nat.add_assoc _ _ _))⟩))))
                  go_ret2
                  exact ⟨by first | rfl | (simp; done) | (simp only [← hji5, ← hji7] <;> (first | rfl | simp)) | (simp [*]; done), by repeat (first | exact Drawn0.refl _ | apply Drawn0.step)⟩
              · replace c13 := Bool.eq_false_iff.mpr c13
                subst c13
                have H1 : (if a0 = 3 then (num_reckon.j1 kj10 a0 a1 a2 a3 (Go.bits .and .i64 a2 (ji5)) ji7 a0 (a0 == 3)) else (num_reckon.j1 kj10 a0 a1 a2 a3 (Go.bits .and .i64 a2 (ji5)) ji7 a0 (a0 == 5))) = some (r1, r2) := by rw [if_neg (show ¬ (false = true) by decide)] at H; exact H
                clear H
                have H := H1
                clear H1
                have HC19 := Aside0.mk H
                clear H
                go_upto_if 30 with (fail)
                repeat (go_quiet (fail); go_upto_if 30 with (fail))
                go_cut [30] (fun v30 wc => ∃ (kq : Nat) (x30_18 : Bool), v30 = .bool x30_18 ∧ Aside0 (num_reckon.j1 kq a0 a1 a2 a3 (Go.bits .and .i64 a2 (ji5)) ji7 a0 x30_18 = some (r1, r2)) ∧ Aside0 (kq ≤ kj10) ∧ Drawn0 w wc)
                case first =>
                  have H := HC19.out
                  clear HC19
                  by_cases c20 : a0 = 3
                  · rw [if_pos c20] at H
                    have c20b0 : (a0 == 3) = true := beq_iff_eq.mpr c20
                    have c20b1 : (a0 != 3) = false := bne_eq_false_iff_eq.mpr c20
                    clear c20
                    (first | rw [c20b0] | (simp only [i64_w, i32_w]; rw [c20b0]) | skip)
                    have H' := Aside0.mk H
                    clear H
                    go_wp2
                    repeat (go_quiet (fail); try go_wp2)
                    go_meet
                    case rel => exact ⟨_, ((a0 == 3)), (by first | rfl | (simp; done) | (simp [*]; done)), H', ⟨by have := HJ10.out; first | omega | exact Nat.le_refl _⟩, by repeat (first | exact Drawn0.refl _ | apply Drawn0.step)⟩
                  · rw [if_neg c20] at H
                    have c20b0 : (a0 == 3) = false := beq_eq_false_iff_ne.mpr c20
                    have c20b1 : (a0 != 3) = true := bne_iff_ne.mpr c20
                    (first | rw [c20b0] | (simp only [i64_w, i32_w]; rw [c20b0]) | skip)
                    have H' := Aside0.mk H
                    clear H
                    go_wp2
                    repeat (go_quiet (fail); try go_wp2)
                    go_meet
                    case rel => exact ⟨_, ((a0 == 5)), (by first | rfl | (simp; done) | (simp [*]; done)), H', ⟨by have := HJ10.out; first | omega | exact Nat.le_refl _⟩, by repeat (first | exact Drawn0.refl _ | apply Drawn0.step)⟩
                case rest =>
                  clear HC19
                  try clear c1
                  try clear c2
                  try clear p2
                  try clear c3
                  try clear c6
                  try clear c6b0
                  try clear c6b1
                  try clear p6
                  try clear c8
                  try clear c8b0
                  try clear c8b1
                  try clear c9
                  try clear c9b0
                  try clear c9b1
                  try clear c10
                  try clear c10b0
                  try clear c10b1
                  try clear c12
                  try clear c12b0
                  try clear c12b1
                  try clear c13
                  try clear c14
                  try clear c14b0
                  try clear c14b1
                  try clear c20
                  try clear c20b0
                  try clear c20b1
                  try clear p2
                  try clear p6
                  obtain ⟨kq, x30_18, rfl, HA, HJ18, ⟨mc18, rfl⟩⟩ := hcut
                  cases kq with
                  | zero => exact absurd HA.out (by simp [num_reckon.j1])
                  | succ kj18 =>
                    have H := HA.out
                    clear HA
                    simp only [num_reckon.j1] at H
                    by_cases c21 : x30_18 = true
                    · subst c21
                      have H1 : ((num_quotient.f kj18 (wrap64 (a0 - 3)) a1 a2 ji7).bind fun bt120 => (some (bt120.1, bt120.2))) = some (r1, r2) := by rw [if_pos rfl] at H; exact H
                      clear H
                      have H := H1
                      clear H1
                      replace H := Option.bind_eq_some_iff.mp H
                      obtain ⟨⟨t120, t121⟩, A220, H⟩ := H
                      replace H : (some (t120, t121)) = some (r1, r2) := H
                      have A22 := Aside0.mk A220
                      clear A220
                      simp only [Option.some.injEq, Prod.mk.injEq] at H
                      obtain ⟨rfl, rfl⟩ := H
                      go_wp2_with (first | (go_at_call 38; (with_reducible refine (num_quotient.calls kj18 (wrap64 (a0 - 3)) a1 a2 ji7 t120 t121 _ A22.out).mono ?_); rintro e w' ⟨rfl, ⟨nd, rfl⟩⟩; (try first | exact ⟨rfl, _, World.drewN_drewN _ _ _⟩ | exact ⟨rfl, _, Eq.trans (World.drewN_drewN _ _ _) (congrArg (World.drewN _) (Nat.add_assoc _ _ _))⟩)))
                      repeat (go_quiet (first | (go_at_call 38; (with_reducible refine (num_quotient.calls kj18 (wrap64 (a0 - 3)) a1 a2 ji7 t120 t121 _ A22.out).mono ?_); rintro e w' ⟨rfl, ⟨nd, rfl⟩⟩; (try first | exact ⟨rfl, _, World.drewN_drewN _ _ _⟩ | exact ⟨rfl, _, Eq.trans (World.drewN_drewN _ _ _) (congrArg (World.drewN _) (Nat.add_assoc _ _ _))⟩))); try go_wp2_with (first | (go_at_call 38; (with_reducible refine (num_quotient.calls kj18 (wrap64 (a0 - 3)) a1 a2 ji7 t120 t121 _ A22.out).mono ?_); rintro e w' ⟨rfl, ⟨nd, rfl⟩⟩; (try first | exact ⟨rfl, _, World.drewN_drewN _ _ _⟩ | exact ⟨rfl, _, Eq.trans (World.drewN_drewN _ _ _) (congrArg (World.drewN _) (Nat.add_assoc _ _ _))⟩))))
                      go_ret2
                      exact ⟨by first | rfl | (simp; done) | (simp only [← hji5, ← hji7] <;> (first | rfl | simp)) | (simp [*]; done), by repeat (first | exact Drawn0.refl _ | apply Drawn0.step)⟩
                    · replace c21 := Bool.eq_false_iff.mpr c21
                      subst c21
                      have H1 : (if a0 = 7 then (some (Go.bits .and .i64 a1 a2, 0)) else (if a0 = 8 then (some (Go.bits .or .i64 a1 a2, 0)) else (if a0 = 9 then (some (Go.bits .xor .i64 a1 a2, 0)) else (if a0 = 10 then (if 0 ≤ (Go.bits .and .i64 a2 (ji5)) then (some (shl .i64 a1 (Go.bits .and .i64 a2 (ji5)), 0)) else (none)) else (if a0 = 11 then (if 0 ≤ (Go.bits .and .i64 a2 (ji5)) then (some (shr .i64 a1 (Go.bits .and .i64 a2 (ji5)), 0)) else (none)) else (if a3 = 32 then (num_reckon.j2 kj18 a0 a1 a3 (Go.bits .and .i64 a2 (ji5)) ((a1) % 4294967296)) else (num_reckon.j2 kj18 a0 a1 a3 (Go.bits .and .i64 a2 (ji5)) (IntKind.u64.wrap (a1))))))))) = some (r1, r2) := by rw [if_neg (show ¬ (false = true) by decide)] at H; exact H
                      clear H
                      have H := H1
                      clear H1
                      by_cases c23 : a0 = 7
                      · rw [if_pos c23] at H
                        have c23b0 : (a0 == 7) = true := beq_iff_eq.mpr c23
                        have c23b1 : (a0 != 7) = false := bne_eq_false_iff_eq.mpr c23
                        clear c23
                        simp only [Option.some.injEq, Prod.mk.injEq] at H
                        obtain ⟨rfl, rfl⟩ := H
                        go_wp2
                        repeat (go_quiet (fail); try go_wp2)
                        go_ret2
                        exact ⟨by first | rfl | (simp; done) | (simp only [← hji5, ← hji7] <;> (first | rfl | simp)) | (simp [*]; done), by repeat (first | exact Drawn0.refl _ | apply Drawn0.step)⟩
                      · rw [if_neg c23] at H
                        have c23b0 : (a0 == 7) = false := beq_eq_false_iff_ne.mpr c23
                        have c23b1 : (a0 != 7) = true := bne_iff_ne.mpr c23
                        by_cases c24 : a0 = 8
                        · rw [if_pos c24] at H
                          have c24b0 : (a0 == 8) = true := beq_iff_eq.mpr c24
                          have c24b1 : (a0 != 8) = false := bne_eq_false_iff_eq.mpr c24
                          clear c24
                          simp only [Option.some.injEq, Prod.mk.injEq] at H
                          obtain ⟨rfl, rfl⟩ := H
                          go_wp2
                          repeat (go_quiet (fail); try go_wp2)
                          go_ret2
                          exact ⟨by first | rfl | (simp; done) | (simp only [← hji5, ← hji7] <;> (first | rfl | simp)) | (simp [*]; done), by repeat (first | exact Drawn0.refl _ | apply Drawn0.step)⟩
                        · rw [if_neg c24] at H
                          have c24b0 : (a0 == 8) = false := beq_eq_false_iff_ne.mpr c24
                          have c24b1 : (a0 != 8) = true := bne_iff_ne.mpr c24
                          by_cases c25 : a0 = 9
                          · rw [if_pos c25] at H
                            have c25b0 : (a0 == 9) = true := beq_iff_eq.mpr c25
                            have c25b1 : (a0 != 9) = false := bne_eq_false_iff_eq.mpr c25
                            clear c25
                            simp only [Option.some.injEq, Prod.mk.injEq] at H
                            obtain ⟨rfl, rfl⟩ := H
                            go_wp2
                            repeat (go_quiet (fail); try go_wp2)
                            go_ret2
                            exact ⟨by first | rfl | (simp; done) | (simp only [← hji5, ← hji7] <;> (first | rfl | simp)) | (simp [*]; done), by repeat (first | exact Drawn0.refl _ | apply Drawn0.step)⟩
                          · rw [if_neg c25] at H
                            have c25b0 : (a0 == 9) = false := beq_eq_false_iff_ne.mpr c25
                            have c25b1 : (a0 != 9) = true := bne_iff_ne.mpr c25
                            by_cases c26 : a0 = 10
                            · rw [if_pos c26] at H
                              have c26b0 : (a0 == 10) = true := beq_iff_eq.mpr c26
                              have c26b1 : (a0 != 10) = false := bne_eq_false_iff_eq.mpr c26
                              clear c26
                              by_cases c27 : 0 ≤ (Go.bits .and .i64 a2 (ji5))
                              · rw [if_pos c27] at H
                                have c27b0 := eq_true c27
                                have c27b1 : decide (0 ≤ (Go.bits .and .i64 a2 (ji5))) = true := decide_eq_true c27
                                clear c27
                                obtain ⟨ji28, hji28⟩ : ∃ j_ : Int, (shl .i64 a1 (Go.bits .and .i64 a2 (ji5))) = j_ := ⟨_, rfl⟩
                                replace H : (some (ji28, 0)) = some (r1, r2) := by first | (rw [hji28] at H; exact H) | (simp only [hji28] at H ⊢; exact H)
                                have hji28_ : (IntKind.i64.wrap (a1 * 2 ^ min (Go.bits .and .i64 a2 (ji5)).toNat 64)) = ji28 := hji28
                                have hji28z : (Go.bits .and .i64 a2 (ji5)) ≤ 64 → (IntKind.i64.wrap (a1 * 2 ^ (Go.bits .and .i64 a2 (ji5)).toNat)) = ji28 := shl_small hji28
                                have hji28y : (wrap64 (a1 * 2 ^ min (Go.bits .and .i64 a2 (ji5)).toNat 64)) = ji28 := (i64_w _).symm.trans hji28_
                                have hji28x : (Go.bits .and .i64 a2 (ji5)) ≤ 64 → (wrap64 (a1 * 2 ^ (Go.bits .and .i64 a2 (ji5)).toNat)) = ji28 := fun h_ => (i64_w _).symm.trans (hji28z h_)
                                simp only [Option.some.injEq, Prod.mk.injEq] at H
                                obtain ⟨rfl, rfl⟩ := H
                                go_wp2
                                repeat (go_quiet (fail); try go_wp2)
                                go_ret2
                                exact ⟨by first | rfl | (simp; done) | (simp only [← hji5, ← hji7, ← hji28] <;> (first | rfl | simp)) | (simp [*]; done), by repeat (first | exact Drawn0.refl _ | apply Drawn0.step)⟩
                              · rw [if_neg c27] at H
                                exact absurd H (by simp)
                            · rw [if_neg c26] at H
                              have c26b0 : (a0 == 10) = false := beq_eq_false_iff_ne.mpr c26
                              have c26b1 : (a0 != 10) = true := bne_iff_ne.mpr c26
                              by_cases c29 : a0 = 11
                              · rw [if_pos c29] at H
                                have c29b0 : (a0 == 11) = true := beq_iff_eq.mpr c29
                                have c29b1 : (a0 != 11) = false := bne_eq_false_iff_eq.mpr c29
                                clear c29
                                by_cases c30 : 0 ≤ (Go.bits .and .i64 a2 (ji5))
                                · rw [if_pos c30] at H
                                  have c30b0 := eq_true c30
                                  have c30b1 : decide (0 ≤ (Go.bits .and .i64 a2 (ji5))) = true := decide_eq_true c30
                                  clear c30
                                  obtain ⟨ji31, hji31⟩ : ∃ j_ : Int, (shr .i64 a1 (Go.bits .and .i64 a2 (ji5))) = j_ := ⟨_, rfl⟩
                                  replace H : (some (ji31, 0)) = some (r1, r2) := by first | (rw [hji31] at H; exact H) | (simp only [hji31] at H ⊢; exact H)
                                  have hji31_ : (a1 / 2 ^ min (Go.bits .and .i64 a2 (ji5)).toNat 64) = ji31 := hji31
                                  have hji31z : (Go.bits .and .i64 a2 (ji5)) ≤ 64 → (a1 / 2 ^ (Go.bits .and .i64 a2 (ji5)).toNat) = ji31 := shr_small hji31
                                  simp only [Option.some.injEq, Prod.mk.injEq] at H
                                  obtain ⟨rfl, rfl⟩ := H
                                  go_wp2
                                  repeat (go_quiet (fail); try go_wp2)
                                  go_ret2
                                  exact ⟨by first | rfl | (simp; done) | (simp only [← hji5, ← hji7, ← hji31] <;> (first | rfl | simp)) | (simp [*]; done), by repeat (first | exact Drawn0.refl _ | apply Drawn0.step)⟩
                                · rw [if_neg c30] at H
                                  exact absurd H (by simp)
                              · rw [if_neg c29] at H
                                have c29b0 : (a0 == 11) = false := beq_eq_false_iff_ne.mpr c29
                                have c29b1 : (a0 != 11) = true := bne_iff_ne.mpr c29
                                have HC32 := Aside0.mk H
                                clear H
                                go_upto_if 84 with (fail)
                                repeat (go_quiet (fail); go_upto_if 84 with (fail))
                                go_cut [12] (fun v12 wc => ∃ (kq : Nat) (x12_31 : Int), v12 = .int .u64 x12_31 ∧ Aside0 (num_reckon.j2 kq a0 a1 a3 (Go.bits .and .i64 a2 (ji5)) x12_31 = some (r1, r2)) ∧ Aside0 (kq ≤ kj18) ∧ Drawn0 w wc)
                                case first =>
                                  have H := HC32.out
                                  clear HC32
                                  by_cases c33 : a3 = 32
                                  · rw [if_pos c33] at H
                                    have c33b0 : (a3 == 32) = true := beq_iff_eq.mpr c33
                                    have c33b1 : (a3 != 32) = false := bne_eq_false_iff_eq.mpr c33
                                    clear c33
                                    (first | rw [c33b0] | (simp only [i64_w, i32_w]; rw [c33b0]) | skip)
                                    have H' := Aside0.mk H
                                    clear H
                                    go_wp2
                                    repeat (go_quiet (fail); try go_wp2)
                                    go_meet
                                    case rel => exact ⟨_, ((a1) % 4294967296), (by first | rfl | (simp; done) | (simp [*]; done)), H', ⟨by have := HJ10.out; have := HJ18.out; first | omega | exact Nat.le_refl _⟩, by repeat (first | exact Drawn0.refl _ | apply Drawn0.step)⟩
                                  · rw [if_neg c33] at H
                                    have c33b0 : (a3 == 32) = false := beq_eq_false_iff_ne.mpr c33
                                    have c33b1 : (a3 != 32) = true := bne_iff_ne.mpr c33
                                    (first | rw [c33b0] | (simp only [i64_w, i32_w]; rw [c33b0]) | skip)
                                    have H' := Aside0.mk H
                                    clear H
                                    go_wp2
                                    repeat (go_quiet (fail); try go_wp2)
                                    go_meet
                                    case rel => exact ⟨_, (IntKind.u64.wrap (a1)), (by first | rfl | (simp; done) | (simp [*]; done)), H', ⟨by have := HJ10.out; have := HJ18.out; first | omega | exact Nat.le_refl _⟩, by repeat (first | exact Drawn0.refl _ | apply Drawn0.step)⟩
                                case rest =>
                                  clear HC32
                                  try clear c1
                                  try clear c2
                                  try clear p2
                                  try clear c3
                                  try clear c6
                                  try clear c6b0
                                  try clear c6b1
                                  try clear p6
                                  try clear c8
                                  try clear c8b0
                                  try clear c8b1
                                  try clear c9
                                  try clear c9b0
                                  try clear c9b1
                                  try clear c10
                                  try clear c10b0
                                  try clear c10b1
                                  try clear c12
                                  try clear c12b0
                                  try clear c12b1
                                  try clear c13
                                  try clear c14
                                  try clear c14b0
                                  try clear c14b1
                                  try clear c18
                                  try clear c20
                                  try clear c20b0
                                  try clear c20b1
                                  try clear c21
                                  try clear c23
                                  try clear c23b0
                                  try clear c23b1
                                  try clear c24
                                  try clear c24b0
                                  try clear c24b1
                                  try clear c25
                                  try clear c25b0
                                  try clear c25b1
                                  try clear c26
                                  try clear c26b0
                                  try clear c26b1
                                  try clear c27
                                  try clear c27b0
                                  try clear c27b1
                                  try clear c29
                                  try clear c29b0
                                  try clear c29b1
                                  try clear c30
                                  try clear c30b0
                                  try clear c30b1
                                  try clear c32
                                  try clear c33
                                  try clear c33b0
                                  try clear c33b1
                                  try clear p2
                                  try clear p6
                                  obtain ⟨kq, x12_31, rfl, HA, HJ31, ⟨mc31, rfl⟩⟩ := hcut
                                  cases kq with
                                  | zero => exact absurd HA.out (by simp [num_reckon.j2])
                                  | succ kj31 =>
                                    have H := HA.out
                                    clear HA
                                    simp only [num_reckon.j2] at H
                                    simp only [hji5] at H
                                    by_cases c34 : a0 = 12
                                    · rw [if_pos c34] at H
                                      have c34b0 : (a0 == 12) = true := beq_iff_eq.mpr c34
                                      have c34b1 : (a0 != 12) = false := bne_eq_false_iff_eq.mpr c34
                                      clear c34
                                      by_cases c35 : 0 ≤ (Go.bits .and .i64 a2 (ji5))
                                      · rw [if_pos c35] at H
                                        have c35b0 := eq_true c35
                                        have c35b1 : decide (0 ≤ (Go.bits .and .i64 a2 (ji5))) = true := decide_eq_true c35
                                        clear c35
                                        obtain ⟨ji36, hji36⟩ : ∃ j_ : Int, (shr .u64 x12_31 (Go.bits .and .i64 a2 (ji5))) = j_ := ⟨_, rfl⟩
                                        replace H : (some (wrap64 (ji36), 0)) = some (r1, r2) := by first | (rw [hji36] at H; exact H) | (simp only [hji36] at H ⊢; exact H)
                                        have hji36_ : (x12_31 / 2 ^ min (Go.bits .and .i64 a2 (ji5)).toNat 64) = ji36 := hji36
                                        have hji36z : (Go.bits .and .i64 a2 (ji5)) ≤ 64 → (x12_31 / 2 ^ (Go.bits .and .i64 a2 (ji5)).toNat) = ji36 := shr_small hji36
                                        simp only [Option.some.injEq, Prod.mk.injEq] at H
                                        obtain ⟨rfl, rfl⟩ := H
                                        go_wp2
                                        repeat (go_quiet (fail); try go_wp2)
                                        go_ret2
                                        exact ⟨by first | rfl | (simp; done) | (simp only [← hji5, ← hji7, ← hji36] <;> (first | rfl | simp)) | (simp [*]; done), by repeat (first | exact Drawn0.refl _ | apply Drawn0.step)⟩
                                      · rw [if_neg c35] at H
                                        exact absurd H (by simp)
                                    · rw [if_neg c34] at H
                                      have c34b0 : (a0 == 12) = false := beq_eq_false_iff_ne.mpr c34
                                      have c34b1 : (a0 != 12) = true := bne_iff_ne.mpr c34
                                      by_cases c37 : a0 = 14
                                      · rw [if_pos c37] at H
                                        have c37b0 : (a0 == 14) = true := beq_iff_eq.mpr c37
                                        have c37b1 : (a0 != 14) = false := bne_eq_false_iff_eq.mpr c37
                                        clear c37
                                        by_cases c38 : (Go.bits .and .i64 (wrap64 (a3 - (Go.bits .and .i64 a2 (ji5)))) ji5) = 0
                                        · rw [if_pos c38] at H
                                          have c38b0 : ((Go.bits .and .i64 (wrap64 (a3 - (Go.bits .and .i64 a2 (ji5)))) ji5) == 0) = true := beq_iff_eq.mpr c38
                                          have c38b1 : ((Go.bits .and .i64 (wrap64 (a3 - (Go.bits .and .i64 a2 (ji5)))) ji5) != 0) = false := bne_eq_false_iff_eq.mpr c38
                                          clear c38
                                          simp only [Option.some.injEq, Prod.mk.injEq] at H
                                          obtain ⟨rfl, rfl⟩ := H
                                          go_wp2
                                          repeat (go_quiet (fail); try go_wp2)
                                          go_ret2
                                          exact ⟨by first | rfl | (simp; done) | (simp only [← hji5, ← hji7] <;> (first | rfl | simp)) | (simp [*]; done), by repeat (first | exact Drawn0.refl _ | apply Drawn0.step)⟩
                                        · rw [if_neg c38] at H
                                          have c38b0 : ((Go.bits .and .i64 (wrap64 (a3 - (Go.bits .and .i64 a2 (ji5)))) ji5) == 0) = false := beq_eq_false_iff_ne.mpr c38
                                          have c38b1 : ((Go.bits .and .i64 (wrap64 (a3 - (Go.bits .and .i64 a2 (ji5)))) ji5) != 0) = true := bne_iff_ne.mpr c38
                                          obtain ⟨ji39, hji39⟩ : ∃ j_ : Int, (Go.bits .and .i64 (wrap64 (a3 - (Go.bits .and .i64 a2 (ji5)))) ji5) = j_ := ⟨_, rfl⟩
                                          replace H : (if 0 ≤ (ji39) then (if 0 ≤ (wrap64 (a3 - (ji39))) then (some (wrap64 (Go.bits .or .u64 (shl .u64 x12_31 (ji39)) (shr .u64 x12_31 (wrap64 (a3 - (ji39))))), 0)) else (none)) else (none)) = some (r1, r2) := by first | (rw [hji39] at H; exact H) | (simp only [hji39] at H ⊢; exact H)
                                          (try rw [hji39] at c38b0)
                                          (try rw [hji39] at c38b1)
                                          by_cases c40 : 0 ≤ (ji39)
                                          · rw [if_pos c40] at H
                                            have c40b0 := eq_true c40
                                            have c40b1 : decide (0 ≤ (ji39)) = true := decide_eq_true c40
                                            clear c40
                                            obtain ⟨ji41, hji41⟩ : ∃ j_ : Int, (shl .u64 x12_31 (ji39)) = j_ := ⟨_, rfl⟩
                                            replace H : (if 0 ≤ (wrap64 (a3 - (ji39))) then (some (wrap64 (Go.bits .or .u64 (ji41) (shr .u64 x12_31 (wrap64 (a3 - (ji39))))), 0)) else (none)) = some (r1, r2) := by first | (rw [hji41] at H; exact H) | (simp only [hji41] at H ⊢; exact H)
                                            have hji41_ : (IntKind.u64.wrap (x12_31 * 2 ^ min (ji39).toNat 64)) = ji41 := hji41
                                            have hji41z : (ji39) ≤ 64 → (IntKind.u64.wrap (x12_31 * 2 ^ (ji39).toNat)) = ji41 := shl_small hji41
                                            obtain ⟨ji42, hji42⟩ : ∃ j_ : Int, (wrap64 (a3 - (ji39))) = j_ := ⟨_, rfl⟩
                                            replace H : (if 0 ≤ (ji42) then (some (wrap64 (Go.bits .or .u64 (ji41) (shr .u64 x12_31 (ji42))), 0)) else (none)) = some (r1, r2) := by first | (rw [hji42] at H; exact H) | (simp only [hji42] at H ⊢; exact H)
                                            have hji42w : (IntKind.i64.wrap (a3 - (ji39))) = ji42 := (i64_w _).trans hji42
                                            by_cases c43 : 0 ≤ (ji42)
                                            · rw [if_pos c43] at H
                                              have c43b0 := eq_true c43
                                              have c43b1 : decide (0 ≤ (ji42)) = true := decide_eq_true c43
                                              clear c43
                                              obtain ⟨ji44, hji44⟩ : ∃ j_ : Int, (shr .u64 x12_31 (ji42)) = j_ := ⟨_, rfl⟩
                                              replace H : (some (wrap64 (Go.bits .or .u64 (ji41) (ji44)), 0)) = some (r1, r2) := by first | (rw [hji44] at H; exact H) | (simp only [hji44] at H ⊢; exact H)
                                              have hji44_ : (x12_31 / 2 ^ min (ji42).toNat 64) = ji44 := hji44
                                              have hji44z : (ji42) ≤ 64 → (x12_31 / 2 ^ (ji42).toNat) = ji44 := shr_small hji44
                                              simp only [Option.some.injEq, Prod.mk.injEq] at H
                                              obtain ⟨rfl, rfl⟩ := H
                                              go_wp2
                                              repeat (go_quiet (fail); try go_wp2)
                                              go_ret2
                                              exact ⟨by first | rfl | (simp; done) | (simp only [← hji5, ← hji7, ← hji39, ← hji41, ← hji42, ← hji44] <;> (first | rfl | simp)) | (simp [*]; done), by repeat (first | exact Drawn0.refl _ | apply Drawn0.step)⟩
                                            · rw [if_neg c43] at H
                                              exact absurd H (by simp)
                                          · rw [if_neg c40] at H
                                            exact absurd H (by simp)
                                      · rw [if_neg c37] at H
                                        have c37b0 : (a0 == 14) = false := beq_eq_false_iff_ne.mpr c37
                                        have c37b1 : (a0 != 14) = true := bne_iff_ne.mpr c37
                                        by_cases c45 : (Go.bits .and .i64 a2 (ji5)) = 0
                                        · rw [if_pos c45] at H
                                          have c45b0 : ((Go.bits .and .i64 a2 (ji5)) == 0) = true := beq_iff_eq.mpr c45
                                          have c45b1 : ((Go.bits .and .i64 a2 (ji5)) != 0) = false := bne_eq_false_iff_eq.mpr c45
                                          clear c45
                                          simp only [Option.some.injEq, Prod.mk.injEq] at H
                                          obtain ⟨rfl, rfl⟩ := H
                                          go_wp2
                                          repeat (go_quiet (fail); try go_wp2)
                                          go_ret2
                                          exact ⟨by first | rfl | (simp; done) | (simp only [← hji5, ← hji7] <;> (first | rfl | simp)) | (simp [*]; done), by repeat (first | exact Drawn0.refl _ | apply Drawn0.step)⟩
                                        · rw [if_neg c45] at H
                                          have c45b0 : ((Go.bits .and .i64 a2 (ji5)) == 0) = false := beq_eq_false_iff_ne.mpr c45
                                          have c45b1 : ((Go.bits .and .i64 a2 (ji5)) != 0) = true := bne_iff_ne.mpr c45
                                          by_cases c46 : 0 ≤ (Go.bits .and .i64 a2 (ji5))
                                          · rw [if_pos c46] at H
                                            have c46b0 := eq_true c46
                                            have c46b1 : decide (0 ≤ (Go.bits .and .i64 a2 (ji5))) = true := decide_eq_true c46
                                            clear c46
                                            obtain ⟨ji47, hji47⟩ : ∃ j_ : Int, (shl .u64 x12_31 (Go.bits .and .i64 a2 (ji5))) = j_ := ⟨_, rfl⟩
                                            replace H : (if 0 ≤ (wrap64 (a3 - (Go.bits .and .i64 a2 (ji5)))) then (some (wrap64 (Go.bits .or .u64 (ji47) (shr .u64 x12_31 (wrap64 (a3 - (Go.bits .and .i64 a2 (ji5)))))), 0)) else (none)) = some (r1, r2) := by first | (rw [hji47] at H; exact H) | (simp only [hji47] at H ⊢; exact H)
                                            have hji47_ : (IntKind.u64.wrap (x12_31 * 2 ^ min (Go.bits .and .i64 a2 (ji5)).toNat 64)) = ji47 := hji47
                                            have hji47z : (Go.bits .and .i64 a2 (ji5)) ≤ 64 → (IntKind.u64.wrap (x12_31 * 2 ^ (Go.bits .and .i64 a2 (ji5)).toNat)) = ji47 := shl_small hji47
                                            obtain ⟨ji48, hji48⟩ : ∃ j_ : Int, (wrap64 (a3 - (Go.bits .and .i64 a2 (ji5)))) = j_ := ⟨_, rfl⟩
                                            replace H : (if 0 ≤ (ji48) then (some (wrap64 (Go.bits .or .u64 (ji47) (shr .u64 x12_31 (ji48))), 0)) else (none)) = some (r1, r2) := by first | (rw [hji48] at H; exact H) | (simp only [hji48] at H ⊢; exact H)
                                            have hji48w : (IntKind.i64.wrap (a3 - (Go.bits .and .i64 a2 (ji5)))) = ji48 := (i64_w _).trans hji48
                                            by_cases c49 : 0 ≤ (ji48)
                                            · rw [if_pos c49] at H
                                              have c49b0 := eq_true c49
                                              have c49b1 : decide (0 ≤ (ji48)) = true := decide_eq_true c49
                                              clear c49
                                              obtain ⟨ji50, hji50⟩ : ∃ j_ : Int, (shr .u64 x12_31 (ji48)) = j_ := ⟨_, rfl⟩
                                              replace H : (some (wrap64 (Go.bits .or .u64 (ji47) (ji50)), 0)) = some (r1, r2) := by first | (rw [hji50] at H; exact H) | (simp only [hji50] at H ⊢; exact H)
                                              have hji50_ : (x12_31 / 2 ^ min (ji48).toNat 64) = ji50 := hji50
                                              have hji50z : (ji48) ≤ 64 → (x12_31 / 2 ^ (ji48).toNat) = ji50 := shr_small hji50
                                              simp only [Option.some.injEq, Prod.mk.injEq] at H
                                              obtain ⟨rfl, rfl⟩ := H
                                              go_wp2
                                              repeat (go_quiet (fail); try go_wp2)
                                              go_ret2
                                              exact ⟨by first | rfl | (simp; done) | (simp only [← hji5, ← hji7, ← hji47, ← hji48, ← hji50] <;> (first | rfl | simp)) | (simp [*]; done), by repeat (first | exact Drawn0.refl _ | apply Drawn0.step)⟩
                                            · rw [if_neg c49] at H
                                              exact absurd H (by simp)
                                          · rw [if_neg c46] at H
                                            exact absurd H (by simp)
  · rw [if_neg c6] at H
    exact absurd H (by simp)

end Go.Proofs.YtpoapiphnhmdmaaDoor.PA
