-- Laid by this session's wip/hp/hp.py: the kit's print with own contracts for what it does not take
import Derived.Test.YtmoeibghjejneaaPAx0
import Derived.Test.YtmoeibghjejneaaPAx1
namespace Go.Proofs.Ytmoeibghjejneaa.PA
open Go.RowKit Go.Proofs.YtmoeibghjejneaaW.PrintWords Go.Proofs.YtmoeibghjejneaaW.PrintLast Go.Proofs.YtmoeibghjejneaaW.PrintMore
attribute [local go_sem] max2_int min2_int max_two min_two max_three min_three max_four min_four   -- for this text's walks alone
set_option linter.unusedVariables false
set_option linter.unusedSimpArgs false

/-! ### leb_TakeS: function 15 -/
mutual
def leb_TakeS.j0 : Nat → ByteArray → Int → Bool → Option (Int × ByteArray × Int)
  | 0, _, _, _ => none
  | k + 1, x0, x1, x22 => if x22 = true then (some (0, (⟨#[]⟩ : ByteArray), 1)) else ((leb_raw.f k x0 x1).bind fun bt126 => (if bt126.2.2.2 = true then (if bt126.2.1 > 64 then (if 9 < (x0.size : Int) then (if (bt x0 9) = 0 then (leb_TakeS.j1 k bt126.1 bt126.2.2.1 false) else (leb_TakeS.j1 k bt126.1 bt126.2.2.1 ((bt x0 9) != 127))) else (none)) else (if 0 ≤ (wrap64 (64 - bt126.2.1)) then (if 0 ≤ (wrap64 (x1 - 1)) then (if (shr .i64 (shr .i64 (wrap64 (shl .u64 bt126.1 (wrap64 (64 - bt126.2.1)))) (wrap64 (64 - bt126.2.1))) (wrap64 (x1 - 1))) = 0 then (some (shr .i64 (wrap64 (shl .u64 bt126.1 (wrap64 (64 - bt126.2.1)))) (wrap64 (64 - bt126.2.1)), bt126.2.2.1, 0)) else (if (shr .i64 (shr .i64 (wrap64 (shl .u64 bt126.1 (wrap64 (64 - bt126.2.1)))) (wrap64 (64 - bt126.2.1))) (wrap64 (x1 - 1))) = (-1) then (some (shr .i64 (wrap64 (shl .u64 bt126.1 (wrap64 (64 - bt126.2.1)))) (wrap64 (64 - bt126.2.1)), bt126.2.2.1, 0)) else (some (0, (⟨#[]⟩ : ByteArray), 2)))) else (none)) else (none))) else (some (0, (⟨#[]⟩ : ByteArray), 2))))
def leb_TakeS.j1 : Nat → Int → ByteArray → Bool → Option (Int × ByteArray × Int)
  | 0, _, _, _ => none
  | k + 1, x7, x9, x42 => if x42 = true then (some (0, (⟨#[]⟩ : ByteArray), 2)) else (some (wrap64 (x7), x9, 0))
end
def leb_TakeS.f (k : Nat) (a0 : ByteArray) (a1 : Int) : Option (Int × ByteArray × Int) := if a1 = 32 then (leb_TakeS.j0 k a0 a1 false) else (if a1 = 33 then (leb_TakeS.j0 k a0 a1 false) else (leb_TakeS.j0 k a0 a1 (a1 != 64)))
theorem leb_TakeS.mono_l : ∀ k, (∀ y0 y1 y2, LeO (leb_TakeS.j0 k y0 y1 y2) (leb_TakeS.j0 (k + 1) y0 y1 y2)) ∧ (∀ y0 y1 y2, LeO (leb_TakeS.j1 k y0 y1 y2) (leb_TakeS.j1 (k + 1) y0 y1 y2))
  | 0 => ⟨fun _ _ _ r h => by simp [leb_TakeS.j0] at h, fun _ _ _ r h => by simp [leb_TakeS.j1] at h⟩
  | k + 1 => by
    obtain ⟨ih0, ih1⟩ := leb_TakeS.mono_l k
    refine ⟨?_, ?_⟩
    · intro y0 y1 y2
      unfold leb_TakeS.j0
      repeat' first
      | (with_reducible exact ih0 _ _ _)
      | (with_reducible exact ih1 _ _ _)
      | (with_reducible exact leb_raw.mono _ _ _)
      | (with_reducible exact LeO.refl _)
      | (with_reducible exact LeO.none _)
      | (with_reducible refine LeO.ite ?_ ?_)
      | (with_reducible refine LeO.bind ?_ (fun _ => ?_))
      | exact ih0 _ _ _
      | exact ih1 _ _ _
      | exact leb_raw.mono _ _ _
      | exact LeO.none _
      | refine LeO.ite ?_ ?_
      | refine LeO.bind ?_ (fun _ => ?_)
    · intro y0 y1 y2
      unfold leb_TakeS.j1
      repeat' first
      | (with_reducible exact ih0 _ _ _)
      | (with_reducible exact ih1 _ _ _)
      | (with_reducible exact leb_raw.mono _ _ _)
      | (with_reducible exact LeO.refl _)
      | (with_reducible exact LeO.none _)
      | (with_reducible refine LeO.ite ?_ ?_)
      | (with_reducible refine LeO.bind ?_ (fun _ => ?_))
      | exact ih0 _ _ _
      | exact ih1 _ _ _
      | exact leb_raw.mono _ _ _
      | exact LeO.none _
      | refine LeO.ite ?_ ?_
      | refine LeO.bind ?_ (fun _ => ?_)
theorem leb_TakeS.mono : ∀ a0 a1 k, LeO (leb_TakeS.f k a0 a1) (leb_TakeS.f (k + 1) a0 a1) := by
  intro a0 a1 k
  obtain ⟨ih0, ih1⟩ := leb_TakeS.mono_l k
  unfold leb_TakeS.f
  repeat' first
      | (with_reducible exact ih0 _ _ _)
      | (with_reducible exact ih1 _ _ _)
      | (with_reducible exact leb_raw.mono _ _ _)
      | (with_reducible exact LeO.refl _)
      | (with_reducible exact LeO.none _)
      | (with_reducible refine LeO.ite ?_ ?_)
      | (with_reducible refine LeO.bind ?_ (fun _ => ?_))
      | exact ih0 _ _ _
      | exact ih1 _ _ _
      | exact leb_raw.mono _ _ _
      | exact LeO.none _
      | refine LeO.ite ?_ ?_
      | refine LeO.bind ?_ (fun _ => ?_)
set_option maxHeartbeats 8000000 in
set_option maxRecDepth 100000 in
theorem leb_TakeS.calls (k : Nat) (a0 : ByteArray) (a1 : Int) (r1 : Int) (r2 : ByteArray) (r3 : Int) (w : World) (h : leb_TakeS.f k a0 a1 = some (r1, r2, r3)) :
    Calls Try.prog 15 #[.string a0, .int .i64 a1] w fun e w' => e = .returned (.tuple #[.int .i64 r1, .string r2, .int .i64 r3]) ∧ Drawn0 w w' := by
  have H : (if a1 = 32 then (leb_TakeS.j0 k a0 a1 false) else (if a1 = 33 then (leb_TakeS.j0 k a0 a1 false) else (leb_TakeS.j0 k a0 a1 (a1 != 64)))) = some (r1, r2, r3) := h
  clear h
  have HC3 := Aside0.mk H
  clear H
  go_enter Try.func15, Try.ntmps15
  go_upto_region 1 with (fail)
  go_cut [22] (fun v22 wc => ∃ (kq : Nat) (x22_2 : Bool), v22 = .bool x22_2 ∧ Aside0 (leb_TakeS.j0 kq a0 a1 x22_2 = some (r1, r2, r3)) ∧ Aside0 (kq ≤ k) ∧ Drawn0 w wc)
  case first =>
    have H := HC3.out
    clear HC3
    by_cases c4 : a1 = 32
    · rw [if_pos c4] at H
      have c4b0 : (a1 == 32) = true := beq_iff_eq.mpr c4
      have c4b1 : (a1 != 32) = false := bne_eq_false_iff_eq.mpr c4
      clear c4
      (first | rw [c4b0] | (simp only [i64_w, i32_w]; rw [c4b0]) | skip)
      have H' := Aside0.mk H
      clear H
      go_wp2
      go_meet
      case rel => exact ⟨_, (false), (by first | rfl | (simp; done) | (simp [*]; done)), H', ⟨by first | omega | exact Nat.le_refl _⟩, by repeat (first | exact Drawn0.refl _ | apply Drawn0.step)⟩
    · rw [if_neg c4] at H
      have c4b0 : (a1 == 32) = false := beq_eq_false_iff_ne.mpr c4
      have c4b1 : (a1 != 32) = true := bne_iff_ne.mpr c4
      (first | rw [c4b0] | (simp only [i64_w, i32_w]; rw [c4b0]) | skip)
      by_cases c5 : a1 = 33
      · rw [if_pos c5] at H
        have c5b0 : (a1 == 33) = true := beq_iff_eq.mpr c5
        have c5b1 : (a1 != 33) = false := bne_eq_false_iff_eq.mpr c5
        clear c5
        have H' := Aside0.mk H
        clear H
        go_wp2
        go_meet
        case rel => exact ⟨_, (false), (by first | rfl | (simp; done) | (simp [*]; done)), H', ⟨by first | omega | exact Nat.le_refl _⟩, by repeat (first | exact Drawn0.refl _ | apply Drawn0.step)⟩
      · rw [if_neg c5] at H
        have c5b0 : (a1 == 33) = false := beq_eq_false_iff_ne.mpr c5
        have c5b1 : (a1 != 33) = true := bne_iff_ne.mpr c5
        have H' := Aside0.mk H
        clear H
        go_wp2
        go_meet
        case rel => exact ⟨_, ((a1 != 64)), (by first | rfl | (simp; done) | (simp [*]; done)), H', ⟨by first | omega | exact Nat.le_refl _⟩, by repeat (first | exact Drawn0.refl _ | apply Drawn0.step)⟩
  case rest =>
    clear HC3
    try clear c1
    try clear p2
    try clear c4
    try clear c4b0
    try clear c4b1
    try clear c5
    try clear c5b0
    try clear c5b1
    obtain ⟨kq, x22_2, rfl, HA, HJ2, ⟨mc2, rfl⟩⟩ := hcut
    cases kq with
    | zero => exact absurd HA.out (by simp [leb_TakeS.j0])
    | succ kj2 =>
      have H := HA.out
      clear HA
      simp only [leb_TakeS.j0] at H
      by_cases c6 : x22_2 = true
      · subst c6
        have H1 : (some (0, (⟨#[]⟩ : ByteArray), 1)) = some (r1, r2, r3) := by rw [if_pos rfl] at H; exact H
        clear H
        have H := H1
        clear H1
        simp only [Option.some.injEq, Prod.mk.injEq] at H
        obtain ⟨rfl, rfl, rfl⟩ := H
        go_wp2
        go_ret3
        exact ⟨by first | rfl | (simp; done) | (simp [*]; done), by repeat (first | exact Drawn0.refl _ | apply Drawn0.step)⟩
      · replace c6 := Bool.eq_false_iff.mpr c6
        subst c6
        have H1 : ((leb_raw.f kj2 a0 a1).bind fun bt126 => (if bt126.2.2.2 = true then (if bt126.2.1 > 64 then (if 9 < (a0.size : Int) then (if (bt a0 9) = 0 then (leb_TakeS.j1 kj2 bt126.1 bt126.2.2.1 false) else (leb_TakeS.j1 kj2 bt126.1 bt126.2.2.1 ((bt a0 9) != 127))) else (none)) else (if 0 ≤ (wrap64 (64 - bt126.2.1)) then (if 0 ≤ (wrap64 (a1 - 1)) then (if (shr .i64 (shr .i64 (wrap64 (shl .u64 bt126.1 (wrap64 (64 - bt126.2.1)))) (wrap64 (64 - bt126.2.1))) (wrap64 (a1 - 1))) = 0 then (some (shr .i64 (wrap64 (shl .u64 bt126.1 (wrap64 (64 - bt126.2.1)))) (wrap64 (64 - bt126.2.1)), bt126.2.2.1, 0)) else (if (shr .i64 (shr .i64 (wrap64 (shl .u64 bt126.1 (wrap64 (64 - bt126.2.1)))) (wrap64 (64 - bt126.2.1))) (wrap64 (a1 - 1))) = (-1) then (some (shr .i64 (wrap64 (shl .u64 bt126.1 (wrap64 (64 - bt126.2.1)))) (wrap64 (64 - bt126.2.1)), bt126.2.2.1, 0)) else (some (0, (⟨#[]⟩ : ByteArray), 2)))) else (none)) else (none))) else (some (0, (⟨#[]⟩ : ByteArray), 2)))) = some (r1, r2, r3) := by rw [if_neg (show ¬ (false = true) by decide)] at H; exact H
        clear H
        have H := H1
        clear H1
        replace H := Option.bind_eq_some_iff.mp H
        obtain ⟨⟨t126, t127, t128, t129⟩, A70, H⟩ := H
        replace H : (if t129 = true then (if t127 > 64 then (if 9 < (a0.size : Int) then (if (bt a0 9) = 0 then (leb_TakeS.j1 kj2 t126 t128 false) else (leb_TakeS.j1 kj2 t126 t128 ((bt a0 9) != 127))) else (none)) else (if 0 ≤ (wrap64 (64 - t127)) then (if 0 ≤ (wrap64 (a1 - 1)) then (if (shr .i64 (shr .i64 (wrap64 (shl .u64 t126 (wrap64 (64 - t127)))) (wrap64 (64 - t127))) (wrap64 (a1 - 1))) = 0 then (some (shr .i64 (wrap64 (shl .u64 t126 (wrap64 (64 - t127)))) (wrap64 (64 - t127)), t128, 0)) else (if (shr .i64 (shr .i64 (wrap64 (shl .u64 t126 (wrap64 (64 - t127)))) (wrap64 (64 - t127))) (wrap64 (a1 - 1))) = (-1) then (some (shr .i64 (wrap64 (shl .u64 t126 (wrap64 (64 - t127)))) (wrap64 (64 - t127)), t128, 0)) else (some (0, (⟨#[]⟩ : ByteArray), 2)))) else (none)) else (none))) else (some (0, (⟨#[]⟩ : ByteArray), 2))) = some (r1, r2, r3) := H
        have A7 := Aside0.mk A70
        clear A70
        by_cases c8 : t129 = true
        · subst c8
          have H1 : (if t127 > 64 then (if 9 < (a0.size : Int) then (if (bt a0 9) = 0 then (leb_TakeS.j1 kj2 t126 t128 false) else (leb_TakeS.j1 kj2 t126 t128 ((bt a0 9) != 127))) else (none)) else (if 0 ≤ (wrap64 (64 - t127)) then (if 0 ≤ (wrap64 (a1 - 1)) then (if (shr .i64 (shr .i64 (wrap64 (shl .u64 t126 (wrap64 (64 - t127)))) (wrap64 (64 - t127))) (wrap64 (a1 - 1))) = 0 then (some (shr .i64 (wrap64 (shl .u64 t126 (wrap64 (64 - t127)))) (wrap64 (64 - t127)), t128, 0)) else (if (shr .i64 (shr .i64 (wrap64 (shl .u64 t126 (wrap64 (64 - t127)))) (wrap64 (64 - t127))) (wrap64 (a1 - 1))) = (-1) then (some (shr .i64 (wrap64 (shl .u64 t126 (wrap64 (64 - t127)))) (wrap64 (64 - t127)), t128, 0)) else (some (0, (⟨#[]⟩ : ByteArray), 2)))) else (none)) else (none))) = some (r1, r2, r3) := by rw [if_pos rfl] at H; exact H
          clear H
          have H := H1
          clear H1
          by_cases c9 : t127 > 64
          · rw [if_pos c9] at H
            have c9b0 : decide (64 < t127) = true := decide_eq_true c9
            clear c9
            by_cases c10 : 9 < (a0.size : Int)
            · rw [if_pos c10] at H
              have c10b0 : decide (9 < (a0.size : Int)) = true := decide_eq_true c10
              have c10b1 : decide (9 < a0.size) = true := decide_eq_true (by omega)
              clear c10
              have HC12 := Aside0.mk H
              clear H
              go_upto_region 8 with (first | ((with_reducible refine gate_callee (f := 30) rfl ?_); refine goesL_ (some 26) rfl rfl Try.func30 (by kernel_rfl) rfl #[.string a0, .int .i64 a1] rfl (by (try simp only [List.map_toArray, List.map_cons, List.map_nil]); first | done | rfl | (simp only [List.length_drop, List.length_take]; rfl)) ?_; (with_reducible refine (leb_raw.calls kj2 a0 a1 t126 t127 t128 true _ A7.out).mono ?_); rintro e w' ⟨rfl, ⟨nd, rfl⟩⟩; refine ⟨_, rfl, ?_⟩; have p11 : 0 ≤ (9 : Int) := (by omega); have q11 : 9 < a0.size := (by have : (9 : Int) < (a0.size : Int) := of_decide_eq_true (by first | (with_reducible assumption) | assumption); omega); have hx11 : ∀ h : 9 < a0.size, ((a0[9]'h).toNat : Int) = bt a0 9 := bt_at a0 9; clear p11; have qi11 : (9 < (a0.size : Int)) = True := eq_true (of_decide_eq_true (by first | (with_reducible assumption) | assumption)); replace q11 := eq_true q11))
              (try simp only [Act.put, List.setIfInBounds_toArray, List.set_cons_zero, List.set_cons_succ])
              go_cut [42] (fun v42 wc => ∃ (kq : Nat) (x42_11 : Bool), v42 = .bool x42_11 ∧ Aside0 (leb_TakeS.j1 kq t126 t128 x42_11 = some (r1, r2, r3)) ∧ Aside0 (kq ≤ kj2) ∧ Drawn0 w wc)
              case first =>
                have H := HC12.out
                clear HC12
                by_cases c13 : (bt a0 9) = 0
                · rw [if_pos c13] at H
                  have c13b0 : ((bt a0 9) == 0) = true := beq_iff_eq.mpr c13
                  have c13b1 : ((bt a0 9) != 0) = false := bne_eq_false_iff_eq.mpr c13
                  clear c13
                  (first | rw [c13b0] | (simp only [i64_w, i32_w]; rw [c13b0]) | skip)
                  have H' := Aside0.mk H
                  clear H
                  go_wp2
                  go_meet
                  case rel => exact ⟨_, (false), (by first | rfl | (simp; done) | (simp [*]; done)), H', ⟨by have := HJ2.out; first | omega | exact Nat.le_refl _⟩, by repeat (first | exact Drawn0.refl _ | apply Drawn0.step)⟩
                · rw [if_neg c13] at H
                  have c13b0 : ((bt a0 9) == 0) = false := beq_eq_false_iff_ne.mpr c13
                  have c13b1 : ((bt a0 9) != 0) = true := bne_iff_ne.mpr c13
                  (first | rw [c13b0] | (simp only [i64_w, i32_w]; rw [c13b0]) | skip)
                  have H' := Aside0.mk H
                  clear H
                  go_wp2
                  go_meet
                  case rel => exact ⟨_, (((bt a0 9) != 127)), (by first | rfl | (simp; done) | (simp [*]; done)), H', ⟨by have := HJ2.out; first | omega | exact Nat.le_refl _⟩, by repeat (first | exact Drawn0.refl _ | apply Drawn0.step)⟩
              case rest =>
                clear HC12
                try clear c1
                try clear p1
                try clear q1
                try clear hx1
                try clear qi1
                try clear c2
                try clear p2
                try clear c3
                try clear c4
                try clear c4b0
                try clear c4b1
                try clear c5
                try clear c5b0
                try clear c5b1
                try clear c6
                try clear p6
                try clear c8
                try clear c9
                try clear c9b0
                try clear c10
                try clear c10b0
                try clear c10b1
                try clear p11
                try clear q11
                try clear hx11
                try clear qi11
                try clear c13
                try clear c13b0
                try clear c13b1
                try clear p11
                try clear p2
                try clear q11
                obtain ⟨kq, x42_11, rfl, HA, HJ11, ⟨mc11, rfl⟩⟩ := hcut
                cases kq with
                | zero => exact absurd HA.out (by simp [leb_TakeS.j1])
                | succ kj11 =>
                  have H := HA.out
                  clear HA
                  simp only [leb_TakeS.j1] at H
                  by_cases c14 : x42_11 = true
                  · subst c14
                    have H1 : (some (0, (⟨#[]⟩ : ByteArray), 2)) = some (r1, r2, r3) := by rw [if_pos rfl] at H; exact H
                    clear H
                    have H := H1
                    clear H1
                    simp only [Option.some.injEq, Prod.mk.injEq] at H
                    obtain ⟨rfl, rfl, rfl⟩ := H
                    go_wp2
                    go_ret3
                    exact ⟨by first | rfl | (simp; done) | (simp [*]; done), by repeat (first | exact Drawn0.refl _ | apply Drawn0.step)⟩
                  · replace c14 := Bool.eq_false_iff.mpr c14
                    subst c14
                    have H1 : (some (wrap64 (t126), t128, 0)) = some (r1, r2, r3) := by rw [if_neg (show ¬ (false = true) by decide)] at H; exact H
                    clear H
                    have H := H1
                    clear H1
                    simp only [Option.some.injEq, Prod.mk.injEq] at H
                    obtain ⟨rfl, rfl, rfl⟩ := H
                    go_wp2
                    go_ret3
                    exact ⟨by first | rfl | (simp; done) | (simp [*]; done), by repeat (first | exact Drawn0.refl _ | apply Drawn0.step)⟩
            · rw [if_neg c10] at H
              exact absurd H (by simp)
          · rw [if_neg c9] at H
            have c9b0 : decide (64 < t127) = false := decide_eq_false c9
            clear c9
            obtain ⟨ji15, hji15⟩ : ∃ j_ : Int, (wrap64 (64 - t127)) = j_ := ⟨_, rfl⟩
            replace H : (if 0 ≤ (ji15) then (if 0 ≤ (wrap64 (a1 - 1)) then (if (shr .i64 (shr .i64 (wrap64 (shl .u64 t126 (ji15))) (ji15)) (wrap64 (a1 - 1))) = 0 then (some (shr .i64 (wrap64 (shl .u64 t126 (ji15))) (ji15), t128, 0)) else (if (shr .i64 (shr .i64 (wrap64 (shl .u64 t126 (ji15))) (ji15)) (wrap64 (a1 - 1))) = (-1) then (some (shr .i64 (wrap64 (shl .u64 t126 (ji15))) (ji15), t128, 0)) else (some (0, (⟨#[]⟩ : ByteArray), 2)))) else (none)) else (none)) = some (r1, r2, r3) := by first | (rw [hji15] at H; exact H) | (simp only [hji15] at H ⊢; exact H)
            (try rw [hji15] at A7)
            have hji15w : (IntKind.i64.wrap (64 - t127)) = ji15 := (i64_w _).trans hji15
            by_cases c16 : 0 ≤ (ji15)
            · rw [if_pos c16] at H
              have c16b0 := eq_true c16
              have c16b1 : decide (0 ≤ (ji15)) = true := decide_eq_true c16
              clear c16
              obtain ⟨ji17, hji17⟩ : ∃ j_ : Int, (shl .u64 t126 (ji15)) = j_ := ⟨_, rfl⟩
              replace H : (if 0 ≤ (wrap64 (a1 - 1)) then (if (shr .i64 (shr .i64 (wrap64 (ji17)) (ji15)) (wrap64 (a1 - 1))) = 0 then (some (shr .i64 (wrap64 (ji17)) (ji15), t128, 0)) else (if (shr .i64 (shr .i64 (wrap64 (ji17)) (ji15)) (wrap64 (a1 - 1))) = (-1) then (some (shr .i64 (wrap64 (ji17)) (ji15), t128, 0)) else (some (0, (⟨#[]⟩ : ByteArray), 2)))) else (none)) = some (r1, r2, r3) := by first | (rw [hji17] at H; exact H) | (simp only [hji17] at H ⊢; exact H)
              (try rw [hji17] at A7)
              have hji17_ : (IntKind.u64.wrap (t126 * 2 ^ min (ji15).toNat 64)) = ji17 := hji17
              have hji17z : (ji15) ≤ 64 → (IntKind.u64.wrap (t126 * 2 ^ (ji15).toNat)) = ji17 := shl_small hji17
              have c18b0 := eq_true (of_decide_eq_true (by first | (with_reducible assumption) | assumption) : 0 ≤ (ji15))
              obtain ⟨ji19, hji19⟩ : ∃ j_ : Int, (shr .i64 (wrap64 (ji17)) (ji15)) = j_ := ⟨_, rfl⟩
              replace H : (if 0 ≤ (wrap64 (a1 - 1)) then (if (shr .i64 (ji19) (wrap64 (a1 - 1))) = 0 then (some (ji19, t128, 0)) else (if (shr .i64 (ji19) (wrap64 (a1 - 1))) = (-1) then (some (ji19, t128, 0)) else (some (0, (⟨#[]⟩ : ByteArray), 2)))) else (none)) = some (r1, r2, r3) := by first | (rw [hji19] at H; exact H) | (simp only [hji19] at H ⊢; exact H)
              (try rw [hji19] at A7)
              have hji19_ : ((wrap64 (ji17)) / 2 ^ min (ji15).toNat 64) = ji19 := hji19
              have hji19z : (ji15) ≤ 64 → ((wrap64 (ji17)) / 2 ^ (ji15).toNat) = ji19 := shr_small hji19
              obtain ⟨ji20, hji20⟩ : ∃ j_ : Int, (wrap64 (a1 - 1)) = j_ := ⟨_, rfl⟩
              replace H : (if 0 ≤ (ji20) then (if (shr .i64 (ji19) (ji20)) = 0 then (some (ji19, t128, 0)) else (if (shr .i64 (ji19) (ji20)) = (-1) then (some (ji19, t128, 0)) else (some (0, (⟨#[]⟩ : ByteArray), 2)))) else (none)) = some (r1, r2, r3) := by first | (rw [hji20] at H; exact H) | (simp only [hji20] at H ⊢; exact H)
              (try rw [hji20] at A7)
              have hji20w : (IntKind.i64.wrap (a1 - 1)) = ji20 := (i64_w _).trans hji20
              by_cases c21 : 0 ≤ (ji20)
              · rw [if_pos c21] at H
                have c21b0 := eq_true c21
                have c21b1 : decide (0 ≤ (ji20)) = true := decide_eq_true c21
                clear c21
                obtain ⟨ji22, hji22⟩ : ∃ j_ : Int, (shr .i64 (ji19) (ji20)) = j_ := ⟨_, rfl⟩
                replace H : (if (ji22) = 0 then (some (ji19, t128, 0)) else (if (ji22) = (-1) then (some (ji19, t128, 0)) else (some (0, (⟨#[]⟩ : ByteArray), 2)))) = some (r1, r2, r3) := by first | (rw [hji22] at H; exact H) | (simp only [hji22] at H ⊢; exact H)
                (try rw [hji22] at A7)
                have hji22_ : ((ji19) / 2 ^ min (ji20).toNat 64) = ji22 := hji22
                have hji22z : (ji20) ≤ 64 → ((ji19) / 2 ^ (ji20).toNat) = ji22 := shr_small hji22
                by_cases c23 : (ji22) = 0
                · rw [if_pos c23] at H
                  have c23b0 : ((ji22) == 0) = true := beq_iff_eq.mpr c23
                  have c23b1 : ((ji22) != 0) = false := bne_eq_false_iff_eq.mpr c23
                  clear c23
                  simp only [Option.some.injEq, Prod.mk.injEq] at H
                  obtain ⟨rfl, rfl, rfl⟩ := H
                  go_wp2_with (first | ((with_reducible refine gate_callee (f := 30) rfl ?_); refine goesL_ (some 26) rfl rfl Try.func30 (by kernel_rfl) rfl #[.string a0, .int .i64 a1] rfl (by (try simp only [List.map_toArray, List.map_cons, List.map_nil]); first | done | rfl | (simp only [List.length_drop, List.length_take]; rfl)) ?_; (with_reducible refine (leb_raw.calls kj2 a0 a1 t126 t127 t128 true _ A7.out).mono ?_); rintro e w' ⟨rfl, ⟨nd, rfl⟩⟩; refine ⟨_, rfl, ?_⟩))
                  go_ret3
                  exact ⟨by first | rfl | (simp; done) | (simp only [← hji15, ← hji17, ← hji19, ← hji20, ← hji22] <;> (first | rfl | simp)) | (simp [*]; done), by repeat (first | exact Drawn0.refl _ | apply Drawn0.step)⟩
                · rw [if_neg c23] at H
                  have c23b0 : ((ji22) == 0) = false := beq_eq_false_iff_ne.mpr c23
                  have c23b1 : ((ji22) != 0) = true := bne_iff_ne.mpr c23
                  have c24b0 := eq_true (of_decide_eq_true (by first | (with_reducible assumption) | assumption) : 0 ≤ (ji20))
                  by_cases c26 : (ji22) = (-1)
                  · rw [if_pos c26] at H
                    have c26b0 : ((ji22) == (-1)) = true := beq_iff_eq.mpr c26
                    have c26b1 : ((ji22) != (-1)) = false := bne_eq_false_iff_eq.mpr c26
                    clear c26
                    simp only [Option.some.injEq, Prod.mk.injEq] at H
                    obtain ⟨rfl, rfl, rfl⟩ := H
                    go_wp2_with (first | ((with_reducible refine gate_callee (f := 30) rfl ?_); refine goesL_ (some 26) rfl rfl Try.func30 (by kernel_rfl) rfl #[.string a0, .int .i64 a1] rfl (by (try simp only [List.map_toArray, List.map_cons, List.map_nil]); first | done | rfl | (simp only [List.length_drop, List.length_take]; rfl)) ?_; (with_reducible refine (leb_raw.calls kj2 a0 a1 t126 t127 t128 true _ A7.out).mono ?_); rintro e w' ⟨rfl, ⟨nd, rfl⟩⟩; refine ⟨_, rfl, ?_⟩))
                    go_ret3
                    exact ⟨by first | rfl | (simp; done) | (simp only [← hji15, ← hji17, ← hji19, ← hji20, ← hji22] <;> (first | rfl | simp)) | (simp [*]; done), by repeat (first | exact Drawn0.refl _ | apply Drawn0.step)⟩
                  · rw [if_neg c26] at H
                    have c26b0 : ((ji22) == (-1)) = false := beq_eq_false_iff_ne.mpr c26
                    have c26b1 : ((ji22) != (-1)) = true := bne_iff_ne.mpr c26
                    simp only [Option.some.injEq, Prod.mk.injEq] at H
                    obtain ⟨rfl, rfl, rfl⟩ := H
                    go_wp2_with (first | ((with_reducible refine gate_callee (f := 30) rfl ?_); refine goesL_ (some 26) rfl rfl Try.func30 (by kernel_rfl) rfl #[.string a0, .int .i64 a1] rfl (by (try simp only [List.map_toArray, List.map_cons, List.map_nil]); first | done | rfl | (simp only [List.length_drop, List.length_take]; rfl)) ?_; (with_reducible refine (leb_raw.calls kj2 a0 a1 t126 t127 t128 true _ A7.out).mono ?_); rintro e w' ⟨rfl, ⟨nd, rfl⟩⟩; refine ⟨_, rfl, ?_⟩))
                    go_ret3
                    exact ⟨by first | rfl | (simp; done) | (simp only [← hji15, ← hji17, ← hji19, ← hji20, ← hji22] <;> (first | rfl | simp)) | (simp [*]; done), by repeat (first | exact Drawn0.refl _ | apply Drawn0.step)⟩
              · rw [if_neg c21] at H
                exact absurd H (by simp)
            · rw [if_neg c16] at H
              exact absurd H (by simp)
        · replace c8 := Bool.eq_false_iff.mpr c8
          subst c8
          have H1 : (some (0, (⟨#[]⟩ : ByteArray), 2)) = some (r1, r2, r3) := by rw [if_neg (show ¬ (false = true) by decide)] at H; exact H
          clear H
          have H := H1
          clear H1
          simp only [Option.some.injEq, Prod.mk.injEq] at H
          obtain ⟨rfl, rfl, rfl⟩ := H
          go_wp2_with (first | ((with_reducible refine gate_callee (f := 30) rfl ?_); refine goesL_ (some 26) rfl rfl Try.func30 (by kernel_rfl) rfl #[.string a0, .int .i64 a1] rfl (by (try simp only [List.map_toArray, List.map_cons, List.map_nil]); first | done | rfl | (simp only [List.length_drop, List.length_take]; rfl)) ?_; (with_reducible refine (leb_raw.calls kj2 a0 a1 t126 t127 t128 false _ A7.out).mono ?_); rintro e w' ⟨rfl, ⟨nd, rfl⟩⟩; refine ⟨_, rfl, ?_⟩))
          go_ret3
          exact ⟨by first | rfl | (simp; done) | (simp [*]; done), by repeat (first | exact Drawn0.refl _ | apply Drawn0.step)⟩

/-! ### scarflaw01_awake: function 14 -/
def scarflaw01_awake.f (k : Nat)  : Option (Bool) := (leb_TakeS.f k (⟨#[255, 127, 120]⟩ : ByteArray) 32).bind fun bt130 => ((leb_PutU.f k 300).bind fun t133 => (if t133.toList = ([172, 2] : List UInt8) then ((leb_PutS.f k (-1)).bind fun t134 => (if t134.toList = ([127] : List UInt8) then ((leb_PutS.f k 64).bind fun t135 => (if t135.toList = ([192, 0] : List UInt8) then (if bt130.1 = (-1) then (if bt130.2.1.toList = ([120] : List UInt8) then (some (bt130.2.2 == 0)) else (some false)) else (some false)) else (some false))) else (some false))) else (some false)))
theorem scarflaw01_awake.mono : ∀ k, LeO (scarflaw01_awake.f k ) (scarflaw01_awake.f (k + 1) ) := by
  intro  k
  unfold scarflaw01_awake.f
  repeat' first
      | (with_reducible exact leb_PutS.mono _ _)
      | (with_reducible exact leb_PutU.mono _ _)
      | (with_reducible exact leb_TakeS.mono _ _ _)
      | (with_reducible exact LeO.refl _)
      | (with_reducible exact LeO.none _)
      | (with_reducible refine LeO.ite ?_ ?_)
      | (with_reducible refine LeO.bind ?_ (fun _ => ?_))
      | exact leb_PutS.mono _ _
      | exact leb_PutU.mono _ _
      | exact leb_TakeS.mono _ _ _
      | exact LeO.none _
      | refine LeO.ite ?_ ?_
      | refine LeO.bind ?_ (fun _ => ?_)
set_option maxHeartbeats 8000000 in
set_option maxRecDepth 100000 in
theorem scarflaw01_awake.calls (k : Nat)  (r : Bool) (w : World) (h : scarflaw01_awake.f k  = some r) :
    Calls Try.prog 14 #[] w fun e w' => e = .returned (.bool r) ∧ Below w.heap.size w w' := by
  have HB := Aside0.mk (Below.refl w.heap.size w)
  have H : ((leb_TakeS.f k (⟨#[255, 127, 120]⟩ : ByteArray) 32).bind fun bt130 => ((leb_PutU.f k 300).bind fun t133 => (if t133.toList = ([172, 2] : List UInt8) then ((leb_PutS.f k (-1)).bind fun t134 => (if t134.toList = ([127] : List UInt8) then ((leb_PutS.f k 64).bind fun t135 => (if t135.toList = ([192, 0] : List UInt8) then (if bt130.1 = (-1) then (if bt130.2.1.toList = ([120] : List UInt8) then (some (bt130.2.2 == 0)) else (some false)) else (some false)) else (some false))) else (some false))) else (some false)))) = some r := h
  clear h
  replace H := Option.bind_eq_some_iff.mp H
  obtain ⟨⟨t130, t131, t132⟩, A10, H⟩ := H
  replace H : ((leb_PutU.f k 300).bind fun t133 => (if t133.toList = ([172, 2] : List UInt8) then ((leb_PutS.f k (-1)).bind fun t134 => (if t134.toList = ([127] : List UInt8) then ((leb_PutS.f k 64).bind fun t135 => (if t135.toList = ([192, 0] : List UInt8) then (if t130 = (-1) then (if t131.toList = ([120] : List UInt8) then (some (t132 == 0)) else (some false)) else (some false)) else (some false))) else (some false))) else (some false))) = some r := H
  have A1 := Aside0.mk A10
  clear A10
  replace H := Option.bind_eq_some_iff.mp H
  obtain ⟨t133, A20, H⟩ := H
  replace H : (if t133.toList = ([172, 2] : List UInt8) then ((leb_PutS.f k (-1)).bind fun t134 => (if t134.toList = ([127] : List UInt8) then ((leb_PutS.f k 64).bind fun t135 => (if t135.toList = ([192, 0] : List UInt8) then (if t130 = (-1) then (if t131.toList = ([120] : List UInt8) then (some (t132 == 0)) else (some false)) else (some false)) else (some false))) else (some false))) else (some false)) = some r := H
  have A2 := Aside0.mk A20
  clear A20
  by_cases c3 : t133.toList = ([172, 2] : List UInt8)
  · rw [if_pos c3] at H
    have c3b0 : (t133.toList == ([172, 2] : List UInt8)) = true := beq_iff_eq.mpr c3
    have c3b1 : (t133.toList != ([172, 2] : List UInt8)) = false := bne_eq_false_iff_eq.mpr c3
    clear c3
    replace H := Option.bind_eq_some_iff.mp H
    obtain ⟨t134, A40, H⟩ := H
    replace H : (if t134.toList = ([127] : List UInt8) then ((leb_PutS.f k 64).bind fun t135 => (if t135.toList = ([192, 0] : List UInt8) then (if t130 = (-1) then (if t131.toList = ([120] : List UInt8) then (some (t132 == 0)) else (some false)) else (some false)) else (some false))) else (some false)) = some r := H
    have A4 := Aside0.mk A40
    clear A40
    by_cases c5 : t134.toList = ([127] : List UInt8)
    · rw [if_pos c5] at H
      have c5b0 : (t134.toList == ([127] : List UInt8)) = true := beq_iff_eq.mpr c5
      have c5b1 : (t134.toList != ([127] : List UInt8)) = false := bne_eq_false_iff_eq.mpr c5
      clear c5
      replace H := Option.bind_eq_some_iff.mp H
      obtain ⟨t135, A60, H⟩ := H
      replace H : (if t135.toList = ([192, 0] : List UInt8) then (if t130 = (-1) then (if t131.toList = ([120] : List UInt8) then (some (t132 == 0)) else (some false)) else (some false)) else (some false)) = some r := H
      have A6 := Aside0.mk A60
      clear A60
      by_cases c7 : t135.toList = ([192, 0] : List UInt8)
      · rw [if_pos c7] at H
        have c7b0 : (t135.toList == ([192, 0] : List UInt8)) = true := beq_iff_eq.mpr c7
        have c7b1 : (t135.toList != ([192, 0] : List UInt8)) = false := bne_eq_false_iff_eq.mpr c7
        clear c7
        by_cases c8 : t130 = (-1)
        · rw [if_pos c8] at H
          have c8b0 : (t130 == (-1)) = true := beq_iff_eq.mpr c8
          have c8b1 : (t130 != (-1)) = false := bne_eq_false_iff_eq.mpr c8
          clear c8
          by_cases c9 : t131.toList = ([120] : List UInt8)
          · rw [if_pos c9] at H
            have c9b0 : (t131.toList == ([120] : List UInt8)) = true := beq_iff_eq.mpr c9
            have c9b1 : (t131.toList != ([120] : List UInt8)) = false := bne_eq_false_iff_eq.mpr c9
            clear c9
            obtain rfl := Option.some.inj H
            go_enter Try.func14, Try.ntmps14
            go_wp2_with (first | ((with_reducible refine gate_callee (f := 15) rfl ?_); refine goesL_ (some 5) rfl rfl Try.func15 (by kernel_rfl) rfl #[.string (⟨#[255, 127, 120]⟩ : ByteArray), .int .i64 32] rfl (by (try simp only [List.map_toArray, List.map_cons, List.map_nil]); first | done | rfl | (simp only [List.length_drop, List.length_take]; rfl)) ?_; (with_reducible refine (leb_TakeS.calls k (⟨#[255, 127, 120]⟩ : ByteArray) 32 t130 t131 t132 _ A1.out).mono ?_); rintro e w' ⟨rfl, ⟨nd, rfl⟩⟩; refine ⟨_, rfl, ?_⟩) | ((with_reducible refine gate_callee (f := 10) rfl ?_); refine goesL_ (some 9) rfl rfl Try.func10 (by kernel_rfl) rfl #[.int .i64 300] rfl (by (try simp only [List.map_toArray, List.map_cons, List.map_nil]); first | done | rfl | (simp only [List.length_drop, List.length_take]; rfl)) ?_; (with_reducible refine (leb_PutU.calls k 300 t133 _ A2.out).mono ?_); rintro e w10 ⟨rfl, hb⟩; refine ⟨_, rfl, ?_⟩; have n0_ := Aside0.mk (below_step (by repeat (first | (with_reducible first | exact HB.out | apply below_alloc | apply pw_below_drewN | apply below_drew1) | exact HB.out)) hb); clear HB; have HB := n0_; clear n0_; (try clear hb); (try clear hb2); (try clear hk); (try clear hi)) | (go_at_call 12; (with_reducible refine (leb_PutS.calls k (-1) t134 _ A4.out).mono ?_); rintro e w11 ⟨rfl, hb⟩; have n0_ := Aside0.mk (below_step (by repeat (first | (with_reducible first | exact HB.out | apply below_alloc | apply pw_below_drewN | apply below_drew1) | exact HB.out)) hb); clear HB; have HB := n0_; clear n0_; (try clear hb); (try clear hb2); (try clear hk); (try clear hi)) | (go_at_call 12; (with_reducible refine (leb_PutS.calls k 64 t135 _ A6.out).mono ?_); rintro e w12 ⟨rfl, hb⟩; have n0_ := Aside0.mk (below_step (by repeat (first | (with_reducible first | exact HB.out | apply below_alloc | apply pw_below_drewN | apply below_drew1) | exact HB.out)) hb); clear HB; have HB := n0_; clear n0_; (try clear hb); (try clear hb2); (try clear hk); (try clear hi)))
            go_ret
            exact ⟨by first | rfl | (simp [errW_none, errW_some] <;> rfl) | (simp [*, errW_none, errW_some] <;> rfl), by repeat (first | (with_reducible first | exact HB.out | apply below_alloc | apply pw_below_drewN | apply below_drew1) | exact HB.out)⟩
          · rw [if_neg c9] at H
            have c9b0 : (t131.toList == ([120] : List UInt8)) = false := beq_eq_false_iff_ne.mpr c9
            have c9b1 : (t131.toList != ([120] : List UInt8)) = true := bne_iff_ne.mpr c9
            obtain rfl := Option.some.inj H
            go_enter Try.func14, Try.ntmps14
            go_wp2_with (first | ((with_reducible refine gate_callee (f := 15) rfl ?_); refine goesL_ (some 5) rfl rfl Try.func15 (by kernel_rfl) rfl #[.string (⟨#[255, 127, 120]⟩ : ByteArray), .int .i64 32] rfl (by (try simp only [List.map_toArray, List.map_cons, List.map_nil]); first | done | rfl | (simp only [List.length_drop, List.length_take]; rfl)) ?_; (with_reducible refine (leb_TakeS.calls k (⟨#[255, 127, 120]⟩ : ByteArray) 32 t130 t131 t132 _ A1.out).mono ?_); rintro e w' ⟨rfl, ⟨nd, rfl⟩⟩; refine ⟨_, rfl, ?_⟩) | ((with_reducible refine gate_callee (f := 10) rfl ?_); refine goesL_ (some 9) rfl rfl Try.func10 (by kernel_rfl) rfl #[.int .i64 300] rfl (by (try simp only [List.map_toArray, List.map_cons, List.map_nil]); first | done | rfl | (simp only [List.length_drop, List.length_take]; rfl)) ?_; (with_reducible refine (leb_PutU.calls k 300 t133 _ A2.out).mono ?_); rintro e w13 ⟨rfl, hb⟩; refine ⟨_, rfl, ?_⟩; have n0_ := Aside0.mk (below_step (by repeat (first | (with_reducible first | exact HB.out | apply below_alloc | apply pw_below_drewN | apply below_drew1) | exact HB.out)) hb); clear HB; have HB := n0_; clear n0_; (try clear hb); (try clear hb2); (try clear hk); (try clear hi)) | (go_at_call 12; (with_reducible refine (leb_PutS.calls k (-1) t134 _ A4.out).mono ?_); rintro e w14 ⟨rfl, hb⟩; have n0_ := Aside0.mk (below_step (by repeat (first | (with_reducible first | exact HB.out | apply below_alloc | apply pw_below_drewN | apply below_drew1) | exact HB.out)) hb); clear HB; have HB := n0_; clear n0_; (try clear hb); (try clear hb2); (try clear hk); (try clear hi)) | (go_at_call 12; (with_reducible refine (leb_PutS.calls k 64 t135 _ A6.out).mono ?_); rintro e w15 ⟨rfl, hb⟩; have n0_ := Aside0.mk (below_step (by repeat (first | (with_reducible first | exact HB.out | apply below_alloc | apply pw_below_drewN | apply below_drew1) | exact HB.out)) hb); clear HB; have HB := n0_; clear n0_; (try clear hb); (try clear hb2); (try clear hk); (try clear hi)))
            go_ret
            exact ⟨by first | rfl | (simp [errW_none, errW_some] <;> rfl) | (simp [*, errW_none, errW_some] <;> rfl), by repeat (first | (with_reducible first | exact HB.out | apply below_alloc | apply pw_below_drewN | apply below_drew1) | exact HB.out)⟩
        · rw [if_neg c8] at H
          have c8b0 : (t130 == (-1)) = false := beq_eq_false_iff_ne.mpr c8
          have c8b1 : (t130 != (-1)) = true := bne_iff_ne.mpr c8
          obtain rfl := Option.some.inj H
          go_enter Try.func14, Try.ntmps14
          go_wp2_with (first | ((with_reducible refine gate_callee (f := 15) rfl ?_); refine goesL_ (some 5) rfl rfl Try.func15 (by kernel_rfl) rfl #[.string (⟨#[255, 127, 120]⟩ : ByteArray), .int .i64 32] rfl (by (try simp only [List.map_toArray, List.map_cons, List.map_nil]); first | done | rfl | (simp only [List.length_drop, List.length_take]; rfl)) ?_; (with_reducible refine (leb_TakeS.calls k (⟨#[255, 127, 120]⟩ : ByteArray) 32 t130 t131 t132 _ A1.out).mono ?_); rintro e w' ⟨rfl, ⟨nd, rfl⟩⟩; refine ⟨_, rfl, ?_⟩) | ((with_reducible refine gate_callee (f := 10) rfl ?_); refine goesL_ (some 9) rfl rfl Try.func10 (by kernel_rfl) rfl #[.int .i64 300] rfl (by (try simp only [List.map_toArray, List.map_cons, List.map_nil]); first | done | rfl | (simp only [List.length_drop, List.length_take]; rfl)) ?_; (with_reducible refine (leb_PutU.calls k 300 t133 _ A2.out).mono ?_); rintro e w16 ⟨rfl, hb⟩; refine ⟨_, rfl, ?_⟩; have n0_ := Aside0.mk (below_step (by repeat (first | (with_reducible first | exact HB.out | apply below_alloc | apply pw_below_drewN | apply below_drew1) | exact HB.out)) hb); clear HB; have HB := n0_; clear n0_; (try clear hb); (try clear hb2); (try clear hk); (try clear hi)) | (go_at_call 12; (with_reducible refine (leb_PutS.calls k (-1) t134 _ A4.out).mono ?_); rintro e w17 ⟨rfl, hb⟩; have n0_ := Aside0.mk (below_step (by repeat (first | (with_reducible first | exact HB.out | apply below_alloc | apply pw_below_drewN | apply below_drew1) | exact HB.out)) hb); clear HB; have HB := n0_; clear n0_; (try clear hb); (try clear hb2); (try clear hk); (try clear hi)) | (go_at_call 12; (with_reducible refine (leb_PutS.calls k 64 t135 _ A6.out).mono ?_); rintro e w18 ⟨rfl, hb⟩; have n0_ := Aside0.mk (below_step (by repeat (first | (with_reducible first | exact HB.out | apply below_alloc | apply pw_below_drewN | apply below_drew1) | exact HB.out)) hb); clear HB; have HB := n0_; clear n0_; (try clear hb); (try clear hb2); (try clear hk); (try clear hi)))
          go_ret
          exact ⟨by first | rfl | (simp [errW_none, errW_some] <;> rfl) | (simp [*, errW_none, errW_some] <;> rfl), by repeat (first | (with_reducible first | exact HB.out | apply below_alloc | apply pw_below_drewN | apply below_drew1) | exact HB.out)⟩
      · rw [if_neg c7] at H
        have c7b0 : (t135.toList == ([192, 0] : List UInt8)) = false := beq_eq_false_iff_ne.mpr c7
        have c7b1 : (t135.toList != ([192, 0] : List UInt8)) = true := bne_iff_ne.mpr c7
        obtain rfl := Option.some.inj H
        go_enter Try.func14, Try.ntmps14
        go_wp2_with (first | ((with_reducible refine gate_callee (f := 15) rfl ?_); refine goesL_ (some 5) rfl rfl Try.func15 (by kernel_rfl) rfl #[.string (⟨#[255, 127, 120]⟩ : ByteArray), .int .i64 32] rfl (by (try simp only [List.map_toArray, List.map_cons, List.map_nil]); first | done | rfl | (simp only [List.length_drop, List.length_take]; rfl)) ?_; (with_reducible refine (leb_TakeS.calls k (⟨#[255, 127, 120]⟩ : ByteArray) 32 t130 t131 t132 _ A1.out).mono ?_); rintro e w' ⟨rfl, ⟨nd, rfl⟩⟩; refine ⟨_, rfl, ?_⟩) | ((with_reducible refine gate_callee (f := 10) rfl ?_); refine goesL_ (some 9) rfl rfl Try.func10 (by kernel_rfl) rfl #[.int .i64 300] rfl (by (try simp only [List.map_toArray, List.map_cons, List.map_nil]); first | done | rfl | (simp only [List.length_drop, List.length_take]; rfl)) ?_; (with_reducible refine (leb_PutU.calls k 300 t133 _ A2.out).mono ?_); rintro e w19 ⟨rfl, hb⟩; refine ⟨_, rfl, ?_⟩; have n0_ := Aside0.mk (below_step (by repeat (first | (with_reducible first | exact HB.out | apply below_alloc | apply pw_below_drewN | apply below_drew1) | exact HB.out)) hb); clear HB; have HB := n0_; clear n0_; (try clear hb); (try clear hb2); (try clear hk); (try clear hi)) | (go_at_call 12; (with_reducible refine (leb_PutS.calls k (-1) t134 _ A4.out).mono ?_); rintro e w20 ⟨rfl, hb⟩; have n0_ := Aside0.mk (below_step (by repeat (first | (with_reducible first | exact HB.out | apply below_alloc | apply pw_below_drewN | apply below_drew1) | exact HB.out)) hb); clear HB; have HB := n0_; clear n0_; (try clear hb); (try clear hb2); (try clear hk); (try clear hi)) | (go_at_call 12; (with_reducible refine (leb_PutS.calls k 64 t135 _ A6.out).mono ?_); rintro e w21 ⟨rfl, hb⟩; have n0_ := Aside0.mk (below_step (by repeat (first | (with_reducible first | exact HB.out | apply below_alloc | apply pw_below_drewN | apply below_drew1) | exact HB.out)) hb); clear HB; have HB := n0_; clear n0_; (try clear hb); (try clear hb2); (try clear hk); (try clear hi)))
        go_ret
        exact ⟨by first | rfl | (simp [errW_none, errW_some] <;> rfl) | (simp [*, errW_none, errW_some] <;> rfl), by repeat (first | (with_reducible first | exact HB.out | apply below_alloc | apply pw_below_drewN | apply below_drew1) | exact HB.out)⟩
    · rw [if_neg c5] at H
      have c5b0 : (t134.toList == ([127] : List UInt8)) = false := beq_eq_false_iff_ne.mpr c5
      have c5b1 : (t134.toList != ([127] : List UInt8)) = true := bne_iff_ne.mpr c5
      obtain rfl := Option.some.inj H
      go_enter Try.func14, Try.ntmps14
      go_wp2_with (first | ((with_reducible refine gate_callee (f := 15) rfl ?_); refine goesL_ (some 5) rfl rfl Try.func15 (by kernel_rfl) rfl #[.string (⟨#[255, 127, 120]⟩ : ByteArray), .int .i64 32] rfl (by (try simp only [List.map_toArray, List.map_cons, List.map_nil]); first | done | rfl | (simp only [List.length_drop, List.length_take]; rfl)) ?_; (with_reducible refine (leb_TakeS.calls k (⟨#[255, 127, 120]⟩ : ByteArray) 32 t130 t131 t132 _ A1.out).mono ?_); rintro e w' ⟨rfl, ⟨nd, rfl⟩⟩; refine ⟨_, rfl, ?_⟩) | ((with_reducible refine gate_callee (f := 10) rfl ?_); refine goesL_ (some 9) rfl rfl Try.func10 (by kernel_rfl) rfl #[.int .i64 300] rfl (by (try simp only [List.map_toArray, List.map_cons, List.map_nil]); first | done | rfl | (simp only [List.length_drop, List.length_take]; rfl)) ?_; (with_reducible refine (leb_PutU.calls k 300 t133 _ A2.out).mono ?_); rintro e w22 ⟨rfl, hb⟩; refine ⟨_, rfl, ?_⟩; have n0_ := Aside0.mk (below_step (by repeat (first | (with_reducible first | exact HB.out | apply below_alloc | apply pw_below_drewN | apply below_drew1) | exact HB.out)) hb); clear HB; have HB := n0_; clear n0_; (try clear hb); (try clear hb2); (try clear hk); (try clear hi)) | (go_at_call 12; (with_reducible refine (leb_PutS.calls k (-1) t134 _ A4.out).mono ?_); rintro e w23 ⟨rfl, hb⟩; have n0_ := Aside0.mk (below_step (by repeat (first | (with_reducible first | exact HB.out | apply below_alloc | apply pw_below_drewN | apply below_drew1) | exact HB.out)) hb); clear HB; have HB := n0_; clear n0_; (try clear hb); (try clear hb2); (try clear hk); (try clear hi)))
      go_ret
      exact ⟨by first | rfl | (simp [errW_none, errW_some] <;> rfl) | (simp [*, errW_none, errW_some] <;> rfl), by repeat (first | (with_reducible first | exact HB.out | apply below_alloc | apply pw_below_drewN | apply below_drew1) | exact HB.out)⟩
  · rw [if_neg c3] at H
    have c3b0 : (t133.toList == ([172, 2] : List UInt8)) = false := beq_eq_false_iff_ne.mpr c3
    have c3b1 : (t133.toList != ([172, 2] : List UInt8)) = true := bne_iff_ne.mpr c3
    obtain rfl := Option.some.inj H
    go_enter Try.func14, Try.ntmps14
    go_wp2_with (first | ((with_reducible refine gate_callee (f := 15) rfl ?_); refine goesL_ (some 5) rfl rfl Try.func15 (by kernel_rfl) rfl #[.string (⟨#[255, 127, 120]⟩ : ByteArray), .int .i64 32] rfl (by (try simp only [List.map_toArray, List.map_cons, List.map_nil]); first | done | rfl | (simp only [List.length_drop, List.length_take]; rfl)) ?_; (with_reducible refine (leb_TakeS.calls k (⟨#[255, 127, 120]⟩ : ByteArray) 32 t130 t131 t132 _ A1.out).mono ?_); rintro e w' ⟨rfl, ⟨nd, rfl⟩⟩; refine ⟨_, rfl, ?_⟩) | ((with_reducible refine gate_callee (f := 10) rfl ?_); refine goesL_ (some 9) rfl rfl Try.func10 (by kernel_rfl) rfl #[.int .i64 300] rfl (by (try simp only [List.map_toArray, List.map_cons, List.map_nil]); first | done | rfl | (simp only [List.length_drop, List.length_take]; rfl)) ?_; (with_reducible refine (leb_PutU.calls k 300 t133 _ A2.out).mono ?_); rintro e w24 ⟨rfl, hb⟩; refine ⟨_, rfl, ?_⟩; have n0_ := Aside0.mk (below_step (by repeat (first | (with_reducible first | exact HB.out | apply below_alloc | apply pw_below_drewN | apply below_drew1) | exact HB.out)) hb); clear HB; have HB := n0_; clear n0_; (try clear hb); (try clear hb2); (try clear hk); (try clear hi)))
    go_ret
    exact ⟨by first | rfl | (simp [errW_none, errW_some] <;> rfl) | (simp [*, errW_none, errW_some] <;> rfl), by repeat (first | (with_reducible first | exact HB.out | apply below_alloc | apply pw_below_drewN | apply below_drew1) | exact HB.out)⟩

/-! ### scarflaw01_LebPuts: function 3 -/
def scarflaw01_LebPuts.f (k : Nat) (a0 : Int) : Option (Bool) := (leb_PutU.f k a0).bind fun t136 => ((scarfref01_PutU.f k a0).bind fun t137 => (if t136.toList = t137.toList then ((leb_PutS.f k a0).bind fun t138 => ((scarfref01_PutS.f k a0).bind fun t139 => (if t138.toList = t139.toList then ((scarflaw01_awake.f k).bind fun t140 => (some t140)) else (some false)))) else (some false)))
theorem scarflaw01_LebPuts.mono : ∀ a0 k, LeO (scarflaw01_LebPuts.f k a0) (scarflaw01_LebPuts.f (k + 1) a0) := by
  intro a0 k
  unfold scarflaw01_LebPuts.f
  repeat' first
      | (with_reducible exact leb_PutS.mono _ _)
      | (with_reducible exact leb_PutU.mono _ _)
      | (with_reducible exact scarflaw01_awake.mono _)
      | (with_reducible exact scarfref01_PutS.mono _ _)
      | (with_reducible exact scarfref01_PutU.mono _ _)
      | (with_reducible exact LeO.refl _)
      | (with_reducible exact LeO.none _)
      | (with_reducible refine LeO.ite ?_ ?_)
      | (with_reducible refine LeO.bind ?_ (fun _ => ?_))
      | exact leb_PutS.mono _ _
      | exact leb_PutU.mono _ _
      | exact scarflaw01_awake.mono _
      | exact scarfref01_PutS.mono _ _
      | exact scarfref01_PutU.mono _ _
      | exact LeO.none _
      | refine LeO.ite ?_ ?_
      | refine LeO.bind ?_ (fun _ => ?_)
set_option maxHeartbeats 8000000 in
set_option maxRecDepth 100000 in
theorem scarflaw01_LebPuts.calls (k : Nat) (a0 : Int) (r : Bool) (w : World) (h : scarflaw01_LebPuts.f k a0 = some r) :
    Calls Try.prog 3 #[.int .i64 a0] w fun e w' => e = .returned (.bool r) ∧ Below w.heap.size w w' := by
  have HB := Aside0.mk (Below.refl w.heap.size w)
  have H : ((leb_PutU.f k a0).bind fun t136 => ((scarfref01_PutU.f k a0).bind fun t137 => (if t136.toList = t137.toList then ((leb_PutS.f k a0).bind fun t138 => ((scarfref01_PutS.f k a0).bind fun t139 => (if t138.toList = t139.toList then ((scarflaw01_awake.f k).bind fun t140 => (some t140)) else (some false)))) else (some false)))) = some r := h
  clear h
  replace H := Option.bind_eq_some_iff.mp H
  obtain ⟨t136, A20, H⟩ := H
  replace H : ((scarfref01_PutU.f k a0).bind fun t137 => (if t136.toList = t137.toList then ((leb_PutS.f k a0).bind fun t138 => ((scarfref01_PutS.f k a0).bind fun t139 => (if t138.toList = t139.toList then ((scarflaw01_awake.f k).bind fun t140 => (some t140)) else (some false)))) else (some false))) = some r := H
  have A2 := Aside0.mk A20
  clear A20
  replace H := Option.bind_eq_some_iff.mp H
  obtain ⟨t137, A30, H⟩ := H
  replace H : (if t136.toList = t137.toList then ((leb_PutS.f k a0).bind fun t138 => ((scarfref01_PutS.f k a0).bind fun t139 => (if t138.toList = t139.toList then ((scarflaw01_awake.f k).bind fun t140 => (some t140)) else (some false)))) else (some false)) = some r := H
  have A3 := Aside0.mk A30
  clear A30
  by_cases c4 : t136.toList = t137.toList
  · rw [if_pos c4] at H
    have c4b0 : (t136.toList == t137.toList) = true := beq_iff_eq.mpr c4
    have c4b1 : (t136.toList != t137.toList) = false := bne_eq_false_iff_eq.mpr c4
    clear c4
    replace H := Option.bind_eq_some_iff.mp H
    obtain ⟨t138, A50, H⟩ := H
    replace H : ((scarfref01_PutS.f k a0).bind fun t139 => (if t138.toList = t139.toList then ((scarflaw01_awake.f k).bind fun t140 => (some t140)) else (some false))) = some r := H
    have A5 := Aside0.mk A50
    clear A50
    replace H := Option.bind_eq_some_iff.mp H
    obtain ⟨t139, A60, H⟩ := H
    replace H : (if t138.toList = t139.toList then ((scarflaw01_awake.f k).bind fun t140 => (some t140)) else (some false)) = some r := H
    have A6 := Aside0.mk A60
    clear A60
    by_cases c7 : t138.toList = t139.toList
    · rw [if_pos c7] at H
      have c7b0 : (t138.toList == t139.toList) = true := beq_iff_eq.mpr c7
      have c7b1 : (t138.toList != t139.toList) = false := bne_eq_false_iff_eq.mpr c7
      clear c7
      replace H := Option.bind_eq_some_iff.mp H
      obtain ⟨t140, A80, H⟩ := H
      replace H : (some t140) = some r := H
      have A8 := Aside0.mk A80
      clear A80
      obtain rfl := Option.some.inj H
      go_enter Try.func3, Try.ntmps3
      go_wp2_with (first | ((with_reducible refine gate_callee (f := 10) rfl ?_); refine goesL_ (some 4) rfl rfl Try.func10 (by kernel_rfl) rfl #[.int .i64 a0] rfl (by (try simp only [List.map_toArray, List.map_cons, List.map_nil]); first | done | rfl | (simp only [List.length_drop, List.length_take]; rfl)) ?_; (with_reducible refine (leb_PutU.calls k a0 t136 _ A2.out).mono ?_); rintro e w9 ⟨rfl, hb⟩; refine ⟨_, rfl, ?_⟩; have n0_ := Aside0.mk (below_step (by repeat (first | (with_reducible first | exact HB.out | apply below_alloc | apply pw_below_drewN | apply below_drew1) | exact HB.out)) hb); clear HB; have HB := n0_; clear n0_; (try clear hb); (try clear hb2); (try clear hk); (try clear hi)) | ((with_reducible refine gate_callee (f := 11) rfl ?_); refine goesL_ (some 6) rfl rfl Try.func11 (by kernel_rfl) rfl #[.int .i64 a0] rfl (by (try simp only [List.map_toArray, List.map_cons, List.map_nil]); first | done | rfl | (simp only [List.length_drop, List.length_take]; rfl)) ?_; (with_reducible refine (scarfref01_PutU.calls k a0 t137 _ A3.out).mono ?_); rintro e w10 ⟨rfl, hb⟩; refine ⟨_, rfl, ?_⟩; have n0_ := Aside0.mk (below_step (by repeat (first | (with_reducible first | exact HB.out | apply below_alloc | apply pw_below_drewN | apply below_drew1) | exact HB.out)) hb); clear HB; have HB := n0_; clear n0_; (try clear hb); (try clear hb2); (try clear hk); (try clear hi)) | (go_at_call 12; (with_reducible refine (leb_PutS.calls k a0 t138 _ A5.out).mono ?_); rintro e w11 ⟨rfl, hb⟩; have n0_ := Aside0.mk (below_step (by repeat (first | (with_reducible first | exact HB.out | apply below_alloc | apply pw_below_drewN | apply below_drew1) | exact HB.out)) hb); clear HB; have HB := n0_; clear n0_; (try clear hb); (try clear hb2); (try clear hk); (try clear hi)) | (go_at_call 13; (with_reducible refine (scarfref01_PutS.calls k a0 t139 _ A6.out).mono ?_); rintro e w12 ⟨rfl, hb⟩; have n0_ := Aside0.mk (below_step (by repeat (first | (with_reducible first | exact HB.out | apply below_alloc | apply pw_below_drewN | apply below_drew1) | exact HB.out)) hb); clear HB; have HB := n0_; clear n0_; (try clear hb); (try clear hb2); (try clear hk); (try clear hi)) | (go_at_call 14; (with_reducible refine (scarflaw01_awake.calls k  t140 _ A8.out).mono ?_); rintro e w13 ⟨rfl, hb⟩; have n0_ := Aside0.mk (below_step (by repeat (first | (with_reducible first | exact HB.out | apply below_alloc | apply pw_below_drewN | apply below_drew1) | exact HB.out)) hb); clear HB; have HB := n0_; clear n0_; (try clear hb); (try clear hb2); (try clear hk); (try clear hi)))
      go_ret
      exact ⟨by first | rfl | (simp [errW_none, errW_some] <;> rfl) | (simp [*, errW_none, errW_some] <;> rfl), by repeat (first | (with_reducible first | exact HB.out | apply below_alloc | apply pw_below_drewN | apply below_drew1) | exact HB.out)⟩
    · rw [if_neg c7] at H
      have c7b0 : (t138.toList == t139.toList) = false := beq_eq_false_iff_ne.mpr c7
      have c7b1 : (t138.toList != t139.toList) = true := bne_iff_ne.mpr c7
      obtain rfl := Option.some.inj H
      go_enter Try.func3, Try.ntmps3
      go_wp2_with (first | ((with_reducible refine gate_callee (f := 10) rfl ?_); refine goesL_ (some 4) rfl rfl Try.func10 (by kernel_rfl) rfl #[.int .i64 a0] rfl (by (try simp only [List.map_toArray, List.map_cons, List.map_nil]); first | done | rfl | (simp only [List.length_drop, List.length_take]; rfl)) ?_; (with_reducible refine (leb_PutU.calls k a0 t136 _ A2.out).mono ?_); rintro e w14 ⟨rfl, hb⟩; refine ⟨_, rfl, ?_⟩; have n0_ := Aside0.mk (below_step (by repeat (first | (with_reducible first | exact HB.out | apply below_alloc | apply pw_below_drewN | apply below_drew1) | exact HB.out)) hb); clear HB; have HB := n0_; clear n0_; (try clear hb); (try clear hb2); (try clear hk); (try clear hi)) | ((with_reducible refine gate_callee (f := 11) rfl ?_); refine goesL_ (some 6) rfl rfl Try.func11 (by kernel_rfl) rfl #[.int .i64 a0] rfl (by (try simp only [List.map_toArray, List.map_cons, List.map_nil]); first | done | rfl | (simp only [List.length_drop, List.length_take]; rfl)) ?_; (with_reducible refine (scarfref01_PutU.calls k a0 t137 _ A3.out).mono ?_); rintro e w15 ⟨rfl, hb⟩; refine ⟨_, rfl, ?_⟩; have n0_ := Aside0.mk (below_step (by repeat (first | (with_reducible first | exact HB.out | apply below_alloc | apply pw_below_drewN | apply below_drew1) | exact HB.out)) hb); clear HB; have HB := n0_; clear n0_; (try clear hb); (try clear hb2); (try clear hk); (try clear hi)) | (go_at_call 12; (with_reducible refine (leb_PutS.calls k a0 t138 _ A5.out).mono ?_); rintro e w16 ⟨rfl, hb⟩; have n0_ := Aside0.mk (below_step (by repeat (first | (with_reducible first | exact HB.out | apply below_alloc | apply pw_below_drewN | apply below_drew1) | exact HB.out)) hb); clear HB; have HB := n0_; clear n0_; (try clear hb); (try clear hb2); (try clear hk); (try clear hi)) | (go_at_call 13; (with_reducible refine (scarfref01_PutS.calls k a0 t139 _ A6.out).mono ?_); rintro e w17 ⟨rfl, hb⟩; have n0_ := Aside0.mk (below_step (by repeat (first | (with_reducible first | exact HB.out | apply below_alloc | apply pw_below_drewN | apply below_drew1) | exact HB.out)) hb); clear HB; have HB := n0_; clear n0_; (try clear hb); (try clear hb2); (try clear hk); (try clear hi)))
      go_ret
      exact ⟨by first | rfl | (simp [errW_none, errW_some] <;> rfl) | (simp [*, errW_none, errW_some] <;> rfl), by repeat (first | (with_reducible first | exact HB.out | apply below_alloc | apply pw_below_drewN | apply below_drew1) | exact HB.out)⟩
  · rw [if_neg c4] at H
    have c4b0 : (t136.toList == t137.toList) = false := beq_eq_false_iff_ne.mpr c4
    have c4b1 : (t136.toList != t137.toList) = true := bne_iff_ne.mpr c4
    obtain rfl := Option.some.inj H
    go_enter Try.func3, Try.ntmps3
    go_wp2_with (first | ((with_reducible refine gate_callee (f := 10) rfl ?_); refine goesL_ (some 4) rfl rfl Try.func10 (by kernel_rfl) rfl #[.int .i64 a0] rfl (by (try simp only [List.map_toArray, List.map_cons, List.map_nil]); first | done | rfl | (simp only [List.length_drop, List.length_take]; rfl)) ?_; (with_reducible refine (leb_PutU.calls k a0 t136 _ A2.out).mono ?_); rintro e w18 ⟨rfl, hb⟩; refine ⟨_, rfl, ?_⟩; have n0_ := Aside0.mk (below_step (by repeat (first | (with_reducible first | exact HB.out | apply below_alloc | apply pw_below_drewN | apply below_drew1) | exact HB.out)) hb); clear HB; have HB := n0_; clear n0_; (try clear hb); (try clear hb2); (try clear hk); (try clear hi)) | ((with_reducible refine gate_callee (f := 11) rfl ?_); refine goesL_ (some 6) rfl rfl Try.func11 (by kernel_rfl) rfl #[.int .i64 a0] rfl (by (try simp only [List.map_toArray, List.map_cons, List.map_nil]); first | done | rfl | (simp only [List.length_drop, List.length_take]; rfl)) ?_; (with_reducible refine (scarfref01_PutU.calls k a0 t137 _ A3.out).mono ?_); rintro e w19 ⟨rfl, hb⟩; refine ⟨_, rfl, ?_⟩; have n0_ := Aside0.mk (below_step (by repeat (first | (with_reducible first | exact HB.out | apply below_alloc | apply pw_below_drewN | apply below_drew1) | exact HB.out)) hb); clear HB; have HB := n0_; clear n0_; (try clear hb); (try clear hb2); (try clear hk); (try clear hi)))
    go_ret
    exact ⟨by first | rfl | (simp [errW_none, errW_some] <;> rfl) | (simp [*, errW_none, errW_some] <;> rfl), by repeat (first | (with_reducible first | exact HB.out | apply below_alloc | apply pw_below_drewN | apply below_drew1) | exact HB.out)⟩

/-- THE ONE PURE STATEMENT of scarflaw01_LebPuts: yours. -/
def scarflaw01_LebPuts.Pure : Prop := ∀ (a0 : Int), (Lit.int .i64 a0).wf = true → ∃ k, scarflaw01_LebPuts.f k a0 = some true
theorem scarflaw01_LebPuts.walk (P : scarflaw01_LebPuts.Pure) (a0 : Int) (w : World) (w0 : (Lit.int .i64 a0).wf = true) :
    Calls Try.prog 3 #[.int .i64 a0] w fun e w' => e = .returned (.bool true) ∧ Below w.heap.size w w' := by
  obtain ⟨k, h⟩ := P a0 w0
  refine (scarflaw01_LebPuts.calls k a0 true w h).mono ?_
  rintro e w' ⟨rfl, hd⟩
  exact ⟨rfl, hd⟩

end Go.Proofs.Ytmoeibghjejneaa.PA
