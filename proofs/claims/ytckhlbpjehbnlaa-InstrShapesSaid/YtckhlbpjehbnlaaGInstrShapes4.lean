/- Several texts of this session, laid into one for a claim: PBx9, PBx10, PBx11, PBx12, PBx13, PBx14, PBx15. -/
import Derived.Test.YtckhlbpjehbnlaaGInstrShapes0
import Derived.Test.YtckhlbpjehbnlaaGInstrShapes2
import Derived.Test.YtckhlbpjehbnlaaGInstrShapes1
namespace Go.Proofs.Ytckhlbpjehbnlaa.PB
open Go.RowKit Go.Proofs.YtckhlbpjehbnlaaW.PrintWords Go.Proofs.YtckhlbpjehbnlaaW.PrintLast Go.Proofs.YtckhlbpjehbnlaaW.PrintMore
attribute [local go_sem] max2_int min2_int max_two min_two max_three min_three max_four min_four   -- for this text's walks alone
set_option linter.unusedVariables false
set_option linter.unusedSimpArgs false
mutual
def instr_Type.j0 : Nat → Int → Int → Bool → Option (Int × Int)
  | 0, _, _, _ => none
  | k + 1, x0, x4, x5 => if x5 = true then (some (x0, 0)) else (if x4 = 125 then (instr_Type.j1 k x4 (x4 == 125)) else (instr_Type.j1 k x4 (x4 == 124)))
def instr_Type.j1 : Nat → Int → Bool → Option (Int × Int)
  | 0, _, _ => none
  | k + 1, x4, x10 => if x10 = true then (some (0, 3)) else (if x4 = 123 then (some (0, 4)) else (some (0, 2)))
end
def instr_Type.f (k : Nat) (a0 : Int) : Option (Int × Int) := if a0 = 127 then (instr_Type.j0 k a0 a0 (a0 == 127)) else (if a0 = 126 then (instr_Type.j0 k a0 a0 (a0 == 126)) else (instr_Type.j0 k a0 a0 (a0 == 112)))
theorem instr_Type.mono_l : ∀ k, (∀ y0 y1 y2, LeO (instr_Type.j0 k y0 y1 y2) (instr_Type.j0 (k + 1) y0 y1 y2)) ∧ (∀ y0 y1, LeO (instr_Type.j1 k y0 y1) (instr_Type.j1 (k + 1) y0 y1))
  | 0 => ⟨fun _ _ _ r h => by simp [instr_Type.j0] at h, fun _ _ r h => by simp [instr_Type.j1] at h⟩
  | k + 1 => by
    obtain ⟨ih0, ih1⟩ := instr_Type.mono_l k
    refine ⟨?_, ?_⟩
    · intro y0 y1 y2
      unfold instr_Type.j0
      repeat' first
      | (with_reducible exact ih0 _ _ _)
      | (with_reducible exact ih1 _ _)
      | (with_reducible exact LeO.refl _)
      | (with_reducible exact LeO.none _)
      | (with_reducible refine LeO.ite ?_ ?_)
      | (with_reducible refine LeO.bind ?_ (fun _ => ?_))
      | exact ih0 _ _ _
      | exact ih1 _ _
      | exact LeO.none _
      | refine LeO.ite ?_ ?_
      | refine LeO.bind ?_ (fun _ => ?_)
    · intro y0 y1
      unfold instr_Type.j1
      repeat' first
      | (with_reducible exact ih0 _ _ _)
      | (with_reducible exact ih1 _ _)
      | (with_reducible exact LeO.refl _)
      | (with_reducible exact LeO.none _)
      | (with_reducible refine LeO.ite ?_ ?_)
      | (with_reducible refine LeO.bind ?_ (fun _ => ?_))
      | exact ih0 _ _ _
      | exact ih1 _ _
      | exact LeO.none _
      | refine LeO.ite ?_ ?_
      | refine LeO.bind ?_ (fun _ => ?_)
theorem instr_Type.mono : ∀ a0 k, LeO (instr_Type.f k a0) (instr_Type.f (k + 1) a0) := by
  intro a0 k
  obtain ⟨ih0, ih1⟩ := instr_Type.mono_l k
  unfold instr_Type.f
  repeat' first
      | (with_reducible exact ih0 _ _ _)
      | (with_reducible exact ih1 _ _)
      | (with_reducible exact LeO.refl _)
      | (with_reducible exact LeO.none _)
      | (with_reducible refine LeO.ite ?_ ?_)
      | (with_reducible refine LeO.bind ?_ (fun _ => ?_))
      | exact ih0 _ _ _
      | exact ih1 _ _
      | exact LeO.none _
      | refine LeO.ite ?_ ?_
      | refine LeO.bind ?_ (fun _ => ?_)
set_option maxHeartbeats 8000000 in
set_option maxRecDepth 100000 in
theorem instr_Type.calls (k : Nat) (a0 : Int) (r1 : Int) (r2 : Int) (w : World) (h : instr_Type.f k a0 = some (r1, r2)) :
    Calls Try.prog 12 #[.int .i64 a0] w fun e w' => e = .returned (.tuple #[.int .i64 r1, .int .i64 r2]) ∧ Drawn0 w w' := by
  have H : (if a0 = 127 then (instr_Type.j0 k a0 a0 (a0 == 127)) else (if a0 = 126 then (instr_Type.j0 k a0 a0 (a0 == 126)) else (instr_Type.j0 k a0 a0 (a0 == 112)))) = some (r1, r2) := h
  clear h
  have HC2 := Aside0.mk H
  clear H
  go_enter Try.func12, Try.ntmps12
  go_upto_if 5 with (fail)
  go_cut [5] (fun v5 wc => ∃ (kq : Nat) (x5_1 : Bool), v5 = .bool x5_1 ∧ Aside0 (instr_Type.j0 kq a0 a0 x5_1 = some (r1, r2)) ∧ Aside0 (kq ≤ k) ∧ Drawn0 w wc)
  case first =>
    have H := HC2.out
    clear HC2
    by_cases c3 : a0 = 127
    · rw [if_pos c3] at H
      have c3b0 : (a0 == 127) = true := beq_iff_eq.mpr c3
      have c3b1 : (a0 != 127) = false := bne_eq_false_iff_eq.mpr c3
      clear c3
      (first | rw [c3b0] | (simp only [i64_w, i32_w]; rw [c3b0]) | skip)
      have H' := Aside0.mk H
      clear H
      go_wp2
      go_meet
      case rel => exact ⟨_, ((a0 == 127)), (by first | rfl | (simp; done) | (simp [*]; done)), H', ⟨by first | omega | exact Nat.le_refl _⟩, by repeat (first | exact Drawn0.refl _ | apply Drawn0.step)⟩
    · rw [if_neg c3] at H
      have c3b0 : (a0 == 127) = false := beq_eq_false_iff_ne.mpr c3
      have c3b1 : (a0 != 127) = true := bne_iff_ne.mpr c3
      (first | rw [c3b0] | (simp only [i64_w, i32_w]; rw [c3b0]) | skip)
      by_cases c4 : a0 = 126
      · rw [if_pos c4] at H
        have c4b0 : (a0 == 126) = true := beq_iff_eq.mpr c4
        have c4b1 : (a0 != 126) = false := bne_eq_false_iff_eq.mpr c4
        clear c4
        have H' := Aside0.mk H
        clear H
        go_wp2
        go_meet
        case rel => exact ⟨_, ((a0 == 126)), (by first | rfl | (simp; done) | (simp [*]; done)), H', ⟨by first | omega | exact Nat.le_refl _⟩, by repeat (first | exact Drawn0.refl _ | apply Drawn0.step)⟩
      · rw [if_neg c4] at H
        have c4b0 : (a0 == 126) = false := beq_eq_false_iff_ne.mpr c4
        have c4b1 : (a0 != 126) = true := bne_iff_ne.mpr c4
        have H' := Aside0.mk H
        clear H
        go_wp2
        go_meet
        case rel => exact ⟨_, ((a0 == 112)), (by first | rfl | (simp; done) | (simp [*]; done)), H', ⟨by first | omega | exact Nat.le_refl _⟩, by repeat (first | exact Drawn0.refl _ | apply Drawn0.step)⟩
  case rest =>
    clear HC2
    try clear c1
    try clear p2
    try clear c3
    try clear c3b0
    try clear c3b1
    try clear c4
    try clear c4b0
    try clear c4b1
    obtain ⟨kq, x5_1, rfl, HA, HJ1, ⟨mc1, rfl⟩⟩ := hcut
    cases kq with
    | zero => exact absurd HA.out (by simp [instr_Type.j0])
    | succ kj1 =>
      have H := HA.out
      clear HA
      simp only [instr_Type.j0] at H
      by_cases c5 : x5_1 = true
      · subst c5
        have H1 : (some (a0, 0)) = some (r1, r2) := by rw [if_pos rfl] at H; exact H
        clear H
        have H := H1
        clear H1
        simp only [Option.some.injEq, Prod.mk.injEq] at H
        obtain ⟨rfl, rfl⟩ := H
        go_wp2
        go_ret2
        exact ⟨by first | rfl | (simp; done) | (simp [*]; done), by repeat (first | exact Drawn0.refl _ | apply Drawn0.step)⟩
      · replace c5 := Bool.eq_false_iff.mpr c5
        subst c5
        have H1 : (if a0 = 125 then (instr_Type.j1 kj1 a0 (a0 == 125)) else (instr_Type.j1 kj1 a0 (a0 == 124))) = some (r1, r2) := by rw [if_neg (show ¬ (false = true) by decide)] at H; exact H
        clear H
        have H := H1
        clear H1
        have HC6 := Aside0.mk H
        clear H
        go_upto_if 10 with (fail)
        go_cut [10] (fun v10 wc => ∃ (kq : Nat) (x10_5 : Bool), v10 = .bool x10_5 ∧ Aside0 (instr_Type.j1 kq a0 x10_5 = some (r1, r2)) ∧ Aside0 (kq ≤ kj1) ∧ Drawn0 w wc)
        case first =>
          have H := HC6.out
          clear HC6
          by_cases c7 : a0 = 125
          · rw [if_pos c7] at H
            have c7b0 : (a0 == 125) = true := beq_iff_eq.mpr c7
            have c7b1 : (a0 != 125) = false := bne_eq_false_iff_eq.mpr c7
            clear c7
            (first | rw [c7b0] | (simp only [i64_w, i32_w]; rw [c7b0]) | skip)
            have H' := Aside0.mk H
            clear H
            go_wp2
            go_meet
            case rel => exact ⟨_, ((a0 == 125)), (by first | rfl | (simp; done) | (simp [*]; done)), H', ⟨by have := HJ1.out; first | omega | exact Nat.le_refl _⟩, by repeat (first | exact Drawn0.refl _ | apply Drawn0.step)⟩
          · rw [if_neg c7] at H
            have c7b0 : (a0 == 125) = false := beq_eq_false_iff_ne.mpr c7
            have c7b1 : (a0 != 125) = true := bne_iff_ne.mpr c7
            (first | rw [c7b0] | (simp only [i64_w, i32_w]; rw [c7b0]) | skip)
            have H' := Aside0.mk H
            clear H
            go_wp2
            go_meet
            case rel => exact ⟨_, ((a0 == 124)), (by first | rfl | (simp; done) | (simp [*]; done)), H', ⟨by have := HJ1.out; first | omega | exact Nat.le_refl _⟩, by repeat (first | exact Drawn0.refl _ | apply Drawn0.step)⟩
        case rest =>
          clear HC6
          try clear c1
          try clear p2
          try clear c3
          try clear c3b0
          try clear c3b1
          try clear c4
          try clear c4b0
          try clear c4b1
          try clear c5
          try clear c7
          try clear c7b0
          try clear c7b1
          try clear p2
          obtain ⟨kq, x10_5, rfl, HA, HJ5, ⟨mc5, rfl⟩⟩ := hcut
          cases kq with
          | zero => exact absurd HA.out (by simp [instr_Type.j1])
          | succ kj5 =>
            have H := HA.out
            clear HA
            simp only [instr_Type.j1] at H
            by_cases c8 : x10_5 = true
            · subst c8
              have H1 : (some (0, 3)) = some (r1, r2) := by rw [if_pos rfl] at H; exact H
              clear H
              have H := H1
              clear H1
              simp only [Option.some.injEq, Prod.mk.injEq] at H
              obtain ⟨rfl, rfl⟩ := H
              go_wp2
              go_ret2
              exact ⟨by first | rfl | (simp; done) | (simp [*]; done), by repeat (first | exact Drawn0.refl _ | apply Drawn0.step)⟩
            · replace c8 := Bool.eq_false_iff.mpr c8
              subst c8
              have H1 : (if a0 = 123 then (some (0, 4)) else (some (0, 2))) = some (r1, r2) := by rw [if_neg (show ¬ (false = true) by decide)] at H; exact H
              clear H
              have H := H1
              clear H1
              by_cases c9 : a0 = 123
              · rw [if_pos c9] at H
                have c9b0 : (a0 == 123) = true := beq_iff_eq.mpr c9
                have c9b1 : (a0 != 123) = false := bne_eq_false_iff_eq.mpr c9
                clear c9
                simp only [Option.some.injEq, Prod.mk.injEq] at H
                obtain ⟨rfl, rfl⟩ := H
                go_wp2
                go_ret2
                exact ⟨by first | rfl | (simp; done) | (simp [*]; done), by repeat (first | exact Drawn0.refl _ | apply Drawn0.step)⟩
              · rw [if_neg c9] at H
                have c9b0 : (a0 == 123) = false := beq_eq_false_iff_ne.mpr c9
                have c9b1 : (a0 != 123) = true := bne_iff_ne.mpr c9
                simp only [Option.some.injEq, Prod.mk.injEq] at H
                obtain ⟨rfl, rfl⟩ := H
                go_wp2
                go_ret2
                exact ⟨by first | rfl | (simp; done) | (simp [*]; done), by repeat (first | exact Drawn0.refl _ | apply Drawn0.step)⟩
def scarfref05_Type.j0 : Nat → Int → Bool → Option (Int × Int)
  | 0, _, _ => none
  | k + 1, x0, x13 => if x13 = true then (some (0, 3)) else (if x0 = 123 then (some (0, 4)) else (some (0, 2)))
def scarfref05_Type.f (k : Nat) (a0 : Int) : Option (Int × Int) := (scarfref05_one.f k a0 (([127, 126, 112] : List Int))).bind fun t150 => (if t150 = true then (some (a0, 0)) else (if a0 = 125 then (scarfref05_Type.j0 k a0 true) else (scarfref05_Type.j0 k a0 (a0 == 124))))
theorem scarfref05_Type.mono_l : ∀ k, (∀ y0 y1, LeO (scarfref05_Type.j0 k y0 y1) (scarfref05_Type.j0 (k + 1) y0 y1))
  | 0 => fun _ _ r h => by simp [scarfref05_Type.j0] at h
  | k + 1 => by
    have ih0 := scarfref05_Type.mono_l k
    · intro y0 y1
      unfold scarfref05_Type.j0
      repeat' first
      | (with_reducible exact ih0 _ _)
      | (with_reducible exact scarfref05_one.mono _ _ _)
      | (with_reducible exact LeO.refl _)
      | (with_reducible exact LeO.none _)
      | (with_reducible refine LeO.ite ?_ ?_)
      | (with_reducible refine LeO.bind ?_ (fun _ => ?_))
      | exact ih0 _ _
      | exact scarfref05_one.mono _ _ _
      | exact LeO.none _
      | refine LeO.ite ?_ ?_
      | refine LeO.bind ?_ (fun _ => ?_)
theorem scarfref05_Type.mono : ∀ a0 k, LeO (scarfref05_Type.f k a0) (scarfref05_Type.f (k + 1) a0) := by
  intro a0 k
  have ih0 := scarfref05_Type.mono_l k
  unfold scarfref05_Type.f
  repeat' first
      | (with_reducible exact ih0 _ _)
      | (with_reducible exact scarfref05_one.mono _ _ _)
      | (with_reducible exact LeO.refl _)
      | (with_reducible exact LeO.none _)
      | (with_reducible refine LeO.ite ?_ ?_)
      | (with_reducible refine LeO.bind ?_ (fun _ => ?_))
      | exact ih0 _ _
      | exact scarfref05_one.mono _ _ _
      | exact LeO.none _
      | refine LeO.ite ?_ ?_
      | refine LeO.bind ?_ (fun _ => ?_)
set_option maxHeartbeats 8000000 in
set_option maxRecDepth 100000 in
theorem scarfref05_Type.calls (k : Nat) (a0 : Int) (r1 : Int) (r2 : Int) (w : World) (h : scarfref05_Type.f k a0 = some (r1, r2)) :
    Calls Try.prog 13 #[.int .i64 a0] w fun e w' => e = .returned (.tuple #[.int .i64 r1, .int .i64 r2]) ∧ Below w.heap.size w w' := by
  have HB := Aside0.mk (Below.refl w.heap.size w)
  have H : ((scarfref05_one.f k a0 (([127, 126, 112] : List Int))).bind fun t150 => (if t150 = true then (some (a0, 0)) else (if a0 = 125 then (scarfref05_Type.j0 k a0 true) else (scarfref05_Type.j0 k a0 (a0 == 124))))) = some (r1, r2) := h
  clear h
  obtain ⟨y147, hy147⟩ : ∃ y_ : List Int, y_ = (([127, 126, 112] : List Int)) := ⟨_, rfl⟩
  replace H : ((scarfref05_one.f k a0 y147).bind fun t150 => (if t150 = true then (some (a0, 0)) else (if a0 = 125 then (scarfref05_Type.j0 k a0 true) else (scarfref05_Type.j0 k a0 (a0 == 124))))) = some (r1, r2) := by first | (rw [hy147]; with_reducible exact H) | (have H2_ := (Option.bind_some _ _).symm.trans H; rw [hy147]; with_reducible exact H2_) | (have H2_ := (Option.bind_some _ _).symm.trans H; with_reducible exact H2_) | with_reducible exact H | (rw [hy147]; exact H) | exact H
  have Ny147 := Aside0.mk hy147
  clear hy147
  replace H := Option.bind_eq_some_iff.mp H
  obtain ⟨t150, A20, H⟩ := H
  replace H : (if t150 = true then (some (a0, 0)) else (if a0 = 125 then (scarfref05_Type.j0 k a0 true) else (scarfref05_Type.j0 k a0 (a0 == 124)))) = some (r1, r2) := H
  have A2 := Aside0.mk A20
  clear A20
  by_cases c3 : t150 = true
  · subst c3
    have H1 : (some (a0, 0)) = some (r1, r2) := by rw [if_pos rfl] at H; exact H
    clear H
    have H := H1
    clear H1
    simp only [Option.some.injEq, Prod.mk.injEq] at H
    obtain ⟨rfl, rfl⟩ := H
    go_enter Try.func13, Try.ntmps13
    go_wp2_with (first | ((with_reducible refine gate_dst (N := 5) rfl ?_); refine Kd.R_lit (Kd.int .i64) _ 3 ?hg (N := 5) ?hd (xs := ([127, 126, 112] : List Int)) (inner := [.int .i64 127, .int .i64 126, .int .i64 112]) (ok := fun _ => True) (okp := fun _ => True) ?hr ?hp (fun _ hk => hk) trivial (Below.refl _ _) (Nat.le_refl _) (by simp) ?_; (case hd => rfl); (case hg => rfl); (case hr => first | (go_simp; done) | (go_simp; rfl)); (case hp => exact (Reps.one (show Kd.M (Kd.int .i64) _ _ _ 127 [.int .i64 127] from rfl) (Reps.one (show Kd.M (Kd.int .i64) _ _ _ 126 [.int .i64 126] from rfl) (Reps.one (show Kd.M (Kd.int .i64) _ _ _ 112 [.int .i64 112] from rfl) (Reps.none _ _))))); intro v148 w4 ho5 hb hg_ hnew_; clear hg_ hnew_; (first | rw [← Ny147.out] at ho5 | (simp only [Int.reduceToNat] at ho5; rw [← Ny147.out] at ho5)); have n0_ := Aside0.mk (Kd.R_lower ho5 (below_size (by repeat (first | (with_reducible first | exact HB.out | apply below_alloc | apply pw_below_drewN | apply below_drew1) | exact HB.out)))); have n1_ := Aside0.mk (below_step (by repeat (first | (with_reducible first | exact HB.out | apply below_alloc | apply pw_below_drewN | apply below_drew1) | exact HB.out)) hb); clear HB; have HO149 := n0_; have HB := n1_; clear n0_ n1_; clear hb ho5; obtain ⟨Ao6, co6, eo6⟩ := Kd.R_slice HO149.out; subst eo6) | ((with_reducible refine gate_callee (f := 27) rfl ?_); refine goesL_ (some 6) rfl rfl Try.func27 (by kernel_rfl) rfl #[.int .i64 a0, .slice Ao6 y147.length co6] rfl (by (try simp only [List.map_toArray, List.map_cons, List.map_nil]); first | done | rfl | (simp only [List.length_drop, List.length_take]; rfl)) ?_; (with_reducible refine (scarfref05_one.calls k a0 _ _ y147 true _ ?side1 ?side2 A2.out).mono ?_); (case side1 => repeat (first | exact (Kd.R_reads' HO149.out).2.2 | (with_reducible refine Kd.C_alloc ?_ _) | (with_reducible refine Kd.C_drewN ?_ _) | (with_reducible refine Kd.C_drew ?_))); (case side2 => exact (Kd.R_reads' HO149.out).2.1); rintro e w' ⟨rfl, ⟨nd, rfl⟩⟩; refine ⟨_, rfl, ?_⟩))
    go_ret2
    exact ⟨by first | rfl | (simp [errW_none, errW_some] <;> rfl) | (simp [*, errW_none, errW_some] <;> rfl), by repeat (first | (with_reducible first | exact HB.out | apply below_alloc | apply pw_below_drewN | apply below_drew1) | exact HB.out)⟩
  · replace c3 := Bool.eq_false_iff.mpr c3
    subst c3
    have H1 : (if a0 = 125 then (scarfref05_Type.j0 k a0 true) else (scarfref05_Type.j0 k a0 (a0 == 124))) = some (r1, r2) := by rw [if_neg (show ¬ (false = true) by decide)] at H; exact H
    clear H
    have H := H1
    clear H1
    have HC7 := Aside0.mk H
    clear H
    go_enter Try.func13, Try.ntmps13
    go_upto_region 3 with (first | ((with_reducible refine gate_dst (N := 5) rfl ?_); refine Kd.R_lit (Kd.int .i64) _ 3 ?hg (N := 5) ?hd (xs := ([127, 126, 112] : List Int)) (inner := [.int .i64 127, .int .i64 126, .int .i64 112]) (ok := fun _ => True) (okp := fun _ => True) ?hr ?hp (fun _ hk => hk) trivial (Below.refl _ _) (Nat.le_refl _) (by simp) ?_; (case hd => rfl); (case hg => rfl); (case hr => first | (go_simp; done) | (go_simp; rfl)); (case hp => exact (Reps.one (show Kd.M (Kd.int .i64) _ _ _ 127 [.int .i64 127] from rfl) (Reps.one (show Kd.M (Kd.int .i64) _ _ _ 126 [.int .i64 126] from rfl) (Reps.one (show Kd.M (Kd.int .i64) _ _ _ 112 [.int .i64 112] from rfl) (Reps.none _ _))))); intro v148 w8 ho9 hb hg_ hnew_; clear hg_ hnew_; (first | rw [← Ny147.out] at ho9 | (simp only [Int.reduceToNat] at ho9; rw [← Ny147.out] at ho9)); have n0_ := Aside0.mk (Kd.R_lower ho9 (below_size (by repeat (first | (with_reducible first | exact HB.out | apply below_alloc | apply pw_below_drewN | apply below_drew1) | exact HB.out)))); have n1_ := Aside0.mk (below_step (by repeat (first | (with_reducible first | exact HB.out | apply below_alloc | apply pw_below_drewN | apply below_drew1) | exact HB.out)) hb); clear HB; have HO149 := n0_; have HB := n1_; clear n0_ n1_; clear hb ho9; obtain ⟨Ao10, co10, eo10⟩ := Kd.R_slice HO149.out; subst eo10) | ((with_reducible refine gate_callee (f := 27) rfl ?_); refine goesL_ (some 6) rfl rfl Try.func27 (by kernel_rfl) rfl #[.int .i64 a0, .slice Ao10 y147.length co10] rfl (by (try simp only [List.map_toArray, List.map_cons, List.map_nil]); first | done | rfl | (simp only [List.length_drop, List.length_take]; rfl)) ?_; (with_reducible refine (scarfref05_one.calls k a0 _ _ y147 false _ ?side1 ?side2 A2.out).mono ?_); (case side1 => repeat (first | exact (Kd.R_reads' HO149.out).2.2 | (with_reducible refine Kd.C_alloc ?_ _) | (with_reducible refine Kd.C_drewN ?_ _) | (with_reducible refine Kd.C_drew ?_))); (case side2 => exact (Kd.R_reads' HO149.out).2.1); rintro e w' ⟨rfl, ⟨nd, rfl⟩⟩; refine ⟨_, rfl, ?_⟩))
    (try simp only [Act.put, List.setIfInBounds_toArray, List.set_cons_zero, List.set_cons_succ])
    go_cut [13] (fun v13 wc => ∃ (kq : Nat) (x13_6 : Bool), v13 = .bool x13_6 ∧ Aside0 (scarfref05_Type.j0 kq a0 x13_6 = some (r1, r2)) ∧ Aside0 (kq ≤ k) ∧ Aside0 (Below w.heap.size w wc))
    case first =>
      have H := HC7.out
      clear HC7
      by_cases c11 : a0 = 125
      · rw [if_pos c11] at H
        have c11b0 : (a0 == 125) = true := beq_iff_eq.mpr c11
        have c11b1 : (a0 != 125) = false := bne_eq_false_iff_eq.mpr c11
        clear c11
        (first | rw [c11b0] | (simp only [i64_w, i32_w]; rw [c11b0]) | skip)
        have H' := Aside0.mk H
        clear H
        go_wp2
        go_meet
        case rel => exact ⟨_, (true), (by first | rfl | (simp; done) | (simp [*]; done)), H', ⟨by first | omega | exact Nat.le_refl _⟩, ⟨by repeat (first | (with_reducible first | exact HB.out | apply below_alloc | apply pw_below_drewN | apply below_drew1) | exact HB.out)⟩⟩
      · rw [if_neg c11] at H
        have c11b0 : (a0 == 125) = false := beq_eq_false_iff_ne.mpr c11
        have c11b1 : (a0 != 125) = true := bne_iff_ne.mpr c11
        (first | rw [c11b0] | (simp only [i64_w, i32_w]; rw [c11b0]) | skip)
        have H' := Aside0.mk H
        clear H
        go_wp2
        go_meet
        case rel => exact ⟨_, ((a0 == 124)), (by first | rfl | (simp; done) | (simp [*]; done)), H', ⟨by first | omega | exact Nat.le_refl _⟩, ⟨by repeat (first | (with_reducible first | exact HB.out | apply below_alloc | apply pw_below_drewN | apply below_drew1) | exact HB.out)⟩⟩
    case rest =>
      clear HC7
      try clear c1
      try clear c2
      try clear p2
      try clear c3
      try clear c11
      try clear c11b0
      try clear c11b1
      obtain ⟨kq, x13_6, rfl, HA, HJ6, HB⟩ := hcut
      cases kq with
      | zero => exact absurd HA.out (by simp [scarfref05_Type.j0])
      | succ kj6 =>
        have H := HA.out
        clear HA
        simp only [scarfref05_Type.j0] at H
        by_cases c12 : x13_6 = true
        · subst c12
          have H1 : (some (0, 3)) = some (r1, r2) := by rw [if_pos rfl] at H; exact H
          clear H
          have H := H1
          clear H1
          simp only [Option.some.injEq, Prod.mk.injEq] at H
          obtain ⟨rfl, rfl⟩ := H
          go_wp2
          go_ret2
          exact ⟨by first | rfl | (simp [errW_none, errW_some] <;> rfl) | (simp [*, errW_none, errW_some] <;> rfl), by repeat (first | (with_reducible first | exact HB.out | apply below_alloc | apply pw_below_drewN | apply below_drew1) | exact HB.out)⟩
        · replace c12 := Bool.eq_false_iff.mpr c12
          subst c12
          have H1 : (if a0 = 123 then (some (0, 4)) else (some (0, 2))) = some (r1, r2) := by rw [if_neg (show ¬ (false = true) by decide)] at H; exact H
          clear H
          have H := H1
          clear H1
          by_cases c13 : a0 = 123
          · rw [if_pos c13] at H
            have c13b0 : (a0 == 123) = true := beq_iff_eq.mpr c13
            have c13b1 : (a0 != 123) = false := bne_eq_false_iff_eq.mpr c13
            clear c13
            simp only [Option.some.injEq, Prod.mk.injEq] at H
            obtain ⟨rfl, rfl⟩ := H
            go_wp2
            go_ret2
            exact ⟨by first | rfl | (simp [errW_none, errW_some] <;> rfl) | (simp [*, errW_none, errW_some] <;> rfl), by repeat (first | (with_reducible first | exact HB.out | apply below_alloc | apply pw_below_drewN | apply below_drew1) | exact HB.out)⟩
          · rw [if_neg c13] at H
            have c13b0 : (a0 == 123) = false := beq_eq_false_iff_ne.mpr c13
            have c13b1 : (a0 != 123) = true := bne_iff_ne.mpr c13
            simp only [Option.some.injEq, Prod.mk.injEq] at H
            obtain ⟨rfl, rfl⟩ := H
            go_wp2
            go_ret2
            exact ⟨by first | rfl | (simp [errW_none, errW_some] <;> rfl) | (simp [*, errW_none, errW_some] <;> rfl), by repeat (first | (with_reducible first | exact HB.out | apply below_alloc | apply pw_below_drewN | apply below_drew1) | exact HB.out)⟩
def instr_index.f (a0 : Int) : Option (Bool) := if a0 ≥ 0 then (some (decide (a0 < 4294967296))) else (some false)
set_option maxHeartbeats 8000000 in
set_option maxRecDepth 100000 in
theorem instr_index.calls (a0 : Int) (r : Bool) (w : World) (h : instr_index.f a0 = some r) :
    Calls Try.prog 56 #[.int .i64 a0] w fun e w' => e = .returned (.bool r) ∧ Drawn0 w w' := by
  have H : (if a0 ≥ 0 then (some (decide (a0 < 4294967296))) else (some false)) = some r := h
  clear h
  by_cases c2 : a0 ≥ 0
  · rw [if_pos c2] at H
    have c2b0 : decide (0 ≤ a0) = true := decide_eq_true c2
    clear c2
    obtain rfl := Option.some.inj H
    go_enter Try.func56, Try.ntmps56
    go_wp2
    go_ret
    exact ⟨by first | rfl | (simp; done) | (simp [*]; done), by repeat (first | exact Drawn0.refl _ | apply Drawn0.step)⟩
  · rw [if_neg c2] at H
    have c2b0 : decide (0 ≤ a0) = false := decide_eq_false c2
    clear c2
    obtain rfl := Option.some.inj H
    go_enter Try.func56, Try.ntmps56
    go_wp2
    go_ret
    exact ⟨by first | rfl | (simp; done) | (simp [*]; done), by repeat (first | exact Drawn0.refl _ | apply Drawn0.step)⟩
def instr_blockType.f (a0 : Int) : Option (Bool) := (instr_index.f a0).bind fun t151 => (if t151 = true then (some true) else (if a0 = (-64) then (some true) else (if a0 = (-1) then (some true) else (if a0 = (-2) then (some true) else (some (a0 == (-16)))))))
set_option maxHeartbeats 8000000 in
set_option maxRecDepth 100000 in
theorem instr_blockType.calls (a0 : Int) (r : Bool) (w : World) (h : instr_blockType.f a0 = some r) :
    Calls Try.prog 55 #[.int .i64 a0] w fun e w' => e = .returned (.bool r) ∧ Drawn0 w w' := by
  have H : ((instr_index.f a0).bind fun t151 => (if t151 = true then (some true) else (if a0 = (-64) then (some true) else (if a0 = (-1) then (some true) else (if a0 = (-2) then (some true) else (some (a0 == (-16)))))))) = some r := h
  clear h
  replace H := Option.bind_eq_some_iff.mp H
  obtain ⟨t151, A20, H⟩ := H
  replace H : (if t151 = true then (some true) else (if a0 = (-64) then (some true) else (if a0 = (-1) then (some true) else (if a0 = (-2) then (some true) else (some (a0 == (-16))))))) = some r := H
  have A2 := Aside0.mk A20
  clear A20
  by_cases c3 : t151 = true
  · subst c3
    have H1 : (some true) = some r := by rw [if_pos rfl] at H; exact H
    clear H
    have H := H1
    clear H1
    obtain rfl := Option.some.inj H
    go_enter Try.func55, Try.ntmps55
    go_wp2_with (first | ((with_reducible refine gate_callee (f := 56) rfl ?_); refine goesL_ (some 4) rfl rfl Try.func56 (by kernel_rfl) rfl #[.int .i64 a0] rfl (by (try simp only [List.map_toArray, List.map_cons, List.map_nil]); first | done | rfl | (simp only [List.length_drop, List.length_take]; rfl)) ?_; (with_reducible refine (instr_index.calls a0 true _ A2.out).mono ?_); rintro e w' ⟨rfl, ⟨nd, rfl⟩⟩; refine ⟨_, rfl, ?_⟩))
    go_ret
    exact ⟨by first | rfl | (simp; done) | (simp [*]; done), by repeat (first | exact Drawn0.refl _ | apply Drawn0.step)⟩
  · replace c3 := Bool.eq_false_iff.mpr c3
    subst c3
    have H1 : (if a0 = (-64) then (some true) else (if a0 = (-1) then (some true) else (if a0 = (-2) then (some true) else (some (a0 == (-16)))))) = some r := by rw [if_neg (show ¬ (false = true) by decide)] at H; exact H
    clear H
    have H := H1
    clear H1
    by_cases c4 : a0 = (-64)
    · rw [if_pos c4] at H
      have c4b0 : (a0 == (-64)) = true := beq_iff_eq.mpr c4
      have c4b1 : (a0 != (-64)) = false := bne_eq_false_iff_eq.mpr c4
      clear c4
      obtain rfl := Option.some.inj H
      go_enter Try.func55, Try.ntmps55
      go_wp2_with (first | ((with_reducible refine gate_callee (f := 56) rfl ?_); refine goesL_ (some 4) rfl rfl Try.func56 (by kernel_rfl) rfl #[.int .i64 a0] rfl (by (try simp only [List.map_toArray, List.map_cons, List.map_nil]); first | done | rfl | (simp only [List.length_drop, List.length_take]; rfl)) ?_; (with_reducible refine (instr_index.calls a0 false _ A2.out).mono ?_); rintro e w' ⟨rfl, ⟨nd, rfl⟩⟩; refine ⟨_, rfl, ?_⟩))
      go_ret
      exact ⟨by first | rfl | (simp; done) | (simp [*]; done), by repeat (first | exact Drawn0.refl _ | apply Drawn0.step)⟩
    · rw [if_neg c4] at H
      have c4b0 : (a0 == (-64)) = false := beq_eq_false_iff_ne.mpr c4
      have c4b1 : (a0 != (-64)) = true := bne_iff_ne.mpr c4
      by_cases c5 : a0 = (-1)
      · rw [if_pos c5] at H
        have c5b0 : (a0 == (-1)) = true := beq_iff_eq.mpr c5
        have c5b1 : (a0 != (-1)) = false := bne_eq_false_iff_eq.mpr c5
        clear c5
        obtain rfl := Option.some.inj H
        go_enter Try.func55, Try.ntmps55
        go_wp2_with (first | ((with_reducible refine gate_callee (f := 56) rfl ?_); refine goesL_ (some 4) rfl rfl Try.func56 (by kernel_rfl) rfl #[.int .i64 a0] rfl (by (try simp only [List.map_toArray, List.map_cons, List.map_nil]); first | done | rfl | (simp only [List.length_drop, List.length_take]; rfl)) ?_; (with_reducible refine (instr_index.calls a0 false _ A2.out).mono ?_); rintro e w' ⟨rfl, ⟨nd, rfl⟩⟩; refine ⟨_, rfl, ?_⟩))
        go_ret
        exact ⟨by first | rfl | (simp; done) | (simp [*]; done), by repeat (first | exact Drawn0.refl _ | apply Drawn0.step)⟩
      · rw [if_neg c5] at H
        have c5b0 : (a0 == (-1)) = false := beq_eq_false_iff_ne.mpr c5
        have c5b1 : (a0 != (-1)) = true := bne_iff_ne.mpr c5
        by_cases c6 : a0 = (-2)
        · rw [if_pos c6] at H
          have c6b0 : (a0 == (-2)) = true := beq_iff_eq.mpr c6
          have c6b1 : (a0 != (-2)) = false := bne_eq_false_iff_eq.mpr c6
          clear c6
          obtain rfl := Option.some.inj H
          go_enter Try.func55, Try.ntmps55
          go_wp2_with (first | ((with_reducible refine gate_callee (f := 56) rfl ?_); refine goesL_ (some 4) rfl rfl Try.func56 (by kernel_rfl) rfl #[.int .i64 a0] rfl (by (try simp only [List.map_toArray, List.map_cons, List.map_nil]); first | done | rfl | (simp only [List.length_drop, List.length_take]; rfl)) ?_; (with_reducible refine (instr_index.calls a0 false _ A2.out).mono ?_); rintro e w' ⟨rfl, ⟨nd, rfl⟩⟩; refine ⟨_, rfl, ?_⟩))
          go_ret
          exact ⟨by first | rfl | (simp; done) | (simp [*]; done), by repeat (first | exact Drawn0.refl _ | apply Drawn0.step)⟩
        · rw [if_neg c6] at H
          have c6b0 : (a0 == (-2)) = false := beq_eq_false_iff_ne.mpr c6
          have c6b1 : (a0 != (-2)) = true := bne_iff_ne.mpr c6
          obtain rfl := Option.some.inj H
          go_enter Try.func55, Try.ntmps55
          go_wp2_with (first | ((with_reducible refine gate_callee (f := 56) rfl ?_); refine goesL_ (some 4) rfl rfl Try.func56 (by kernel_rfl) rfl #[.int .i64 a0] rfl (by (try simp only [List.map_toArray, List.map_cons, List.map_nil]); first | done | rfl | (simp only [List.length_drop, List.length_take]; rfl)) ?_; (with_reducible refine (instr_index.calls a0 false _ A2.out).mono ?_); rintro e w' ⟨rfl, ⟨nd, rfl⟩⟩; refine ⟨_, rfl, ?_⟩))
          go_ret
          exact ⟨by first | rfl | (simp; done) | (simp [*]; done), by repeat (first | exact Drawn0.refl _ | apply Drawn0.step)⟩
def inx (n : Int) : Bool := decide (0 ≤ n) && decide (n < 4294967296)
theorem inx_at (n : Int) : instr_index.f n = some (inx n) := by
  unfold instr_index.f inx
  by_cases h : 0 ≤ n <;> simp [h]
def bty (n : Int) : Bool := inx n || n == -64 || n == -1 || n == -2 || n == -16
theorem bty_at (n : Int) : instr_blockType.f n = some (bty n) := by
  unfold instr_blockType.f bty
  rw [inx_at, Option.bind_some]
  cases inx n
  · rw [if_neg (by decide)]
    by_cases h1 : n = -64
    · simp [h1]
    by_cases h2 : n = -1
    · simp [h2]
    by_cases h3 : n = -2
    · simp [h3]
    simp [h1, h2, h3]
  · simp
theorem inx_calls (a : Int) (w : World) : Calls Try.prog 56 #[.int .i64 a] w fun e w' => e = .returned (.bool (inx a)) ∧ Drawn0 w w' := instr_index.calls a _ w (inx_at a)
theorem bty_calls (a : Int) (w : World) : Calls Try.prog 55 #[.int .i64 a] w fun e w' => e = .returned (.bool (bty a)) ∧ Drawn0 w w' := instr_blockType.calls a _ w (bty_at a)
/-- What is asked of an instruction's own numbers, by its shape: whether they may be, and what is left of them. -/
def mayS (s op a b m : Int) (N : List Int) (L E : List S54) (t : Int × Int) : Bool :=
  if s = 1 ∨ s = 11 then a == 0 && (b == 0 && (m == 0 && (N.length == 0 && (L.length == 0 && E.length == 0))))
  else if s = 2 then (bty a && (op == 4 || E.length == 0)) && (b == 0 && (m == 0 && N.length == 0))
  else if s = 3 then inx a && (b == 0 && (m == 0 && (N.length == 0 && (L.length == 0 && E.length == 0))))
  else if s = 4 then (inx a && decide (N.length ≤ 1000) && N.all inx) && (b == 0 && (m == 0 && (L.length == 0 && E.length == 0)))
  else if s = 5 ∨ s = 9 then (inx a && inx m) && (b == 0 && (N.length == 0 && (L.length == 0 && E.length == 0)))
  else if s = 6 then t.2 == 0 && (b == 0 && (m == 0 && (N.length == 0 && (L.length == 0 && E.length == 0))))
  else if s = 7 then (((inx a && inx m) && decide (0 ≤ b)) && decide (b < 64)) && (N.length == 0 && (L.length == 0 && E.length == 0))
  else if s = 8 then inx m && (a == 0 && (b == 0 && (N.length == 0 && (L.length == 0 && E.length == 0))))
  else if s = 10 then (op == 66 || (decide (-2147483648 ≤ a) && decide (a < 2147483648))) && (b == 0 && (m == 0 && (N.length == 0 && (L.length == 0 && E.length == 0))))
  else false
def instr_may.f (op a b m : Int) (N : List Int) (L E : List S54) : Option Bool :=
  if N.length < 9223372036854775807 then (instr_Shape.f 40 op).bind fun s => (instr_Type.f 5 a).bind fun t => some (s.2 == 0 && mayS s.1 op a b m N L E t) else none
theorem nat0 (n : Nat) : ((n : Int) == 0) = (n == 0) := by rw [Bool.eq_iff_iff]; simp
theorem nat1 (n : Nat) : ((n : Int) ≤ 1000) = (n ≤ 1000) := propext (by omega)
theorem set7_1 {W : World} {g : Nat} {x0 x1 x2 x3 x4 x5 x6 : Value} (h : W.heap[g]? = some (.cells #[x0, x1, x2, x3, x4, x5, x6] 54 (0, 0))) (v : Value) : (W.setCell ⟨g, 1, none⟩ v).heap[g]? = some (.cells #[x0, v, x2, x3, x4, x5, x6] 54 (0, 0)) := by simpa using blk_set h 1 v
theorem set7_2 {W : World} {g : Nat} {x0 x1 x2 x3 x4 x5 x6 : Value} (h : W.heap[g]? = some (.cells #[x0, x1, x2, x3, x4, x5, x6] 54 (0, 0))) (v : Value) : (W.setCell ⟨g, 2, none⟩ v).heap[g]? = some (.cells #[x0, x1, v, x3, x4, x5, x6] 54 (0, 0)) := by simpa using blk_set h 2 v
theorem set7_3 {W : World} {g : Nat} {x0 x1 x2 x3 x4 x5 x6 : Value} (h : W.heap[g]? = some (.cells #[x0, x1, x2, x3, x4, x5, x6] 54 (0, 0))) (v : Value) : (W.setCell ⟨g, 3, none⟩ v).heap[g]? = some (.cells #[x0, x1, x2, v, x4, x5, x6] 54 (0, 0)) := by simpa using blk_set h 3 v
theorem set7_4 {W : World} {g : Nat} {x0 x1 x2 x3 x4 x5 x6 : Value} (h : W.heap[g]? = some (.cells #[x0, x1, x2, x3, x4, x5, x6] 54 (0, 0))) (v : Value) : (W.setCell ⟨g, 4, none⟩ v).heap[g]? = some (.cells #[x0, x1, x2, x3, v, x5, x6] 54 (0, 0)) := by simpa using blk_set h 4 v
theorem set7_5 {W : World} {g : Nat} {x0 x1 x2 x3 x4 x5 x6 : Value} (h : W.heap[g]? = some (.cells #[x0, x1, x2, x3, x4, x5, x6] 54 (0, 0))) (v : Value) : (W.setCell ⟨g, 5, none⟩ v).heap[g]? = some (.cells #[x0, x1, x2, x3, x4, v, x6] 54 (0, 0)) := by simpa using blk_set h 5 v
theorem set7_6 {W : World} {g : Nat} {x0 x1 x2 x3 x4 x5 x6 : Value} (h : W.heap[g]? = some (.cells #[x0, x1, x2, x3, x4, x5, x6] 54 (0, 0))) (v : Value) : (W.setCell ⟨g, 6, none⟩ v).heap[g]? = some (.cells #[x0, x1, x2, x3, x4, x5, v] 54 (0, 0)) := by simpa using blk_set h 6 v
set_option maxHeartbeats 8000000 in
set_option maxRecDepth 100000 in
theorem instr_may.calls (a0_0 : Int) (a0_1 : Int) (a0_2 : Int) (a0_3 : Int) (A0_4 : Option Addr) (c0_4 : Nat) (l0_4 : List Int) (A0_5 : Option Addr) (c0_5 : Nat) (l0_5 : List (S54)) (A0_6 : Option Addr) (c0_6 : Nat) (l0_6 : List (S54)) (r : Bool) (w : World) (hr0_4 : Kd.C (Kd.int .i64) w A0_4 l0_4.length l0_4) (hc0_4 : l0_4.length ≤ c0_4) (hr0_5 : Kd.C k54 w A0_5 l0_5.length l0_5) (hc0_5 : l0_5.length ≤ c0_5) (hr0_6 : Kd.C k54 w A0_6 l0_6.length l0_6) (hc0_6 : l0_6.length ≤ c0_6) (h : instr_may.f a0_0 a0_1 a0_2 a0_3 l0_4 l0_5 l0_6 = some r) :
    Calls Try.prog 45 #[.agg #[.int .i64 a0_0, .int .i64 a0_1, .int .i64 a0_2, .int .i64 a0_3, .slice A0_4 l0_4.length c0_4, .slice A0_5 l0_5.length c0_5, .slice A0_6 l0_6.length c0_6]] w fun e w' => e = .returned (.bool r) ∧ Below w.heap.size w w' := by
  have hN : l0_4.length < 9223372036854775807 := by
    unfold instr_may.f at h
    split at h
    · assumption
    · cases h
  rw [instr_may.f, if_pos hN] at h
  obtain ⟨⟨s1, s2⟩, hs, hz1⟩ := Option.bind_eq_some_iff.mp h
  obtain ⟨⟨t1, t2⟩, ht, hz2⟩ := Option.bind_eq_some_iff.mp hz1
  obtain rfl := Option.some.inj hz2
  clear hz1 hz2 h
  go_enter Try.func45, Try.ntmps45
  go_upto_block 0 with (first | (go_at_call 10; (with_reducible refine (instr_Shape.calls 40 a0_0 s1 s2 _ hs).mono ?_); rintro e w' ⟨rfl, ⟨nd, rfl⟩⟩))
  have hb0 : (((w.alloc (Obj.cells #[.int .i64 a0_0, .int .i64 a0_1, .int .i64 a0_2, .int .i64 a0_3, .slice A0_4 l0_4.length c0_4, .slice A0_5 l0_5.length c0_5, .slice A0_6 l0_6.length c0_6] 54)).drewN nd).alloc (Obj.cells #[.int .i64 a0_0, .int .i64 a0_1, .int .i64 a0_2, .int .i64 a0_3, .slice A0_4 l0_4.length c0_4, .slice A0_5 l0_5.length c0_5, .slice A0_6 l0_6.length c0_6] 54)).heap[w.heap.size + 1]? = some (.cells #[.int .i64 a0_0, .int .i64 a0_1, .int .i64 a0_2, .int .i64 a0_3, .slice A0_4 l0_4.length c0_4, .slice A0_5 l0_5.length c0_5, .slice A0_6 l0_6.length c0_6] 54 (0, 0)) := by
    have := heap_alloc_new ((w.alloc (Obj.cells #[.int .i64 a0_0, .int .i64 a0_1, .int .i64 a0_2, .int .i64 a0_3, .slice A0_4 l0_4.length c0_4, .slice A0_5 l0_5.length c0_5, .slice A0_6 l0_6.length c0_6] 54)).drewN nd) (Obj.cells #[.int .i64 a0_0, .int .i64 a0_1, .int .i64 a0_2, .int .i64 a0_3, .slice A0_4 l0_4.length c0_4, .slice A0_5 l0_5.length c0_5, .slice A0_6 l0_6.length c0_6] 54)
    simpa using this
  have hi0 : (((w.alloc (Obj.cells #[.int .i64 a0_0, .int .i64 a0_1, .int .i64 a0_2, .int .i64 a0_3, .slice A0_4 l0_4.length c0_4, .slice A0_5 l0_5.length c0_5, .slice A0_6 l0_6.length c0_6] 54)).drewN nd).alloc (Obj.cells #[.int .i64 a0_0, .int .i64 a0_1, .int .i64 a0_2, .int .i64 a0_3, .slice A0_4 l0_4.length c0_4, .slice A0_5 l0_5.length c0_5, .slice A0_6 l0_6.length c0_6] 54)).heap[w.heap.size]? = some (.cells #[.int .i64 a0_0, .int .i64 a0_1, .int .i64 a0_2, .int .i64 a0_3, .slice A0_4 l0_4.length c0_4, .slice A0_5 l0_5.length c0_5, .slice A0_6 l0_6.length c0_6] 54 (0, 0)) := by
    rw [Lib.alloc_old _ _ _ (by simp)]
    exact heap_alloc_new w _
  have hB0 : Below w.heap.size w (((w.alloc (Obj.cells #[.int .i64 a0_0, .int .i64 a0_1, .int .i64 a0_2, .int .i64 a0_3, .slice A0_4 l0_4.length c0_4, .slice A0_5 l0_5.length c0_5, .slice A0_6 l0_6.length c0_6] 54)).drewN nd).alloc (Obj.cells #[.int .i64 a0_0, .int .i64 a0_1, .int .i64 a0_2, .int .i64 a0_3, .slice A0_4 l0_4.length c0_4, .slice A0_5 l0_5.length c0_5, .slice A0_6 l0_6.length c0_6] 54)) := below_alloc (pw_below_drewN (below_alloc (Below.refl _ _) _) nd) _
  generalize (((w.alloc (Obj.cells #[.int .i64 a0_0, .int .i64 a0_1, .int .i64 a0_2, .int .i64 a0_3, .slice A0_4 l0_4.length c0_4, .slice A0_5 l0_5.length c0_5, .slice A0_6 l0_6.length c0_6] 54)).drewN nd).alloc (Obj.cells #[.int .i64 a0_0, .int .i64 a0_1, .int .i64 a0_2, .int .i64 a0_3, .slice A0_4 l0_4.length c0_4, .slice A0_5 l0_5.length c0_5, .slice A0_6 l0_6.length c0_6] 54)) = W at hb0 hi0 hB0 ⊢
  generalize hg : w.heap.size + 1 = g at hb0 ⊢
  have hge : w.heap.size ≤ g := by omega
  have i0 : W.cell? ⟨w.heap.size, 0, none⟩ = some (.int .i64 a0_0) := blk_cell hi0 0
  have i1 : W.cell? ⟨w.heap.size, 1, none⟩ = some (.int .i64 a0_1) := blk_cell hi0 1
  have i2 : W.cell? ⟨w.heap.size, 2, none⟩ = some (.int .i64 a0_2) := blk_cell hi0 2
  have i3 : W.cell? ⟨w.heap.size, 3, none⟩ = some (.int .i64 a0_3) := blk_cell hi0 3
  have i4 : W.cell? ⟨w.heap.size, 4, none⟩ = some (.slice A0_4 l0_4.length c0_4) := blk_cell hi0 4
  have i6 : W.cell? ⟨w.heap.size, 6, none⟩ = some (.slice A0_6 l0_6.length c0_6) := blk_cell hi0 6
  have b1 : W.cell? ⟨g, 1, none⟩ = some (.int .i64 a0_1) := blk_cell hb0 1
  have f1 : W.frozen? ⟨g, 1, none⟩ = false := blk_frozen hb0 1
  have b2 : W.cell? ⟨g, 2, none⟩ = some (.int .i64 a0_2) := blk_cell hb0 2
  have f2 : W.frozen? ⟨g, 2, none⟩ = false := blk_frozen hb0 2
  have b3 : W.cell? ⟨g, 3, none⟩ = some (.int .i64 a0_3) := blk_cell hb0 3
  have f3 : W.frozen? ⟨g, 3, none⟩ = false := blk_frozen hb0 3
  have b4 : W.cell? ⟨g, 4, none⟩ = some (.slice A0_4 l0_4.length c0_4) := blk_cell hb0 4
  have f4 : W.frozen? ⟨g, 4, none⟩ = false := blk_frozen hb0 4
  have b5 : W.cell? ⟨g, 5, none⟩ = some (.slice A0_5 l0_5.length c0_5) := blk_cell hb0 5
  have f5 : W.frozen? ⟨g, 5, none⟩ = false := blk_frozen hb0 5
  have b6 : W.cell? ⟨g, 6, none⟩ = some (.slice A0_6 l0_6.length c0_6) := blk_cell hb0 6
  have f6 : W.frozen? ⟨g, 6, none⟩ = false := blk_frozen hb0 6
  go_cut [6] (fun v6 wc => ∃ (ok : Bool) (a b m : Int) (pN : Option Addr) (nN cN : Nat) (pL : Option Addr) (nL cL : Nat) (pE : Option Addr) (nE cE : Nat), v6 = .bool ok ∧ Aside0 (wc.heap[g]? = some (.cells #[.int .i64 a0_0, .int .i64 a, .int .i64 b, .int .i64 m, .slice pN nN cN, .slice pL nL cL, .slice pE nE cE] 54 (0, 0))) ∧ Aside0 (Below w.heap.size w wc) ∧ Aside0 (mayS s1 a0_0 a0_1 a0_2 a0_3 l0_4 l0_5 l0_6 (t1, t2) = (ok && (a == 0 && (b == 0 && (m == 0 && (nN == 0 && (nL == 0 && nE == 0))))))))
  case first =>
    by_cases h1 : s1 = 1
    · subst h1
      go_wp2
      go_meet
      case rel => exact ⟨_, _, _, _, _, _, _, _, _, _, _, _, _, rfl, ⟨hb0⟩, ⟨hB0⟩, ⟨by (try clear hi0 i0 i1 i2 i3 i4 i6 b1 b2 b3 b4 b5 b6 f1 f2 f3 f4 f5 f6 hr0_4 hr0_5 hr0_6 hc0_4 hc0_5 hc0_6 hs ht hN hb0 hB0); simp only [mayS, Int.reduceEq, or_self, or_true, true_or, or_false, false_or, if_true, if_false, nat0]; first | rfl | (simp [*]; done) | (simp only [*, Bool.false_or, Bool.true_or, Bool.true_and, Bool.false_and, Bool.and_true, Bool.and_false]; done) | (simp_all; done) | (simp_all; omega)⟩⟩
    have e1 : (s1 == 1) = false := beq_eq_false_iff_ne.mpr h1
    by_cases h11 : s1 = 11
    · subst h11
      go_wp2
      go_meet
      case rel => exact ⟨_, _, _, _, _, _, _, _, _, _, _, _, _, rfl, ⟨hb0⟩, ⟨hB0⟩, ⟨by (try clear hi0 i0 i1 i2 i3 i4 i6 b1 b2 b3 b4 b5 b6 f1 f2 f3 f4 f5 f6 hr0_4 hr0_5 hr0_6 hc0_4 hc0_5 hc0_6 hs ht hN hb0 hB0); simp only [mayS, Int.reduceEq, or_self, or_true, true_or, or_false, false_or, if_true, if_false, nat0]; first | rfl | (simp [*]; done) | (simp only [*, Bool.false_or, Bool.true_or, Bool.true_and, Bool.false_and, Bool.and_true, Bool.and_false]; done) | (simp_all; done) | (simp_all; omega)⟩⟩
    have e11 : (s1 == 11) = false := beq_eq_false_iff_ne.mpr h11
    by_cases h2 : s1 = 2
    · subst h2
      have c4 : (a0_0 == 4) = true ∨ (a0_0 == 4) = false := by cases (a0_0 == 4) <;> simp
      rcases c4 with c4 | c4
      all_goals
        go_wp2_with (first | (go_at_call 56; (with_reducible refine (inx_calls _ _).mono ?_); rintro e w' ⟨rfl, ⟨nd, rfl⟩⟩) | (go_at_call 55; (with_reducible refine (bty_calls _ _).mono ?_); rintro e w' ⟨rfl, ⟨nd, rfl⟩⟩) | (go_at_call 12; (with_reducible refine (instr_Type.calls 5 a0_1 t1 t2 _ ht).mono ?_); rintro e w' ⟨rfl, ⟨nd, rfl⟩⟩))
        all_goals (go_meet; case rel => first | exact ⟨_, _, _, _, _, _, _, _, _, _, _, _, _, rfl, ⟨set7_6 (set7_5 (set7_1 (hb0) (.int .i64 0)) (.slice none 0 0)) (.slice none 0 0)⟩, ⟨(below_set (below_set (below_set (pw_below_drewN hB0 _) hge) hge) hge)⟩, ⟨by (try clear hi0 i0 i1 i2 i3 i4 i6 b1 b2 b3 b4 b5 b6 f1 f2 f3 f4 f5 f6 hr0_4 hr0_5 hr0_6 hc0_4 hc0_5 hc0_6 hs ht hN hb0 hB0); simp only [mayS, Int.reduceEq, or_self, or_true, true_or, or_false, false_or, if_true, if_false, nat0]; first | rfl | (simp [*]; done) | (simp only [*, Bool.false_or, Bool.true_or, Bool.true_and, Bool.false_and, Bool.and_true, Bool.and_false]; done) | (simp_all; done) | (simp_all; omega)⟩⟩)
    have e2 : (s1 == 2) = false := beq_eq_false_iff_ne.mpr h2
    by_cases h3 : s1 = 3
    · subst h3
      go_wp2_with (first | (go_at_call 56; (with_reducible refine (inx_calls _ _).mono ?_); rintro e w' ⟨rfl, ⟨nd, rfl⟩⟩) | (go_at_call 55; (with_reducible refine (bty_calls _ _).mono ?_); rintro e w' ⟨rfl, ⟨nd, rfl⟩⟩) | (go_at_call 12; (with_reducible refine (instr_Type.calls 5 a0_1 t1 t2 _ ht).mono ?_); rintro e w' ⟨rfl, ⟨nd, rfl⟩⟩))
      all_goals (go_meet; case rel => first | exact ⟨_, _, _, _, _, _, _, _, _, _, _, _, _, rfl, ⟨set7_1 (hb0) (.int .i64 0)⟩, ⟨(below_set (pw_below_drewN hB0 _) hge)⟩, ⟨by (try clear hi0 i0 i1 i2 i3 i4 i6 b1 b2 b3 b4 b5 b6 f1 f2 f3 f4 f5 f6 hr0_4 hr0_5 hr0_6 hc0_4 hc0_5 hc0_6 hs ht hN hb0 hB0); simp only [mayS, Int.reduceEq, or_self, or_true, true_or, or_false, false_or, if_true, if_false, nat0]; first | rfl | (simp [*]; done) | (simp only [*, Bool.false_or, Bool.true_or, Bool.true_and, Bool.false_and, Bool.and_true, Bool.and_false]; done) | (simp_all; done) | (simp_all; omega)⟩⟩)
    have e3 : (s1 == 3) = false := beq_eq_false_iff_ne.mpr h3
    by_cases h4 : s1 = 4
    · subst h4
      have hx0 : inx a0_1 = true ∨ inx a0_1 = false := by cases inx a0_1 <;> simp
      rcases hx0 with hx0 | hx0
      all_goals
        go_wp2_with (first | (go_at_call 56; (with_reducible refine (inx_calls _ _).mono ?_); rintro e w' ⟨rfl, ⟨nd, rfl⟩⟩) | (go_at_call 55; (with_reducible refine (bty_calls _ _).mono ?_); rintro e w' ⟨rfl, ⟨nd, rfl⟩⟩) | (go_at_call 12; (with_reducible refine (instr_Type.calls 5 a0_1 t1 t2 _ ht).mono ?_); rintro e w' ⟨rfl, ⟨nd, rfl⟩⟩))
        go_loopg [6, 61] l0_4.length (fun d v6 v61 w' => ∃ (ok : Bool) (i : Nat) (m : Nat), v6 = .bool ok ∧ v61 = .int .i64 i ∧ Aside0 (i + d = l0_4.length) ∧ Aside0 ((ok && (l0_4.drop i).all inx) = (inx a0_1 && decide (l0_4.length ≤ 1000) && l0_4.all inx)) ∧ w' = W.drewN m)
        case atStart => exact ⟨_, 0, _, rfl, rfl, ⟨by simp⟩, ⟨by simp [*, nat1]⟩, rfl⟩
        case round =>
          obtain ⟨ok, i, m, rfl, rfl, hi, hok, rfl⟩ := hrel
          by_cases hlt : i < l0_4.length
          · have p0 : (0 : Int) ≤ (i : Int) := by omega
            have q0 : (i : Int) < (l0_4.length : Int) := by omega
            obtain ⟨ad, e5, hx⟩ := Kd.at_int hr0_4 (i : Int) p0 q0
            cases e5
            replace hx := (hB0.cell (World.block_lt_of_cell? w _ hx)).trans hx
            have hd : l0_4.drop i = rd l0_4 (i : Int) :: l0_4.drop (i + 1) := by
              rw [List.drop_eq_getElem_cons hlt]; simp [rd, List.getD, hlt]
            have hw1 : wrap64 ((i : Int) + 1) = ((i + 1 : Nat) : Int) := by
              have := hi.out; unfold wrap64; omega
            rw [hd] at hok
            have hx2 : W.cell? (ad.add i) = some (.int .i64 (rd l0_4 (i : Int))) := hx
            replace p0 := eq_true p0
            replace q0 := eq_true q0
            cases ok
            all_goals
              go_wp2_with (first | (go_at_call 56; (with_reducible refine (inx_calls _ _).mono ?_); rintro e w' ⟨rfl, ⟨nd, rfl⟩⟩) | (go_at_call 55; (with_reducible refine (bty_calls _ _).mono ?_); rintro e w' ⟨rfl, ⟨nd, rfl⟩⟩) | (go_at_call 12; (with_reducible refine (instr_Type.calls 5 a0_1 t1 t2 _ ht).mono ?_); rintro e w' ⟨rfl, ⟨nd, rfl⟩⟩))
              go_roundg (l0_4.length - (i + 1))
              case measure => have := hi.out; omega
              case rel => exact ⟨_, i + 1, _, rfl, by first | rfl | (rw [hw1]; done) | (simp [hw1]; done), ⟨by omega⟩, ⟨by have h5 := hok.out; simp only [List.all_cons, Bool.true_and, Bool.false_and] at h5 ⊢; exact h5⟩, by first | rfl | (simp; done)⟩
          · have hq : decide ((i : Int) < (l0_4.length : Int)) = false := decide_eq_false (by omega)
            have hd : l0_4.drop i = [] := List.drop_eq_nil_of_le (by omega)
            rw [hd] at hok
            go_wp2
            go_meet
            case rel => exact ⟨_, _, _, _, _, _, _, _, _, _, _, _, _, rfl, ⟨set7_4 (set7_1 (hb0) (.int .i64 0)) (.slice none 0 0)⟩, ⟨(below_set (below_set (pw_below_drewN hB0 _) hge) hge)⟩, ⟨by have h5 := hok.out; simp only [List.all_nil, Bool.and_true] at h5; rw [h5]; simp [mayS, nat0]⟩⟩
    have e4 : (s1 == 4) = false := beq_eq_false_iff_ne.mpr h4
    by_cases h5 : s1 = 5
    · subst h5
      go_wp2_with (first | (go_at_call 56; (with_reducible refine (inx_calls _ _).mono ?_); rintro e w' ⟨rfl, ⟨nd, rfl⟩⟩) | (go_at_call 55; (with_reducible refine (bty_calls _ _).mono ?_); rintro e w' ⟨rfl, ⟨nd, rfl⟩⟩) | (go_at_call 12; (with_reducible refine (instr_Type.calls 5 a0_1 t1 t2 _ ht).mono ?_); rintro e w' ⟨rfl, ⟨nd, rfl⟩⟩))
      all_goals (go_meet; case rel => first | exact ⟨_, _, _, _, _, _, _, _, _, _, _, _, _, rfl, ⟨set7_3 (set7_1 (hb0) (.int .i64 0)) (.int .i64 0)⟩, ⟨(below_set (below_set (pw_below_drewN hB0 _) hge) hge)⟩, ⟨by (try clear hi0 i0 i1 i2 i3 i4 i6 b1 b2 b3 b4 b5 b6 f1 f2 f3 f4 f5 f6 hr0_4 hr0_5 hr0_6 hc0_4 hc0_5 hc0_6 hs ht hN hb0 hB0); simp only [mayS, Int.reduceEq, or_self, or_true, true_or, or_false, false_or, if_true, if_false, nat0]; first | rfl | (simp [*]; done) | (simp only [*, Bool.false_or, Bool.true_or, Bool.true_and, Bool.false_and, Bool.and_true, Bool.and_false]; done) | (simp_all; done) | (simp_all; omega)⟩⟩ | exact ⟨_, _, _, _, _, _, _, _, _, _, _, _, _, rfl, ⟨set7_3 (set7_1 (hb0) (.int .i64 0)) (.int .i64 0)⟩, ⟨(below_set (below_set (pw_below_drewN (pw_below_drewN hB0 _) _) hge) hge)⟩, ⟨by (try clear hi0 i0 i1 i2 i3 i4 i6 b1 b2 b3 b4 b5 b6 f1 f2 f3 f4 f5 f6 hr0_4 hr0_5 hr0_6 hc0_4 hc0_5 hc0_6 hs ht hN hb0 hB0); simp only [mayS, Int.reduceEq, or_self, or_true, true_or, or_false, false_or, if_true, if_false, nat0]; first | rfl | (simp [*]; done) | (simp only [*, Bool.false_or, Bool.true_or, Bool.true_and, Bool.false_and, Bool.and_true, Bool.and_false]; done) | (simp_all; done) | (simp_all; omega)⟩⟩)
    have e5 : (s1 == 5) = false := beq_eq_false_iff_ne.mpr h5
    by_cases h9 : s1 = 9
    · subst h9
      go_wp2_with (first | (go_at_call 56; (with_reducible refine (inx_calls _ _).mono ?_); rintro e w' ⟨rfl, ⟨nd, rfl⟩⟩) | (go_at_call 55; (with_reducible refine (bty_calls _ _).mono ?_); rintro e w' ⟨rfl, ⟨nd, rfl⟩⟩) | (go_at_call 12; (with_reducible refine (instr_Type.calls 5 a0_1 t1 t2 _ ht).mono ?_); rintro e w' ⟨rfl, ⟨nd, rfl⟩⟩))
      all_goals (go_meet; case rel => first | exact ⟨_, _, _, _, _, _, _, _, _, _, _, _, _, rfl, ⟨set7_3 (set7_1 (hb0) (.int .i64 0)) (.int .i64 0)⟩, ⟨(below_set (below_set (pw_below_drewN hB0 _) hge) hge)⟩, ⟨by (try clear hi0 i0 i1 i2 i3 i4 i6 b1 b2 b3 b4 b5 b6 f1 f2 f3 f4 f5 f6 hr0_4 hr0_5 hr0_6 hc0_4 hc0_5 hc0_6 hs ht hN hb0 hB0); simp only [mayS, Int.reduceEq, or_self, or_true, true_or, or_false, false_or, if_true, if_false, nat0]; first | rfl | (simp [*]; done) | (simp only [*, Bool.false_or, Bool.true_or, Bool.true_and, Bool.false_and, Bool.and_true, Bool.and_false]; done) | (simp_all; done) | (simp_all; omega)⟩⟩ | exact ⟨_, _, _, _, _, _, _, _, _, _, _, _, _, rfl, ⟨set7_3 (set7_1 (hb0) (.int .i64 0)) (.int .i64 0)⟩, ⟨(below_set (below_set (pw_below_drewN (pw_below_drewN hB0 _) _) hge) hge)⟩, ⟨by (try clear hi0 i0 i1 i2 i3 i4 i6 b1 b2 b3 b4 b5 b6 f1 f2 f3 f4 f5 f6 hr0_4 hr0_5 hr0_6 hc0_4 hc0_5 hc0_6 hs ht hN hb0 hB0); simp only [mayS, Int.reduceEq, or_self, or_true, true_or, or_false, false_or, if_true, if_false, nat0]; first | rfl | (simp [*]; done) | (simp only [*, Bool.false_or, Bool.true_or, Bool.true_and, Bool.false_and, Bool.and_true, Bool.and_false]; done) | (simp_all; done) | (simp_all; omega)⟩⟩)
    have e9 : (s1 == 9) = false := beq_eq_false_iff_ne.mpr h9
    by_cases h6 : s1 = 6
    · subst h6
      go_wp2_with (first | (go_at_call 56; (with_reducible refine (inx_calls _ _).mono ?_); rintro e w' ⟨rfl, ⟨nd, rfl⟩⟩) | (go_at_call 55; (with_reducible refine (bty_calls _ _).mono ?_); rintro e w' ⟨rfl, ⟨nd, rfl⟩⟩) | (go_at_call 12; (with_reducible refine (instr_Type.calls 5 a0_1 t1 t2 _ ht).mono ?_); rintro e w' ⟨rfl, ⟨nd, rfl⟩⟩))
      all_goals (go_meet; case rel => first | exact ⟨_, _, _, _, _, _, _, _, _, _, _, _, _, rfl, ⟨set7_1 (hb0) (.int .i64 0)⟩, ⟨(below_set (pw_below_drewN hB0 _) hge)⟩, ⟨by (try clear hi0 i0 i1 i2 i3 i4 i6 b1 b2 b3 b4 b5 b6 f1 f2 f3 f4 f5 f6 hr0_4 hr0_5 hr0_6 hc0_4 hc0_5 hc0_6 hs ht hN hb0 hB0); simp only [mayS, Int.reduceEq, or_self, or_true, true_or, or_false, false_or, if_true, if_false, nat0]; first | rfl | (simp [*]; done) | (simp only [*, Bool.false_or, Bool.true_or, Bool.true_and, Bool.false_and, Bool.and_true, Bool.and_false]; done) | (simp_all; done) | (simp_all; omega)⟩⟩)
    have e6 : (s1 == 6) = false := beq_eq_false_iff_ne.mpr h6
    by_cases h7 : s1 = 7
    · subst h7
      go_wp2_with (first | (go_at_call 56; (with_reducible refine (inx_calls _ _).mono ?_); rintro e w' ⟨rfl, ⟨nd, rfl⟩⟩) | (go_at_call 55; (with_reducible refine (bty_calls _ _).mono ?_); rintro e w' ⟨rfl, ⟨nd, rfl⟩⟩) | (go_at_call 12; (with_reducible refine (instr_Type.calls 5 a0_1 t1 t2 _ ht).mono ?_); rintro e w' ⟨rfl, ⟨nd, rfl⟩⟩))
      all_goals (go_meet; case rel => first | exact ⟨_, _, _, _, _, _, _, _, _, _, _, _, _, rfl, ⟨set7_3 (set7_2 (set7_1 (hb0) (.int .i64 0)) (.int .i64 0)) (.int .i64 0)⟩, ⟨(below_set (below_set (below_set (pw_below_drewN hB0 _) hge) hge) hge)⟩, ⟨by (try clear hi0 i0 i1 i2 i3 i4 i6 b1 b2 b3 b4 b5 b6 f1 f2 f3 f4 f5 f6 hr0_4 hr0_5 hr0_6 hc0_4 hc0_5 hc0_6 hs ht hN hb0 hB0); simp only [mayS, Int.reduceEq, or_self, or_true, true_or, or_false, false_or, if_true, if_false, nat0]; first | rfl | (simp [*]; done) | (simp only [*, Bool.false_or, Bool.true_or, Bool.true_and, Bool.false_and, Bool.and_true, Bool.and_false]; done) | (simp_all; done) | (simp_all; omega)⟩⟩ | exact ⟨_, _, _, _, _, _, _, _, _, _, _, _, _, rfl, ⟨set7_3 (set7_2 (set7_1 (hb0) (.int .i64 0)) (.int .i64 0)) (.int .i64 0)⟩, ⟨(below_set (below_set (below_set (pw_below_drewN (pw_below_drewN hB0 _) _) hge) hge) hge)⟩, ⟨by (try clear hi0 i0 i1 i2 i3 i4 i6 b1 b2 b3 b4 b5 b6 f1 f2 f3 f4 f5 f6 hr0_4 hr0_5 hr0_6 hc0_4 hc0_5 hc0_6 hs ht hN hb0 hB0); simp only [mayS, Int.reduceEq, or_self, or_true, true_or, or_false, false_or, if_true, if_false, nat0]; first | rfl | (simp [*]; done) | (simp only [*, Bool.false_or, Bool.true_or, Bool.true_and, Bool.false_and, Bool.and_true, Bool.and_false]; done) | (simp_all; done) | (simp_all; omega)⟩⟩)
    have e7 : (s1 == 7) = false := beq_eq_false_iff_ne.mpr h7
    by_cases h8 : s1 = 8
    · subst h8
      go_wp2_with (first | (go_at_call 56; (with_reducible refine (inx_calls _ _).mono ?_); rintro e w' ⟨rfl, ⟨nd, rfl⟩⟩) | (go_at_call 55; (with_reducible refine (bty_calls _ _).mono ?_); rintro e w' ⟨rfl, ⟨nd, rfl⟩⟩) | (go_at_call 12; (with_reducible refine (instr_Type.calls 5 a0_1 t1 t2 _ ht).mono ?_); rintro e w' ⟨rfl, ⟨nd, rfl⟩⟩))
      all_goals (go_meet; case rel => first | exact ⟨_, _, _, _, _, _, _, _, _, _, _, _, _, rfl, ⟨set7_3 (hb0) (.int .i64 0)⟩, ⟨(below_set (pw_below_drewN hB0 _) hge)⟩, ⟨by (try clear hi0 i0 i1 i2 i3 i4 i6 b1 b2 b3 b4 b5 b6 f1 f2 f3 f4 f5 f6 hr0_4 hr0_5 hr0_6 hc0_4 hc0_5 hc0_6 hs ht hN hb0 hB0); simp only [mayS, Int.reduceEq, or_self, or_true, true_or, or_false, false_or, if_true, if_false, nat0]; first | rfl | (simp [*]; done) | (simp only [*, Bool.false_or, Bool.true_or, Bool.true_and, Bool.false_and, Bool.and_true, Bool.and_false]; done) | (simp_all; done) | (simp_all; omega)⟩⟩)
    have e8 : (s1 == 8) = false := beq_eq_false_iff_ne.mpr h8
    by_cases h10 : s1 = 10
    · subst h10
      have c4 : (a0_0 == 66) = true ∨ (a0_0 == 66) = false := by cases (a0_0 == 66) <;> simp
      rcases c4 with c4 | c4
      all_goals
        go_wp2_with (first | (go_at_call 56; (with_reducible refine (inx_calls _ _).mono ?_); rintro e w' ⟨rfl, ⟨nd, rfl⟩⟩) | (go_at_call 55; (with_reducible refine (bty_calls _ _).mono ?_); rintro e w' ⟨rfl, ⟨nd, rfl⟩⟩) | (go_at_call 12; (with_reducible refine (instr_Type.calls 5 a0_1 t1 t2 _ ht).mono ?_); rintro e w' ⟨rfl, ⟨nd, rfl⟩⟩))
        all_goals (go_meet; case rel => first | exact ⟨_, _, _, _, _, _, _, _, _, _, _, _, _, rfl, ⟨set7_1 (hb0) (.int .i64 0)⟩, ⟨(below_set hB0 hge)⟩, ⟨by (try clear hi0 i0 i1 i2 i3 i4 i6 b1 b2 b3 b4 b5 b6 f1 f2 f3 f4 f5 f6 hr0_4 hr0_5 hr0_6 hc0_4 hc0_5 hc0_6 hs ht hN hb0 hB0); simp only [mayS, Int.reduceEq, or_self, or_true, true_or, or_false, false_or, if_true, if_false, nat0]; first | rfl | (simp [*]; done) | (simp only [*, Bool.false_or, Bool.true_or, Bool.true_and, Bool.false_and, Bool.and_true, Bool.and_false]; done) | (simp_all; done) | (simp_all; omega)⟩⟩)
    have e10 : (s1 == 10) = false := beq_eq_false_iff_ne.mpr h10
    go_wp2
    all_goals (go_meet; case rel => exact ⟨_, _, _, _, _, _, _, _, _, _, _, _, _, rfl, ⟨hb0⟩, ⟨hB0⟩, ⟨by (try clear hi0 i0 i1 i2 i3 i4 i6 b1 b2 b3 b4 b5 b6 f1 f2 f3 f4 f5 f6 hr0_4 hr0_5 hr0_6 hc0_4 hc0_5 hc0_6 hs ht hN hb0 hB0); simp only [mayS, Int.reduceEq, or_self, or_true, true_or, or_false, false_or, if_true, if_false, nat0]; first | rfl | (simp [*]; done) | (simp only [*, Bool.false_or, Bool.true_or, Bool.true_and, Bool.false_and, Bool.and_true, Bool.and_false]; done) | (simp_all; done) | (simp_all; omega)⟩⟩)
  case rest =>
    obtain ⟨ok, a, b, m, pN, nN, cN, pL, nL, cL, pE, nE, cE, rfl, hb, hB, hm⟩ := hcut
    have d1 : wc.cell? ⟨g, 1, none⟩ = some (.int .i64 a) := blk_cell hb.out 1
    have d2 : wc.cell? ⟨g, 2, none⟩ = some (.int .i64 b) := blk_cell hb.out 2
    have d3 : wc.cell? ⟨g, 3, none⟩ = some (.int .i64 m) := blk_cell hb.out 3
    have d4 : wc.cell? ⟨g, 4, none⟩ = some (.slice pN nN cN) := blk_cell hb.out 4
    have d5 : wc.cell? ⟨g, 5, none⟩ = some (.slice pL nL cL) := blk_cell hb.out 5
    have d6 : wc.cell? ⟨g, 6, none⟩ = some (.slice pE nE cE) := blk_cell hb.out 6
    clear i0 i1 i2 i3 i4 i6 b1 b2 b3 b4 b5 b6 f1 f2 f3 f4 f5 f6
    cases ok
    all_goals
      go_wp2
      all_goals (go_ret; exact ⟨by rw [hm.out]; first | rfl | (simp; done) | (simp_all [nat0]; done), by first | exact hB.out | exact pw_below_drewN hB.out _⟩)
def instr_isBlock.f (a0 : Int) : Option (Bool) := if a0 ≥ 2 then (some (decide (a0 ≤ 4))) else (some false)
set_option maxHeartbeats 8000000 in
set_option maxRecDepth 100000 in
theorem instr_isBlock.calls (a0 : Int) (r : Bool) (w : World) (h : instr_isBlock.f a0 = some r) :
    Calls Try.prog 46 #[.int .i64 a0] w fun e w' => e = .returned (.bool r) ∧ Drawn0 w w' := by
  have H : (if a0 ≥ 2 then (some (decide (a0 ≤ 4))) else (some false)) = some r := h
  clear h
  by_cases c2 : a0 ≥ 2
  · rw [if_pos c2] at H
    have c2b0 : decide (2 ≤ a0) = true := decide_eq_true c2
    clear c2
    obtain rfl := Option.some.inj H
    go_enter Try.func46, Try.ntmps46
    go_wp2
    go_ret
    exact ⟨by first | rfl | (simp; done) | (simp [*]; done), by repeat (first | exact Drawn0.refl _ | apply Drawn0.step)⟩
  · rw [if_neg c2] at H
    have c2b0 : decide (2 ≤ a0) = false := decide_eq_false c2
    clear c2
    obtain rfl := Option.some.inj H
    go_enter Try.func46, Try.ntmps46
    go_wp2
    go_ret
    exact ⟨by first | rfl | (simp; done) | (simp [*]; done), by repeat (first | exact Drawn0.refl _ | apply Drawn0.step)⟩
mutual
def instr_count.l0 : Nat → Int → Int → List (S54) → Int → Int → Option (Int × Bool)
  | 0, _, _, _, _, _ => none
  | k + 1, x1, x6, x13, x14, x15 => if x15 < x14 then (if 0 ≤ x15 then (if x15 < (x13.length : Int) then ((instr_may.f ((rd_T54 x13 x15).f0) ((rd_T54 x13 x15).f1) ((rd_T54 x13 x15).f2) ((rd_T54 x13 x15).f3) ((rd_T54 x13 x15).f4) ((rd_T54 x13 x15).f5) ((rd_T54 x13 x15).f6)).bind fun t154 => (if t154 = true then (if x1 = 32 then (if (((rd_T54 x13 x15).f5).length : Int) > 0 then (instr_count.j1 k x1 x6 x13 x14 x15 true ((rd_T54 x13 x15).f0) ((rd_T54 x13 x15).f1) ((rd_T54 x13 x15).f2) ((rd_T54 x13 x15).f3) ((rd_T54 x13 x15).f4) ((rd_T54 x13 x15).f5) ((rd_T54 x13 x15).f6)) else (if (((rd_T54 x13 x15).f6).length : Int) > 0 then (instr_count.j1 k x1 x6 x13 x14 x15 true ((rd_T54 x13 x15).f0) ((rd_T54 x13 x15).f1) ((rd_T54 x13 x15).f2) ((rd_T54 x13 x15).f3) ((rd_T54 x13 x15).f4) ((rd_T54 x13 x15).f5) ((rd_T54 x13 x15).f6)) else ((instr_isBlock.f ((rd_T54 x13 x15).f0)).bind fun t155 => (instr_count.j1 k x1 x6 x13 x14 x15 t155 ((rd_T54 x13 x15).f0) ((rd_T54 x13 x15).f1) ((rd_T54 x13 x15).f2) ((rd_T54 x13 x15).f3) ((rd_T54 x13 x15).f4) ((rd_T54 x13 x15).f5) ((rd_T54 x13 x15).f6))))) else (instr_count.j1 k x1 x6 x13 x14 x15 false ((rd_T54 x13 x15).f0) ((rd_T54 x13 x15).f1) ((rd_T54 x13 x15).f2) ((rd_T54 x13 x15).f3) ((rd_T54 x13 x15).f4) ((rd_T54 x13 x15).f5) ((rd_T54 x13 x15).f6))) else (instr_count.j1 k x1 x6 x13 x14 x15 true ((rd_T54 x13 x15).f0) ((rd_T54 x13 x15).f1) ((rd_T54 x13 x15).f2) ((rd_T54 x13 x15).f3) ((rd_T54 x13 x15).f4) ((rd_T54 x13 x15).f5) ((rd_T54 x13 x15).f6)))) else (none)) else (none)) else (some (x6, true))
def instr_count.j1 : Nat → Int → Int → List (S54) → Int → Int → Bool → Int → Int → Int → Int → List Int → List (S54) → List (S54) → Option (Int × Bool)
  | 0, _, _, _, _, _, _, _, _, _, _, _, _, _ => none
  | k + 1, x1, x6, x13, x14, x15, x42, x154000, x154001, x154002, x154003, x154004, x154005, x154006 => if x42 = true then (some (0, false)) else ((instr_count.f k x154005 (wrap64 (x1 + 1))).bind fun bt156 => ((instr_count.f k x154006 (wrap64 (x1 + 1))).bind fun bt158 => (if bt156.2 = true then (instr_count.j2 k x1 x6 bt156.1 bt158.1 x13 x14 x15 (!bt158.2)) else (instr_count.j2 k x1 x6 bt156.1 bt158.1 x13 x14 x15 true))))
def instr_count.j2 : Nat → Int → Int → Int → Int → List (S54) → Int → Int → Bool → Option (Int × Bool)
  | 0, _, _, _, _, _, _, _, _ => none
  | k + 1, x1, x6, x9, x11, x13, x14, x15, x64 => if x64 = true then (some (0, false)) else (if (wrap64 (x6 + (wrap64 ((wrap64 (1 + x9)) + x11)))) > 8192 then (some (0, false)) else (instr_count.l0 k x1 (wrap64 (x6 + (wrap64 ((wrap64 (1 + x9)) + x11)))) x13 x14 (wrap64 (x15 + 1))))
def instr_count.f : Nat → List (S54) → Int → Option (Int × Bool)
  | 0, _, _ => none
  | k + 1, l0, a1 => instr_count.l0 k a1 0 l0 (l0.length : Int) 0
end
theorem instr_count.mono_l : ∀ k, (∀ y0 y1, LeO (instr_count.f k y0 y1) (instr_count.f (k + 1) y0 y1)) ∧ (∀ y0 y1 y2 y3 y4, LeO (instr_count.l0 k y0 y1 y2 y3 y4) (instr_count.l0 (k + 1) y0 y1 y2 y3 y4)) ∧ (∀ y0 y1 y2 y3 y4 y5 y6 y7 y8 y9 y10 y11 y12, LeO (instr_count.j1 k y0 y1 y2 y3 y4 y5 y6 y7 y8 y9 y10 y11 y12) (instr_count.j1 (k + 1) y0 y1 y2 y3 y4 y5 y6 y7 y8 y9 y10 y11 y12)) ∧ (∀ y0 y1 y2 y3 y4 y5 y6 y7, LeO (instr_count.j2 k y0 y1 y2 y3 y4 y5 y6 y7) (instr_count.j2 (k + 1) y0 y1 y2 y3 y4 y5 y6 y7))
  | 0 => ⟨fun _ _ r h => by simp [instr_count.f] at h, fun _ _ _ _ _ r h => by simp [instr_count.l0] at h, fun _ _ _ _ _ _ _ _ _ _ _ _ _ r h => by simp [instr_count.j1] at h, fun _ _ _ _ _ _ _ _ r h => by simp [instr_count.j2] at h⟩
  | k + 1 => by
    obtain ⟨ih0, ih1, ih2, ih3⟩ := instr_count.mono_l k
    refine ⟨?_, ?_, ?_, ?_⟩
    · intro y0 y1
      unfold instr_count.f
      repeat' first
      | (with_reducible exact ih0 _ _)
      | (with_reducible exact ih1 _ _ _ _ _)
      | (with_reducible exact ih2 _ _ _ _ _ _ _ _ _ _ _ _ _)
      | (with_reducible exact ih3 _ _ _ _ _ _ _ _)
      | (with_reducible exact LeO.refl _)
      | (with_reducible exact LeO.none _)
      | (with_reducible refine LeO.ite ?_ ?_)
      | (with_reducible refine LeO.bind ?_ (fun _ => ?_))
      | exact ih0 _ _
      | exact ih1 _ _ _ _ _
      | exact ih2 _ _ _ _ _ _ _ _ _ _ _ _ _
      | exact ih3 _ _ _ _ _ _ _ _
      | exact LeO.none _
      | refine LeO.ite ?_ ?_
      | refine LeO.bind ?_ (fun _ => ?_)
    · intro y0 y1 y2 y3 y4
      unfold instr_count.l0
      repeat' first
      | (with_reducible exact ih0 _ _)
      | (with_reducible exact ih1 _ _ _ _ _)
      | (with_reducible exact ih2 _ _ _ _ _ _ _ _ _ _ _ _ _)
      | (with_reducible exact ih3 _ _ _ _ _ _ _ _)
      | (with_reducible exact LeO.refl _)
      | (with_reducible exact LeO.none _)
      | (with_reducible refine LeO.ite ?_ ?_)
      | (with_reducible refine LeO.bind ?_ (fun _ => ?_))
      | exact ih0 _ _
      | exact ih1 _ _ _ _ _
      | exact ih2 _ _ _ _ _ _ _ _ _ _ _ _ _
      | exact ih3 _ _ _ _ _ _ _ _
      | exact LeO.none _
      | refine LeO.ite ?_ ?_
      | refine LeO.bind ?_ (fun _ => ?_)
    · intro y0 y1 y2 y3 y4 y5 y6 y7 y8 y9 y10 y11 y12
      unfold instr_count.j1
      repeat' first
      | (with_reducible exact ih0 _ _)
      | (with_reducible exact ih1 _ _ _ _ _)
      | (with_reducible exact ih2 _ _ _ _ _ _ _ _ _ _ _ _ _)
      | (with_reducible exact ih3 _ _ _ _ _ _ _ _)
      | (with_reducible exact LeO.refl _)
      | (with_reducible exact LeO.none _)
      | (with_reducible refine LeO.ite ?_ ?_)
      | (with_reducible refine LeO.bind ?_ (fun _ => ?_))
      | exact ih0 _ _
      | exact ih1 _ _ _ _ _
      | exact ih2 _ _ _ _ _ _ _ _ _ _ _ _ _
      | exact ih3 _ _ _ _ _ _ _ _
      | exact LeO.none _
      | refine LeO.ite ?_ ?_
      | refine LeO.bind ?_ (fun _ => ?_)
    · intro y0 y1 y2 y3 y4 y5 y6 y7
      unfold instr_count.j2
      repeat' first
      | (with_reducible exact ih0 _ _)
      | (with_reducible exact ih1 _ _ _ _ _)
      | (with_reducible exact ih2 _ _ _ _ _ _ _ _ _ _ _ _ _)
      | (with_reducible exact ih3 _ _ _ _ _ _ _ _)
      | (with_reducible exact LeO.refl _)
      | (with_reducible exact LeO.none _)
      | (with_reducible refine LeO.ite ?_ ?_)
      | (with_reducible refine LeO.bind ?_ (fun _ => ?_))
      | exact ih0 _ _
      | exact ih1 _ _ _ _ _
      | exact ih2 _ _ _ _ _ _ _ _ _ _ _ _ _
      | exact ih3 _ _ _ _ _ _ _ _
      | exact LeO.none _
      | refine LeO.ite ?_ ?_
      | refine LeO.bind ?_ (fun _ => ?_)
theorem instr_count.mono : ∀ a0 a1 k, LeO (instr_count.f k a0 a1) (instr_count.f (k + 1) a0 a1) := by
  intro a0 a1 k
  obtain ⟨ih0, ih1, ih2, ih3⟩ := instr_count.mono_l k
  exact ih0 a0 a1
set_option maxHeartbeats 8000000 in
set_option maxRecDepth 100000 in
theorem instr_count.calls (k : Nat) : ∀ (A0 : Option Addr) (c0 : Nat) (l0 : List (S54)) (a1 : Int) (r1 : Int) (r2 : Bool) (w : World) (hr0 : Kd.C k54 w A0 l0.length l0) (hc0 : l0.length ≤ c0) (h : instr_count.f k l0 a1 = some (r1, r2)),
    Calls Try.prog 33 #[.slice A0 l0.length c0, .int .i64 a1] w fun e w' => e = .returned (.tuple #[.int .i64 r1, .bool r2]) ∧ Below w.heap.size w w' := by
  induction k using Nat.strongRecOn with
  | _ k ih =>
  intro A0 c0 l0 a1 r1 r2 w hr0 hc0 h
  cases k with
  | zero => exact absurd h (by simp [instr_count.f])
  | succ k =>
  simp only [instr_count.f] at h
  have hu54 := Try.underlying54
  have HR0 := Aside0.mk hr0
  have HC0 := Aside0.mk hc0
  clear hr0 hc0
  have HB := Aside0.mk (Below.refl w.heap.size w)
  have H : (instr_count.l0 k a1 0 l0 (l0.length : Int) 0) = some (r1, r2) := h
  clear h
  have H' := Aside0.mk H
  clear H
  go_enter Try.func33, Try.ntmps33
  go_wp2
  go_loopg [6, 15] k (fun kq v6 v15 w' => ∃ (x6_1 : Int) (x15_1 : Int), v6 = .int .i64 x6_1 ∧ v15 = .int .i64 x15_1 ∧ Aside0 (instr_count.l0 kq a1 x6_1 l0 (l0.length : Int) x15_1 = some (r1, r2)) ∧ Aside0 (kq ≤ k) ∧ Aside0 (Below w.heap.size w w'))
  case atStart => exact ⟨(0), (0), (by first | rfl | (simp; done) | (simp [*]; done)), (by first | rfl | (simp; done) | (simp [*]; done)), H', ⟨Nat.le_refl _⟩, ⟨by repeat (first | (with_reducible first | exact HB.out | apply below_alloc | apply pw_below_drewN | apply below_drew1) | exact HB.out)⟩⟩
  case round =>
    clear H'
    try clear p2
    obtain ⟨x6_1, x15_1, rfl, rfl, HA, HK1, HB⟩ := hrel
    cases gk with
    | zero => exact absurd HA.out (by simp [instr_count.l0])
    | succ k1 =>
      have H := HA.out
      clear HA
      simp only [instr_count.l0] at H
      by_cases c3 : x15_1 < (l0.length : Int)
      · rw [if_pos c3] at H
        have c3b0 : decide (x15_1 < (l0.length : Int)) = true := decide_eq_true c3
        clear c3
        by_cases c4 : 0 ≤ x15_1
        · rw [if_pos c4] at H
          have c4b0 : decide (0 ≤ x15_1) = true := decide_eq_true c4
          clear c4
          by_cases c5 : x15_1 < (l0.length : Int)
          · rw [if_pos c5] at H
            have c5b0 : decide (x15_1 < (l0.length : Int)) = true := decide_eq_true c5
            clear c5
            have HC6 := Aside0.mk H
            clear H
            have p152 : 0 ≤ (x15_1 : Int) := of_decide_eq_true (by first | (with_reducible assumption) | assumption)
            have q152 : x15_1 < (l0.length : Int) := of_decide_eq_true (by first | (with_reducible assumption) | assumption)
            obtain ⟨ad152, A152_4, c152_4, A152_5, c152_5, A152_6, c152_6, e152, hx152_0, hx152_1, hx152_2, hx152_3, hx152_4, hx152_5, hx152_6, hl152_4, hi152_4, hl152_5, hi152_5, hl152_6, hi152_6⟩ := at_T54 HR0.out x15_1 p152 q152
            cases e152
            replace hx152_0 := (HB.out.cell (World.block_lt_of_cell? w _ hx152_0)).trans hx152_0
            replace hx152_1 := (HB.out.cell (World.block_lt_of_cell? w _ hx152_1)).trans hx152_1
            replace hx152_2 := (HB.out.cell (World.block_lt_of_cell? w _ hx152_2)).trans hx152_2
            replace hx152_3 := (HB.out.cell (World.block_lt_of_cell? w _ hx152_3)).trans hx152_3
            replace hx152_4 := (HB.out.cell (World.block_lt_of_cell? w _ hx152_4)).trans hx152_4
            replace hx152_5 := (HB.out.cell (World.block_lt_of_cell? w _ hx152_5)).trans hx152_5
            replace hx152_6 := (HB.out.cell (World.block_lt_of_cell? w _ hx152_6)).trans hx152_6
            have HR152_4 := Aside0.mk hi152_4
            have HC152_4 := Aside0.mk hl152_4
            clear hi152_4 hl152_4
            have HR152_5 := Aside0.mk hi152_5
            have HC152_5 := Aside0.mk hl152_5
            clear hi152_5 hl152_5
            have HR152_6 := Aside0.mk hi152_6
            have HC152_6 := Aside0.mk hl152_6
            clear hi152_6 hl152_6
            replace p152 := eq_true p152
            replace q152 := eq_true q152
            go_upto_region 5 with (first | ((with_reducible refine gate_dst (N := 8) rfl ?_); (try (refine gate_guard (by rfl) ?_; dsimp only)); refine box_event ?hg (N := 8) ?hd (cs := #[.int .i64 0, .int .i64 0, .int .i64 0, .int .i64 0, .slice none 0 0, .slice none 0 0, .slice none 0 0]) (t := 54) ?hr ?_; (case hd => rfl); (case hg => rfl); (case hr => first | (go_simp; done) | (go_simp; rfl)); intro gb153 hg w7 hbox hb; have n0_ := Aside0.mk (below_step (by repeat (first | (with_reducible first | exact HB.out | apply below_alloc | apply pw_below_drewN | apply below_drew1) | exact HB.out)) hb); have n1_ := Aside0.mk (hbox); have n2_ := Aside0.mk ((by rw [hg]; exact (below_size (by repeat (first | (with_reducible first | exact HB.out | apply below_alloc | apply pw_below_drewN | apply below_drew1) | exact HB.out))) : w.heap.size ≤ gb153)); have n3_ := Aside0.mk ((by rw [hg]; exact (below_size (by repeat (first | (with_reducible first | exact HB.out | apply below_alloc | apply pw_below_drewN | apply below_drew1) | exact HB.out))) : w.heap.size ≤ gb153)); clear HB; have HB := n0_; have BK153 := n1_; have GW153 := n2_; have GE153 := n3_; clear n0_ n1_ n2_ n3_; clear hb hbox hg; have hcz8_0 : w7.cell? ⟨gb153, 0, none⟩ = some (.int .i64 0) := (blk_cell BK153.out 0).trans rfl; have hcz8_1 : w7.cell? ⟨gb153, 1, none⟩ = some (.int .i64 0) := (blk_cell BK153.out 1).trans rfl; have hcz8_2 : w7.cell? ⟨gb153, 2, none⟩ = some (.int .i64 0) := (blk_cell BK153.out 2).trans rfl; have hcz8_3 : w7.cell? ⟨gb153, 3, none⟩ = some (.int .i64 0) := (blk_cell BK153.out 3).trans rfl; have hcz8_4 : w7.cell? ⟨gb153, 4, none⟩ = some (.slice none 0 0) := (blk_cell BK153.out 4).trans rfl; have hcz8_5 : w7.cell? ⟨gb153, 5, none⟩ = some (.slice none 0 0) := (blk_cell BK153.out 5).trans rfl; have hcz8_6 : w7.cell? ⟨gb153, 6, none⟩ = some (.slice none 0 0) := (blk_cell BK153.out 6).trans rfl; have hfz8_0 := blk_frozen BK153.out 0; have hfz8_1 := blk_frozen BK153.out 1; have hfz8_2 := blk_frozen BK153.out 2; have hfz8_3 := blk_frozen BK153.out 3; have hfz8_4 := blk_frozen BK153.out 4; have hfz8_5 := blk_frozen BK153.out 5; have hfz8_6 := blk_frozen BK153.out 6))
            (try simp only [Act.put, List.setIfInBounds_toArray, List.set_cons_zero, List.set_cons_succ])
            go_cut [42] (fun v42 wc => ∃ (kq : Nat) (x42_5 : Bool), v42 = .bool x42_5 ∧ Aside0 (instr_count.j1 kq a1 x6_1 l0 (l0.length : Int) x15_1 x42_5 ((rd_T54 l0 x15_1).f0) ((rd_T54 l0 x15_1).f1) ((rd_T54 l0 x15_1).f2) ((rd_T54 l0 x15_1).f3) ((rd_T54 l0 x15_1).f4) ((rd_T54 l0 x15_1).f5) ((rd_T54 l0 x15_1).f6) = some (r1, r2)) ∧ Aside0 (kq ≤ k1) ∧ Aside0 (wc.heap[gb153]? = some (.cells #[.int .i64 ((rd_T54 l0 x15_1).f0), .int .i64 ((rd_T54 l0 x15_1).f1), .int .i64 ((rd_T54 l0 x15_1).f2), .int .i64 ((rd_T54 l0 x15_1).f3), (.slice A152_4 ((rd_T54 l0 x15_1).f4).length c152_4), (.slice A152_5 ((rd_T54 l0 x15_1).f5).length c152_5), (.slice A152_6 ((rd_T54 l0 x15_1).f6).length c152_6)] 54 (0, 0))) ∧ Aside0 (Below w.heap.size w wc))
            case first =>
              have H := HC6.out
              clear HC6
              replace H := Option.bind_eq_some_iff.mp H
              obtain ⟨t154, A90, H⟩ := H
              replace H : (if t154 = true then (if a1 = 32 then (if (((rd_T54 l0 x15_1).f5).length : Int) > 0 then (instr_count.j1 k1 a1 x6_1 l0 (l0.length : Int) x15_1 true ((rd_T54 l0 x15_1).f0) ((rd_T54 l0 x15_1).f1) ((rd_T54 l0 x15_1).f2) ((rd_T54 l0 x15_1).f3) ((rd_T54 l0 x15_1).f4) ((rd_T54 l0 x15_1).f5) ((rd_T54 l0 x15_1).f6)) else (if (((rd_T54 l0 x15_1).f6).length : Int) > 0 then (instr_count.j1 k1 a1 x6_1 l0 (l0.length : Int) x15_1 true ((rd_T54 l0 x15_1).f0) ((rd_T54 l0 x15_1).f1) ((rd_T54 l0 x15_1).f2) ((rd_T54 l0 x15_1).f3) ((rd_T54 l0 x15_1).f4) ((rd_T54 l0 x15_1).f5) ((rd_T54 l0 x15_1).f6)) else ((instr_isBlock.f ((rd_T54 l0 x15_1).f0)).bind fun t155 => (instr_count.j1 k1 a1 x6_1 l0 (l0.length : Int) x15_1 t155 ((rd_T54 l0 x15_1).f0) ((rd_T54 l0 x15_1).f1) ((rd_T54 l0 x15_1).f2) ((rd_T54 l0 x15_1).f3) ((rd_T54 l0 x15_1).f4) ((rd_T54 l0 x15_1).f5) ((rd_T54 l0 x15_1).f6))))) else (instr_count.j1 k1 a1 x6_1 l0 (l0.length : Int) x15_1 false ((rd_T54 l0 x15_1).f0) ((rd_T54 l0 x15_1).f1) ((rd_T54 l0 x15_1).f2) ((rd_T54 l0 x15_1).f3) ((rd_T54 l0 x15_1).f4) ((rd_T54 l0 x15_1).f5) ((rd_T54 l0 x15_1).f6))) else (instr_count.j1 k1 a1 x6_1 l0 (l0.length : Int) x15_1 true ((rd_T54 l0 x15_1).f0) ((rd_T54 l0 x15_1).f1) ((rd_T54 l0 x15_1).f2) ((rd_T54 l0 x15_1).f3) ((rd_T54 l0 x15_1).f4) ((rd_T54 l0 x15_1).f5) ((rd_T54 l0 x15_1).f6))) = some (r1, r2) := H
              have A9 := Aside0.mk A90
              clear A90
              by_cases c10 : t154 = true
              · subst c10
                have H1 : (if a1 = 32 then (if (((rd_T54 l0 x15_1).f5).length : Int) > 0 then (instr_count.j1 k1 a1 x6_1 l0 (l0.length : Int) x15_1 true ((rd_T54 l0 x15_1).f0) ((rd_T54 l0 x15_1).f1) ((rd_T54 l0 x15_1).f2) ((rd_T54 l0 x15_1).f3) ((rd_T54 l0 x15_1).f4) ((rd_T54 l0 x15_1).f5) ((rd_T54 l0 x15_1).f6)) else (if (((rd_T54 l0 x15_1).f6).length : Int) > 0 then (instr_count.j1 k1 a1 x6_1 l0 (l0.length : Int) x15_1 true ((rd_T54 l0 x15_1).f0) ((rd_T54 l0 x15_1).f1) ((rd_T54 l0 x15_1).f2) ((rd_T54 l0 x15_1).f3) ((rd_T54 l0 x15_1).f4) ((rd_T54 l0 x15_1).f5) ((rd_T54 l0 x15_1).f6)) else ((instr_isBlock.f ((rd_T54 l0 x15_1).f0)).bind fun t155 => (instr_count.j1 k1 a1 x6_1 l0 (l0.length : Int) x15_1 t155 ((rd_T54 l0 x15_1).f0) ((rd_T54 l0 x15_1).f1) ((rd_T54 l0 x15_1).f2) ((rd_T54 l0 x15_1).f3) ((rd_T54 l0 x15_1).f4) ((rd_T54 l0 x15_1).f5) ((rd_T54 l0 x15_1).f6))))) else (instr_count.j1 k1 a1 x6_1 l0 (l0.length : Int) x15_1 false ((rd_T54 l0 x15_1).f0) ((rd_T54 l0 x15_1).f1) ((rd_T54 l0 x15_1).f2) ((rd_T54 l0 x15_1).f3) ((rd_T54 l0 x15_1).f4) ((rd_T54 l0 x15_1).f5) ((rd_T54 l0 x15_1).f6))) = some (r1, r2) := by rw [if_pos rfl] at H; exact H
                clear H
                have H := H1
                clear H1
                by_cases c11 : a1 = 32
                · rw [if_pos c11] at H
                  have c11b0 : (a1 == 32) = true := beq_iff_eq.mpr c11
                  have c11b1 : (a1 != 32) = false := bne_eq_false_iff_eq.mpr c11
                  clear c11
                  (first | rw [c11b0] | (simp only [i64_w, i32_w]; rw [c11b0]) | skip)
                  by_cases c12 : (((rd_T54 l0 x15_1).f5).length : Int) > 0
                  · rw [if_pos c12] at H
                    have c12b0 : decide (0 < (((rd_T54 l0 x15_1).f5).length : Int)) = true := decide_eq_true c12
                    have c12b1 : decide (0 < ((rd_T54 l0 x15_1).f5).length) = true := decide_eq_true (by omega)
                    clear c12
                    have H' := Aside0.mk H
                    clear H
                    have hcz13_0 : w7.cell? ⟨gb153, 0, none⟩ = some (.int .i64 0) := (blk_cell BK153.out 0).trans rfl
                    have hcz13_1 : w7.cell? ⟨gb153, 1, none⟩ = some (.int .i64 0) := (blk_cell BK153.out 1).trans rfl
                    have hcz13_2 : w7.cell? ⟨gb153, 2, none⟩ = some (.int .i64 0) := (blk_cell BK153.out 2).trans rfl
                    have hcz13_3 : w7.cell? ⟨gb153, 3, none⟩ = some (.int .i64 0) := (blk_cell BK153.out 3).trans rfl
                    have hcz13_4 : w7.cell? ⟨gb153, 4, none⟩ = some (.slice none 0 0) := (blk_cell BK153.out 4).trans rfl
                    have hcz13_5 : w7.cell? ⟨gb153, 5, none⟩ = some (.slice none 0 0) := (blk_cell BK153.out 5).trans rfl
                    have hcz13_6 : w7.cell? ⟨gb153, 6, none⟩ = some (.slice none 0 0) := (blk_cell BK153.out 6).trans rfl
                    have hfz13_0 := blk_frozen BK153.out 0
                    have hfz13_1 := blk_frozen BK153.out 1
                    have hfz13_2 := blk_frozen BK153.out 2
                    have hfz13_3 := blk_frozen BK153.out 3
                    have hfz13_4 := blk_frozen BK153.out 4
                    have hfz13_5 := blk_frozen BK153.out 5
                    have hfz13_6 := blk_frozen BK153.out 6
                    go_wp2_with (first | ((with_reducible refine gate_callee (f := 45) rfl ?_); refine goesL_ (some 20) rfl rfl Try.func45 (by kernel_rfl) rfl #[.agg #[.int .i64 ((rd_T54 l0 x15_1).f0), .int .i64 ((rd_T54 l0 x15_1).f1), .int .i64 ((rd_T54 l0 x15_1).f2), .int .i64 ((rd_T54 l0 x15_1).f3), .slice A152_4 ((rd_T54 l0 x15_1).f4).length c152_4, .slice A152_5 ((rd_T54 l0 x15_1).f5).length c152_5, .slice A152_6 ((rd_T54 l0 x15_1).f6).length c152_6]] rfl (by (try simp only [List.map_toArray, List.map_cons, List.map_nil]); first | done | rfl | (simp only [List.length_drop, List.length_take]; rfl)) ?_; (with_reducible refine (instr_may.calls ((rd_T54 l0 x15_1).f0) ((rd_T54 l0 x15_1).f1) ((rd_T54 l0 x15_1).f2) ((rd_T54 l0 x15_1).f3) _ _ ((rd_T54 l0 x15_1).f4) _ _ ((rd_T54 l0 x15_1).f5) _ _ ((rd_T54 l0 x15_1).f6) true _ ?side1 ?side2 ?side3 ?side4 ?side5 ?side6 A9.out).mono ?_); (case side1 => exact Kd.C_below HR152_4.out (by repeat (first | (with_reducible first | exact HB.out | apply below_alloc | apply pw_below_drewN | apply below_drew1 | refine below_set ?_ GE153.out) | exact HB.out))); (case side2 => exact HC152_4.out); (case side3 => exact Kd.C_below HR152_5.out (by repeat (first | (with_reducible first | exact HB.out | apply below_alloc | apply pw_below_drewN | apply below_drew1 | refine below_set ?_ GE153.out) | exact HB.out))); (case side4 => exact HC152_5.out); (case side5 => exact Kd.C_below HR152_6.out (by repeat (first | (with_reducible first | exact HB.out | apply below_alloc | apply pw_below_drewN | apply below_drew1 | refine below_set ?_ GE153.out) | exact HB.out))); (case side6 => exact HC152_6.out); rintro e w14 ⟨rfl, hb⟩; refine ⟨_, rfl, ?_⟩; have n0_ := Aside0.mk (blk_below (g := gb153) (o := .cells #[.int .i64 ((rd_T54 l0 x15_1).f0), .int .i64 ((rd_T54 l0 x15_1).f1), .int .i64 ((rd_T54 l0 x15_1).f2), .int .i64 ((rd_T54 l0 x15_1).f3), .slice A152_4 ((rd_T54 l0 x15_1).f4).length c152_4, .slice A152_5 ((rd_T54 l0 x15_1).f5).length c152_5, .slice A152_6 ((rd_T54 l0 x15_1).f6).length c152_6] 54 (0, 0)) (by (with_reducible repeat (first | refine blk_drewN ?_ _ | refine blk_drew ?_ | refine blk_alloc ?_ _)); refine blk_put (cs := #[.int .i64 ((rd_T54 l0 x15_1).f0), .int .i64 ((rd_T54 l0 x15_1).f1), .int .i64 ((rd_T54 l0 x15_1).f2), .int .i64 ((rd_T54 l0 x15_1).f3), .slice A152_4 ((rd_T54 l0 x15_1).f4).length c152_4, .slice A152_5 ((rd_T54 l0 x15_1).f5).length c152_5, .slice none 0 0]) ?_ 6 _ rfl; (with_reducible repeat (first | refine blk_drewN ?_ _ | refine blk_drew ?_ | refine blk_alloc ?_ _)); refine blk_put (cs := #[.int .i64 ((rd_T54 l0 x15_1).f0), .int .i64 ((rd_T54 l0 x15_1).f1), .int .i64 ((rd_T54 l0 x15_1).f2), .int .i64 ((rd_T54 l0 x15_1).f3), .slice A152_4 ((rd_T54 l0 x15_1).f4).length c152_4, .slice none 0 0, .slice none 0 0]) ?_ 5 _ rfl; (with_reducible repeat (first | refine blk_drewN ?_ _ | refine blk_drew ?_ | refine blk_alloc ?_ _)); refine blk_put (cs := #[.int .i64 ((rd_T54 l0 x15_1).f0), .int .i64 ((rd_T54 l0 x15_1).f1), .int .i64 ((rd_T54 l0 x15_1).f2), .int .i64 ((rd_T54 l0 x15_1).f3), .slice none 0 0, .slice none 0 0, .slice none 0 0]) ?_ 4 _ rfl; (with_reducible repeat (first | refine blk_drewN ?_ _ | refine blk_drew ?_ | refine blk_alloc ?_ _)); refine blk_put (cs := #[.int .i64 ((rd_T54 l0 x15_1).f0), .int .i64 ((rd_T54 l0 x15_1).f1), .int .i64 ((rd_T54 l0 x15_1).f2), .int .i64 0, .slice none 0 0, .slice none 0 0, .slice none 0 0]) ?_ 3 _ rfl; (with_reducible repeat (first | refine blk_drewN ?_ _ | refine blk_drew ?_ | refine blk_alloc ?_ _)); refine blk_put (cs := #[.int .i64 ((rd_T54 l0 x15_1).f0), .int .i64 ((rd_T54 l0 x15_1).f1), .int .i64 0, .int .i64 0, .slice none 0 0, .slice none 0 0, .slice none 0 0]) ?_ 2 _ rfl; (with_reducible repeat (first | refine blk_drewN ?_ _ | refine blk_drew ?_ | refine blk_alloc ?_ _)); refine blk_put (cs := #[.int .i64 ((rd_T54 l0 x15_1).f0), .int .i64 0, .int .i64 0, .int .i64 0, .slice none 0 0, .slice none 0 0, .slice none 0 0]) ?_ 1 _ rfl; (with_reducible repeat (first | refine blk_drewN ?_ _ | refine blk_drew ?_ | refine blk_alloc ?_ _)); refine blk_put (cs := #[.int .i64 0, .int .i64 0, .int .i64 0, .int .i64 0, .slice none 0 0, .slice none 0 0, .slice none 0 0]) ?_ 0 _ rfl; (with_reducible repeat (first | refine blk_drewN ?_ _ | refine blk_drew ?_ | refine blk_alloc ?_ _)); exact BK153.out) hb); have n1_ := Aside0.mk (below_step (by repeat (first | (with_reducible first | exact HB.out | apply below_alloc | apply pw_below_drewN | apply below_drew1 | refine below_set ?_ GE153.out) | exact HB.out)) hb); clear BK153; clear HB; have BK153 := n0_; have HB := n1_; clear n0_ n1_; (try clear hb); (try clear hb2); (try clear hk); (try clear hi); have hcz15_0 : w14.cell? ⟨gb153, 0, none⟩ = some (.int .i64 ((rd_T54 l0 x15_1).f0)) := (blk_cell BK153.out 0).trans rfl; have hcz15_1 : w14.cell? ⟨gb153, 1, none⟩ = some (.int .i64 ((rd_T54 l0 x15_1).f1)) := (blk_cell BK153.out 1).trans rfl; have hcz15_2 : w14.cell? ⟨gb153, 2, none⟩ = some (.int .i64 ((rd_T54 l0 x15_1).f2)) := (blk_cell BK153.out 2).trans rfl; have hcz15_3 : w14.cell? ⟨gb153, 3, none⟩ = some (.int .i64 ((rd_T54 l0 x15_1).f3)) := (blk_cell BK153.out 3).trans rfl; have hcz15_4 : w14.cell? ⟨gb153, 4, none⟩ = some (.slice A152_4 ((rd_T54 l0 x15_1).f4).length c152_4) := (blk_cell BK153.out 4).trans rfl; have hcz15_5 : w14.cell? ⟨gb153, 5, none⟩ = some (.slice A152_5 ((rd_T54 l0 x15_1).f5).length c152_5) := (blk_cell BK153.out 5).trans rfl; have hcz15_6 : w14.cell? ⟨gb153, 6, none⟩ = some (.slice A152_6 ((rd_T54 l0 x15_1).f6).length c152_6) := (blk_cell BK153.out 6).trans rfl; have hfz15_0 := blk_frozen BK153.out 0; have hfz15_1 := blk_frozen BK153.out 1; have hfz15_2 := blk_frozen BK153.out 2; have hfz15_3 := blk_frozen BK153.out 3; have hfz15_4 := blk_frozen BK153.out 4; have hfz15_5 := blk_frozen BK153.out 5; have hfz15_6 := blk_frozen BK153.out 6))
                    go_meet
                    case rel => exact ⟨_, (true), (by first | rfl | (simp; done) | (simp [*]; done)), H', ⟨by have := HK1.out; first | omega | exact Nat.le_refl _⟩, ⟨by (with_reducible repeat (first | refine blk_drewN ?_ _ | refine blk_drew ?_ | refine blk_alloc ?_ _)); exact BK153.out⟩, ⟨by repeat (first | (with_reducible first | exact HB.out | apply below_alloc | apply pw_below_drewN | apply below_drew1 | refine below_set ?_ GE153.out) | exact HB.out)⟩⟩
                  · rw [if_neg c12] at H
                    have c12b0 : decide (0 < (((rd_T54 l0 x15_1).f5).length : Int)) = false := decide_eq_false c12
                    have c12b1 : decide (0 < ((rd_T54 l0 x15_1).f5).length) = false := decide_eq_false (by omega)
                    clear c12
                    by_cases c16 : (((rd_T54 l0 x15_1).f6).length : Int) > 0
                    · rw [if_pos c16] at H
                      have c16b0 : decide (0 < (((rd_T54 l0 x15_1).f6).length : Int)) = true := decide_eq_true c16
                      have c16b1 : decide (0 < ((rd_T54 l0 x15_1).f6).length) = true := decide_eq_true (by omega)
                      clear c16
                      have H' := Aside0.mk H
                      clear H
                      have hcz17_0 : w7.cell? ⟨gb153, 0, none⟩ = some (.int .i64 0) := (blk_cell BK153.out 0).trans rfl
                      have hcz17_1 : w7.cell? ⟨gb153, 1, none⟩ = some (.int .i64 0) := (blk_cell BK153.out 1).trans rfl
                      have hcz17_2 : w7.cell? ⟨gb153, 2, none⟩ = some (.int .i64 0) := (blk_cell BK153.out 2).trans rfl
                      have hcz17_3 : w7.cell? ⟨gb153, 3, none⟩ = some (.int .i64 0) := (blk_cell BK153.out 3).trans rfl
                      have hcz17_4 : w7.cell? ⟨gb153, 4, none⟩ = some (.slice none 0 0) := (blk_cell BK153.out 4).trans rfl
                      have hcz17_5 : w7.cell? ⟨gb153, 5, none⟩ = some (.slice none 0 0) := (blk_cell BK153.out 5).trans rfl
                      have hcz17_6 : w7.cell? ⟨gb153, 6, none⟩ = some (.slice none 0 0) := (blk_cell BK153.out 6).trans rfl
                      have hfz17_0 := blk_frozen BK153.out 0
                      have hfz17_1 := blk_frozen BK153.out 1
                      have hfz17_2 := blk_frozen BK153.out 2
                      have hfz17_3 := blk_frozen BK153.out 3
                      have hfz17_4 := blk_frozen BK153.out 4
                      have hfz17_5 := blk_frozen BK153.out 5
                      have hfz17_6 := blk_frozen BK153.out 6
                      go_wp2_with (first | ((with_reducible refine gate_callee (f := 45) rfl ?_); refine goesL_ (some 20) rfl rfl Try.func45 (by kernel_rfl) rfl #[.agg #[.int .i64 ((rd_T54 l0 x15_1).f0), .int .i64 ((rd_T54 l0 x15_1).f1), .int .i64 ((rd_T54 l0 x15_1).f2), .int .i64 ((rd_T54 l0 x15_1).f3), .slice A152_4 ((rd_T54 l0 x15_1).f4).length c152_4, .slice A152_5 ((rd_T54 l0 x15_1).f5).length c152_5, .slice A152_6 ((rd_T54 l0 x15_1).f6).length c152_6]] rfl (by (try simp only [List.map_toArray, List.map_cons, List.map_nil]); first | done | rfl | (simp only [List.length_drop, List.length_take]; rfl)) ?_; (with_reducible refine (instr_may.calls ((rd_T54 l0 x15_1).f0) ((rd_T54 l0 x15_1).f1) ((rd_T54 l0 x15_1).f2) ((rd_T54 l0 x15_1).f3) _ _ ((rd_T54 l0 x15_1).f4) _ _ ((rd_T54 l0 x15_1).f5) _ _ ((rd_T54 l0 x15_1).f6) true _ ?side1 ?side2 ?side3 ?side4 ?side5 ?side6 A9.out).mono ?_); (case side1 => exact Kd.C_below HR152_4.out (by repeat (first | (with_reducible first | exact HB.out | apply below_alloc | apply pw_below_drewN | apply below_drew1 | refine below_set ?_ GE153.out) | exact HB.out))); (case side2 => exact HC152_4.out); (case side3 => exact Kd.C_below HR152_5.out (by repeat (first | (with_reducible first | exact HB.out | apply below_alloc | apply pw_below_drewN | apply below_drew1 | refine below_set ?_ GE153.out) | exact HB.out))); (case side4 => exact HC152_5.out); (case side5 => exact Kd.C_below HR152_6.out (by repeat (first | (with_reducible first | exact HB.out | apply below_alloc | apply pw_below_drewN | apply below_drew1 | refine below_set ?_ GE153.out) | exact HB.out))); (case side6 => exact HC152_6.out); rintro e w18 ⟨rfl, hb⟩; refine ⟨_, rfl, ?_⟩; have n0_ := Aside0.mk (blk_below (g := gb153) (o := .cells #[.int .i64 ((rd_T54 l0 x15_1).f0), .int .i64 ((rd_T54 l0 x15_1).f1), .int .i64 ((rd_T54 l0 x15_1).f2), .int .i64 ((rd_T54 l0 x15_1).f3), .slice A152_4 ((rd_T54 l0 x15_1).f4).length c152_4, .slice A152_5 ((rd_T54 l0 x15_1).f5).length c152_5, .slice A152_6 ((rd_T54 l0 x15_1).f6).length c152_6] 54 (0, 0)) (by (with_reducible repeat (first | refine blk_drewN ?_ _ | refine blk_drew ?_ | refine blk_alloc ?_ _)); refine blk_put (cs := #[.int .i64 ((rd_T54 l0 x15_1).f0), .int .i64 ((rd_T54 l0 x15_1).f1), .int .i64 ((rd_T54 l0 x15_1).f2), .int .i64 ((rd_T54 l0 x15_1).f3), .slice A152_4 ((rd_T54 l0 x15_1).f4).length c152_4, .slice A152_5 ((rd_T54 l0 x15_1).f5).length c152_5, .slice none 0 0]) ?_ 6 _ rfl; (with_reducible repeat (first | refine blk_drewN ?_ _ | refine blk_drew ?_ | refine blk_alloc ?_ _)); refine blk_put (cs := #[.int .i64 ((rd_T54 l0 x15_1).f0), .int .i64 ((rd_T54 l0 x15_1).f1), .int .i64 ((rd_T54 l0 x15_1).f2), .int .i64 ((rd_T54 l0 x15_1).f3), .slice A152_4 ((rd_T54 l0 x15_1).f4).length c152_4, .slice none 0 0, .slice none 0 0]) ?_ 5 _ rfl; (with_reducible repeat (first | refine blk_drewN ?_ _ | refine blk_drew ?_ | refine blk_alloc ?_ _)); refine blk_put (cs := #[.int .i64 ((rd_T54 l0 x15_1).f0), .int .i64 ((rd_T54 l0 x15_1).f1), .int .i64 ((rd_T54 l0 x15_1).f2), .int .i64 ((rd_T54 l0 x15_1).f3), .slice none 0 0, .slice none 0 0, .slice none 0 0]) ?_ 4 _ rfl; (with_reducible repeat (first | refine blk_drewN ?_ _ | refine blk_drew ?_ | refine blk_alloc ?_ _)); refine blk_put (cs := #[.int .i64 ((rd_T54 l0 x15_1).f0), .int .i64 ((rd_T54 l0 x15_1).f1), .int .i64 ((rd_T54 l0 x15_1).f2), .int .i64 0, .slice none 0 0, .slice none 0 0, .slice none 0 0]) ?_ 3 _ rfl; (with_reducible repeat (first | refine blk_drewN ?_ _ | refine blk_drew ?_ | refine blk_alloc ?_ _)); refine blk_put (cs := #[.int .i64 ((rd_T54 l0 x15_1).f0), .int .i64 ((rd_T54 l0 x15_1).f1), .int .i64 0, .int .i64 0, .slice none 0 0, .slice none 0 0, .slice none 0 0]) ?_ 2 _ rfl; (with_reducible repeat (first | refine blk_drewN ?_ _ | refine blk_drew ?_ | refine blk_alloc ?_ _)); refine blk_put (cs := #[.int .i64 ((rd_T54 l0 x15_1).f0), .int .i64 0, .int .i64 0, .int .i64 0, .slice none 0 0, .slice none 0 0, .slice none 0 0]) ?_ 1 _ rfl; (with_reducible repeat (first | refine blk_drewN ?_ _ | refine blk_drew ?_ | refine blk_alloc ?_ _)); refine blk_put (cs := #[.int .i64 0, .int .i64 0, .int .i64 0, .int .i64 0, .slice none 0 0, .slice none 0 0, .slice none 0 0]) ?_ 0 _ rfl; (with_reducible repeat (first | refine blk_drewN ?_ _ | refine blk_drew ?_ | refine blk_alloc ?_ _)); exact BK153.out) hb); have n1_ := Aside0.mk (below_step (by repeat (first | (with_reducible first | exact HB.out | apply below_alloc | apply pw_below_drewN | apply below_drew1 | refine below_set ?_ GE153.out) | exact HB.out)) hb); clear BK153; clear HB; have BK153 := n0_; have HB := n1_; clear n0_ n1_; (try clear hb); (try clear hb2); (try clear hk); (try clear hi); have hcz19_0 : w18.cell? ⟨gb153, 0, none⟩ = some (.int .i64 ((rd_T54 l0 x15_1).f0)) := (blk_cell BK153.out 0).trans rfl; have hcz19_1 : w18.cell? ⟨gb153, 1, none⟩ = some (.int .i64 ((rd_T54 l0 x15_1).f1)) := (blk_cell BK153.out 1).trans rfl; have hcz19_2 : w18.cell? ⟨gb153, 2, none⟩ = some (.int .i64 ((rd_T54 l0 x15_1).f2)) := (blk_cell BK153.out 2).trans rfl; have hcz19_3 : w18.cell? ⟨gb153, 3, none⟩ = some (.int .i64 ((rd_T54 l0 x15_1).f3)) := (blk_cell BK153.out 3).trans rfl; have hcz19_4 : w18.cell? ⟨gb153, 4, none⟩ = some (.slice A152_4 ((rd_T54 l0 x15_1).f4).length c152_4) := (blk_cell BK153.out 4).trans rfl; have hcz19_5 : w18.cell? ⟨gb153, 5, none⟩ = some (.slice A152_5 ((rd_T54 l0 x15_1).f5).length c152_5) := (blk_cell BK153.out 5).trans rfl; have hcz19_6 : w18.cell? ⟨gb153, 6, none⟩ = some (.slice A152_6 ((rd_T54 l0 x15_1).f6).length c152_6) := (blk_cell BK153.out 6).trans rfl; have hfz19_0 := blk_frozen BK153.out 0; have hfz19_1 := blk_frozen BK153.out 1; have hfz19_2 := blk_frozen BK153.out 2; have hfz19_3 := blk_frozen BK153.out 3; have hfz19_4 := blk_frozen BK153.out 4; have hfz19_5 := blk_frozen BK153.out 5; have hfz19_6 := blk_frozen BK153.out 6))
                      go_meet
                      case rel => exact ⟨_, (true), (by first | rfl | (simp; done) | (simp [*]; done)), H', ⟨by have := HK1.out; first | omega | exact Nat.le_refl _⟩, ⟨by (with_reducible repeat (first | refine blk_drewN ?_ _ | refine blk_drew ?_ | refine blk_alloc ?_ _)); exact BK153.out⟩, ⟨by repeat (first | (with_reducible first | exact HB.out | apply below_alloc | apply pw_below_drewN | apply below_drew1 | refine below_set ?_ GE153.out) | exact HB.out)⟩⟩
                    · rw [if_neg c16] at H
                      have c16b0 : decide (0 < (((rd_T54 l0 x15_1).f6).length : Int)) = false := decide_eq_false c16
                      have c16b1 : decide (0 < ((rd_T54 l0 x15_1).f6).length) = false := decide_eq_false (by omega)
                      clear c16
                      replace H := Option.bind_eq_some_iff.mp H
                      obtain ⟨t155, A200, H⟩ := H
                      replace H : (instr_count.j1 k1 a1 x6_1 l0 (l0.length : Int) x15_1 t155 ((rd_T54 l0 x15_1).f0) ((rd_T54 l0 x15_1).f1) ((rd_T54 l0 x15_1).f2) ((rd_T54 l0 x15_1).f3) ((rd_T54 l0 x15_1).f4) ((rd_T54 l0 x15_1).f5) ((rd_T54 l0 x15_1).f6)) = some (r1, r2) := H
                      have A20 := Aside0.mk A200
                      clear A200
                      have H' := Aside0.mk H
                      clear H
                      have hcz21_0 : w7.cell? ⟨gb153, 0, none⟩ = some (.int .i64 0) := (blk_cell BK153.out 0).trans rfl
                      have hcz21_1 : w7.cell? ⟨gb153, 1, none⟩ = some (.int .i64 0) := (blk_cell BK153.out 1).trans rfl
                      have hcz21_2 : w7.cell? ⟨gb153, 2, none⟩ = some (.int .i64 0) := (blk_cell BK153.out 2).trans rfl
                      have hcz21_3 : w7.cell? ⟨gb153, 3, none⟩ = some (.int .i64 0) := (blk_cell BK153.out 3).trans rfl
                      have hcz21_4 : w7.cell? ⟨gb153, 4, none⟩ = some (.slice none 0 0) := (blk_cell BK153.out 4).trans rfl
                      have hcz21_5 : w7.cell? ⟨gb153, 5, none⟩ = some (.slice none 0 0) := (blk_cell BK153.out 5).trans rfl
                      have hcz21_6 : w7.cell? ⟨gb153, 6, none⟩ = some (.slice none 0 0) := (blk_cell BK153.out 6).trans rfl
                      have hfz21_0 := blk_frozen BK153.out 0
                      have hfz21_1 := blk_frozen BK153.out 1
                      have hfz21_2 := blk_frozen BK153.out 2
                      have hfz21_3 := blk_frozen BK153.out 3
                      have hfz21_4 := blk_frozen BK153.out 4
                      have hfz21_5 := blk_frozen BK153.out 5
                      have hfz21_6 := blk_frozen BK153.out 6
                      go_wp2_with (first | ((with_reducible refine gate_callee (f := 45) rfl ?_); refine goesL_ (some 20) rfl rfl Try.func45 (by kernel_rfl) rfl #[.agg #[.int .i64 ((rd_T54 l0 x15_1).f0), .int .i64 ((rd_T54 l0 x15_1).f1), .int .i64 ((rd_T54 l0 x15_1).f2), .int .i64 ((rd_T54 l0 x15_1).f3), .slice A152_4 ((rd_T54 l0 x15_1).f4).length c152_4, .slice A152_5 ((rd_T54 l0 x15_1).f5).length c152_5, .slice A152_6 ((rd_T54 l0 x15_1).f6).length c152_6]] rfl (by (try simp only [List.map_toArray, List.map_cons, List.map_nil]); first | done | rfl | (simp only [List.length_drop, List.length_take]; rfl)) ?_; (with_reducible refine (instr_may.calls ((rd_T54 l0 x15_1).f0) ((rd_T54 l0 x15_1).f1) ((rd_T54 l0 x15_1).f2) ((rd_T54 l0 x15_1).f3) _ _ ((rd_T54 l0 x15_1).f4) _ _ ((rd_T54 l0 x15_1).f5) _ _ ((rd_T54 l0 x15_1).f6) true _ ?side1 ?side2 ?side3 ?side4 ?side5 ?side6 A9.out).mono ?_); (case side1 => exact Kd.C_below HR152_4.out (by repeat (first | (with_reducible first | exact HB.out | apply below_alloc | apply pw_below_drewN | apply below_drew1 | refine below_set ?_ GE153.out) | exact HB.out))); (case side2 => exact HC152_4.out); (case side3 => exact Kd.C_below HR152_5.out (by repeat (first | (with_reducible first | exact HB.out | apply below_alloc | apply pw_below_drewN | apply below_drew1 | refine below_set ?_ GE153.out) | exact HB.out))); (case side4 => exact HC152_5.out); (case side5 => exact Kd.C_below HR152_6.out (by repeat (first | (with_reducible first | exact HB.out | apply below_alloc | apply pw_below_drewN | apply below_drew1 | refine below_set ?_ GE153.out) | exact HB.out))); (case side6 => exact HC152_6.out); rintro e w22 ⟨rfl, hb⟩; refine ⟨_, rfl, ?_⟩; have n0_ := Aside0.mk (blk_below (g := gb153) (o := .cells #[.int .i64 ((rd_T54 l0 x15_1).f0), .int .i64 ((rd_T54 l0 x15_1).f1), .int .i64 ((rd_T54 l0 x15_1).f2), .int .i64 ((rd_T54 l0 x15_1).f3), .slice A152_4 ((rd_T54 l0 x15_1).f4).length c152_4, .slice A152_5 ((rd_T54 l0 x15_1).f5).length c152_5, .slice A152_6 ((rd_T54 l0 x15_1).f6).length c152_6] 54 (0, 0)) (by (with_reducible repeat (first | refine blk_drewN ?_ _ | refine blk_drew ?_ | refine blk_alloc ?_ _)); refine blk_put (cs := #[.int .i64 ((rd_T54 l0 x15_1).f0), .int .i64 ((rd_T54 l0 x15_1).f1), .int .i64 ((rd_T54 l0 x15_1).f2), .int .i64 ((rd_T54 l0 x15_1).f3), .slice A152_4 ((rd_T54 l0 x15_1).f4).length c152_4, .slice A152_5 ((rd_T54 l0 x15_1).f5).length c152_5, .slice none 0 0]) ?_ 6 _ rfl; (with_reducible repeat (first | refine blk_drewN ?_ _ | refine blk_drew ?_ | refine blk_alloc ?_ _)); refine blk_put (cs := #[.int .i64 ((rd_T54 l0 x15_1).f0), .int .i64 ((rd_T54 l0 x15_1).f1), .int .i64 ((rd_T54 l0 x15_1).f2), .int .i64 ((rd_T54 l0 x15_1).f3), .slice A152_4 ((rd_T54 l0 x15_1).f4).length c152_4, .slice none 0 0, .slice none 0 0]) ?_ 5 _ rfl; (with_reducible repeat (first | refine blk_drewN ?_ _ | refine blk_drew ?_ | refine blk_alloc ?_ _)); refine blk_put (cs := #[.int .i64 ((rd_T54 l0 x15_1).f0), .int .i64 ((rd_T54 l0 x15_1).f1), .int .i64 ((rd_T54 l0 x15_1).f2), .int .i64 ((rd_T54 l0 x15_1).f3), .slice none 0 0, .slice none 0 0, .slice none 0 0]) ?_ 4 _ rfl; (with_reducible repeat (first | refine blk_drewN ?_ _ | refine blk_drew ?_ | refine blk_alloc ?_ _)); refine blk_put (cs := #[.int .i64 ((rd_T54 l0 x15_1).f0), .int .i64 ((rd_T54 l0 x15_1).f1), .int .i64 ((rd_T54 l0 x15_1).f2), .int .i64 0, .slice none 0 0, .slice none 0 0, .slice none 0 0]) ?_ 3 _ rfl; (with_reducible repeat (first | refine blk_drewN ?_ _ | refine blk_drew ?_ | refine blk_alloc ?_ _)); refine blk_put (cs := #[.int .i64 ((rd_T54 l0 x15_1).f0), .int .i64 ((rd_T54 l0 x15_1).f1), .int .i64 0, .int .i64 0, .slice none 0 0, .slice none 0 0, .slice none 0 0]) ?_ 2 _ rfl; (with_reducible repeat (first | refine blk_drewN ?_ _ | refine blk_drew ?_ | refine blk_alloc ?_ _)); refine blk_put (cs := #[.int .i64 ((rd_T54 l0 x15_1).f0), .int .i64 0, .int .i64 0, .int .i64 0, .slice none 0 0, .slice none 0 0, .slice none 0 0]) ?_ 1 _ rfl; (with_reducible repeat (first | refine blk_drewN ?_ _ | refine blk_drew ?_ | refine blk_alloc ?_ _)); refine blk_put (cs := #[.int .i64 0, .int .i64 0, .int .i64 0, .int .i64 0, .slice none 0 0, .slice none 0 0, .slice none 0 0]) ?_ 0 _ rfl; (with_reducible repeat (first | refine blk_drewN ?_ _ | refine blk_drew ?_ | refine blk_alloc ?_ _)); exact BK153.out) hb); have n1_ := Aside0.mk (below_step (by repeat (first | (with_reducible first | exact HB.out | apply below_alloc | apply pw_below_drewN | apply below_drew1 | refine below_set ?_ GE153.out) | exact HB.out)) hb); clear BK153; clear HB; have BK153 := n0_; have HB := n1_; clear n0_ n1_; (try clear hb); (try clear hb2); (try clear hk); (try clear hi); have hcz23_0 : w22.cell? ⟨gb153, 0, none⟩ = some (.int .i64 ((rd_T54 l0 x15_1).f0)) := (blk_cell BK153.out 0).trans rfl; have hcz23_1 : w22.cell? ⟨gb153, 1, none⟩ = some (.int .i64 ((rd_T54 l0 x15_1).f1)) := (blk_cell BK153.out 1).trans rfl; have hcz23_2 : w22.cell? ⟨gb153, 2, none⟩ = some (.int .i64 ((rd_T54 l0 x15_1).f2)) := (blk_cell BK153.out 2).trans rfl; have hcz23_3 : w22.cell? ⟨gb153, 3, none⟩ = some (.int .i64 ((rd_T54 l0 x15_1).f3)) := (blk_cell BK153.out 3).trans rfl; have hcz23_4 : w22.cell? ⟨gb153, 4, none⟩ = some (.slice A152_4 ((rd_T54 l0 x15_1).f4).length c152_4) := (blk_cell BK153.out 4).trans rfl; have hcz23_5 : w22.cell? ⟨gb153, 5, none⟩ = some (.slice A152_5 ((rd_T54 l0 x15_1).f5).length c152_5) := (blk_cell BK153.out 5).trans rfl; have hcz23_6 : w22.cell? ⟨gb153, 6, none⟩ = some (.slice A152_6 ((rd_T54 l0 x15_1).f6).length c152_6) := (blk_cell BK153.out 6).trans rfl; have hfz23_0 := blk_frozen BK153.out 0; have hfz23_1 := blk_frozen BK153.out 1; have hfz23_2 := blk_frozen BK153.out 2; have hfz23_3 := blk_frozen BK153.out 3; have hfz23_4 := blk_frozen BK153.out 4; have hfz23_5 := blk_frozen BK153.out 5; have hfz23_6 := blk_frozen BK153.out 6) | (go_at_call 46; (with_reducible refine (instr_isBlock.calls ((rd_T54 l0 x15_1).f0) t155 _ A20.out).mono ?_); rintro e w' ⟨rfl, ⟨nd, rfl⟩⟩))
                      go_meet
                      case rel => exact ⟨_, (t155), (by first | rfl | (simp; done) | (simp [*]; done)), H', ⟨by have := HK1.out; first | omega | exact Nat.le_refl _⟩, ⟨by (with_reducible repeat (first | refine blk_drewN ?_ _ | refine blk_drew ?_ | refine blk_alloc ?_ _)); exact BK153.out⟩, ⟨by repeat (first | (with_reducible first | exact HB.out | apply below_alloc | apply pw_below_drewN | apply below_drew1 | refine below_set ?_ GE153.out) | exact HB.out)⟩⟩
                · rw [if_neg c11] at H
                  have c11b0 : (a1 == 32) = false := beq_eq_false_iff_ne.mpr c11
                  have c11b1 : (a1 != 32) = true := bne_iff_ne.mpr c11
                  (first | rw [c11b0] | (simp only [i64_w, i32_w]; rw [c11b0]) | skip)
                  have H' := Aside0.mk H
                  clear H
                  have hcz24_0 : w7.cell? ⟨gb153, 0, none⟩ = some (.int .i64 0) := (blk_cell BK153.out 0).trans rfl
                  have hcz24_1 : w7.cell? ⟨gb153, 1, none⟩ = some (.int .i64 0) := (blk_cell BK153.out 1).trans rfl
                  have hcz24_2 : w7.cell? ⟨gb153, 2, none⟩ = some (.int .i64 0) := (blk_cell BK153.out 2).trans rfl
                  have hcz24_3 : w7.cell? ⟨gb153, 3, none⟩ = some (.int .i64 0) := (blk_cell BK153.out 3).trans rfl
                  have hcz24_4 : w7.cell? ⟨gb153, 4, none⟩ = some (.slice none 0 0) := (blk_cell BK153.out 4).trans rfl
                  have hcz24_5 : w7.cell? ⟨gb153, 5, none⟩ = some (.slice none 0 0) := (blk_cell BK153.out 5).trans rfl
                  have hcz24_6 : w7.cell? ⟨gb153, 6, none⟩ = some (.slice none 0 0) := (blk_cell BK153.out 6).trans rfl
                  have hfz24_0 := blk_frozen BK153.out 0
                  have hfz24_1 := blk_frozen BK153.out 1
                  have hfz24_2 := blk_frozen BK153.out 2
                  have hfz24_3 := blk_frozen BK153.out 3
                  have hfz24_4 := blk_frozen BK153.out 4
                  have hfz24_5 := blk_frozen BK153.out 5
                  have hfz24_6 := blk_frozen BK153.out 6
                  go_wp2_with (first | ((with_reducible refine gate_callee (f := 45) rfl ?_); refine goesL_ (some 20) rfl rfl Try.func45 (by kernel_rfl) rfl #[.agg #[.int .i64 ((rd_T54 l0 x15_1).f0), .int .i64 ((rd_T54 l0 x15_1).f1), .int .i64 ((rd_T54 l0 x15_1).f2), .int .i64 ((rd_T54 l0 x15_1).f3), .slice A152_4 ((rd_T54 l0 x15_1).f4).length c152_4, .slice A152_5 ((rd_T54 l0 x15_1).f5).length c152_5, .slice A152_6 ((rd_T54 l0 x15_1).f6).length c152_6]] rfl (by (try simp only [List.map_toArray, List.map_cons, List.map_nil]); first | done | rfl | (simp only [List.length_drop, List.length_take]; rfl)) ?_; (with_reducible refine (instr_may.calls ((rd_T54 l0 x15_1).f0) ((rd_T54 l0 x15_1).f1) ((rd_T54 l0 x15_1).f2) ((rd_T54 l0 x15_1).f3) _ _ ((rd_T54 l0 x15_1).f4) _ _ ((rd_T54 l0 x15_1).f5) _ _ ((rd_T54 l0 x15_1).f6) true _ ?side1 ?side2 ?side3 ?side4 ?side5 ?side6 A9.out).mono ?_); (case side1 => exact Kd.C_below HR152_4.out (by repeat (first | (with_reducible first | exact HB.out | apply below_alloc | apply pw_below_drewN | apply below_drew1 | refine below_set ?_ GE153.out) | exact HB.out))); (case side2 => exact HC152_4.out); (case side3 => exact Kd.C_below HR152_5.out (by repeat (first | (with_reducible first | exact HB.out | apply below_alloc | apply pw_below_drewN | apply below_drew1 | refine below_set ?_ GE153.out) | exact HB.out))); (case side4 => exact HC152_5.out); (case side5 => exact Kd.C_below HR152_6.out (by repeat (first | (with_reducible first | exact HB.out | apply below_alloc | apply pw_below_drewN | apply below_drew1 | refine below_set ?_ GE153.out) | exact HB.out))); (case side6 => exact HC152_6.out); rintro e w25 ⟨rfl, hb⟩; refine ⟨_, rfl, ?_⟩; have n0_ := Aside0.mk (blk_below (g := gb153) (o := .cells #[.int .i64 ((rd_T54 l0 x15_1).f0), .int .i64 ((rd_T54 l0 x15_1).f1), .int .i64 ((rd_T54 l0 x15_1).f2), .int .i64 ((rd_T54 l0 x15_1).f3), .slice A152_4 ((rd_T54 l0 x15_1).f4).length c152_4, .slice A152_5 ((rd_T54 l0 x15_1).f5).length c152_5, .slice A152_6 ((rd_T54 l0 x15_1).f6).length c152_6] 54 (0, 0)) (by (with_reducible repeat (first | refine blk_drewN ?_ _ | refine blk_drew ?_ | refine blk_alloc ?_ _)); refine blk_put (cs := #[.int .i64 ((rd_T54 l0 x15_1).f0), .int .i64 ((rd_T54 l0 x15_1).f1), .int .i64 ((rd_T54 l0 x15_1).f2), .int .i64 ((rd_T54 l0 x15_1).f3), .slice A152_4 ((rd_T54 l0 x15_1).f4).length c152_4, .slice A152_5 ((rd_T54 l0 x15_1).f5).length c152_5, .slice none 0 0]) ?_ 6 _ rfl; (with_reducible repeat (first | refine blk_drewN ?_ _ | refine blk_drew ?_ | refine blk_alloc ?_ _)); refine blk_put (cs := #[.int .i64 ((rd_T54 l0 x15_1).f0), .int .i64 ((rd_T54 l0 x15_1).f1), .int .i64 ((rd_T54 l0 x15_1).f2), .int .i64 ((rd_T54 l0 x15_1).f3), .slice A152_4 ((rd_T54 l0 x15_1).f4).length c152_4, .slice none 0 0, .slice none 0 0]) ?_ 5 _ rfl; (with_reducible repeat (first | refine blk_drewN ?_ _ | refine blk_drew ?_ | refine blk_alloc ?_ _)); refine blk_put (cs := #[.int .i64 ((rd_T54 l0 x15_1).f0), .int .i64 ((rd_T54 l0 x15_1).f1), .int .i64 ((rd_T54 l0 x15_1).f2), .int .i64 ((rd_T54 l0 x15_1).f3), .slice none 0 0, .slice none 0 0, .slice none 0 0]) ?_ 4 _ rfl; (with_reducible repeat (first | refine blk_drewN ?_ _ | refine blk_drew ?_ | refine blk_alloc ?_ _)); refine blk_put (cs := #[.int .i64 ((rd_T54 l0 x15_1).f0), .int .i64 ((rd_T54 l0 x15_1).f1), .int .i64 ((rd_T54 l0 x15_1).f2), .int .i64 0, .slice none 0 0, .slice none 0 0, .slice none 0 0]) ?_ 3 _ rfl; (with_reducible repeat (first | refine blk_drewN ?_ _ | refine blk_drew ?_ | refine blk_alloc ?_ _)); refine blk_put (cs := #[.int .i64 ((rd_T54 l0 x15_1).f0), .int .i64 ((rd_T54 l0 x15_1).f1), .int .i64 0, .int .i64 0, .slice none 0 0, .slice none 0 0, .slice none 0 0]) ?_ 2 _ rfl; (with_reducible repeat (first | refine blk_drewN ?_ _ | refine blk_drew ?_ | refine blk_alloc ?_ _)); refine blk_put (cs := #[.int .i64 ((rd_T54 l0 x15_1).f0), .int .i64 0, .int .i64 0, .int .i64 0, .slice none 0 0, .slice none 0 0, .slice none 0 0]) ?_ 1 _ rfl; (with_reducible repeat (first | refine blk_drewN ?_ _ | refine blk_drew ?_ | refine blk_alloc ?_ _)); refine blk_put (cs := #[.int .i64 0, .int .i64 0, .int .i64 0, .int .i64 0, .slice none 0 0, .slice none 0 0, .slice none 0 0]) ?_ 0 _ rfl; (with_reducible repeat (first | refine blk_drewN ?_ _ | refine blk_drew ?_ | refine blk_alloc ?_ _)); exact BK153.out) hb); have n1_ := Aside0.mk (below_step (by repeat (first | (with_reducible first | exact HB.out | apply below_alloc | apply pw_below_drewN | apply below_drew1 | refine below_set ?_ GE153.out) | exact HB.out)) hb); clear BK153; clear HB; have BK153 := n0_; have HB := n1_; clear n0_ n1_; (try clear hb); (try clear hb2); (try clear hk); (try clear hi)))
                  go_meet
                  case rel => exact ⟨_, (false), (by first | rfl | (simp; done) | (simp [*]; done)), H', ⟨by have := HK1.out; first | omega | exact Nat.le_refl _⟩, ⟨by (with_reducible repeat (first | refine blk_drewN ?_ _ | refine blk_drew ?_ | refine blk_alloc ?_ _)); exact BK153.out⟩, ⟨by repeat (first | (with_reducible first | exact HB.out | apply below_alloc | apply pw_below_drewN | apply below_drew1 | refine below_set ?_ GE153.out) | exact HB.out)⟩⟩
              · replace c10 := Bool.eq_false_iff.mpr c10
                subst c10
                have H1 : (instr_count.j1 k1 a1 x6_1 l0 (l0.length : Int) x15_1 true ((rd_T54 l0 x15_1).f0) ((rd_T54 l0 x15_1).f1) ((rd_T54 l0 x15_1).f2) ((rd_T54 l0 x15_1).f3) ((rd_T54 l0 x15_1).f4) ((rd_T54 l0 x15_1).f5) ((rd_T54 l0 x15_1).f6)) = some (r1, r2) := by rw [if_neg (show ¬ (false = true) by decide)] at H; exact H
                clear H
                have H := H1
                clear H1
                have H' := Aside0.mk H
                clear H
                have hcz26_0 : w7.cell? ⟨gb153, 0, none⟩ = some (.int .i64 0) := (blk_cell BK153.out 0).trans rfl
                have hcz26_1 : w7.cell? ⟨gb153, 1, none⟩ = some (.int .i64 0) := (blk_cell BK153.out 1).trans rfl
                have hcz26_2 : w7.cell? ⟨gb153, 2, none⟩ = some (.int .i64 0) := (blk_cell BK153.out 2).trans rfl
                have hcz26_3 : w7.cell? ⟨gb153, 3, none⟩ = some (.int .i64 0) := (blk_cell BK153.out 3).trans rfl
                have hcz26_4 : w7.cell? ⟨gb153, 4, none⟩ = some (.slice none 0 0) := (blk_cell BK153.out 4).trans rfl
                have hcz26_5 : w7.cell? ⟨gb153, 5, none⟩ = some (.slice none 0 0) := (blk_cell BK153.out 5).trans rfl
                have hcz26_6 : w7.cell? ⟨gb153, 6, none⟩ = some (.slice none 0 0) := (blk_cell BK153.out 6).trans rfl
                have hfz26_0 := blk_frozen BK153.out 0
                have hfz26_1 := blk_frozen BK153.out 1
                have hfz26_2 := blk_frozen BK153.out 2
                have hfz26_3 := blk_frozen BK153.out 3
                have hfz26_4 := blk_frozen BK153.out 4
                have hfz26_5 := blk_frozen BK153.out 5
                have hfz26_6 := blk_frozen BK153.out 6
                go_wp2_with (first | ((with_reducible refine gate_callee (f := 45) rfl ?_); refine goesL_ (some 20) rfl rfl Try.func45 (by kernel_rfl) rfl #[.agg #[.int .i64 ((rd_T54 l0 x15_1).f0), .int .i64 ((rd_T54 l0 x15_1).f1), .int .i64 ((rd_T54 l0 x15_1).f2), .int .i64 ((rd_T54 l0 x15_1).f3), .slice A152_4 ((rd_T54 l0 x15_1).f4).length c152_4, .slice A152_5 ((rd_T54 l0 x15_1).f5).length c152_5, .slice A152_6 ((rd_T54 l0 x15_1).f6).length c152_6]] rfl (by (try simp only [List.map_toArray, List.map_cons, List.map_nil]); first | done | rfl | (simp only [List.length_drop, List.length_take]; rfl)) ?_; (with_reducible refine (instr_may.calls ((rd_T54 l0 x15_1).f0) ((rd_T54 l0 x15_1).f1) ((rd_T54 l0 x15_1).f2) ((rd_T54 l0 x15_1).f3) _ _ ((rd_T54 l0 x15_1).f4) _ _ ((rd_T54 l0 x15_1).f5) _ _ ((rd_T54 l0 x15_1).f6) false _ ?side1 ?side2 ?side3 ?side4 ?side5 ?side6 A9.out).mono ?_); (case side1 => exact Kd.C_below HR152_4.out (by repeat (first | (with_reducible first | exact HB.out | apply below_alloc | apply pw_below_drewN | apply below_drew1 | refine below_set ?_ GE153.out) | exact HB.out))); (case side2 => exact HC152_4.out); (case side3 => exact Kd.C_below HR152_5.out (by repeat (first | (with_reducible first | exact HB.out | apply below_alloc | apply pw_below_drewN | apply below_drew1 | refine below_set ?_ GE153.out) | exact HB.out))); (case side4 => exact HC152_5.out); (case side5 => exact Kd.C_below HR152_6.out (by repeat (first | (with_reducible first | exact HB.out | apply below_alloc | apply pw_below_drewN | apply below_drew1 | refine below_set ?_ GE153.out) | exact HB.out))); (case side6 => exact HC152_6.out); rintro e w27 ⟨rfl, hb⟩; refine ⟨_, rfl, ?_⟩; have n0_ := Aside0.mk (blk_below (g := gb153) (o := .cells #[.int .i64 ((rd_T54 l0 x15_1).f0), .int .i64 ((rd_T54 l0 x15_1).f1), .int .i64 ((rd_T54 l0 x15_1).f2), .int .i64 ((rd_T54 l0 x15_1).f3), .slice A152_4 ((rd_T54 l0 x15_1).f4).length c152_4, .slice A152_5 ((rd_T54 l0 x15_1).f5).length c152_5, .slice A152_6 ((rd_T54 l0 x15_1).f6).length c152_6] 54 (0, 0)) (by (with_reducible repeat (first | refine blk_drewN ?_ _ | refine blk_drew ?_ | refine blk_alloc ?_ _)); refine blk_put (cs := #[.int .i64 ((rd_T54 l0 x15_1).f0), .int .i64 ((rd_T54 l0 x15_1).f1), .int .i64 ((rd_T54 l0 x15_1).f2), .int .i64 ((rd_T54 l0 x15_1).f3), .slice A152_4 ((rd_T54 l0 x15_1).f4).length c152_4, .slice A152_5 ((rd_T54 l0 x15_1).f5).length c152_5, .slice none 0 0]) ?_ 6 _ rfl; (with_reducible repeat (first | refine blk_drewN ?_ _ | refine blk_drew ?_ | refine blk_alloc ?_ _)); refine blk_put (cs := #[.int .i64 ((rd_T54 l0 x15_1).f0), .int .i64 ((rd_T54 l0 x15_1).f1), .int .i64 ((rd_T54 l0 x15_1).f2), .int .i64 ((rd_T54 l0 x15_1).f3), .slice A152_4 ((rd_T54 l0 x15_1).f4).length c152_4, .slice none 0 0, .slice none 0 0]) ?_ 5 _ rfl; (with_reducible repeat (first | refine blk_drewN ?_ _ | refine blk_drew ?_ | refine blk_alloc ?_ _)); refine blk_put (cs := #[.int .i64 ((rd_T54 l0 x15_1).f0), .int .i64 ((rd_T54 l0 x15_1).f1), .int .i64 ((rd_T54 l0 x15_1).f2), .int .i64 ((rd_T54 l0 x15_1).f3), .slice none 0 0, .slice none 0 0, .slice none 0 0]) ?_ 4 _ rfl; (with_reducible repeat (first | refine blk_drewN ?_ _ | refine blk_drew ?_ | refine blk_alloc ?_ _)); refine blk_put (cs := #[.int .i64 ((rd_T54 l0 x15_1).f0), .int .i64 ((rd_T54 l0 x15_1).f1), .int .i64 ((rd_T54 l0 x15_1).f2), .int .i64 0, .slice none 0 0, .slice none 0 0, .slice none 0 0]) ?_ 3 _ rfl; (with_reducible repeat (first | refine blk_drewN ?_ _ | refine blk_drew ?_ | refine blk_alloc ?_ _)); refine blk_put (cs := #[.int .i64 ((rd_T54 l0 x15_1).f0), .int .i64 ((rd_T54 l0 x15_1).f1), .int .i64 0, .int .i64 0, .slice none 0 0, .slice none 0 0, .slice none 0 0]) ?_ 2 _ rfl; (with_reducible repeat (first | refine blk_drewN ?_ _ | refine blk_drew ?_ | refine blk_alloc ?_ _)); refine blk_put (cs := #[.int .i64 ((rd_T54 l0 x15_1).f0), .int .i64 0, .int .i64 0, .int .i64 0, .slice none 0 0, .slice none 0 0, .slice none 0 0]) ?_ 1 _ rfl; (with_reducible repeat (first | refine blk_drewN ?_ _ | refine blk_drew ?_ | refine blk_alloc ?_ _)); refine blk_put (cs := #[.int .i64 0, .int .i64 0, .int .i64 0, .int .i64 0, .slice none 0 0, .slice none 0 0, .slice none 0 0]) ?_ 0 _ rfl; (with_reducible repeat (first | refine blk_drewN ?_ _ | refine blk_drew ?_ | refine blk_alloc ?_ _)); exact BK153.out) hb); have n1_ := Aside0.mk (below_step (by repeat (first | (with_reducible first | exact HB.out | apply below_alloc | apply pw_below_drewN | apply below_drew1 | refine below_set ?_ GE153.out) | exact HB.out)) hb); clear BK153; clear HB; have BK153 := n0_; have HB := n1_; clear n0_ n1_; (try clear hb); (try clear hb2); (try clear hk); (try clear hi)))
                go_meet
                case rel => exact ⟨_, (true), (by first | rfl | (simp; done) | (simp [*]; done)), H', ⟨by have := HK1.out; first | omega | exact Nat.le_refl _⟩, ⟨by (with_reducible repeat (first | refine blk_drewN ?_ _ | refine blk_drew ?_ | refine blk_alloc ?_ _)); exact BK153.out⟩, ⟨by repeat (first | (with_reducible first | exact HB.out | apply below_alloc | apply pw_below_drewN | apply below_drew1 | refine below_set ?_ GE153.out) | exact HB.out)⟩⟩
            case rest =>
              clear HC6
              try clear c1
              try clear p1
              try clear q1
              try clear hx1
              try clear p2
              try clear c3
              try clear c3b0
              try clear c4
              try clear c4b0
              try clear c5
              try clear c5b0
              try clear c10
              try clear c11
              try clear c11b0
              try clear c11b1
              try clear c12
              try clear c12b0
              try clear c12b1
              try clear c15
              try clear p15
              try clear q15
              try clear hx15
              try clear c16
              try clear c16b0
              try clear c16b1
              try clear hcz13_0
              try clear hcz13_1
              try clear hcz13_2
              try clear hcz13_3
              try clear hcz13_4
              try clear hcz13_5
              try clear hcz13_6
              try clear hcz15_0
              try clear hcz15_1
              try clear hcz15_2
              try clear hcz15_3
              try clear hcz15_4
              try clear hcz15_5
              try clear hcz15_6
              try clear hcz17_0
              try clear hcz17_1
              try clear hcz17_2
              try clear hcz17_3
              try clear hcz17_4
              try clear hcz17_5
              try clear hcz17_6
              try clear hcz19_0
              try clear hcz19_1
              try clear hcz19_2
              try clear hcz19_3
              try clear hcz19_4
              try clear hcz19_5
              try clear hcz19_6
              try clear hcz21_0
              try clear hcz21_1
              try clear hcz21_2
              try clear hcz21_3
              try clear hcz21_4
              try clear hcz21_5
              try clear hcz21_6
              try clear hcz23_0
              try clear hcz23_1
              try clear hcz23_2
              try clear hcz23_3
              try clear hcz23_4
              try clear hcz23_5
              try clear hcz23_6
              try clear hcz24_0
              try clear hcz24_1
              try clear hcz24_2
              try clear hcz24_3
              try clear hcz24_4
              try clear hcz24_5
              try clear hcz24_6
              try clear hcz26_0
              try clear hcz26_1
              try clear hcz26_2
              try clear hcz26_3
              try clear hcz26_4
              try clear hcz26_5
              try clear hcz26_6
              try clear hcz8_0
              try clear hcz8_1
              try clear hcz8_2
              try clear hcz8_3
              try clear hcz8_4
              try clear hcz8_5
              try clear hcz8_6
              try clear hfz13_0
              try clear hfz13_1
              try clear hfz13_2
              try clear hfz13_3
              try clear hfz13_4
              try clear hfz13_5
              try clear hfz13_6
              try clear hfz15_0
              try clear hfz15_1
              try clear hfz15_2
              try clear hfz15_3
              try clear hfz15_4
              try clear hfz15_5
              try clear hfz15_6
              try clear hfz17_0
              try clear hfz17_1
              try clear hfz17_2
              try clear hfz17_3
              try clear hfz17_4
              try clear hfz17_5
              try clear hfz17_6
              try clear hfz19_0
              try clear hfz19_1
              try clear hfz19_2
              try clear hfz19_3
              try clear hfz19_4
              try clear hfz19_5
              try clear hfz19_6
              try clear hfz21_0
              try clear hfz21_1
              try clear hfz21_2
              try clear hfz21_3
              try clear hfz21_4
              try clear hfz21_5
              try clear hfz21_6
              try clear hfz23_0
              try clear hfz23_1
              try clear hfz23_2
              try clear hfz23_3
              try clear hfz23_4
              try clear hfz23_5
              try clear hfz23_6
              try clear hfz24_0
              try clear hfz24_1
              try clear hfz24_2
              try clear hfz24_3
              try clear hfz24_4
              try clear hfz24_5
              try clear hfz24_6
              try clear hfz26_0
              try clear hfz26_1
              try clear hfz26_2
              try clear hfz26_3
              try clear hfz26_4
              try clear hfz26_5
              try clear hfz26_6
              try clear hfz8_0
              try clear hfz8_1
              try clear hfz8_2
              try clear hfz8_3
              try clear hfz8_4
              try clear hfz8_5
              try clear hfz8_6
              try clear hx152_0
              try clear hx152_1
              try clear hx152_2
              try clear hx152_3
              try clear hx152_4
              try clear hx152_5
              try clear hx152_6
              try clear p152
              try clear p2
              try clear q152
              obtain ⟨kq, x42_5, rfl, HA, HJ5, BK153, HB⟩ := hcut
              cases kq with
              | zero => exact absurd HA.out (by simp [instr_count.j1])
              | succ kj5 =>
                have H := HA.out
                clear HA
                simp only [instr_count.j1] at H
                by_cases c28 : x42_5 = true
                · subst c28
                  have H1 : (some (0, false)) = some (r1, r2) := by rw [if_pos rfl] at H; exact H
                  clear H
                  have H := H1
                  clear H1
                  simp only [Option.some.injEq, Prod.mk.injEq] at H
                  obtain ⟨rfl, rfl⟩ := H
                  go_wp2
                  go_ret2
                  exact ⟨by first | rfl | (simp [errW_none, errW_some] <;> rfl) | (simp [*, errW_none, errW_some] <;> rfl), by repeat (first | (with_reducible first | exact HB.out | apply below_alloc | apply pw_below_drewN | apply below_drew1 | refine below_set ?_ GE153.out) | exact HB.out)⟩
                · replace c28 := Bool.eq_false_iff.mpr c28
                  subst c28
                  have H1 : ((instr_count.f kj5 ((rd_T54 l0 x15_1).f5) (wrap64 (a1 + 1))).bind fun bt156 => ((instr_count.f kj5 ((rd_T54 l0 x15_1).f6) (wrap64 (a1 + 1))).bind fun bt158 => (if bt156.2 = true then (instr_count.j2 kj5 a1 x6_1 bt156.1 bt158.1 l0 (l0.length : Int) x15_1 (!bt158.2)) else (instr_count.j2 kj5 a1 x6_1 bt156.1 bt158.1 l0 (l0.length : Int) x15_1 true)))) = some (r1, r2) := by rw [if_neg (show ¬ (false = true) by decide)] at H; exact H
                  clear H
                  have H := H1
                  clear H1
                  replace H := Option.bind_eq_some_iff.mp H
                  obtain ⟨⟨t156, t157⟩, A290, H⟩ := H
                  replace H : ((instr_count.f kj5 ((rd_T54 l0 x15_1).f6) (wrap64 (a1 + 1))).bind fun bt158 => (if t157 = true then (instr_count.j2 kj5 a1 x6_1 t156 bt158.1 l0 (l0.length : Int) x15_1 (!bt158.2)) else (instr_count.j2 kj5 a1 x6_1 t156 bt158.1 l0 (l0.length : Int) x15_1 true))) = some (r1, r2) := H
                  have A29 := Aside0.mk A290
                  clear A290
                  replace H := Option.bind_eq_some_iff.mp H
                  obtain ⟨⟨t158, t159⟩, A300, H⟩ := H
                  replace H : (if t157 = true then (instr_count.j2 kj5 a1 x6_1 t156 t158 l0 (l0.length : Int) x15_1 (!t159)) else (instr_count.j2 kj5 a1 x6_1 t156 t158 l0 (l0.length : Int) x15_1 true)) = some (r1, r2) := H
                  have A30 := Aside0.mk A300
                  clear A300
                  have HC31 := Aside0.mk H
                  clear H
                  have hcz32_0 : wc.cell? ⟨gb153, 0, none⟩ = some (.int .i64 ((rd_T54 l0 x15_1).f0)) := (blk_cell BK153.out 0).trans rfl
                  have hcz32_1 : wc.cell? ⟨gb153, 1, none⟩ = some (.int .i64 ((rd_T54 l0 x15_1).f1)) := (blk_cell BK153.out 1).trans rfl
                  have hcz32_2 : wc.cell? ⟨gb153, 2, none⟩ = some (.int .i64 ((rd_T54 l0 x15_1).f2)) := (blk_cell BK153.out 2).trans rfl
                  have hcz32_3 : wc.cell? ⟨gb153, 3, none⟩ = some (.int .i64 ((rd_T54 l0 x15_1).f3)) := (blk_cell BK153.out 3).trans rfl
                  have hcz32_4 : wc.cell? ⟨gb153, 4, none⟩ = some (.slice A152_4 ((rd_T54 l0 x15_1).f4).length c152_4) := (blk_cell BK153.out 4).trans rfl
                  have hcz32_5 : wc.cell? ⟨gb153, 5, none⟩ = some (.slice A152_5 ((rd_T54 l0 x15_1).f5).length c152_5) := (blk_cell BK153.out 5).trans rfl
                  have hcz32_6 : wc.cell? ⟨gb153, 6, none⟩ = some (.slice A152_6 ((rd_T54 l0 x15_1).f6).length c152_6) := (blk_cell BK153.out 6).trans rfl
                  have hfz32_0 := blk_frozen BK153.out 0
                  have hfz32_1 := blk_frozen BK153.out 1
                  have hfz32_2 := blk_frozen BK153.out 2
                  have hfz32_3 := blk_frozen BK153.out 3
                  have hfz32_4 := blk_frozen BK153.out 4
                  have hfz32_5 := blk_frozen BK153.out 5
                  have hfz32_6 := blk_frozen BK153.out 6
                  go_upto_region 9 with (first | ((with_reducible refine gate_callee (f := 33) rfl ?_); refine goesL_ (some 48) rfl rfl Try.func33 (by kernel_rfl) rfl #[.slice A152_5 ((rd_T54 l0 x15_1).f5).length c152_5, .int .i64 (wrap64 (a1 + 1))] rfl (by (try simp only [List.map_toArray, List.map_cons, List.map_nil]); first | done | rfl | (simp only [List.length_drop, List.length_take]; rfl)) ?_; (with_reducible refine (ih kj5 (by have := HK1.out; have := HJ5.out; omega) _ _ ((rd_T54 l0 x15_1).f5) (wrap64 (a1 + 1)) t156 t157 _ ?side1 ?side2 A29.out).mono ?_); (case side1 => repeat (first | exact (Kd.C_below HR152_5.out HB.out) | (with_reducible refine Kd.C_alloc ?_ _) | (with_reducible refine Kd.C_drewN ?_ _) | (with_reducible refine Kd.C_drew ?_))); (case side2 => exact HC152_5.out); rintro e w33 ⟨rfl, hb⟩; refine ⟨_, rfl, ?_⟩; have n0_ := Aside0.mk (blk_below (g := gb153) (o := .cells #[.int .i64 ((rd_T54 l0 x15_1).f0), .int .i64 ((rd_T54 l0 x15_1).f1), .int .i64 ((rd_T54 l0 x15_1).f2), .int .i64 ((rd_T54 l0 x15_1).f3), .slice A152_4 ((rd_T54 l0 x15_1).f4).length c152_4, .slice A152_5 ((rd_T54 l0 x15_1).f5).length c152_5, .slice A152_6 ((rd_T54 l0 x15_1).f6).length c152_6] 54 (0, 0)) (by (with_reducible repeat (first | refine blk_drewN ?_ _ | refine blk_drew ?_ | refine blk_alloc ?_ _)); exact BK153.out) hb); have n1_ := Aside0.mk (below_step (by repeat (first | (with_reducible first | exact HB.out | apply below_alloc | apply pw_below_drewN | apply below_drew1 | refine below_set ?_ GE153.out) | exact HB.out)) hb); clear BK153; clear HB; have BK153 := n0_; have HB := n1_; clear n0_ n1_; (try clear hb); (try clear hb2); (try clear hk); (try clear hi); have hcz34_0 : w33.cell? ⟨gb153, 0, none⟩ = some (.int .i64 ((rd_T54 l0 x15_1).f0)) := (blk_cell BK153.out 0).trans rfl; have hcz34_1 : w33.cell? ⟨gb153, 1, none⟩ = some (.int .i64 ((rd_T54 l0 x15_1).f1)) := (blk_cell BK153.out 1).trans rfl; have hcz34_2 : w33.cell? ⟨gb153, 2, none⟩ = some (.int .i64 ((rd_T54 l0 x15_1).f2)) := (blk_cell BK153.out 2).trans rfl; have hcz34_3 : w33.cell? ⟨gb153, 3, none⟩ = some (.int .i64 ((rd_T54 l0 x15_1).f3)) := (blk_cell BK153.out 3).trans rfl; have hcz34_4 : w33.cell? ⟨gb153, 4, none⟩ = some (.slice A152_4 ((rd_T54 l0 x15_1).f4).length c152_4) := (blk_cell BK153.out 4).trans rfl; have hcz34_5 : w33.cell? ⟨gb153, 5, none⟩ = some (.slice A152_5 ((rd_T54 l0 x15_1).f5).length c152_5) := (blk_cell BK153.out 5).trans rfl; have hcz34_6 : w33.cell? ⟨gb153, 6, none⟩ = some (.slice A152_6 ((rd_T54 l0 x15_1).f6).length c152_6) := (blk_cell BK153.out 6).trans rfl; have hfz34_0 := blk_frozen BK153.out 0; have hfz34_1 := blk_frozen BK153.out 1; have hfz34_2 := blk_frozen BK153.out 2; have hfz34_3 := blk_frozen BK153.out 3; have hfz34_4 := blk_frozen BK153.out 4; have hfz34_5 := blk_frozen BK153.out 5; have hfz34_6 := blk_frozen BK153.out 6) | ((with_reducible refine gate_callee (f := 33) rfl ?_); refine goesL_ (some 56) rfl rfl Try.func33 (by kernel_rfl) rfl #[.slice A152_6 ((rd_T54 l0 x15_1).f6).length c152_6, .int .i64 (wrap64 (a1 + 1))] rfl (by (try simp only [List.map_toArray, List.map_cons, List.map_nil]); first | done | rfl | (simp only [List.length_drop, List.length_take]; rfl)) ?_; (with_reducible refine (ih kj5 (by have := HK1.out; have := HJ5.out; omega) _ _ ((rd_T54 l0 x15_1).f6) (wrap64 (a1 + 1)) t158 t159 _ ?side1 ?side2 A30.out).mono ?_); (case side1 => repeat (first | exact (Kd.C_below HR152_6.out HB.out) | (with_reducible refine Kd.C_alloc ?_ _) | (with_reducible refine Kd.C_drewN ?_ _) | (with_reducible refine Kd.C_drew ?_))); (case side2 => exact HC152_6.out); rintro e w35 ⟨rfl, hb⟩; refine ⟨_, rfl, ?_⟩; have n0_ := Aside0.mk (blk_below (g := gb153) (o := .cells #[.int .i64 ((rd_T54 l0 x15_1).f0), .int .i64 ((rd_T54 l0 x15_1).f1), .int .i64 ((rd_T54 l0 x15_1).f2), .int .i64 ((rd_T54 l0 x15_1).f3), .slice A152_4 ((rd_T54 l0 x15_1).f4).length c152_4, .slice A152_5 ((rd_T54 l0 x15_1).f5).length c152_5, .slice A152_6 ((rd_T54 l0 x15_1).f6).length c152_6] 54 (0, 0)) (by (with_reducible repeat (first | refine blk_drewN ?_ _ | refine blk_drew ?_ | refine blk_alloc ?_ _)); exact BK153.out) hb); have n1_ := Aside0.mk (below_step (by repeat (first | (with_reducible first | exact HB.out | apply below_alloc | apply pw_below_drewN | apply below_drew1 | refine below_set ?_ GE153.out) | exact HB.out)) hb); clear BK153; clear HB; have BK153 := n0_; have HB := n1_; clear n0_ n1_; (try clear hb); (try clear hb2); (try clear hk); (try clear hi)))
                  (try simp only [Act.put, List.setIfInBounds_toArray, List.set_cons_zero, List.set_cons_succ])
                  go_cut [64] (fun v64 wc => ∃ (kq : Nat) (x64_30 : Bool), v64 = .bool x64_30 ∧ Aside0 (instr_count.j2 kq a1 x6_1 t156 t158 l0 (l0.length : Int) x15_1 x64_30 = some (r1, r2)) ∧ Aside0 (kq ≤ kj5) ∧ Aside0 (wc.heap[gb153]? = some (.cells #[.int .i64 ((rd_T54 l0 x15_1).f0), .int .i64 ((rd_T54 l0 x15_1).f1), .int .i64 ((rd_T54 l0 x15_1).f2), .int .i64 ((rd_T54 l0 x15_1).f3), (.slice A152_4 ((rd_T54 l0 x15_1).f4).length c152_4), (.slice A152_5 ((rd_T54 l0 x15_1).f5).length c152_5), (.slice A152_6 ((rd_T54 l0 x15_1).f6).length c152_6)] 54 (0, 0))) ∧ Aside0 (Below w.heap.size w wc))
                  case first =>
                    have H := HC31.out
                    clear HC31
                    by_cases c36 : t157 = true
                    · subst c36
                      have H1 : (instr_count.j2 kj5 a1 x6_1 t156 t158 l0 (l0.length : Int) x15_1 (!t159)) = some (r1, r2) := by rw [if_pos rfl] at H; exact H
                      clear H
                      have H := H1
                      clear H1
                      have H' := Aside0.mk H
                      clear H
                      go_wp2
                      go_meet
                      case rel => exact ⟨_, (!t159), (by first | rfl | (simp; done) | (simp [*]; done)), H', ⟨by have := HK1.out; have := HJ5.out; first | omega | exact Nat.le_refl _⟩, ⟨by (with_reducible repeat (first | refine blk_drewN ?_ _ | refine blk_drew ?_ | refine blk_alloc ?_ _)); exact BK153.out⟩, ⟨by repeat (first | (with_reducible first | exact HB.out | apply below_alloc | apply pw_below_drewN | apply below_drew1 | refine below_set ?_ GE153.out) | exact HB.out)⟩⟩
                    · replace c36 := Bool.eq_false_iff.mpr c36
                      subst c36
                      have H1 : (instr_count.j2 kj5 a1 x6_1 t156 t158 l0 (l0.length : Int) x15_1 true) = some (r1, r2) := by rw [if_neg (show ¬ (false = true) by decide)] at H; exact H
                      clear H
                      have H := H1
                      clear H1
                      have H' := Aside0.mk H
                      clear H
                      go_wp2
                      go_meet
                      case rel => exact ⟨_, (true), (by first | rfl | (simp; done) | (simp [*]; done)), H', ⟨by have := HK1.out; have := HJ5.out; first | omega | exact Nat.le_refl _⟩, ⟨by (with_reducible repeat (first | refine blk_drewN ?_ _ | refine blk_drew ?_ | refine blk_alloc ?_ _)); exact BK153.out⟩, ⟨by repeat (first | (with_reducible first | exact HB.out | apply below_alloc | apply pw_below_drewN | apply below_drew1 | refine below_set ?_ GE153.out) | exact HB.out)⟩⟩
                  case rest =>
                    clear HC31
                    try clear c1
                    try clear p1
                    try clear q1
                    try clear hx1
                    try clear c2
                    try clear p2
                    try clear c3
                    try clear c3b0
                    try clear c4
                    try clear c4b0
                    try clear c5
                    try clear c5b0
                    try clear p6
                    try clear c10
                    try clear c11
                    try clear c11b0
                    try clear c11b1
                    try clear c12
                    try clear c12b0
                    try clear c12b1
                    try clear c15
                    try clear p15
                    try clear q15
                    try clear hx15
                    try clear c16
                    try clear c16b0
                    try clear c16b1
                    try clear c28
                    try clear c33
                    try clear c36
                    try clear hcz13_0
                    try clear hcz13_1
                    try clear hcz13_2
                    try clear hcz13_3
                    try clear hcz13_4
                    try clear hcz13_5
                    try clear hcz13_6
                    try clear hcz15_0
                    try clear hcz15_1
                    try clear hcz15_2
                    try clear hcz15_3
                    try clear hcz15_4
                    try clear hcz15_5
                    try clear hcz15_6
                    try clear hcz17_0
                    try clear hcz17_1
                    try clear hcz17_2
                    try clear hcz17_3
                    try clear hcz17_4
                    try clear hcz17_5
                    try clear hcz17_6
                    try clear hcz19_0
                    try clear hcz19_1
                    try clear hcz19_2
                    try clear hcz19_3
                    try clear hcz19_4
                    try clear hcz19_5
                    try clear hcz19_6
                    try clear hcz21_0
                    try clear hcz21_1
                    try clear hcz21_2
                    try clear hcz21_3
                    try clear hcz21_4
                    try clear hcz21_5
                    try clear hcz21_6
                    try clear hcz23_0
                    try clear hcz23_1
                    try clear hcz23_2
                    try clear hcz23_3
                    try clear hcz23_4
                    try clear hcz23_5
                    try clear hcz23_6
                    try clear hcz24_0
                    try clear hcz24_1
                    try clear hcz24_2
                    try clear hcz24_3
                    try clear hcz24_4
                    try clear hcz24_5
                    try clear hcz24_6
                    try clear hcz26_0
                    try clear hcz26_1
                    try clear hcz26_2
                    try clear hcz26_3
                    try clear hcz26_4
                    try clear hcz26_5
                    try clear hcz26_6
                    try clear hcz32_0
                    try clear hcz32_1
                    try clear hcz32_2
                    try clear hcz32_3
                    try clear hcz32_4
                    try clear hcz32_5
                    try clear hcz32_6
                    try clear hcz34_0
                    try clear hcz34_1
                    try clear hcz34_2
                    try clear hcz34_3
                    try clear hcz34_4
                    try clear hcz34_5
                    try clear hcz34_6
                    try clear hcz8_0
                    try clear hcz8_1
                    try clear hcz8_2
                    try clear hcz8_3
                    try clear hcz8_4
                    try clear hcz8_5
                    try clear hcz8_6
                    try clear hfz13_0
                    try clear hfz13_1
                    try clear hfz13_2
                    try clear hfz13_3
                    try clear hfz13_4
                    try clear hfz13_5
                    try clear hfz13_6
                    try clear hfz15_0
                    try clear hfz15_1
                    try clear hfz15_2
                    try clear hfz15_3
                    try clear hfz15_4
                    try clear hfz15_5
                    try clear hfz15_6
                    try clear hfz17_0
                    try clear hfz17_1
                    try clear hfz17_2
                    try clear hfz17_3
                    try clear hfz17_4
                    try clear hfz17_5
                    try clear hfz17_6
                    try clear hfz19_0
                    try clear hfz19_1
                    try clear hfz19_2
                    try clear hfz19_3
                    try clear hfz19_4
                    try clear hfz19_5
                    try clear hfz19_6
                    try clear hfz21_0
                    try clear hfz21_1
                    try clear hfz21_2
                    try clear hfz21_3
                    try clear hfz21_4
                    try clear hfz21_5
                    try clear hfz21_6
                    try clear hfz23_0
                    try clear hfz23_1
                    try clear hfz23_2
                    try clear hfz23_3
                    try clear hfz23_4
                    try clear hfz23_5
                    try clear hfz23_6
                    try clear hfz24_0
                    try clear hfz24_1
                    try clear hfz24_2
                    try clear hfz24_3
                    try clear hfz24_4
                    try clear hfz24_5
                    try clear hfz24_6
                    try clear hfz26_0
                    try clear hfz26_1
                    try clear hfz26_2
                    try clear hfz26_3
                    try clear hfz26_4
                    try clear hfz26_5
                    try clear hfz26_6
                    try clear hfz32_0
                    try clear hfz32_1
                    try clear hfz32_2
                    try clear hfz32_3
                    try clear hfz32_4
                    try clear hfz32_5
                    try clear hfz32_6
                    try clear hfz34_0
                    try clear hfz34_1
                    try clear hfz34_2
                    try clear hfz34_3
                    try clear hfz34_4
                    try clear hfz34_5
                    try clear hfz34_6
                    try clear hfz8_0
                    try clear hfz8_1
                    try clear hfz8_2
                    try clear hfz8_3
                    try clear hfz8_4
                    try clear hfz8_5
                    try clear hfz8_6
                    try clear hx152_0
                    try clear hx152_1
                    try clear hx152_2
                    try clear hx152_3
                    try clear hx152_4
                    try clear hx152_5
                    try clear hx152_6
                    try clear p1
                    try clear p15
                    try clear p152
                    try clear p2
                    try clear q1
                    try clear q15
                    try clear q152
                    obtain ⟨kq, x64_30, rfl, HA, HJ30, BK153, HB⟩ := hcut
                    cases kq with
                    | zero => exact absurd HA.out (by simp [instr_count.j2])
                    | succ kj30 =>
                      have H := HA.out
                      clear HA
                      simp only [instr_count.j2] at H
                      by_cases c37 : x64_30 = true
                      · subst c37
                        have H1 : (some (0, false)) = some (r1, r2) := by rw [if_pos rfl] at H; exact H
                        clear H
                        have H := H1
                        clear H1
                        simp only [Option.some.injEq, Prod.mk.injEq] at H
                        obtain ⟨rfl, rfl⟩ := H
                        go_wp2
                        go_ret2
                        exact ⟨by first | rfl | (simp [errW_none, errW_some] <;> rfl) | (simp [*, errW_none, errW_some] <;> rfl), by repeat (first | (with_reducible first | exact HB.out | apply below_alloc | apply pw_below_drewN | apply below_drew1 | refine below_set ?_ GE153.out) | exact HB.out)⟩
                      · replace c37 := Bool.eq_false_iff.mpr c37
                        subst c37
                        have H1 : (if (wrap64 (x6_1 + (wrap64 ((wrap64 (1 + t156)) + t158)))) > 8192 then (some (0, false)) else (instr_count.l0 kj30 a1 (wrap64 (x6_1 + (wrap64 ((wrap64 (1 + t156)) + t158)))) l0 (l0.length : Int) (wrap64 (x15_1 + 1)))) = some (r1, r2) := by rw [if_neg (show ¬ (false = true) by decide)] at H; exact H
                        clear H
                        have H := H1
                        clear H1
                        by_cases c38 : (wrap64 (x6_1 + (wrap64 ((wrap64 (1 + t156)) + t158)))) > 8192
                        · rw [if_pos c38] at H
                          have c38b0 : decide (8192 < (wrap64 (x6_1 + (wrap64 ((wrap64 (1 + t156)) + t158))))) = true := decide_eq_true c38
                          clear c38
                          simp only [Option.some.injEq, Prod.mk.injEq] at H
                          obtain ⟨rfl, rfl⟩ := H
                          go_wp2
                          go_ret2
                          exact ⟨by first | rfl | (simp [errW_none, errW_some] <;> rfl) | (simp [*, errW_none, errW_some] <;> rfl), by repeat (first | (with_reducible first | exact HB.out | apply below_alloc | apply pw_below_drewN | apply below_drew1 | refine below_set ?_ GE153.out) | exact HB.out)⟩
                        · rw [if_neg c38] at H
                          have c38b0 : decide (8192 < (wrap64 (x6_1 + (wrap64 ((wrap64 (1 + t156)) + t158))))) = false := decide_eq_false c38
                          clear c38
                          have H' := Aside0.mk H
                          clear H
                          go_wp2
                          go_roundg kj30
                          case measure => have := HK1.out; have := HJ5.out; have := HJ30.out; omega
                          case rel => exact ⟨(wrap64 (x6_1 + (wrap64 ((wrap64 (1 + t156)) + t158)))), (wrap64 (x15_1 + 1)), (by first | rfl | (simp; done) | (simp [*]; done)), (by first | rfl | (simp; done) | (simp [*]; done)), H', ⟨by have := HK1.out; have := HJ5.out; have := HJ30.out; omega⟩, ⟨by repeat (first | (with_reducible first | exact HB.out | apply below_alloc | apply pw_below_drewN | apply below_drew1 | refine below_set ?_ GE153.out) | exact HB.out)⟩⟩
          · rw [if_neg c5] at H
            exact absurd H (by simp)
        · rw [if_neg c4] at H
          exact absurd H (by simp)
      · rw [if_neg c3] at H
        have c3b0 : decide (x15_1 < (l0.length : Int)) = false := decide_eq_false c3
        clear c3
        simp only [Option.some.injEq, Prod.mk.injEq] at H
        obtain ⟨rfl, rfl⟩ := H
        go_wp2
        go_ret2
        exact ⟨by first | rfl | (simp [errW_none, errW_some] <;> rfl) | (simp [*, errW_none, errW_some] <;> rfl), by repeat (first | (with_reducible first | exact HB.out | apply below_alloc | apply pw_below_drewN | apply below_drew1) | exact HB.out)⟩
end Go.Proofs.Ytckhlbpjehbnlaa.PB
