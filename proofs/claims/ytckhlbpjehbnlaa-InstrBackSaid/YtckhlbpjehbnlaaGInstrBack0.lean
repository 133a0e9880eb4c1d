/- Several texts of this session, laid into one for a claim: PBx57, PBx58, PBx59, InstrS, InstrBk. -/
import Derived.Test.YtckhlbpjehbnlaaGBase0
import Derived.Test.YtckhlbpjehbnlaaGBase5
import Derived.Test.YtckhlbpjehbnlaaGBase3
import Derived.Test.YtckhlbpjehbnlaaGBase6
namespace Go.Proofs.Ytckhlbpjehbnlaa.PB
open Go.RowKit Go.Proofs.YtckhlbpjehbnlaaW.PrintWords Go.Proofs.YtckhlbpjehbnlaaW.PrintLast Go.Proofs.YtckhlbpjehbnlaaW.PrintMore
attribute [local go_sem] max2_int min2_int max_two min_two max_three min_three max_four min_four   -- for this text's walks alone
set_option linter.unusedVariables false
set_option linter.unusedSimpArgs false
def scarfref01_Same.l0 : Nat → List Int → List Int → Int → Option (Bool)
  | 0, _, _, _ => none
  | k + 1, x0, x1, x5 => if x5 < (x0.length : Int) then (if 0 ≤ x5 then (if x5 < (x1.length : Int) then (if (rd x0 x5) = (rd x1 x5) then (scarfref01_Same.l0 k x0 x1 (wrap64 (x5 + 1))) else (some false)) else (none)) else (none)) else (some true)
def scarfref01_Same.f (k : Nat) (l0 : List Int) (l1 : List Int) : Option (Bool) := if (l0.length : Int) = (l1.length : Int) then (scarfref01_Same.l0 k l0 l1 0) else (some false)
theorem scarfref01_Same.mono_l : ∀ k, (∀ y0 y1 y2, LeO (scarfref01_Same.l0 k y0 y1 y2) (scarfref01_Same.l0 (k + 1) y0 y1 y2))
  | 0 => fun _ _ _ r h => by simp [scarfref01_Same.l0] at h
  | k + 1 => by
    have ih0 := scarfref01_Same.mono_l k
    · intro y0 y1 y2
      unfold scarfref01_Same.l0
      repeat' first
      | (with_reducible exact ih0 _ _ _)
      | (with_reducible exact LeO.refl _)
      | (with_reducible exact LeO.none _)
      | (with_reducible refine LeO.ite ?_ ?_)
      | (with_reducible refine LeO.bind ?_ (fun _ => ?_))
      | exact ih0 _ _ _
      | exact LeO.none _
      | refine LeO.ite ?_ ?_
      | refine LeO.bind ?_ (fun _ => ?_)
theorem scarfref01_Same.mono : ∀ a0 a1 k, LeO (scarfref01_Same.f k a0 a1) (scarfref01_Same.f (k + 1) a0 a1) := by
  intro a0 a1 k
  have ih0 := scarfref01_Same.mono_l k
  unfold scarfref01_Same.f
  repeat' first
      | (with_reducible exact ih0 _ _ _)
      | (with_reducible exact LeO.refl _)
      | (with_reducible exact LeO.none _)
      | (with_reducible refine LeO.ite ?_ ?_)
      | (with_reducible refine LeO.bind ?_ (fun _ => ?_))
      | exact ih0 _ _ _
      | exact LeO.none _
      | refine LeO.ite ?_ ?_
      | refine LeO.bind ?_ (fun _ => ?_)
set_option maxHeartbeats 8000000 in
set_option maxRecDepth 100000 in
theorem scarfref01_Same.calls (k : Nat) (A0 : Option Addr) (c0 : Nat) (l0 : List Int) (A1 : Option Addr) (c1 : Nat) (l1 : List Int) (r : Bool) (w : World) (hr0 : Kd.C (Kd.int .i64) w A0 l0.length l0) (hc0 : l0.length ≤ c0) (hr1 : Kd.C (Kd.int .i64) w A1 l1.length l1) (hc1 : l1.length ≤ c1) (h : scarfref01_Same.f k l0 l1 = some r) :
    Calls Try.prog 37 #[.slice A0 l0.length c0, .slice A1 l1.length c1] w fun e w' => e = .returned (.bool r) ∧ Drawn0 w w' := by
  have HR0 := Aside0.mk hr0
  have HC0 := Aside0.mk hc0
  clear hr0 hc0
  have HR1 := Aside0.mk hr1
  have HC1 := Aside0.mk hc1
  clear hr1 hc1
  have H : (if (l0.length : Int) = (l1.length : Int) then (scarfref01_Same.l0 k l0 l1 0) else (some false)) = some r := h
  clear h
  by_cases c3 : (l0.length : Int) = (l1.length : Int)
  · rw [if_pos c3] at H
    have c3b0 : ((l0.length : Int) == (l1.length : Int)) = true := beq_iff_eq.mpr c3
    have c3b1 : ((l0.length : Int) != (l1.length : Int)) = false := bne_eq_false_iff_eq.mpr c3
    have c3b2 : (l0.length == l1.length) = true := by first | simpa using c3 | (simp at c3 ⊢; omega)
    clear c3
    have H' := Aside0.mk H
    clear H
    go_enter Try.func37, Try.ntmps37
    go_wp2
    repeat (go_quiet (fail); try go_wp2)
    go_loopg [5] k (fun kq v5 w' => ∃ (x5_1 : Int), v5 = .int .i64 x5_1 ∧ Aside0 (scarfref01_Same.l0 kq l0 l1 x5_1 = some r) ∧ Aside0 (kq ≤ k) ∧ Drawn0 w w')
    case atStart => exact ⟨(0), (by first | rfl | (simp; done) | (simp [*]; done)), H', ⟨Nat.le_refl _⟩, by repeat (first | exact Drawn0.refl _ | apply Drawn0.step)⟩
    case round =>
      clear H'
      try clear c1
      try clear p2
      try clear c3
      try clear c3b0
      try clear c3b1
      try clear c3b2
      obtain ⟨x5_1, rfl, HA, HK1, ⟨m1, rfl⟩⟩ := hrel
      cases gk with
      | zero => exact absurd HA.out (by simp [scarfref01_Same.l0])
      | succ k1 =>
        have H := HA.out
        clear HA
        simp only [scarfref01_Same.l0] at H
        by_cases c4 : x5_1 < (l0.length : Int)
        · rw [if_pos c4] at H
          have c4b0 : decide (x5_1 < (l0.length : Int)) = true := decide_eq_true c4
          clear c4
          by_cases c5 : 0 ≤ x5_1
          · rw [if_pos c5] at H
            have c5b0 : decide (0 ≤ x5_1) = true := decide_eq_true c5
            clear c5
            by_cases c6 : x5_1 < (l1.length : Int)
            · rw [if_pos c6] at H
              have c6b0 : decide (x5_1 < (l1.length : Int)) = true := decide_eq_true c6
              clear c6
              by_cases c7 : (rd l0 x5_1) = (rd l1 x5_1)
              · rw [if_pos c7] at H
                have c7b0 : ((rd l0 x5_1) == (rd l1 x5_1)) = true := beq_iff_eq.mpr c7
                have c7b1 : ((rd l0 x5_1) != (rd l1 x5_1)) = false := bne_eq_false_iff_eq.mpr c7
                clear c7
                have H' := Aside0.mk H
                clear H
                have p334 : 0 ≤ (x5_1 : Int) := of_decide_eq_true (by first | (with_reducible assumption) | assumption)
                have q334 : x5_1 < (l0.length : Int) := of_decide_eq_true (by first | (with_reducible assumption) | assumption)
                obtain ⟨ad334, e334, hx334_0⟩ := Kd.at_int HR0.out x5_1 p334 q334
                cases e334
                replace p334 := eq_true p334
                replace q334 := eq_true q334
                have p335 : 0 ≤ (x5_1 : Int) := of_decide_eq_true (by first | (with_reducible assumption) | assumption)
                have q335 : x5_1 < (l1.length : Int) := of_decide_eq_true (by first | (with_reducible assumption) | assumption)
                obtain ⟨ad335, e335, hx335_0⟩ := Kd.at_int HR1.out x5_1 p335 q335
                cases e335
                replace p335 := eq_true p335
                replace q335 := eq_true q335
                go_wp2
                repeat (go_quiet (fail); try go_wp2)
                go_roundg k1
                case measure => have := HK1.out; omega
                case rel => exact ⟨(wrap64 (x5_1 + 1)), (by first | rfl | (simp; done) | (simp [*]; done)), H', ⟨by have := HK1.out; omega⟩, by repeat (first | exact Drawn0.refl _ | apply Drawn0.step)⟩
              · rw [if_neg c7] at H
                have c7b0 : ((rd l0 x5_1) == (rd l1 x5_1)) = false := beq_eq_false_iff_ne.mpr c7
                have c7b1 : ((rd l0 x5_1) != (rd l1 x5_1)) = true := bne_iff_ne.mpr c7
                obtain rfl := Option.some.inj H
                have p334 : 0 ≤ (x5_1 : Int) := of_decide_eq_true (by first | (with_reducible assumption) | assumption)
                have q334 : x5_1 < (l0.length : Int) := of_decide_eq_true (by first | (with_reducible assumption) | assumption)
                obtain ⟨ad334, e334, hx334_0⟩ := Kd.at_int HR0.out x5_1 p334 q334
                cases e334
                replace p334 := eq_true p334
                replace q334 := eq_true q334
                have p335 : 0 ≤ (x5_1 : Int) := of_decide_eq_true (by first | (with_reducible assumption) | assumption)
                have q335 : x5_1 < (l1.length : Int) := of_decide_eq_true (by first | (with_reducible assumption) | assumption)
                obtain ⟨ad335, e335, hx335_0⟩ := Kd.at_int HR1.out x5_1 p335 q335
                cases e335
                replace p335 := eq_true p335
                replace q335 := eq_true q335
                go_wp2
                repeat (go_quiet (fail); try go_wp2)
                go_ret
                exact ⟨by first | rfl | (simp; done) | (simp [*]; done), by repeat (first | exact Drawn0.refl _ | apply Drawn0.step)⟩
            · rw [if_neg c6] at H
              exact absurd H (by simp)
          · rw [if_neg c5] at H
            exact absurd H (by simp)
        · rw [if_neg c4] at H
          have c4b0 : decide (x5_1 < (l0.length : Int)) = false := decide_eq_false c4
          clear c4
          obtain rfl := Option.some.inj H
          go_wp2
          repeat (go_quiet (fail); try go_wp2)
          go_ret
          exact ⟨by first | rfl | (simp; done) | (simp [*]; done), by repeat (first | exact Drawn0.refl _ | apply Drawn0.step)⟩
  · rw [if_neg c3] at H
    have c3b0 : ((l0.length : Int) == (l1.length : Int)) = false := beq_eq_false_iff_ne.mpr c3
    have c3b1 : ((l0.length : Int) != (l1.length : Int)) = true := bne_iff_ne.mpr c3
    have c3b2 : (l0.length == l1.length) = false := by first | simpa using c3 | (simp at c3 ⊢; omega)
    obtain rfl := Option.some.inj H
    go_enter Try.func37, Try.ntmps37
    go_wp2
    repeat (go_quiet (fail); try go_wp2)
    go_ret
    exact ⟨by first | rfl | (simp; done) | (simp [*]; done), by repeat (first | exact Drawn0.refl _ | apply Drawn0.step)⟩
mutual
def scarfref05_Same.l0 : Nat → List (S54) → List (S54) → Int → Option (Bool)
  | 0, _, _, _ => none
  | k + 1, x0, x1, x5 => if x5 < (x0.length : Int) then (if 0 ≤ x5 then (if x5 < (x1.length : Int) then (if ((rd_T54 x0 x5).f0) = ((rd_T54 x1 x5).f0) then (if ((rd_T54 x0 x5).f1) = ((rd_T54 x1 x5).f1) then (if ((rd_T54 x0 x5).f2) = ((rd_T54 x1 x5).f2) then (if ((rd_T54 x0 x5).f3) = ((rd_T54 x1 x5).f3) then ((scarfref01_Same.f k ((rd_T54 x0 x5).f4) ((rd_T54 x1 x5).f4)).bind fun t340 => (if t340 = true then ((scarfref05_Same.f k ((rd_T54 x0 x5).f5) ((rd_T54 x1 x5).f5)).bind fun t341 => (if t341 = true then ((scarfref05_Same.f k ((rd_T54 x0 x5).f6) ((rd_T54 x1 x5).f6)).bind fun t342 => (if t342 = true then (scarfref05_Same.l0 k x0 x1 (wrap64 (x5 + 1))) else (some false))) else (some false))) else (some false))) else (some false)) else (some false)) else (some false)) else (some false)) else (none)) else (none)) else (some true)
def scarfref05_Same.f : Nat → List (S54) → List (S54) → Option (Bool)
  | 0, _, _ => none
  | k + 1, l0, l1 => if (l0.length : Int) = (l1.length : Int) then (scarfref05_Same.l0 k l0 l1 0) else (some false)
end
theorem scarfref05_Same.mono_l : ∀ k, (∀ y0 y1, LeO (scarfref05_Same.f k y0 y1) (scarfref05_Same.f (k + 1) y0 y1)) ∧ (∀ y0 y1 y2, LeO (scarfref05_Same.l0 k y0 y1 y2) (scarfref05_Same.l0 (k + 1) y0 y1 y2))
  | 0 => ⟨fun _ _ r h => by simp [scarfref05_Same.f] at h, fun _ _ _ r h => by simp [scarfref05_Same.l0] at h⟩
  | k + 1 => by
    obtain ⟨ih0, ih1⟩ := scarfref05_Same.mono_l k
    refine ⟨?_, ?_⟩
    · intro y0 y1
      unfold scarfref05_Same.f
      repeat' first
      | (with_reducible exact ih0 _ _)
      | (with_reducible exact ih1 _ _ _)
      | (with_reducible exact scarfref01_Same.mono _ _ _)
      | (with_reducible exact LeO.refl _)
      | (with_reducible exact LeO.none _)
      | (with_reducible refine LeO.ite ?_ ?_)
      | (with_reducible refine LeO.bind ?_ (fun _ => ?_))
      | exact ih0 _ _
      | exact ih1 _ _ _
      | exact scarfref01_Same.mono _ _ _
      | exact LeO.none _
      | refine LeO.ite ?_ ?_
      | refine LeO.bind ?_ (fun _ => ?_)
    · intro y0 y1 y2
      unfold scarfref05_Same.l0
      repeat' first
      | (with_reducible exact ih0 _ _)
      | (with_reducible exact ih1 _ _ _)
      | (with_reducible exact scarfref01_Same.mono _ _ _)
      | (with_reducible exact LeO.refl _)
      | (with_reducible exact LeO.none _)
      | (with_reducible refine LeO.ite ?_ ?_)
      | (with_reducible refine LeO.bind ?_ (fun _ => ?_))
      | exact ih0 _ _
      | exact ih1 _ _ _
      | exact scarfref01_Same.mono _ _ _
      | exact LeO.none _
      | refine LeO.ite ?_ ?_
      | refine LeO.bind ?_ (fun _ => ?_)
theorem scarfref05_Same.mono : ∀ a0 a1 k, LeO (scarfref05_Same.f k a0 a1) (scarfref05_Same.f (k + 1) a0 a1) := by
  intro a0 a1 k
  obtain ⟨ih0, ih1⟩ := scarfref05_Same.mono_l k
  exact ih0 a0 a1
def scarfref05_Same.T6 : Bool × List (List Nat × List Nat) := (true, [([], []), ([], []), ([0, 1], [0, 1]), ([2], [2]), ([], []), ([], []), ([4, 5], [4, 5]), ([6], [6]), ([], []), ([], []), ([8, 3, 0, 1, 2, 3, 8, 9], [3, 8]), ([9, 7, 10, 0, 1, 2, 3, 4, 5, 6, 7, 8, 9, 10], [7, 9])])
def scarfref05_Same.B6 : List Nat := [0, 0, 3, 7, 0, 0, 48, 112, 0, 0, 783, 2047]
theorem scarfref05_Same.tab6 : rtab .any (opsOf Try.f20 6) = scarfref05_Same.T6 := by kernel_rfl
theorem scarfref05_Same.bits6 : waitsOk scarfref05_Same.T6.2 scarfref05_Same.B6 = true := by kernel_rfl
theorem one_box {w w20 : World} {g : Nat} {z0 z1 z2 z3 z4 z5 z6 : Value} {t : TypeId} (x0 x1 x2 x3 x4 x5 x6 : Value)
    (hx : w20.heap[g]? = some (.cells #[z0, z1, z2, z3, z4, z5, z6] t (0, 0))) (hB : Below w.heap.size w w20) (hg : w.heap.size ≤ g) :
    (((((((w20.setCell ⟨g, 0, none⟩ x0).setCell ⟨g, 1, none⟩ x1).setCell ⟨g, 2, none⟩ x2).setCell ⟨g, 3, none⟩ x3).setCell ⟨g, 4, none⟩ x4).setCell ⟨g, 5, none⟩ x5).setCell ⟨g, 6, none⟩ x6).heap[g]? = some (.cells #[x0, x1, x2, x3, x4, x5, x6] t (0, 0)) ∧ (∀ h, h ≠ g → ∀ o, w20.heap[h]? = some o → (((((((w20.setCell ⟨g, 0, none⟩ x0).setCell ⟨g, 1, none⟩ x1).setCell ⟨g, 2, none⟩ x2).setCell ⟨g, 3, none⟩ x3).setCell ⟨g, 4, none⟩ x4).setCell ⟨g, 5, none⟩ x5).setCell ⟨g, 6, none⟩ x6).heap[h]? = some o) ∧ Below w.heap.size w (((((((w20.setCell ⟨g, 0, none⟩ x0).setCell ⟨g, 1, none⟩ x1).setCell ⟨g, 2, none⟩ x2).setCell ⟨g, 3, none⟩ x3).setCell ⟨g, 4, none⟩ x4).setCell ⟨g, 5, none⟩ x5).setCell ⟨g, 6, none⟩ x6) := by
  refine ⟨?_, fun h hh o ho => ?_, ?_⟩
  · have := blk_set (blk_set (blk_set (blk_set (blk_set (blk_set (blk_set hx 0 x0) 1 x1) 2 x2) 3 x3) 4 x4) 5 x5) 6 x6
    simpa using this
  · iterate 7 refine (Below.heap_setCell _ _ _ h hh).trans ?_
    exact ho
  · iterate 7 refine below_set ?_ hg
    exact hB
set_option maxHeartbeats 8000000 in
set_option maxRecDepth 100000 in
theorem scarfref05_Same.calls (k : Nat) : ∀ (A0 : Option Addr) (c0 : Nat) (l0 : List (S54)) (A1 : Option Addr) (c1 : Nat) (l1 : List (S54)) (r : Bool) (w : World) (hr0 : Kd.C k54 w A0 l0.length l0) (hc0 : l0.length ≤ c0) (hr1 : Kd.C k54 w A1 l1.length l1) (hc1 : l1.length ≤ c1) (h : scarfref05_Same.f k l0 l1 = some r),
    Calls Try.prog 20 #[.slice A0 l0.length c0, .slice A1 l1.length c1] w fun e w' => e = .returned (.bool r) ∧ Below w.heap.size w w' := by
  induction k using Nat.strongRecOn with
  | _ k ih =>
  intro A0 c0 l0 A1 c1 l1 r w hr0 hc0 hr1 hc1 h
  cases k with
  | zero => exact absurd h (by simp [scarfref05_Same.f])
  | succ k =>
  simp only [scarfref05_Same.f] at h
  have hu54 := Try.underlying54
  have HR0 := Aside0.mk hr0
  have HC0 := Aside0.mk hc0
  clear hr0 hc0
  have HR1 := Aside0.mk hr1
  have HC1 := Aside0.mk hc1
  clear hr1 hc1
  have HB := Aside0.mk (Below.refl w.heap.size w)
  have H : (if (l0.length : Int) = (l1.length : Int) then (scarfref05_Same.l0 k l0 l1 0) else (some false)) = some r := h
  clear h
  by_cases c3 : (l0.length : Int) = (l1.length : Int)
  · rw [if_pos c3] at H
    have c3b0 : ((l0.length : Int) == (l1.length : Int)) = true := beq_iff_eq.mpr c3
    have c3b1 : ((l0.length : Int) != (l1.length : Int)) = false := bne_eq_false_iff_eq.mpr c3
    have c3b2 : (l0.length == l1.length) = true := by first | simpa using c3 | (simp at c3 ⊢; omega)
    clear c3
    have H' := Aside0.mk H
    clear H
    go_enter Try.func20, Try.ntmps20
    go_wp2
    go_loopg [5] k (fun kq v5 w' => ∃ (x5_1 : Int), v5 = .int .i64 x5_1 ∧ Aside0 (scarfref05_Same.l0 kq l0 l1 x5_1 = some r) ∧ Aside0 (kq ≤ k) ∧ Aside0 (Below w.heap.size w w'))
    case atStart => exact ⟨(0), (by first | rfl | (simp; done) | (simp [*]; done)), H', ⟨Nat.le_refl _⟩, ⟨by repeat (first | (with_reducible first | exact HB.out | apply below_alloc | apply pw_below_drewN | apply below_drew1) | exact HB.out)⟩⟩
    case round =>
      clear H'
      try clear c1
      try clear c2
      try clear p2
      try clear c3
      try clear c3b0
      try clear c3b1
      try clear c3b2
      obtain ⟨x5_1, rfl, HA, HK1, HB⟩ := hrel
      cases gk with
      | zero => exact absurd HA.out (by simp [scarfref05_Same.l0])
      | succ k1 =>
        have H := HA.out
        clear HA
        simp only [scarfref05_Same.l0] at H
        by_cases c4 : x5_1 < (l0.length : Int)
        · rw [if_pos c4] at H
          have c4b0 : decide (x5_1 < (l0.length : Int)) = true := decide_eq_true c4
          clear c4
          by_cases c5 : 0 ≤ x5_1
          · rw [if_pos c5] at H
            have c5b0 : decide (0 ≤ x5_1) = true := decide_eq_true c5
            clear c5
            by_cases c6 : x5_1 < (l1.length : Int)
            · rw [if_pos c6] at H
              have c6b0 : decide (x5_1 < (l1.length : Int)) = true := decide_eq_true c6
              clear c6
              have H' := Aside0.mk H
              clear H
              try go_wp2
              have n0_ := Aside0.mk (below_drew1 HB.out)
              clear HB
              have HB := n0_
              clear n0_
              have p226 : 0 ≤ (x5_1 : Int) := of_decide_eq_true (by first | (with_reducible assumption) | assumption)
              have q226 : x5_1 < (l0.length : Int) := of_decide_eq_true (by first | (with_reducible assumption) | assumption)
              obtain ⟨ad226, A226_4, c226_4, A226_5, c226_5, A226_6, c226_6, e226, hx226_0, hx226_1, hx226_2, hx226_3, hx226_4, hx226_5, hx226_6, hl226_4, hi226_4, hl226_5, hi226_5, hl226_6, hi226_6⟩ := at_T54 HR0.out x5_1 p226 q226
              have hw226_6 := hx226_6
              have hw226_5 := hx226_5
              have hw226_4 := hx226_4
              have hw226_3 := hx226_3
              have hw226_2 := hx226_2
              have hw226_1 := hx226_1
              have hw226_0 := hx226_0
              cases e226
              replace hx226_0 := (HB.out.cell (World.block_lt_of_cell? w _ hx226_0)).trans hx226_0
              replace hx226_1 := (HB.out.cell (World.block_lt_of_cell? w _ hx226_1)).trans hx226_1
              replace hx226_2 := (HB.out.cell (World.block_lt_of_cell? w _ hx226_2)).trans hx226_2
              replace hx226_3 := (HB.out.cell (World.block_lt_of_cell? w _ hx226_3)).trans hx226_3
              replace hx226_4 := (HB.out.cell (World.block_lt_of_cell? w _ hx226_4)).trans hx226_4
              replace hx226_5 := (HB.out.cell (World.block_lt_of_cell? w _ hx226_5)).trans hx226_5
              replace hx226_6 := (HB.out.cell (World.block_lt_of_cell? w _ hx226_6)).trans hx226_6
              have HR226_4 := Aside0.mk hi226_4
              have HC226_4 := Aside0.mk hl226_4
              clear hi226_4 hl226_4
              have HR226_5 := Aside0.mk hi226_5
              have HC226_5 := Aside0.mk hl226_5
              clear hi226_5 hl226_5
              have HR226_6 := Aside0.mk hi226_6
              have HC226_6 := Aside0.mk hl226_6
              clear hi226_6 hl226_6
              replace p226 := eq_true p226
              replace q226 := eq_true q226
              have p227 : 0 ≤ (x5_1 : Int) := of_decide_eq_true (by first | (with_reducible assumption) | assumption)
              have q227 : x5_1 < (l1.length : Int) := of_decide_eq_true (by first | (with_reducible assumption) | assumption)
              obtain ⟨ad227, A227_4, c227_4, A227_5, c227_5, A227_6, c227_6, e227, hx227_0, hx227_1, hx227_2, hx227_3, hx227_4, hx227_5, hx227_6, hl227_4, hi227_4, hl227_5, hi227_5, hl227_6, hi227_6⟩ := at_T54 HR1.out x5_1 p227 q227
              have hw227_6 := hx227_6
              have hw227_5 := hx227_5
              have hw227_4 := hx227_4
              have hw227_3 := hx227_3
              have hw227_2 := hx227_2
              have hw227_1 := hx227_1
              have hw227_0 := hx227_0
              cases e227
              generalize rd_T54 l0 x5_1 = x at *
              generalize rd_T54 l1 x5_1 = y at *
              replace hx227_0 := (HB.out.cell (World.block_lt_of_cell? w _ hx227_0)).trans hx227_0
              replace hx227_1 := (HB.out.cell (World.block_lt_of_cell? w _ hx227_1)).trans hx227_1
              replace hx227_2 := (HB.out.cell (World.block_lt_of_cell? w _ hx227_2)).trans hx227_2
              replace hx227_3 := (HB.out.cell (World.block_lt_of_cell? w _ hx227_3)).trans hx227_3
              replace hx227_4 := (HB.out.cell (World.block_lt_of_cell? w _ hx227_4)).trans hx227_4
              replace hx227_5 := (HB.out.cell (World.block_lt_of_cell? w _ hx227_5)).trans hx227_5
              replace hx227_6 := (HB.out.cell (World.block_lt_of_cell? w _ hx227_6)).trans hx227_6
              have HR227_4 := Aside0.mk hi227_4
              have HC227_4 := Aside0.mk hl227_4
              clear hi227_4 hl227_4
              have HR227_5 := Aside0.mk hi227_5
              have HC227_5 := Aside0.mk hl227_5
              clear hi227_5 hl227_5
              have HR227_6 := Aside0.mk hi227_6
              have HC227_6 := Aside0.mk hl227_6
              clear hi227_6 hl227_6
              replace p227 := eq_true p227
              replace q227 := eq_true q227
              refine start_ (n := 12) (S := fun w' => Below w.heap.size w w') (ds := []) #[false, false, false, false, false, false, false, false, false, false, false, false] (by kernel_rfl) rfl rfl HB.out (fun hHeld => ?_); refine with_tabW scarfref05_Same.tab6 scarfref05_Same.bits6 (fun HT_ HW_ => ?_)
              generalize wr.drew = w17 at HB HR226_4 HR226_5 HR226_6 HR227_4 HR227_5 HR227_6 hx226_0 hx226_1 hx226_2 hx226_3 hx226_4 hx226_5 hx226_6 hx227_0 hx227_1 hx227_2 hx227_3 hx227_4 hx227_5 hx227_6 hHeld ⊢
              refine pure_ (i := 0) (N := some 19) (v := ?_) (a' := ?_) #[true, false, false, false, false, false, false, false, false, false, false, false] rfl rfl (any_of HT_.out (by kernel_rfl)) (fun _ _ _ h => h) (Or.inl ⟨by rfl, ?_⟩) ?_ ?_
              rotate_left
              · intro w'
                go_simp
                with_reducible rfl
              rotate_left
              · simp only [Act.put, List.setIfInBounds_toArray, List.set_cons_zero, List.set_cons_succ, i64_w, i32_w]
                rfl
              refine pure_ (i := 1) (N := some 20) (v := ?_) (a' := ?_) #[true, true, false, false, false, false, false, false, false, false, false, false] rfl rfl (any_of HT_.out (by kernel_rfl)) (fun _ _ _ h => h) (Or.inl ⟨by rfl, ?_⟩) ?_ ?_
              rotate_left
              · intro w'
                go_simp
                with_reducible rfl
              rotate_left
              · simp only [Act.put, List.setIfInBounds_toArray, List.set_cons_zero, List.set_cons_succ, i64_w, i32_w]
                rfl
              refine pure_ (i := 2) (N := some 21) (v := ?_) (a' := ?_) #[true, true, true, false, false, false, false, false, false, false, false, false] rfl rfl (any_of HT_.out (by kernel_rfl)) (fun _ _ _ h => h) (Or.inl ⟨by rfl, ?_⟩) ?_ ?_
              rotate_left
              · intro w'
                go_simp
                with_reducible rfl
              rotate_left
              · simp only [Act.put, List.setIfInBounds_toArray, List.set_cons_zero, List.set_cons_succ, i64_w, i32_w]
                rfl
              refine pure_ (i := 4) (N := some 23) (v := ?_) (a' := ?_) #[true, true, true, false, true, false, false, false, false, false, false, false] rfl rfl (any_of HT_.out (by kernel_rfl)) (fun _ _ _ h => h) (Or.inl ⟨by rfl, ?_⟩) ?_ ?_
              rotate_left
              · intro w'
                go_simp
                with_reducible rfl
              rotate_left
              · simp only [Act.put, List.setIfInBounds_toArray, List.set_cons_zero, List.set_cons_succ, i64_w, i32_w]
                rfl
              refine pure_ (i := 5) (N := some 24) (v := ?_) (a' := ?_) #[true, true, true, false, true, true, false, false, false, false, false, false] rfl rfl (any_of HT_.out (by kernel_rfl)) (fun _ _ _ h => h) (Or.inl ⟨by rfl, ?_⟩) ?_ ?_
              rotate_left
              · intro w'
                go_simp
                with_reducible rfl
              rotate_left
              · simp only [Act.put, List.setIfInBounds_toArray, List.set_cons_zero, List.set_cons_succ, i64_w, i32_w]
                rfl
              refine pure_ (i := 6) (N := some 25) (v := ?_) (a' := ?_) #[true, true, true, false, true, true, true, false, false, false, false, false] rfl rfl (any_of HT_.out (by kernel_rfl)) (fun _ _ _ h => h) (Or.inl ⟨by rfl, ?_⟩) ?_ ?_
              rotate_left
              · intro w'
                go_simp
                with_reducible rfl
              rotate_left
              · simp only [Act.put, List.setIfInBounds_toArray, List.set_cons_zero, List.set_cons_succ, i64_w, i32_w]
                rfl
              refine take_ (i := 3) (N := some 22) (v := ?_) (a' := ?_) #[true, true, true, true, true, true, true, false, false, false, false, false] rfl rfl (take_ofW HT_.out HW_.out (by kernel_rfl)) (fun _ _ _ h => h) (Or.inl ⟨by rfl, ?_⟩) hHeld ?_ ?_
              rotate_left
              · intro w' hS_
                have s0 := (hS_.cell (World.block_lt_of_cell? w _ hw226_0)).trans hw226_0
                have s1 := (hS_.cell (World.block_lt_of_cell? w _ hw226_1)).trans hw226_1
                have s2 := (hS_.cell (World.block_lt_of_cell? w _ hw226_2)).trans hw226_2
                have s3 := (hS_.cell (World.block_lt_of_cell? w _ hw226_3)).trans hw226_3
                have s4 := (hS_.cell (World.block_lt_of_cell? w _ hw226_4)).trans hw226_4
                have s5 := (hS_.cell (World.block_lt_of_cell? w _ hw226_5)).trans hw226_5
                have s6 := (hS_.cell (World.block_lt_of_cell? w _ hw226_6)).trans hw226_6
                have s7 := (hS_.cell (World.block_lt_of_cell? w _ hw227_0)).trans hw227_0
                have s8 := (hS_.cell (World.block_lt_of_cell? w _ hw227_1)).trans hw227_1
                have s9 := (hS_.cell (World.block_lt_of_cell? w _ hw227_2)).trans hw227_2
                have s10 := (hS_.cell (World.block_lt_of_cell? w _ hw227_3)).trans hw227_3
                have s11 := (hS_.cell (World.block_lt_of_cell? w _ hw227_4)).trans hw227_4
                have s12 := (hS_.cell (World.block_lt_of_cell? w _ hw227_5)).trans hw227_5
                have s13 := (hS_.cell (World.block_lt_of_cell? w _ hw227_6)).trans hw227_6
                go_simp
                with_reducible rfl
              rotate_left
              · simp only [Act.put, List.setIfInBounds_toArray, List.set_cons_zero, List.set_cons_succ, i64_w, i32_w]
                rfl
              refine take_ (i := 7) (N := some 26) (v := ?_) (a' := ?_) #[true, true, true, true, true, true, true, true, false, false, false, false] rfl rfl (take_ofW HT_.out HW_.out (by kernel_rfl)) (fun _ _ _ h => h) (Or.inl ⟨by rfl, ?_⟩) hHeld ?_ ?_
              rotate_left
              · intro w' hS_
                have s0 := (hS_.cell (World.block_lt_of_cell? w _ hw226_0)).trans hw226_0
                have s1 := (hS_.cell (World.block_lt_of_cell? w _ hw226_1)).trans hw226_1
                have s2 := (hS_.cell (World.block_lt_of_cell? w _ hw226_2)).trans hw226_2
                have s3 := (hS_.cell (World.block_lt_of_cell? w _ hw226_3)).trans hw226_3
                have s4 := (hS_.cell (World.block_lt_of_cell? w _ hw226_4)).trans hw226_4
                have s5 := (hS_.cell (World.block_lt_of_cell? w _ hw226_5)).trans hw226_5
                have s6 := (hS_.cell (World.block_lt_of_cell? w _ hw226_6)).trans hw226_6
                have s7 := (hS_.cell (World.block_lt_of_cell? w _ hw227_0)).trans hw227_0
                have s8 := (hS_.cell (World.block_lt_of_cell? w _ hw227_1)).trans hw227_1
                have s9 := (hS_.cell (World.block_lt_of_cell? w _ hw227_2)).trans hw227_2
                have s10 := (hS_.cell (World.block_lt_of_cell? w _ hw227_3)).trans hw227_3
                have s11 := (hS_.cell (World.block_lt_of_cell? w _ hw227_4)).trans hw227_4
                have s12 := (hS_.cell (World.block_lt_of_cell? w _ hw227_5)).trans hw227_5
                have s13 := (hS_.cell (World.block_lt_of_cell? w _ hw227_6)).trans hw227_6
                go_simp
                with_reducible rfl
              rotate_left
              · simp only [Act.put, List.setIfInBounds_toArray, List.set_cons_zero, List.set_cons_succ, i64_w, i32_w]
                rfl
              refine join_ (σ := Nat × Nat) 2 #[true, true, true, true, true, true, true, true, true, true, false, false] (fun s_ => [(6, .pointer (some ⟨s_.1, 0, none⟩)), (7, .pointer (some ⟨s_.2, 0, none⟩))]) (fun s_ w' => (Below w.heap.size w w') ∧ (w'.heap[s_.1]? = some (.cells #[.int .i64 0, .int .i64 0, .int .i64 0, .int .i64 0, .slice none 0 0, .slice none 0 0, .slice none 0 0] 54 (0, 0))) ∧ (w'.heap[s_.2]? = some (.cells #[.int .i64 0, .int .i64 0, .int .i64 0, .int .i64 0, .slice none 0 0, .slice none 0 0, .slice none 0 0] 54 (0, 0))) ∧ (w.heap.size ≤ s_.1) ∧ (w.heap.size ≤ s_.1) ∧ (s_.2 ≠ s_.1) ∧ (s_.1 ≠ s_.2) ∧ (w.heap.size ≤ s_.2) ∧ (w.heap.size ≤ s_.2) ∧ (Below w.heap.size w w')) ?_ ?_
              rotate_left
              · intro hCont
                refine two_ (i := 8) (j := 9) (Ni := some 6) (Nj := some 7) #[true, true, true, true, true, true, true, true, true, false, false, false] #[true, true, true, true, true, true, true, true, false, true, false, false] rfl rfl rfl rfl (two_of HT_.out (by kernel_rfl)) (by decide) (by decide) (fun K hK => ?_) (fun K hK => ?_)
                · skip
                  refine box_step ?hg (N := 6) ?hd (cs := #[.int .i64 0, .int .i64 0, .int .i64 0, .int .i64 0, .slice none 0 0, .slice none 0 0, .slice none 0 0]) (t := 54) ?hr ?_; (case hd => rfl); (case hg => rfl); (case hr => first | (go_simp; done) | (go_simp; rfl))
                  intro gb228 hg w18 hbox hb
                  have n0_ := Aside0.mk (below_step (by repeat (first | (with_reducible first | exact HB.out | apply below_alloc | apply pw_below_drewN | apply below_drew1) | exact HB.out)) hb)
                  have n1_ := Aside0.mk (hbox)
                  have n2_ := Aside0.mk ((by rw [hg]; exact (below_size (by repeat (first | (with_reducible first | exact HB.out | apply below_alloc | apply pw_below_drewN | apply below_drew1) | exact HB.out))) : w.heap.size ≤ gb228))
                  have n3_ := Aside0.mk ((by rw [hg]; exact (below_size (by repeat (first | (with_reducible first | exact HB.out | apply below_alloc | apply pw_below_drewN | apply below_drew1) | exact HB.out))) : w.heap.size ≤ gb228))
                  clear HB
                  have HB := n0_
                  have BK228 := n1_
                  have GW228 := n2_
                  have GE228 := n3_
                  clear n0_ n1_ n2_ n3_
                  clear hb hbox hg
                  refine hK.out _ _ HB.out (fun hHeld => ?_)
                  clear hK K
                  refine norm_ (a' := ?_) ?_ ?_
                  rotate_left
                  · show Act.put _ (some 6) _ = _
                    simp only [Act.put, List.setIfInBounds_toArray, List.set_cons_zero, List.set_cons_succ, i64_w, i32_w]
                    rfl
                  refine one_ (i := 9) (N := some 7) #[true, true, true, true, true, true, true, true, true, true, false, false] rfl rfl (one_of HT_.out (by kernel_rfl)) (by decide) (fun K hK => ?_)
                  refine box_step ?hg (N := 7) ?hd (cs := #[.int .i64 0, .int .i64 0, .int .i64 0, .int .i64 0, .slice none 0 0, .slice none 0 0, .slice none 0 0]) (t := 54) ?hr ?_; (case hd => rfl); (case hg => rfl); (case hr => first | (go_simp; done) | (go_simp; rfl))
                  intro gb229 hg w19 hbox hb
                  have n0_ := Aside0.mk (blk_below (g := gb228) (o := .cells #[.int .i64 0, .int .i64 0, .int .i64 0, .int .i64 0, .slice none 0 0, .slice none 0 0, .slice none 0 0] 54 (0, 0)) (by (with_reducible repeat (first | refine blk_drewN ?_ _ | refine blk_drew ?_ | refine blk_alloc ?_ _)); exact BK228.out) hb)
                  have n1_ := Aside0.mk (below_step (by repeat (first | (with_reducible first | exact HB.out | apply below_alloc | apply pw_below_drewN | apply below_drew1 | refine below_set ?_ GE228.out) | exact HB.out)) hb)
                  have n2_ := Aside0.mk (hbox)
                  have n3_ := Aside0.mk ((by rw [hg]; exact (below_size (by repeat (first | (with_reducible first | exact HB.out | apply below_alloc | apply pw_below_drewN | apply below_drew1 | refine below_set ?_ GE228.out) | exact HB.out))) : w.heap.size ≤ gb229))
                  have n4_ := Aside0.mk ((by rw [hg]; exact (below_size (by repeat (first | (with_reducible first | exact HB.out | apply below_alloc | apply pw_below_drewN | apply below_drew1 | refine below_set ?_ GE228.out) | exact HB.out))) : w.heap.size ≤ gb229))
                  have n5_ := Aside0.mk ((by rw [hg]; exact Nat.ne_of_lt (blk_lt (g := gb228) (o := .cells #[.int .i64 0, .int .i64 0, .int .i64 0, .int .i64 0, .slice none 0 0, .slice none 0 0, .slice none 0 0] 54 (0, 0)) (by (with_reducible repeat (first | refine blk_drewN ?_ _ | refine blk_drew ?_ | refine blk_alloc ?_ _)); exact BK228.out)) : gb228 ≠ gb229))
                  have n6_ := Aside0.mk ((by rw [hg]; exact Nat.ne_of_gt (blk_lt (g := gb228) (o := .cells #[.int .i64 0, .int .i64 0, .int .i64 0, .int .i64 0, .slice none 0 0, .slice none 0 0, .slice none 0 0] 54 (0, 0)) (by (with_reducible repeat (first | refine blk_drewN ?_ _ | refine blk_drew ?_ | refine blk_alloc ?_ _)); exact BK228.out)) : gb229 ≠ gb228))
                  clear BK228
                  clear HB
                  have BK228 := n0_
                  have HB := n1_
                  have BK229 := n2_
                  have GW229 := n3_
                  have GE229 := n4_
                  have NB228_229 := n5_
                  have NB229_228 := n6_
                  clear n0_ n1_ n2_ n3_ n4_ n5_ n6_
                  clear hb hbox hg
                  refine hK.out _ _ HB.out (fun hHeld => ?_)
                  clear hK K
                  refine norm_ (a' := ?_) ?_ ?_
                  rotate_left
                  · show Act.put _ (some 7) _ = _
                    simp only [Act.put, List.setIfInBounds_toArray, List.set_cons_zero, List.set_cons_succ, i64_w, i32_w]
                    rfl
                  exact norm_ (by simp only [putAll, Act.put, List.setIfInBounds_toArray, List.set_cons_zero, List.set_cons_succ]) (hCont (gb228, gb229) _ ⟨hHeld, (by (with_reducible repeat (first | refine blk_drewN ?_ _ | refine blk_drew ?_ | refine blk_alloc ?_ _)); exact BK228.out), (by (with_reducible repeat (first | refine blk_drewN ?_ _ | refine blk_drew ?_ | refine blk_alloc ?_ _)); exact BK229.out), GW228.out, GE228.out, NB229_228.out, NB228_229.out, GW229.out, GE229.out, (by repeat (first | (with_reducible first | exact HB.out | apply below_alloc | apply pw_below_drewN | apply below_drew1 | refine below_set ?_ GE228.out | refine below_set ?_ GE229.out) | exact HB.out))⟩)
                · skip
                  refine box_step ?hg (N := 7) ?hd (cs := #[.int .i64 0, .int .i64 0, .int .i64 0, .int .i64 0, .slice none 0 0, .slice none 0 0, .slice none 0 0]) (t := 54) ?hr ?_; (case hd => rfl); (case hg => rfl); (case hr => first | (go_simp; done) | (go_simp; rfl))
                  intro gb229 hg w18 hbox hb
                  have n0_ := Aside0.mk (below_step (by repeat (first | (with_reducible first | exact HB.out | apply below_alloc | apply pw_below_drewN | apply below_drew1) | exact HB.out)) hb)
                  have n1_ := Aside0.mk (hbox)
                  have n2_ := Aside0.mk ((by rw [hg]; exact (below_size (by repeat (first | (with_reducible first | exact HB.out | apply below_alloc | apply pw_below_drewN | apply below_drew1) | exact HB.out))) : w.heap.size ≤ gb229))
                  have n3_ := Aside0.mk ((by rw [hg]; exact (below_size (by repeat (first | (with_reducible first | exact HB.out | apply below_alloc | apply pw_below_drewN | apply below_drew1) | exact HB.out))) : w.heap.size ≤ gb229))
                  clear HB
                  have HB := n0_
                  have BK229 := n1_
                  have GW229 := n2_
                  have GE229 := n3_
                  clear n0_ n1_ n2_ n3_
                  clear hb hbox hg
                  refine hK.out _ _ HB.out (fun hHeld => ?_)
                  clear hK K
                  refine norm_ (a' := ?_) ?_ ?_
                  rotate_left
                  · show Act.put _ (some 7) _ = _
                    simp only [Act.put, List.setIfInBounds_toArray, List.set_cons_zero, List.set_cons_succ, i64_w, i32_w]
                    rfl
                  refine one_ (i := 8) (N := some 6) #[true, true, true, true, true, true, true, true, true, true, false, false] rfl rfl (one_of HT_.out (by kernel_rfl)) (by decide) (fun K hK => ?_)
                  refine box_step ?hg (N := 6) ?hd (cs := #[.int .i64 0, .int .i64 0, .int .i64 0, .int .i64 0, .slice none 0 0, .slice none 0 0, .slice none 0 0]) (t := 54) ?hr ?_; (case hd => rfl); (case hg => rfl); (case hr => first | (go_simp; done) | (go_simp; rfl))
                  intro gb228 hg w19 hbox hb
                  have n0_ := Aside0.mk (blk_below (g := gb229) (o := .cells #[.int .i64 0, .int .i64 0, .int .i64 0, .int .i64 0, .slice none 0 0, .slice none 0 0, .slice none 0 0] 54 (0, 0)) (by (with_reducible repeat (first | refine blk_drewN ?_ _ | refine blk_drew ?_ | refine blk_alloc ?_ _)); exact BK229.out) hb)
                  have n1_ := Aside0.mk (below_step (by repeat (first | (with_reducible first | exact HB.out | apply below_alloc | apply pw_below_drewN | apply below_drew1 | refine below_set ?_ GE229.out) | exact HB.out)) hb)
                  have n2_ := Aside0.mk (hbox)
                  have n3_ := Aside0.mk ((by rw [hg]; exact (below_size (by repeat (first | (with_reducible first | exact HB.out | apply below_alloc | apply pw_below_drewN | apply below_drew1 | refine below_set ?_ GE229.out) | exact HB.out))) : w.heap.size ≤ gb228))
                  have n4_ := Aside0.mk ((by rw [hg]; exact (below_size (by repeat (first | (with_reducible first | exact HB.out | apply below_alloc | apply pw_below_drewN | apply below_drew1 | refine below_set ?_ GE229.out) | exact HB.out))) : w.heap.size ≤ gb228))
                  have n5_ := Aside0.mk ((by rw [hg]; exact Nat.ne_of_lt (blk_lt (g := gb229) (o := .cells #[.int .i64 0, .int .i64 0, .int .i64 0, .int .i64 0, .slice none 0 0, .slice none 0 0, .slice none 0 0] 54 (0, 0)) (by (with_reducible repeat (first | refine blk_drewN ?_ _ | refine blk_drew ?_ | refine blk_alloc ?_ _)); exact BK229.out)) : gb229 ≠ gb228))
                  have n6_ := Aside0.mk ((by rw [hg]; exact Nat.ne_of_gt (blk_lt (g := gb229) (o := .cells #[.int .i64 0, .int .i64 0, .int .i64 0, .int .i64 0, .slice none 0 0, .slice none 0 0, .slice none 0 0] 54 (0, 0)) (by (with_reducible repeat (first | refine blk_drewN ?_ _ | refine blk_drew ?_ | refine blk_alloc ?_ _)); exact BK229.out)) : gb228 ≠ gb229))
                  clear BK229
                  clear HB
                  have BK229 := n0_
                  have HB := n1_
                  have BK228 := n2_
                  have GW228 := n3_
                  have GE228 := n4_
                  have NB229_228 := n5_
                  have NB228_229 := n6_
                  clear n0_ n1_ n2_ n3_ n4_ n5_ n6_
                  clear hb hbox hg
                  refine hK.out _ _ HB.out (fun hHeld => ?_)
                  clear hK K
                  refine norm_ (a' := ?_) ?_ ?_
                  rotate_left
                  · show Act.put _ (some 6) _ = _
                    simp only [Act.put, List.setIfInBounds_toArray, List.set_cons_zero, List.set_cons_succ, i64_w, i32_w]
                    rfl
                  exact norm_ (by simp only [putAll, Act.put, List.setIfInBounds_toArray, List.set_cons_zero, List.set_cons_succ]) (hCont (gb228, gb229) _ ⟨hHeld, (by (with_reducible repeat (first | refine blk_drewN ?_ _ | refine blk_drew ?_ | refine blk_alloc ?_ _)); exact BK228.out), (by (with_reducible repeat (first | refine blk_drewN ?_ _ | refine blk_drew ?_ | refine blk_alloc ?_ _)); exact BK229.out), GW228.out, GE228.out, NB229_228.out, NB228_229.out, GW229.out, GE229.out, (by repeat (first | (with_reducible first | exact HB.out | apply below_alloc | apply pw_below_drewN | apply below_drew1 | refine below_set ?_ GE229.out | refine below_set ?_ GE228.out) | exact HB.out))⟩)
              rintro ⟨gb228, gb229⟩ w20 ⟨hS_, h0_, h1_, h2_, h3_, h4_, h5_, h6_, h7_, h8_⟩
              have n0_ : Aside0 (w20.heap[gb228]? = some (.cells #[.int .i64 0, .int .i64 0, .int .i64 0, .int .i64 0, .slice none 0 0, .slice none 0 0, .slice none 0 0] 54 (0, 0))) := ⟨h0_⟩
              have n1_ : Aside0 (w20.heap[gb229]? = some (.cells #[.int .i64 0, .int .i64 0, .int .i64 0, .int .i64 0, .slice none 0 0, .slice none 0 0, .slice none 0 0] 54 (0, 0))) := ⟨h1_⟩
              have n2_ : Aside0 (w.heap.size ≤ gb228) := ⟨h2_⟩
              have n3_ : Aside0 (w.heap.size ≤ gb228) := ⟨h3_⟩
              have n4_ : Aside0 (gb229 ≠ gb228) := ⟨h4_⟩
              have n5_ : Aside0 (gb228 ≠ gb229) := ⟨h5_⟩
              have n6_ : Aside0 (w.heap.size ≤ gb229) := ⟨h6_⟩
              have n7_ : Aside0 (w.heap.size ≤ gb229) := ⟨h7_⟩
              have n8_ : Aside0 (Below w.heap.size w w20) := ⟨h8_⟩
              clear HB
              clear h0_ h1_ h2_ h3_ h4_ h5_ h6_ h7_ h8_
              have BK228 := n0_
              have BK229 := n1_
              have GW228 := n2_
              have GE228 := n3_
              have NB229_228 := n4_
              have NB228_229 := n5_
              have GW229 := n6_
              have GE229 := n7_
              have HB := n8_
              clear n0_ n1_ n2_ n3_ n4_ n5_ n6_ n7_ n8_
              have hHeld_ := hS_
              clear hS_
              refine norm_ (a' := ?_) ?_ ?_
              rotate_left
              · simp only [putAll, Act.put, List.setIfInBounds_toArray, List.set_cons_zero, List.set_cons_succ]
                rfl
              refine one_ (i := 10) (N := none) #[true, true, true, true, true, true, true, true, true, true, true, false] rfl rfl (one_of HT_.out (by kernel_rfl)) (by decide) (fun K hK => ?_)
              have hs21 : w20.cell? ⟨gb228, 0, none⟩ = some (.int .i64 0) := (blk_cell BK228.out 0).trans rfl
              have hfs21 := blk_frozen BK228.out 0
              have hns21_1 := NB229_228.out
              have hms21_1 := NB228_229.out
              have hs22 : w20.cell? ⟨gb228, 1, none⟩ = some (.int .i64 0) := (blk_cell BK228.out 1).trans rfl
              have hfs22 := blk_frozen BK228.out 1
              have hns22_1 := NB229_228.out
              have hms22_1 := NB228_229.out
              have hs23 : w20.cell? ⟨gb228, 2, none⟩ = some (.int .i64 0) := (blk_cell BK228.out 2).trans rfl
              have hfs23 := blk_frozen BK228.out 2
              have hns23_1 := NB229_228.out
              have hms23_1 := NB228_229.out
              have hs24 : w20.cell? ⟨gb228, 3, none⟩ = some (.int .i64 0) := (blk_cell BK228.out 3).trans rfl
              have hfs24 := blk_frozen BK228.out 3
              have hns24_1 := NB229_228.out
              have hms24_1 := NB228_229.out
              have hs25 : w20.cell? ⟨gb228, 4, none⟩ = some (.slice none 0 0) := (blk_cell BK228.out 4).trans rfl
              have hfs25 := blk_frozen BK228.out 4
              have hns25_1 := NB229_228.out
              have hms25_1 := NB228_229.out
              have hs26 : w20.cell? ⟨gb228, 5, none⟩ = some (.slice none 0 0) := (blk_cell BK228.out 5).trans rfl
              have hfs26 := blk_frozen BK228.out 5
              have hns26_1 := NB229_228.out
              have hms26_1 := NB228_229.out
              have hs27 : w20.cell? ⟨gb228, 6, none⟩ = some (.slice none 0 0) := (blk_cell BK228.out 6).trans rfl
              have hfs27 := blk_frozen BK228.out 6
              have hns27_1 := NB229_228.out
              have hms27_1 := NB228_229.out
              refine skip_ (w1 := ?_) (by rfl) rfl ?_ ?_
              rotate_left
              · go_simp
                rfl
              refine hK.out _ _ (by (iterate 7 (refine below_set ?_ GE228.out)); exact HB.out) (fun hHeld => ?_)
              clear hK K hHeld hHeld_
              obtain ⟨BX, BO, HW1⟩ := one_box (.int .i64 (x.f0)) (.int .i64 (x.f1)) (.int .i64 (x.f2)) (.int .i64 (x.f3)) (.slice A226_4 (x.f4).length c226_4) (.slice A226_5 (x.f5).length c226_5) (.slice A226_6 (x.f6).length c226_6) BK228.out HB.out GW228.out
              have BK229a := BO gb229 NB229_228.out _ BK229.out
              clear hfs21 hfs22 hfs23 hfs24 hfs25 hfs26 hfs27 hms21_1 hms22_1 hms23_1 hms24_1 hms25_1 hms26_1 hms27_1 hns21_1 hns22_1 hns23_1 hns24_1 hns25_1 hns26_1 hns27_1 hs21 hs22 hs23 hs24 hs25 hs26 hs27
              generalize (((((((w20.setCell ⟨gb228, 0, none⟩ (.int .i64 (x.f0))).setCell ⟨gb228, 1, none⟩ (.int .i64 (x.f1))).setCell ⟨gb228, 2, none⟩ (.int .i64 (x.f2))).setCell ⟨gb228, 3, none⟩ (.int .i64 (x.f3))).setCell ⟨gb228, 4, none⟩ (.slice A226_4 (x.f4).length c226_4)).setCell ⟨gb228, 5, none⟩ (.slice A226_5 (x.f5).length c226_5)).setCell ⟨gb228, 6, none⟩ (.slice A226_6 (x.f6).length c226_6)) = W1 at BX BK229a HW1 ⊢
              clear BO BK229 BK228 HB
              have BK229 := Aside0.mk BK229a
              have HB := Aside0.mk HW1
              refine one_ (i := 11) (N := none) #[true, true, true, true, true, true, true, true, true, true, true, true] rfl rfl (one_of HT_.out (by kernel_rfl)) (by decide) (fun K hK => ?_)
              have hs28 : W1.cell? ⟨gb229, 0, none⟩ = some (.int .i64 0) := (blk_cell BK229.out 0).trans rfl
              have hfs28 := blk_frozen BK229.out 0
              have hns28_0 := NB228_229.out
              have hms28_0 := NB229_228.out
              have hs29 : W1.cell? ⟨gb229, 1, none⟩ = some (.int .i64 0) := (blk_cell BK229.out 1).trans rfl
              have hfs29 := blk_frozen BK229.out 1
              have hns29_0 := NB228_229.out
              have hms29_0 := NB229_228.out
              have hs30 : W1.cell? ⟨gb229, 2, none⟩ = some (.int .i64 0) := (blk_cell BK229.out 2).trans rfl
              have hfs30 := blk_frozen BK229.out 2
              have hns30_0 := NB228_229.out
              have hms30_0 := NB229_228.out
              have hs31 : W1.cell? ⟨gb229, 3, none⟩ = some (.int .i64 0) := (blk_cell BK229.out 3).trans rfl
              have hfs31 := blk_frozen BK229.out 3
              have hns31_0 := NB228_229.out
              have hms31_0 := NB229_228.out
              have hs32 : W1.cell? ⟨gb229, 4, none⟩ = some (.slice none 0 0) := (blk_cell BK229.out 4).trans rfl
              have hfs32 := blk_frozen BK229.out 4
              have hns32_0 := NB228_229.out
              have hms32_0 := NB229_228.out
              have hs33 : W1.cell? ⟨gb229, 5, none⟩ = some (.slice none 0 0) := (blk_cell BK229.out 5).trans rfl
              have hfs33 := blk_frozen BK229.out 5
              have hns33_0 := NB228_229.out
              have hms33_0 := NB229_228.out
              have hs34 : W1.cell? ⟨gb229, 6, none⟩ = some (.slice none 0 0) := (blk_cell BK229.out 6).trans rfl
              have hfs34 := blk_frozen BK229.out 6
              have hns34_0 := NB228_229.out
              have hms34_0 := NB229_228.out
              refine skip_ (w1 := ?_) (by rfl) rfl ?_ ?_
              rotate_left
              · go_simp
                rfl
              refine hK.out _ _ (by (iterate 7 (refine below_set ?_ GE229.out)); exact HB.out) (fun hHeld => ?_)
              clear hK K
              refine done_ (done_of HT_.out (by kernel_rfl)) ?_
              obtain ⟨BY, BO, HW⟩ := one_box (.int .i64 (y.f0)) (.int .i64 (y.f1)) (.int .i64 (y.f2)) (.int .i64 (y.f3)) (.slice A227_4 (y.f4).length c227_4) (.slice A227_5 (y.f5).length c227_5) (.slice A227_6 (y.f6).length c227_6) BK229.out HB.out GW229.out
              replace BX := BO gb228 NB228_229.out _ BX
              generalize (((((((W1.setCell ⟨gb229, 0, none⟩ (.int .i64 (y.f0))).setCell ⟨gb229, 1, none⟩ (.int .i64 (y.f1))).setCell ⟨gb229, 2, none⟩ (.int .i64 (y.f2))).setCell ⟨gb229, 3, none⟩ (.int .i64 (y.f3))).setCell ⟨gb229, 4, none⟩ (.slice A227_4 (y.f4).length c227_4)).setCell ⟨gb229, 5, none⟩ (.slice A227_5 (y.f5).length c227_5)).setCell ⟨gb229, 6, none⟩ (.slice A227_6 (y.f6).length c227_6)) = W2 at BX BY HW ⊢
              clear BO BK229 HB HT_ HW_ hHeld HW1 BK229a
              have cx0 : W2.cell? ⟨gb228, 0, none⟩ = some (.int .i64 (x.f0)) := blk_cell BX 0
              have cy0 : W2.cell? ⟨gb229, 0, none⟩ = some (.int .i64 (y.f0)) := blk_cell BY 0
              have cx1 : W2.cell? ⟨gb228, 1, none⟩ = some (.int .i64 (x.f1)) := blk_cell BX 1
              have cy1 : W2.cell? ⟨gb229, 1, none⟩ = some (.int .i64 (y.f1)) := blk_cell BY 1
              have cx2 : W2.cell? ⟨gb228, 2, none⟩ = some (.int .i64 (x.f2)) := blk_cell BX 2
              have cy2 : W2.cell? ⟨gb229, 2, none⟩ = some (.int .i64 (y.f2)) := blk_cell BY 2
              have cx3 : W2.cell? ⟨gb228, 3, none⟩ = some (.int .i64 (x.f3)) := blk_cell BX 3
              have cy3 : W2.cell? ⟨gb229, 3, none⟩ = some (.int .i64 (y.f3)) := blk_cell BY 3
              have cx4 : W2.cell? ⟨gb228, 4, none⟩ = some (.slice A226_4 (x.f4).length c226_4) := blk_cell BX 4
              have cy4 : W2.cell? ⟨gb229, 4, none⟩ = some (.slice A227_4 (y.f4).length c227_4) := blk_cell BY 4
              have cx5 : W2.cell? ⟨gb228, 5, none⟩ = some (.slice A226_5 (x.f5).length c226_5) := blk_cell BX 5
              have cy5 : W2.cell? ⟨gb229, 5, none⟩ = some (.slice A227_5 (y.f5).length c227_5) := blk_cell BY 5
              have cx6 : W2.cell? ⟨gb228, 6, none⟩ = some (.slice A226_6 (x.f6).length c226_6) := blk_cell BX 6
              have cy6 : W2.cell? ⟨gb229, 6, none⟩ = some (.slice A227_6 (y.f6).length c227_6) := blk_cell BY 6
              have H := H'.out
              clear H'
              by_cases c7 : (x.f0) = (y.f0)
              · rw [if_pos c7] at H
                have c7b0 : ((x.f0) == (y.f0)) = true := beq_iff_eq.mpr c7
                have c7b1 : ((x.f0) != (y.f0)) = false := bne_eq_false_iff_eq.mpr c7
                clear c7
                by_cases c8 : (x.f1) = (y.f1)
                · rw [if_pos c8] at H
                  have c8b0 : ((x.f1) == (y.f1)) = true := beq_iff_eq.mpr c8
                  have c8b1 : ((x.f1) != (y.f1)) = false := bne_eq_false_iff_eq.mpr c8
                  clear c8
                  by_cases c9 : (x.f2) = (y.f2)
                  · rw [if_pos c9] at H
                    have c9b0 : ((x.f2) == (y.f2)) = true := beq_iff_eq.mpr c9
                    have c9b1 : ((x.f2) != (y.f2)) = false := bne_eq_false_iff_eq.mpr c9
                    clear c9
                    by_cases c10 : (x.f3) = (y.f3)
                    · rw [if_pos c10] at H
                      have c10b0 : ((x.f3) == (y.f3)) = true := beq_iff_eq.mpr c10
                      have c10b1 : ((x.f3) != (y.f3)) = false := bne_eq_false_iff_eq.mpr c10
                      clear c10
                      replace H := Option.bind_eq_some_iff.mp H
                      obtain ⟨t230, A110, H⟩ := H
                      replace H : (if t230 = true then ((scarfref05_Same.f k1 (x.f5) (y.f5)).bind fun t231 => (if t231 = true then ((scarfref05_Same.f k1 (x.f6) (y.f6)).bind fun t232 => (if t232 = true then (scarfref05_Same.l0 k1 l0 l1 (wrap64 (x5_1 + 1))) else (some false))) else (some false))) else (some false)) = some r := H
                      have A11 := Aside0.mk A110
                      clear A110
                      by_cases c12 : t230 = true
                      · subst c12
                        have H1 : ((scarfref05_Same.f k1 (x.f5) (y.f5)).bind fun t231 => (if t231 = true then ((scarfref05_Same.f k1 (x.f6) (y.f6)).bind fun t232 => (if t232 = true then (scarfref05_Same.l0 k1 l0 l1 (wrap64 (x5_1 + 1))) else (some false))) else (some false))) = some r := by rw [if_pos rfl] at H; exact H
                        clear H
                        have H := H1
                        clear H1
                        replace H := Option.bind_eq_some_iff.mp H
                        obtain ⟨t231, A130, H⟩ := H
                        replace H : (if t231 = true then ((scarfref05_Same.f k1 (x.f6) (y.f6)).bind fun t232 => (if t232 = true then (scarfref05_Same.l0 k1 l0 l1 (wrap64 (x5_1 + 1))) else (some false))) else (some false)) = some r := H
                        have A13 := Aside0.mk A130
                        clear A130
                        by_cases c14 : t231 = true
                        · subst c14
                          have H1 : ((scarfref05_Same.f k1 (x.f6) (y.f6)).bind fun t232 => (if t232 = true then (scarfref05_Same.l0 k1 l0 l1 (wrap64 (x5_1 + 1))) else (some false))) = some r := by rw [if_pos rfl] at H; exact H
                          clear H
                          have H := H1
                          clear H1
                          replace H := Option.bind_eq_some_iff.mp H
                          obtain ⟨t232, A150, H⟩ := H
                          replace H : (if t232 = true then (scarfref05_Same.l0 k1 l0 l1 (wrap64 (x5_1 + 1))) else (some false)) = some r := H
                          have A15 := Aside0.mk A150
                          clear A150
                          by_cases c16 : t232 = true
                          · subst c16
                            have H1 : (scarfref05_Same.l0 k1 l0 l1 (wrap64 (x5_1 + 1))) = some r := by rw [if_pos rfl] at H; exact H
                            clear H
                            have H := H1
                            clear H1
                            have H' := Aside0.mk H
                            clear H
                            go_wp2_with (first | (go_at_call 37; (with_reducible refine (scarfref01_Same.calls k1 _ _ (x.f4) _ _ (y.f4) true _ (Kd.C_below HR226_4.out HW) HC226_4.out (Kd.C_below HR227_4.out HW) HC227_4.out A11.out).mono ?_); rintro e w' ⟨rfl, ⟨nd, rfl⟩⟩) | (go_at_call 20; (with_reducible refine (ih k1 (by have := HK1.out; omega) _ _ (x.f5) _ _ (y.f5) true _ (Kd.C_below HR226_5.out (pw_below_drewN HW _)) HC226_5.out (Kd.C_below HR227_5.out (pw_below_drewN HW _)) HC227_5.out A13.out).mono ?_); rintro e w3 ⟨rfl, hb3⟩; have HW3 := below_step (pw_below_drewN HW nd) hb3; have c3x : w3.cell? ⟨gb228, 6, none⟩ = some (.slice A226_6 (x.f6).length c226_6) := pw_cell_below hb3 cx6; have c3y : w3.cell? ⟨gb229, 6, none⟩ = some (.slice A227_6 (y.f6).length c227_6) := pw_cell_below hb3 cy6) | (go_at_call 20; (with_reducible refine (ih k1 (by have := HK1.out; omega) _ _ (x.f6) _ _ (y.f6) true _ (Kd.C_below HR226_6.out HW3) HC226_6.out (Kd.C_below HR227_6.out HW3) HC227_6.out A15.out).mono ?_); rintro e w4 ⟨rfl, hb4⟩; have HW4 := below_step HW3 hb4))
                            go_roundg k1
                            case measure => have := HK1.out; omega
                            case rel => exact ⟨_, rfl, H', ⟨by have := HK1.out; omega⟩, ⟨HW4⟩⟩
                          · replace c16 := Bool.eq_false_iff.mpr c16
                            subst c16
                            have H1 : (some false) = some r := by rw [if_neg (show ¬ (false = true) by decide)] at H; exact H
                            clear H
                            have H := H1
                            clear H1
                            obtain rfl := Option.some.inj H
                            go_wp2_with (first | (go_at_call 37; (with_reducible refine (scarfref01_Same.calls k1 _ _ (x.f4) _ _ (y.f4) true _ (Kd.C_below HR226_4.out HW) HC226_4.out (Kd.C_below HR227_4.out HW) HC227_4.out A11.out).mono ?_); rintro e w' ⟨rfl, ⟨nd, rfl⟩⟩) | (go_at_call 20; (with_reducible refine (ih k1 (by have := HK1.out; omega) _ _ (x.f5) _ _ (y.f5) true _ (Kd.C_below HR226_5.out (pw_below_drewN HW _)) HC226_5.out (Kd.C_below HR227_5.out (pw_below_drewN HW _)) HC227_5.out A13.out).mono ?_); rintro e w3 ⟨rfl, hb3⟩; have HW3 := below_step (pw_below_drewN HW nd) hb3; have c3x : w3.cell? ⟨gb228, 6, none⟩ = some (.slice A226_6 (x.f6).length c226_6) := pw_cell_below hb3 cx6; have c3y : w3.cell? ⟨gb229, 6, none⟩ = some (.slice A227_6 (y.f6).length c227_6) := pw_cell_below hb3 cy6) | (go_at_call 20; (with_reducible refine (ih k1 (by have := HK1.out; omega) _ _ (x.f6) _ _ (y.f6) false _ (Kd.C_below HR226_6.out HW3) HC226_6.out (Kd.C_below HR227_6.out HW3) HC227_6.out A15.out).mono ?_); rintro e w4 ⟨rfl, hb4⟩; have HW4 := below_step HW3 hb4))
                            go_ret
                            exact ⟨rfl, HW4⟩
                        · replace c14 := Bool.eq_false_iff.mpr c14
                          subst c14
                          have H1 : (some false) = some r := by rw [if_neg (show ¬ (false = true) by decide)] at H; exact H
                          clear H
                          have H := H1
                          clear H1
                          obtain rfl := Option.some.inj H
                          go_wp2_with (first | (go_at_call 37; (with_reducible refine (scarfref01_Same.calls k1 _ _ (x.f4) _ _ (y.f4) true _ (Kd.C_below HR226_4.out HW) HC226_4.out (Kd.C_below HR227_4.out HW) HC227_4.out A11.out).mono ?_); rintro e w' ⟨rfl, ⟨nd, rfl⟩⟩) | (go_at_call 20; (with_reducible refine (ih k1 (by have := HK1.out; omega) _ _ (x.f5) _ _ (y.f5) false _ (Kd.C_below HR226_5.out (pw_below_drewN HW _)) HC226_5.out (Kd.C_below HR227_5.out (pw_below_drewN HW _)) HC227_5.out A13.out).mono ?_); rintro e w3 ⟨rfl, hb3⟩; have HW3 := below_step (pw_below_drewN HW nd) hb3; have c3x : w3.cell? ⟨gb228, 6, none⟩ = some (.slice A226_6 (x.f6).length c226_6) := pw_cell_below hb3 cx6; have c3y : w3.cell? ⟨gb229, 6, none⟩ = some (.slice A227_6 (y.f6).length c227_6) := pw_cell_below hb3 cy6))
                          go_ret
                          exact ⟨rfl, HW3⟩
                      · replace c12 := Bool.eq_false_iff.mpr c12
                        subst c12
                        have H1 : (some false) = some r := by rw [if_neg (show ¬ (false = true) by decide)] at H; exact H
                        clear H
                        have H := H1
                        clear H1
                        obtain rfl := Option.some.inj H
                        go_wp2_with (first | (go_at_call 37; (with_reducible refine (scarfref01_Same.calls k1 _ _ (x.f4) _ _ (y.f4) false _ (Kd.C_below HR226_4.out HW) HC226_4.out (Kd.C_below HR227_4.out HW) HC227_4.out A11.out).mono ?_); rintro e w' ⟨rfl, ⟨nd, rfl⟩⟩))
                        go_ret
                        exact ⟨rfl, pw_below_drewN HW _⟩
                    · rw [if_neg c10] at H
                      have c10b0 : ((x.f3) == (y.f3)) = false := beq_eq_false_iff_ne.mpr c10
                      have c10b1 : ((x.f3) != (y.f3)) = true := bne_iff_ne.mpr c10
                      obtain rfl := Option.some.inj H
                      go_wp2
                      go_ret
                      exact ⟨rfl, by first | exact HW | exact pw_below_drewN HW _⟩
                  · rw [if_neg c9] at H
                    have c9b0 : ((x.f2) == (y.f2)) = false := beq_eq_false_iff_ne.mpr c9
                    have c9b1 : ((x.f2) != (y.f2)) = true := bne_iff_ne.mpr c9
                    obtain rfl := Option.some.inj H
                    go_wp2
                    go_ret
                    exact ⟨rfl, by first | exact HW | exact pw_below_drewN HW _⟩
                · rw [if_neg c8] at H
                  have c8b0 : ((x.f1) == (y.f1)) = false := beq_eq_false_iff_ne.mpr c8
                  have c8b1 : ((x.f1) != (y.f1)) = true := bne_iff_ne.mpr c8
                  obtain rfl := Option.some.inj H
                  go_wp2
                  go_ret
                  exact ⟨rfl, by first | exact HW | exact pw_below_drewN HW _⟩
              · rw [if_neg c7] at H
                have c7b0 : ((x.f0) == (y.f0)) = false := beq_eq_false_iff_ne.mpr c7
                have c7b1 : ((x.f0) != (y.f0)) = true := bne_iff_ne.mpr c7
                obtain rfl := Option.some.inj H
                go_wp2
                go_ret
                exact ⟨rfl, by first | exact HW | exact pw_below_drewN HW _⟩
            · rw [if_neg c6] at H
              exact absurd H (by simp)
          · rw [if_neg c5] at H
            exact absurd H (by simp)
        · rw [if_neg c4] at H
          have c4b0 : decide (x5_1 < (l0.length : Int)) = false := decide_eq_false c4
          clear c4
          obtain rfl := Option.some.inj H
          go_wp2
          go_ret
          exact ⟨by first | rfl | (simp [errW_none, errW_some] <;> rfl) | (simp [*, errW_none, errW_some] <;> rfl), by repeat (first | (with_reducible first | exact HB.out | apply below_alloc | apply pw_below_drewN | apply below_drew1) | exact HB.out)⟩
  · rw [if_neg c3] at H
    have c3b0 : ((l0.length : Int) == (l1.length : Int)) = false := beq_eq_false_iff_ne.mpr c3
    have c3b1 : ((l0.length : Int) != (l1.length : Int)) = true := bne_iff_ne.mpr c3
    have c3b2 : (l0.length == l1.length) = false := by first | simpa using c3 | (simp at c3 ⊢; omega)
    obtain rfl := Option.some.inj H
    go_enter Try.func20, Try.ntmps20
    go_wp2
    go_ret
    exact ⟨by first | rfl | (simp [errW_none, errW_some] <;> rfl) | (simp [*, errW_none, errW_some] <;> rfl), by repeat (first | (with_reducible first | exact HB.out | apply below_alloc | apply pw_below_drewN | apply below_drew1) | exact HB.out)⟩
def scarflaw05_InstrBack.f (k : Nat) (l0 : List (S54)) (a1 : ByteArray) : Option (Bool) := if (a1.size : Int) > 1000 then ((scarflaw05_awake.f k).bind fun t343 => (some t343)) else ((instr_Put.f l0).bind fun bt344 => (if bt344.2 = 0 then (if bt344.1.size + a1.size ≤ 9223372036854775807 then ((instr_Take.f (bt344.1 ++ a1)).bind fun bt346 => (if bt346.2.2 = 0 then (if bt346.2.1.toList = a1.toList then ((scarfref05_Same.f k l0 bt346.1).bind fun t351 => (if t351 = true then ((scarflaw05_awake.f k).bind fun t352 => (some t352)) else (some false))) else (some false)) else (some false))) else (none)) else (if bt344.1.toList = ([] : List UInt8) then (if bt344.2 = 1 then ((scarflaw05_awake.f k).bind fun t353 => (some t353)) else (some false)) else (some false))))
theorem scarflaw05_InstrBack.mono : ∀ a0 a1 k, LeO (scarflaw05_InstrBack.f k a0 a1) (scarflaw05_InstrBack.f (k + 1) a0 a1) := by
  intro a0 a1 k
  unfold scarflaw05_InstrBack.f
  repeat' first
      | (with_reducible exact scarflaw05_awake.mono _)
      | (with_reducible exact scarfref05_Same.mono _ _ _)
      | (with_reducible exact LeO.refl _)
      | (with_reducible exact LeO.none _)
      | (with_reducible refine LeO.ite ?_ ?_)
      | (with_reducible refine LeO.bind ?_ (fun _ => ?_))
      | exact scarflaw05_awake.mono _
      | exact scarfref05_Same.mono _ _ _
      | exact LeO.none _
      | refine LeO.ite ?_ ?_
      | refine LeO.bind ?_ (fun _ => ?_)
set_option maxHeartbeats 8000000 in
set_option maxRecDepth 100000 in
theorem scarflaw05_InstrBack.calls (k : Nat) (A0 : Option Addr) (c0 : Nat) (l0 : List (S54)) (a1 : ByteArray) (r : Bool) (w : World) (hr0 : Kd.C k54 w A0 l0.length l0) (hc0 : l0.length ≤ c0) (h : scarflaw05_InstrBack.f k l0 a1 = some r) :
    Calls Try.prog 5 #[.slice A0 l0.length c0, .string a1] w fun e w' => e = .returned (.bool r) ∧ Below w.heap.size w w' := by
  have HR0 := Aside0.mk hr0
  have HC0 := Aside0.mk hc0
  clear hr0 hc0
  have HB := Aside0.mk (Below.refl w.heap.size w)
  have H : (if (a1.size : Int) > 1000 then ((scarflaw05_awake.f k).bind fun t343 => (some t343)) else ((instr_Put.f l0).bind fun bt344 => (if bt344.2 = 0 then (if bt344.1.size + a1.size ≤ 9223372036854775807 then ((instr_Take.f (bt344.1 ++ a1)).bind fun bt346 => (if bt346.2.2 = 0 then (if bt346.2.1.toList = a1.toList then ((scarfref05_Same.f k l0 bt346.1).bind fun t351 => (if t351 = true then ((scarflaw05_awake.f k).bind fun t352 => (some t352)) else (some false))) else (some false)) else (some false))) else (none)) else (if bt344.1.toList = ([] : List UInt8) then (if bt344.2 = 1 then ((scarflaw05_awake.f k).bind fun t353 => (some t353)) else (some false)) else (some false))))) = some r := h
  clear h
  by_cases c3 : (a1.size : Int) > 1000
  · rw [if_pos c3] at H
    have c3b0 : decide (1000 < (a1.size : Int)) = true := decide_eq_true c3
    have c3b1 : decide (1000 < a1.size) = true := decide_eq_true (by omega)
    clear c3
    replace H := Option.bind_eq_some_iff.mp H
    obtain ⟨t343, A40, H⟩ := H
    replace H : (some t343) = some r := H
    have A4 := Aside0.mk A40
    clear A40
    obtain rfl := Option.some.inj H
    go_enter Try.func5, Try.ntmps5
    go_wp2_with (first | ((with_reducible refine gate_callee (f := 14) rfl ?_); refine goesL_ (some 13) rfl rfl Try.func14 (by kernel_rfl) rfl #[] rfl (by (try simp only [List.map_toArray, List.map_cons, List.map_nil]); first | done | rfl | (simp only [List.length_drop, List.length_take]; rfl)) ?_; (with_reducible refine (scarflaw05_awake.calls k  t343 _ A4.out).mono ?_); rintro e w5 ⟨rfl, hb⟩; refine ⟨_, rfl, ?_⟩; have n0_ := Aside0.mk (below_step (by repeat (first | (with_reducible first | exact HB.out | apply below_alloc | apply pw_below_drewN | apply below_drew1) | exact HB.out)) hb); clear HB; have HB := n0_; clear n0_; (try clear hb); (try clear hb2); (try clear hk); (try clear hi)))
    go_ret
    exact ⟨by first | rfl | (simp [errW_none, errW_some] <;> rfl) | (simp [*, errW_none, errW_some] <;> rfl), by repeat (first | (with_reducible first | exact HB.out | apply below_alloc | apply pw_below_drewN | apply below_drew1) | exact HB.out)⟩
  · rw [if_neg c3] at H
    have c3b0 : decide (1000 < (a1.size : Int)) = false := decide_eq_false c3
    have c3b1 : decide (1000 < a1.size) = false := decide_eq_false (by omega)
    clear c3
    replace H := Option.bind_eq_some_iff.mp H
    obtain ⟨⟨t344, t345⟩, A60, H⟩ := H
    replace H : (if t345 = 0 then (if t344.size + a1.size ≤ 9223372036854775807 then ((instr_Take.f (t344 ++ a1)).bind fun bt346 => (if bt346.2.2 = 0 then (if bt346.2.1.toList = a1.toList then ((scarfref05_Same.f k l0 bt346.1).bind fun t351 => (if t351 = true then ((scarflaw05_awake.f k).bind fun t352 => (some t352)) else (some false))) else (some false)) else (some false))) else (none)) else (if t344.toList = ([] : List UInt8) then (if t345 = 1 then ((scarflaw05_awake.f k).bind fun t353 => (some t353)) else (some false)) else (some false))) = some r := H
    have A6 := Aside0.mk A60
    clear A60
    by_cases c7 : t345 = 0
    · rw [if_pos c7] at H
      have c7b0 : (t345 == 0) = true := beq_iff_eq.mpr c7
      have c7b1 : (t345 != 0) = false := bne_eq_false_iff_eq.mpr c7
      clear c7
      by_cases c8 : t344.size + a1.size ≤ 9223372036854775807
      · rw [if_pos c8] at H
        have c8b0 := eq_true c8
        have c8b1 : decide (t344.size + a1.size ≤ 9223372036854775807) = true := decide_eq_true c8
        try have c8b2 : (9223372036854775807 < t344.size + a1.size) = False := eq_false (Nat.not_lt.2 c8)
        replace H := Option.bind_eq_some_iff.mp H
        obtain ⟨⟨t346, t347, t348⟩, A90, H⟩ := H
        replace H : (if t348 = 0 then (if t347.toList = a1.toList then ((scarfref05_Same.f k l0 t346).bind fun t351 => (if t351 = true then ((scarflaw05_awake.f k).bind fun t352 => (some t352)) else (some false))) else (some false)) else (some false)) = some r := H
        have A9 := Aside0.mk A90
        clear A90
        by_cases c10 : t348 = 0
        · rw [if_pos c10] at H
          have c10b0 : (t348 == 0) = true := beq_iff_eq.mpr c10
          have c10b1 : (t348 != 0) = false := bne_eq_false_iff_eq.mpr c10
          clear c10
          by_cases c11 : t347.toList = a1.toList
          · rw [if_pos c11] at H
            have c11b0 : (t347.toList == a1.toList) = true := beq_iff_eq.mpr c11
            have c11b1 : (t347.toList != a1.toList) = false := bne_eq_false_iff_eq.mpr c11
            clear c11
            replace H := Option.bind_eq_some_iff.mp H
            obtain ⟨t351, A120, H⟩ := H
            replace H : (if t351 = true then ((scarflaw05_awake.f k).bind fun t352 => (some t352)) else (some false)) = some r := H
            have A12 := Aside0.mk A120
            clear A120
            by_cases c13 : t351 = true
            · subst c13
              have H1 : ((scarflaw05_awake.f k).bind fun t352 => (some t352)) = some r := by rw [if_pos rfl] at H; exact H
              clear H
              have H := H1
              clear H1
              replace H := Option.bind_eq_some_iff.mp H
              obtain ⟨t352, A140, H⟩ := H
              replace H : (some t352) = some r := H
              have A14 := Aside0.mk A140
              clear A140
              obtain rfl := Option.some.inj H
              go_enter Try.func5, Try.ntmps5
              go_wp2_with (first | ((with_reducible refine gate_callee (f := 15) rfl ?_); refine goesL_ (some 16) rfl rfl Try.func15 (by kernel_rfl) rfl #[.slice A0 l0.length c0] rfl (by (try simp only [List.map_toArray, List.map_cons, List.map_nil]); first | done | rfl | (simp only [List.length_drop, List.length_take]; rfl)) ?_; (with_reducible refine (instr_Put.calls _ _ l0 t344 t345 _ ?side1 ?side2 A6.out).mono ?_); (case side1 => repeat (first | exact HR0.out | (with_reducible refine Kd.C_alloc ?_ _) | (with_reducible refine Kd.C_drewN ?_ _) | (with_reducible refine Kd.C_drew ?_))); (case side2 => exact HC0.out); rintro e w15 ⟨rfl, hb⟩; refine ⟨_, rfl, ?_⟩; have n0_ := Aside0.mk (below_step (by repeat (first | (with_reducible first | exact HB.out | apply below_alloc | apply pw_below_drewN | apply below_drew1) | exact HB.out)) hb); clear HB; have HB := n0_; clear n0_; (try clear hb); (try clear hb2); (try clear hk); (try clear hi)) | ((with_reducible refine gate_callee (f := 19) rfl ?_); refine goesL_ (some 34) rfl rfl Try.func19 (by kernel_rfl) rfl #[.string (t344 ++ a1)] rfl (by (try simp only [List.map_toArray, List.map_cons, List.map_nil]); first | done | rfl | (simp only [List.length_drop, List.length_take]; rfl)) ?_; (with_reducible refine (instr_Take.calls (t344 ++ a1) t346 t347 t348 _ A9.out).mono ?_); rintro e w16 ⟨v349, rfl, ho0, hb⟩; refine ⟨_, rfl, ?_⟩; have n0_ := Aside0.mk (Kd.R_lower ho0 (below_size (by repeat (first | (with_reducible first | exact HB.out | apply below_alloc | apply pw_below_drewN | apply below_drew1) | exact HB.out)))); have n1_ := Aside0.mk (below_step (by repeat (first | (with_reducible first | exact HB.out | apply below_alloc | apply pw_below_drewN | apply below_drew1) | exact HB.out)) hb); clear HB; have HO350 := n0_; have HB := n1_; clear n0_ n1_; (try clear hb); (try clear hb2); (try clear hk); (try clear hi); (try clear ho0); obtain ⟨Ao17, co17, eo17⟩ := Kd.R_slice HO350.out; subst eo17) | (go_at_call 20; (with_reducible refine (scarfref05_Same.calls k _ _ l0 _ _ t346 true _ ?side1 ?side2 ?side3 ?side4 A12.out).mono ?_); (case side1 => repeat (first | exact (Kd.C_below HR0.out HB.out) | (with_reducible refine Kd.C_alloc ?_ _) | (with_reducible refine Kd.C_drewN ?_ _) | (with_reducible refine Kd.C_drew ?_))); (case side2 => exact HC0.out); (case side3 => repeat (first | exact (Kd.R_reads' HO350.out).2.2 | (with_reducible refine Kd.C_alloc ?_ _) | (with_reducible refine Kd.C_drewN ?_ _) | (with_reducible refine Kd.C_drew ?_))); (case side4 => exact (Kd.R_reads' HO350.out).2.1); rintro e w18 ⟨rfl, hb⟩; have n0_ := Aside0.mk (Kd.R_below (by (with_reducible repeat (first | apply Kd.R_alloc | apply Kd.R_drewN | apply Kd.R_drew)); exact HO350.out) hb); have n1_ := Aside0.mk (below_step (by repeat (first | (with_reducible first | exact HB.out | apply below_alloc | apply pw_below_drewN | apply below_drew1) | exact HB.out)) hb); clear HO350; clear HB; have HO350 := n0_; have HB := n1_; clear n0_ n1_; (try clear hb); (try clear hb2); (try clear hk); (try clear hi)) | (go_at_call 14; (with_reducible refine (scarflaw05_awake.calls k  t352 _ A14.out).mono ?_); rintro e w19 ⟨rfl, hb⟩; have n0_ := Aside0.mk (Kd.R_below (by (with_reducible repeat (first | apply Kd.R_alloc | apply Kd.R_drewN | apply Kd.R_drew)); exact HO350.out) hb); have n1_ := Aside0.mk (below_step (by repeat (first | (with_reducible first | exact HB.out | apply below_alloc | apply pw_below_drewN | apply below_drew1) | exact HB.out)) hb); clear HO350; clear HB; have HO350 := n0_; have HB := n1_; clear n0_ n1_; (try clear hb); (try clear hb2); (try clear hk); (try clear hi)))
              go_ret
              exact ⟨by first | rfl | (simp [errW_none, errW_some] <;> rfl) | (simp [*, errW_none, errW_some] <;> rfl), by repeat (first | (with_reducible first | exact HB.out | apply below_alloc | apply pw_below_drewN | apply below_drew1) | exact HB.out)⟩
            · replace c13 := Bool.eq_false_iff.mpr c13
              subst c13
              have H1 : (some false) = some r := by rw [if_neg (show ¬ (false = true) by decide)] at H; exact H
              clear H
              have H := H1
              clear H1
              obtain rfl := Option.some.inj H
              go_enter Try.func5, Try.ntmps5
              go_wp2_with (first | ((with_reducible refine gate_callee (f := 15) rfl ?_); refine goesL_ (some 16) rfl rfl Try.func15 (by kernel_rfl) rfl #[.slice A0 l0.length c0] rfl (by (try simp only [List.map_toArray, List.map_cons, List.map_nil]); first | done | rfl | (simp only [List.length_drop, List.length_take]; rfl)) ?_; (with_reducible refine (instr_Put.calls _ _ l0 t344 t345 _ ?side1 ?side2 A6.out).mono ?_); (case side1 => repeat (first | exact HR0.out | (with_reducible refine Kd.C_alloc ?_ _) | (with_reducible refine Kd.C_drewN ?_ _) | (with_reducible refine Kd.C_drew ?_))); (case side2 => exact HC0.out); rintro e w20 ⟨rfl, hb⟩; refine ⟨_, rfl, ?_⟩; have n0_ := Aside0.mk (below_step (by repeat (first | (with_reducible first | exact HB.out | apply below_alloc | apply pw_below_drewN | apply below_drew1) | exact HB.out)) hb); clear HB; have HB := n0_; clear n0_; (try clear hb); (try clear hb2); (try clear hk); (try clear hi)) | ((with_reducible refine gate_callee (f := 19) rfl ?_); refine goesL_ (some 34) rfl rfl Try.func19 (by kernel_rfl) rfl #[.string (t344 ++ a1)] rfl (by (try simp only [List.map_toArray, List.map_cons, List.map_nil]); first | done | rfl | (simp only [List.length_drop, List.length_take]; rfl)) ?_; (with_reducible refine (instr_Take.calls (t344 ++ a1) t346 t347 t348 _ A9.out).mono ?_); rintro e w21 ⟨v349, rfl, ho0, hb⟩; refine ⟨_, rfl, ?_⟩; have n0_ := Aside0.mk (Kd.R_lower ho0 (below_size (by repeat (first | (with_reducible first | exact HB.out | apply below_alloc | apply pw_below_drewN | apply below_drew1) | exact HB.out)))); have n1_ := Aside0.mk (below_step (by repeat (first | (with_reducible first | exact HB.out | apply below_alloc | apply pw_below_drewN | apply below_drew1) | exact HB.out)) hb); clear HB; have HO350 := n0_; have HB := n1_; clear n0_ n1_; (try clear hb); (try clear hb2); (try clear hk); (try clear hi); (try clear ho0); obtain ⟨Ao22, co22, eo22⟩ := Kd.R_slice HO350.out; subst eo22) | (go_at_call 20; (with_reducible refine (scarfref05_Same.calls k _ _ l0 _ _ t346 false _ ?side1 ?side2 ?side3 ?side4 A12.out).mono ?_); (case side1 => repeat (first | exact (Kd.C_below HR0.out HB.out) | (with_reducible refine Kd.C_alloc ?_ _) | (with_reducible refine Kd.C_drewN ?_ _) | (with_reducible refine Kd.C_drew ?_))); (case side2 => exact HC0.out); (case side3 => repeat (first | exact (Kd.R_reads' HO350.out).2.2 | (with_reducible refine Kd.C_alloc ?_ _) | (with_reducible refine Kd.C_drewN ?_ _) | (with_reducible refine Kd.C_drew ?_))); (case side4 => exact (Kd.R_reads' HO350.out).2.1); rintro e w23 ⟨rfl, hb⟩; have n0_ := Aside0.mk (Kd.R_below (by (with_reducible repeat (first | apply Kd.R_alloc | apply Kd.R_drewN | apply Kd.R_drew)); exact HO350.out) hb); have n1_ := Aside0.mk (below_step (by repeat (first | (with_reducible first | exact HB.out | apply below_alloc | apply pw_below_drewN | apply below_drew1) | exact HB.out)) hb); clear HO350; clear HB; have HO350 := n0_; have HB := n1_; clear n0_ n1_; (try clear hb); (try clear hb2); (try clear hk); (try clear hi)))
              go_ret
              exact ⟨by first | rfl | (simp [errW_none, errW_some] <;> rfl) | (simp [*, errW_none, errW_some] <;> rfl), by repeat (first | (with_reducible first | exact HB.out | apply below_alloc | apply pw_below_drewN | apply below_drew1) | exact HB.out)⟩
          · rw [if_neg c11] at H
            have c11b0 : (t347.toList == a1.toList) = false := beq_eq_false_iff_ne.mpr c11
            have c11b1 : (t347.toList != a1.toList) = true := bne_iff_ne.mpr c11
            obtain rfl := Option.some.inj H
            go_enter Try.func5, Try.ntmps5
            go_wp2_with (first | ((with_reducible refine gate_callee (f := 15) rfl ?_); refine goesL_ (some 16) rfl rfl Try.func15 (by kernel_rfl) rfl #[.slice A0 l0.length c0] rfl (by (try simp only [List.map_toArray, List.map_cons, List.map_nil]); first | done | rfl | (simp only [List.length_drop, List.length_take]; rfl)) ?_; (with_reducible refine (instr_Put.calls _ _ l0 t344 t345 _ ?side1 ?side2 A6.out).mono ?_); (case side1 => repeat (first | exact HR0.out | (with_reducible refine Kd.C_alloc ?_ _) | (with_reducible refine Kd.C_drewN ?_ _) | (with_reducible refine Kd.C_drew ?_))); (case side2 => exact HC0.out); rintro e w24 ⟨rfl, hb⟩; refine ⟨_, rfl, ?_⟩; have n0_ := Aside0.mk (below_step (by repeat (first | (with_reducible first | exact HB.out | apply below_alloc | apply pw_below_drewN | apply below_drew1) | exact HB.out)) hb); clear HB; have HB := n0_; clear n0_; (try clear hb); (try clear hb2); (try clear hk); (try clear hi)) | ((with_reducible refine gate_callee (f := 19) rfl ?_); refine goesL_ (some 34) rfl rfl Try.func19 (by kernel_rfl) rfl #[.string (t344 ++ a1)] rfl (by (try simp only [List.map_toArray, List.map_cons, List.map_nil]); first | done | rfl | (simp only [List.length_drop, List.length_take]; rfl)) ?_; (with_reducible refine (instr_Take.calls (t344 ++ a1) t346 t347 t348 _ A9.out).mono ?_); rintro e w25 ⟨v349, rfl, ho0, hb⟩; refine ⟨_, rfl, ?_⟩; have n0_ := Aside0.mk (Kd.R_lower ho0 (below_size (by repeat (first | (with_reducible first | exact HB.out | apply below_alloc | apply pw_below_drewN | apply below_drew1) | exact HB.out)))); have n1_ := Aside0.mk (below_step (by repeat (first | (with_reducible first | exact HB.out | apply below_alloc | apply pw_below_drewN | apply below_drew1) | exact HB.out)) hb); clear HB; have HO350 := n0_; have HB := n1_; clear n0_ n1_; (try clear hb); (try clear hb2); (try clear hk); (try clear hi); (try clear ho0)))
            go_ret
            exact ⟨by first | rfl | (simp [errW_none, errW_some] <;> rfl) | (simp [*, errW_none, errW_some] <;> rfl), by repeat (first | (with_reducible first | exact HB.out | apply below_alloc | apply pw_below_drewN | apply below_drew1) | exact HB.out)⟩
        · rw [if_neg c10] at H
          have c10b0 : (t348 == 0) = false := beq_eq_false_iff_ne.mpr c10
          have c10b1 : (t348 != 0) = true := bne_iff_ne.mpr c10
          obtain rfl := Option.some.inj H
          go_enter Try.func5, Try.ntmps5
          go_wp2_with (first | ((with_reducible refine gate_callee (f := 15) rfl ?_); refine goesL_ (some 16) rfl rfl Try.func15 (by kernel_rfl) rfl #[.slice A0 l0.length c0] rfl (by (try simp only [List.map_toArray, List.map_cons, List.map_nil]); first | done | rfl | (simp only [List.length_drop, List.length_take]; rfl)) ?_; (with_reducible refine (instr_Put.calls _ _ l0 t344 t345 _ ?side1 ?side2 A6.out).mono ?_); (case side1 => repeat (first | exact HR0.out | (with_reducible refine Kd.C_alloc ?_ _) | (with_reducible refine Kd.C_drewN ?_ _) | (with_reducible refine Kd.C_drew ?_))); (case side2 => exact HC0.out); rintro e w26 ⟨rfl, hb⟩; refine ⟨_, rfl, ?_⟩; have n0_ := Aside0.mk (below_step (by repeat (first | (with_reducible first | exact HB.out | apply below_alloc | apply pw_below_drewN | apply below_drew1) | exact HB.out)) hb); clear HB; have HB := n0_; clear n0_; (try clear hb); (try clear hb2); (try clear hk); (try clear hi)) | ((with_reducible refine gate_callee (f := 19) rfl ?_); refine goesL_ (some 34) rfl rfl Try.func19 (by kernel_rfl) rfl #[.string (t344 ++ a1)] rfl (by (try simp only [List.map_toArray, List.map_cons, List.map_nil]); first | done | rfl | (simp only [List.length_drop, List.length_take]; rfl)) ?_; (with_reducible refine (instr_Take.calls (t344 ++ a1) t346 t347 t348 _ A9.out).mono ?_); rintro e w27 ⟨v349, rfl, ho0, hb⟩; refine ⟨_, rfl, ?_⟩; have n0_ := Aside0.mk (Kd.R_lower ho0 (below_size (by repeat (first | (with_reducible first | exact HB.out | apply below_alloc | apply pw_below_drewN | apply below_drew1) | exact HB.out)))); have n1_ := Aside0.mk (below_step (by repeat (first | (with_reducible first | exact HB.out | apply below_alloc | apply pw_below_drewN | apply below_drew1) | exact HB.out)) hb); clear HB; have HO350 := n0_; have HB := n1_; clear n0_ n1_; (try clear hb); (try clear hb2); (try clear hk); (try clear hi); (try clear ho0)))
          go_ret
          exact ⟨by first | rfl | (simp [errW_none, errW_some] <;> rfl) | (simp [*, errW_none, errW_some] <;> rfl), by repeat (first | (with_reducible first | exact HB.out | apply below_alloc | apply pw_below_drewN | apply below_drew1) | exact HB.out)⟩
      · rw [if_neg c8] at H
        exact absurd H (by simp)
    · rw [if_neg c7] at H
      have c7b0 : (t345 == 0) = false := beq_eq_false_iff_ne.mpr c7
      have c7b1 : (t345 != 0) = true := bne_iff_ne.mpr c7
      by_cases c28 : t344.toList = ([] : List UInt8)
      · rw [if_pos c28] at H
        have c28b0 : (t344.toList == ([] : List UInt8)) = true := beq_iff_eq.mpr c28
        have c28b1 : (t344.toList != ([] : List UInt8)) = false := bne_eq_false_iff_eq.mpr c28
        clear c28
        by_cases c29 : t345 = 1
        · rw [if_pos c29] at H
          have c29b0 : (t345 == 1) = true := beq_iff_eq.mpr c29
          have c29b1 : (t345 != 1) = false := bne_eq_false_iff_eq.mpr c29
          clear c29
          replace H := Option.bind_eq_some_iff.mp H
          obtain ⟨t353, A300, H⟩ := H
          replace H : (some t353) = some r := H
          have A30 := Aside0.mk A300
          clear A300
          obtain rfl := Option.some.inj H
          go_enter Try.func5, Try.ntmps5
          go_wp2_with (first | ((with_reducible refine gate_callee (f := 15) rfl ?_); refine goesL_ (some 16) rfl rfl Try.func15 (by kernel_rfl) rfl #[.slice A0 l0.length c0] rfl (by (try simp only [List.map_toArray, List.map_cons, List.map_nil]); first | done | rfl | (simp only [List.length_drop, List.length_take]; rfl)) ?_; (with_reducible refine (instr_Put.calls _ _ l0 t344 t345 _ ?side1 ?side2 A6.out).mono ?_); (case side1 => repeat (first | exact HR0.out | (with_reducible refine Kd.C_alloc ?_ _) | (with_reducible refine Kd.C_drewN ?_ _) | (with_reducible refine Kd.C_drew ?_))); (case side2 => exact HC0.out); rintro e w31 ⟨rfl, hb⟩; refine ⟨_, rfl, ?_⟩; have n0_ := Aside0.mk (below_step (by repeat (first | (with_reducible first | exact HB.out | apply below_alloc | apply pw_below_drewN | apply below_drew1) | exact HB.out)) hb); clear HB; have HB := n0_; clear n0_; (try clear hb); (try clear hb2); (try clear hk); (try clear hi)) | (go_at_call 14; (with_reducible refine (scarflaw05_awake.calls k  t353 _ A30.out).mono ?_); rintro e w32 ⟨rfl, hb⟩; have n0_ := Aside0.mk (below_step (by repeat (first | (with_reducible first | exact HB.out | apply below_alloc | apply pw_below_drewN | apply below_drew1) | exact HB.out)) hb); clear HB; have HB := n0_; clear n0_; (try clear hb); (try clear hb2); (try clear hk); (try clear hi)))
          go_ret
          exact ⟨by first | rfl | (simp [errW_none, errW_some] <;> rfl) | (simp [*, errW_none, errW_some] <;> rfl), by repeat (first | (with_reducible first | exact HB.out | apply below_alloc | apply pw_below_drewN | apply below_drew1) | exact HB.out)⟩
        · rw [if_neg c29] at H
          have c29b0 : (t345 == 1) = false := beq_eq_false_iff_ne.mpr c29
          have c29b1 : (t345 != 1) = true := bne_iff_ne.mpr c29
          obtain rfl := Option.some.inj H
          go_enter Try.func5, Try.ntmps5
          go_wp2_with (first | ((with_reducible refine gate_callee (f := 15) rfl ?_); refine goesL_ (some 16) rfl rfl Try.func15 (by kernel_rfl) rfl #[.slice A0 l0.length c0] rfl (by (try simp only [List.map_toArray, List.map_cons, List.map_nil]); first | done | rfl | (simp only [List.length_drop, List.length_take]; rfl)) ?_; (with_reducible refine (instr_Put.calls _ _ l0 t344 t345 _ ?side1 ?side2 A6.out).mono ?_); (case side1 => repeat (first | exact HR0.out | (with_reducible refine Kd.C_alloc ?_ _) | (with_reducible refine Kd.C_drewN ?_ _) | (with_reducible refine Kd.C_drew ?_))); (case side2 => exact HC0.out); rintro e w33 ⟨rfl, hb⟩; refine ⟨_, rfl, ?_⟩; have n0_ := Aside0.mk (below_step (by repeat (first | (with_reducible first | exact HB.out | apply below_alloc | apply pw_below_drewN | apply below_drew1) | exact HB.out)) hb); clear HB; have HB := n0_; clear n0_; (try clear hb); (try clear hb2); (try clear hk); (try clear hi)))
          go_ret
          exact ⟨by first | rfl | (simp [errW_none, errW_some] <;> rfl) | (simp [*, errW_none, errW_some] <;> rfl), by repeat (first | (with_reducible first | exact HB.out | apply below_alloc | apply pw_below_drewN | apply below_drew1) | exact HB.out)⟩
      · rw [if_neg c28] at H
        have c28b0 : (t344.toList == ([] : List UInt8)) = false := beq_eq_false_iff_ne.mpr c28
        have c28b1 : (t344.toList != ([] : List UInt8)) = true := bne_iff_ne.mpr c28
        obtain rfl := Option.some.inj H
        go_enter Try.func5, Try.ntmps5
        go_wp2_with (first | ((with_reducible refine gate_callee (f := 15) rfl ?_); refine goesL_ (some 16) rfl rfl Try.func15 (by kernel_rfl) rfl #[.slice A0 l0.length c0] rfl (by (try simp only [List.map_toArray, List.map_cons, List.map_nil]); first | done | rfl | (simp only [List.length_drop, List.length_take]; rfl)) ?_; (with_reducible refine (instr_Put.calls _ _ l0 t344 t345 _ ?side1 ?side2 A6.out).mono ?_); (case side1 => repeat (first | exact HR0.out | (with_reducible refine Kd.C_alloc ?_ _) | (with_reducible refine Kd.C_drewN ?_ _) | (with_reducible refine Kd.C_drew ?_))); (case side2 => exact HC0.out); rintro e w34 ⟨rfl, hb⟩; refine ⟨_, rfl, ?_⟩; have n0_ := Aside0.mk (below_step (by repeat (first | (with_reducible first | exact HB.out | apply below_alloc | apply pw_below_drewN | apply below_drew1) | exact HB.out)) hb); clear HB; have HB := n0_; clear n0_; (try clear hb); (try clear hb2); (try clear hk); (try clear hi)))
        go_ret
        exact ⟨by first | rfl | (simp [errW_none, errW_some] <;> rfl) | (simp [*, errW_none, errW_some] <;> rfl), by repeat (first | (with_reducible first | exact HB.out | apply below_alloc | apply pw_below_drewN | apply below_drew1) | exact HB.out)⟩
open Go.Proofs.Ytckhlbpjehbnlaa.Str Go.Proofs.Ytckhlbpjehbnlaa.LebS Go.Proofs.Ytckhlbpjehbnlaa.LebF
theorem nSame_l0 (l : List Int) (hn : l.length ≤ 4611686018427387904) : ∀ (m i k : Nat), i + m = l.length → m + 1 ≤ k → scarfref01_Same.l0 k l l (i : Int) = some true := by
  intro m
  induction m with
  | zero =>
    intro i k hi hk
    obtain ⟨k, rfl⟩ : ∃ m, k = m + 1 := ⟨k - 1, by omega⟩
    rw [scarfref01_Same.l0, if_neg (by omega)]
  | succ m ih =>
    intro i k hi hk
    obtain ⟨k, rfl⟩ : ∃ m, k = m + 1 := ⟨k - 1, by omega⟩
    have hi1 : wrap64 ((i : Int) + 1) = ((i + 1 : Nat) : Int) := by rw [wrap64_id (by omega) (by omega)]; omega
    rw [scarfref01_Same.l0, if_pos (by omega), if_pos (by omega), if_pos (by omega), if_pos rfl, hi1, ih (i + 1) k (by omega) (by omega)]
theorem nSame_eq (l : List Int) (hn : l.length ≤ 4611686018427387904) (k : Nat) (hk : l.length + 1 ≤ k) : scarfref01_Same.f k l l = some true := by
  unfold scarfref01_Same.f
  rw [if_pos rfl]
  have := nSame_l0 l hn l.length 0 k (by omega) (by omega)
  rwa [show ((0 : Nat) : Int) = 0 from rfl] at this
theorem same_up {a b : List S54} {k k' : Nat} {r : Bool} (h : scarfref05_Same.f k a b = some r) (hk : k ≤ k') : scarfref05_Same.f k' a b = some r := at_rounds (scarfref05_Same.mono a b) hk h
theorem same_l0_up {a b : List S54} {i : Int} {k k' : Nat} {r : Bool} (h : scarfref05_Same.l0 k a b i = some r) (hk : k ≤ k') : scarfref05_Same.l0 k' a b i = some r := at_rounds (fun k => (scarfref05_Same.mono_l k).2 a b i) hk h
theorem same_l0 (l : List S54) (hlen : l.length ≤ 17592186044416) : ∀ (ys : List S54) (i : Nat), l.drop i = ys → (∀ x ∈ ys, x.f4.length ≤ 17592186044416 ∧ (∃ k, scarfref05_Same.f k x.f5 x.f5 = some true) ∧ ∃ k, scarfref05_Same.f k x.f6 x.f6 = some true) → ∃ k, scarfref05_Same.l0 k l l (i : Int) = some true := by
  intro ys
  induction ys with
  | nil =>
    intro i hdrop _
    have hge : l.length ≤ i := List.drop_eq_nil_iff.mp hdrop
    exact ⟨1, by rw [scarfref05_Same.l0, if_neg (by omega)]⟩
  | cons x ys ih =>
    intro i hdrop hx
    obtain ⟨hrd, hi, hdrop1⟩ := rd_at hdrop
    obtain ⟨h4, ⟨k5, h5⟩, k6, h6⟩ := hx x (by simp)
    obtain ⟨kr, hr⟩ := ih (i + 1) hdrop1 (fun y hy => hx y (by simp [hy]))
    refine ⟨(x.f4.length + 1 + k5 + k6 + kr) + 1, ?_⟩
    rw [scarfref05_Same.l0, if_pos (by omega), if_pos (by omega), if_pos (by omega), hrd, if_pos rfl, if_pos rfl, if_pos rfl, if_pos rfl, nSame_eq x.f4 (by omega) _ (by omega)]
    simp only [Option.bind_some, if_true]
    rw [same_up h5 (by omega)]
    simp only [Option.bind_some, if_true]
    rw [same_up h6 (by omega)]
    simp only [Option.bind_some, if_true]
    rw [succ3 i (by omega)]
    exact same_l0_up hr (by omega)
theorem mayN {x : S54} {s : Int} {t : Int × Int} (hk : ShOk x.f0 s) (hm : mayS s x.f0 x.f1 x.f2 x.f3 x.f4 x.f5 x.f6 t = true) : x.f4.length ≤ 1000 := by
  rcases s_cases hk with rfl | rfl | rfl | rfl | rfl | rfl | rfl | rfl | rfl | rfl | rfl <;> simp [mayS] at hm
  · rw [hm.2.2.2.1]; simp
  · rw [hm.2.2.2]; simp
  · rw [hm.2.2.2.1]; simp
  · exact hm.1.1.2
  · rw [hm.2.2.1]; simp
  · rw [hm.2.2.2.1]; simp
  · rw [hm.2.1]; simp
  · rw [hm.2.2.2.1]; simp
  · rw [hm.2.2.1]; simp
  · rw [hm.2.2.2.1]; simp
  · rw [hm.2.2.2.1]; simp
theorem same_eq : ∀ (d : Nat) (l : List S54), okD d l → cntD d l ≤ 8192 → ∃ k, scarfref05_Same.f k l l = some true := by
  intro d
  induction d with
  | zero =>
    intro l hl _
    rw [show l = [] from hl]
    exact ⟨2, rfl⟩
  | succ d ih =>
    intro l hl hc
    have hlen := cntD_len d l
    have hsub : ∀ x ∈ l, cntD d x.f5 + cntD d x.f6 ≤ cntD (d + 1) l := by
      clear hc hlen hl
      induction l with
      | nil => intro x hx; cases hx
      | cons y l ihl =>
        intro x hx
        rw [cnt_le]
        rcases List.mem_cons.mp hx with rfl | hx
        · omega
        · have := ihl x hx; omega
    obtain ⟨k, hk⟩ := same_l0 l (by omega) l 0 (by simp) (fun x hx => by
      obtain ⟨⟨s, t, hs, ht, hm, _, _⟩, hL, hE, _⟩ := hl x hx
      have h1 := hsub x hx
      have h4 := mayN (shp_ok hs) hm
      exact ⟨by omega, ih _ hL (by omega), ih _ hE (by omega)⟩)
    refine ⟨k + 1, ?_⟩
    rw [scarfref05_Same.f, if_pos rfl]
    exact hk
theorem Fits.same {l : List S54} (h : Fits l) : ∃ k, scarfref05_Same.f k l l = some true := same_eq 33 l h.1 h.2
theorem law_back (l : List S54) (a1 : ByteArray) (hm : l.length ≤ 17592186044416) (hw : ∀ x ∈ l, WfI x) (ha : a1.size ≤ 140737488351232) : ∃ k, scarflaw05_InstrBack.f k l a1 = some true := by
  have aw : ∀ k, 1 ≤ k → (scarflaw05_awake.f k).bind (fun t => some t) = some true := fun k hk => by rw [awk k hk]; rfl
  by_cases hs : (a1.size : Int) > 1000
  · exact ⟨1, by unfold scarflaw05_InstrBack.f; rw [if_pos hs]; exact aw 1 (by omega)⟩
  by_cases h : Fits l
  · obtain ⟨k, hk⟩ := h.same
    refine ⟨k + 1, ?_⟩
    unfold scarflaw05_InstrBack.f
    have hlen := h.len
    rw [if_neg hs, Put_yes hw hm h]
    simp only [Option.bind_some, if_true]
    rw [if_pos (by rw [strOfNums_size]; simp; omega)]
    have e : strOfNums (encD 33 l ++ [11]) ++ a1 = strOfNums (encD 33 l ++ 11 :: bytesOf a1) := by
      conv => lhs; rw [← str_of a1]
      rw [← strOfNums_append, List.append_assoc]; rfl
    rw [e, Take_fwd h (bytesOf a1) (bytes_range a1) (by rw [bytesOf_length]; omega), str_of]
    simp only [Option.bind_some, if_true]
    rw [same_up hk (by omega)]
    simp only [Option.bind_some, if_true]
    exact aw _ (by omega)
  · refine ⟨1, ?_⟩
    unfold scarflaw05_InstrBack.f
    rw [if_neg hs, Put_no hw hm h]
    simp only [Option.bind_some]
    rw [if_neg (by decide), if_pos empty_toList, if_pos trivial]
    exact aw 1 (by omega)
end Go.Proofs.Ytckhlbpjehbnlaa.PB
