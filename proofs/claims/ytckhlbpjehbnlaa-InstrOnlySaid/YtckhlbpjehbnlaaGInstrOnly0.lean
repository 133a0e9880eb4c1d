/- Several texts of this session, laid into one for a claim: PBx57, PBx58, PBx60, InstrS, InstrRv, InstrRl. -/
import Derived.Test.YtckhlbpjehbnlaaGBase0
import Derived.Test.YtckhlbpjehbnlaaGBase5
import Derived.Test.YtckhlbpjehbnlaaGBase3
import Derived.Test.YtckhlbpjehbnlaaGBase6
namespace Go.Proofs.Ytckhlbpjehbnlaa.PB
open Go.RowKit Go.Proofs.YtckhlbpjehbnlaaW.PrintWords Go.Proofs.YtckhlbpjehbnlaaW.PrintLast Go.Proofs.YtckhlbpjehbnlaaW.PrintMore
attribute [local go_sem] max2_int min2_int max_two min_two max_three min_three max_four min_four   -- for this text's walks alone
set_option linter.unusedVariables false
set_option linter.unusedSimpArgs false
def scarfref01_Same.l0 : Nat → List Int → List Int → Int → Option (Bool)
  | 0, _, _, _ => none
  | k + 1, x0, x1, x5 => if x5 < (x0.length : Int) then (if 0 ≤ x5 then (if x5 < (x1.length : Int) then (if (rd x0 x5) = (rd x1 x5) then (scarfref01_Same.l0 k x0 x1 (wrap64 (x5 + 1))) else (some false)) else (none)) else (none)) else (some true)
def scarfref01_Same.f (k : Nat) (l0 : List Int) (l1 : List Int) : Option (Bool) := if (l0.length : Int) = (l1.length : Int) then (scarfref01_Same.l0 k l0 l1 0) else (some false)
theorem scarfref01_Same.mono_l : ∀ k, (∀ y0 y1 y2, LeO (scarfref01_Same.l0 k y0 y1 y2) (scarfref01_Same.l0 (k + 1) y0 y1 y2))
  | 0 => fun _ _ _ r h => by simp [scarfref01_Same.l0] at h
  | k + 1 => by
    have ih0 := scarfref01_Same.mono_l k
    · intro y0 y1 y2
      unfold scarfref01_Same.l0
      repeat' first
      | (with_reducible exact ih0 _ _ _)
      | (with_reducible exact LeO.refl _)
      | (with_reducible exact LeO.none _)
      | (with_reducible refine LeO.ite ?_ ?_)
      | (with_reducible refine LeO.bind ?_ (fun _ => ?_))
      | exact ih0 _ _ _
      | exact LeO.none _
      | refine LeO.ite ?_ ?_
      | refine LeO.bind ?_ (fun _ => ?_)
theorem scarfref01_Same.mono : ∀ a0 a1 k, LeO (scarfref01_Same.f k a0 a1) (scarfref01_Same.f (k + 1) a0 a1) := by
  intro a0 a1 k
  have ih0 := scarfref01_Same.mono_l k
  unfold scarfref01_Same.f
  repeat' first
      | (with_reducible exact ih0 _ _ _)
      | (with_reducible exact LeO.refl _)
      | (with_reducible exact LeO.none _)
      | (with_reducible refine LeO.ite ?_ ?_)
      | (with_reducible refine LeO.bind ?_ (fun _ => ?_))
      | exact ih0 _ _ _
      | exact LeO.none _
      | refine LeO.ite ?_ ?_
      | refine LeO.bind ?_ (fun _ => ?_)
set_option maxHeartbeats 8000000 in
set_option maxRecDepth 100000 in
theorem scarfref01_Same.calls (k : Nat) (A0 : Option Addr) (c0 : Nat) (l0 : List Int) (A1 : Option Addr) (c1 : Nat) (l1 : List Int) (r : Bool) (w : World) (hr0 : Kd.C (Kd.int .i64) w A0 l0.length l0) (hc0 : l0.length ≤ c0) (hr1 : Kd.C (Kd.int .i64) w A1 l1.length l1) (hc1 : l1.length ≤ c1) (h : scarfref01_Same.f k l0 l1 = some r) :
    Calls Try.prog 37 #[.slice A0 l0.length c0, .slice A1 l1.length c1] w fun e w' => e = .returned (.bool r) ∧ Drawn0 w w' := by
  have HR0 := Aside0.mk hr0
  have HC0 := Aside0.mk hc0
  clear hr0 hc0
  have HR1 := Aside0.mk hr1
  have HC1 := Aside0.mk hc1
  clear hr1 hc1
  have H : (if (l0.length : Int) = (l1.length : Int) then (scarfref01_Same.l0 k l0 l1 0) else (some false)) = some r := h
  clear h
  by_cases c3 : (l0.length : Int) = (l1.length : Int)
  · rw [if_pos c3] at H
    have c3b0 : ((l0.length : Int) == (l1.length : Int)) = true := beq_iff_eq.mpr c3
    have c3b1 : ((l0.length : Int) != (l1.length : Int)) = false := bne_eq_false_iff_eq.mpr c3
    have c3b2 : (l0.length == l1.length) = true := by first | simpa using c3 | (simp at c3 ⊢; omega)
    clear c3
    have H' := Aside0.mk H
    clear H
    go_enter Try.func37, Try.ntmps37
    go_wp2
    repeat (go_quiet (fail); try go_wp2)
    go_loopg [5] k (fun kq v5 w' => ∃ (x5_1 : Int), v5 = .int .i64 x5_1 ∧ Aside0 (scarfref01_Same.l0 kq l0 l1 x5_1 = some r) ∧ Aside0 (kq ≤ k) ∧ Drawn0 w w')
    case atStart => exact ⟨(0), (by first | rfl | (simp; done) | (simp [*]; done)), H', ⟨Nat.le_refl _⟩, by repeat (first | exact Drawn0.refl _ | apply Drawn0.step)⟩
    case round =>
      clear H'
      try clear c1
      try clear p2
      try clear c3
      try clear c3b0
      try clear c3b1
      try clear c3b2
      obtain ⟨x5_1, rfl, HA, HK1, ⟨m1, rfl⟩⟩ := hrel
      cases gk with
      | zero => exact absurd HA.out (by simp [scarfref01_Same.l0])
      | succ k1 =>
        have H := HA.out
        clear HA
        simp only [scarfref01_Same.l0] at H
        by_cases c4 : x5_1 < (l0.length : Int)
        · rw [if_pos c4] at H
          have c4b0 : decide (x5_1 < (l0.length : Int)) = true := decide_eq_true c4
          clear c4
          by_cases c5 : 0 ≤ x5_1
          · rw [if_pos c5] at H
            have c5b0 : decide (0 ≤ x5_1) = true := decide_eq_true c5
            clear c5
            by_cases c6 : x5_1 < (l1.length : Int)
            · rw [if_pos c6] at H
              have c6b0 : decide (x5_1 < (l1.length : Int)) = true := decide_eq_true c6
              clear c6
              by_cases c7 : (rd l0 x5_1) = (rd l1 x5_1)
              · rw [if_pos c7] at H
                have c7b0 : ((rd l0 x5_1) == (rd l1 x5_1)) = true := beq_iff_eq.mpr c7
                have c7b1 : ((rd l0 x5_1) != (rd l1 x5_1)) = false := bne_eq_false_iff_eq.mpr c7
                clear c7
                have H' := Aside0.mk H
                clear H
                have p334 : 0 ≤ (x5_1 : Int) := of_decide_eq_true (by first | (with_reducible assumption) | assumption)
                have q334 : x5_1 < (l0.length : Int) := of_decide_eq_true (by first | (with_reducible assumption) | assumption)
                obtain ⟨ad334, e334, hx334_0⟩ := Kd.at_int HR0.out x5_1 p334 q334
                cases e334
                replace p334 := eq_true p334
                replace q334 := eq_true q334
                have p335 : 0 ≤ (x5_1 : Int) := of_decide_eq_true (by first | (with_reducible assumption) | assumption)
                have q335 : x5_1 < (l1.length : Int) := of_decide_eq_true (by first | (with_reducible assumption) | assumption)
                obtain ⟨ad335, e335, hx335_0⟩ := Kd.at_int HR1.out x5_1 p335 q335
                cases e335
                replace p335 := eq_true p335
                replace q335 := eq_true q335
                go_wp2
                repeat (go_quiet (fail); try go_wp2)
                go_roundg k1
                case measure => have := HK1.out; omega
                case rel => exact ⟨(wrap64 (x5_1 + 1)), (by first | rfl | (simp; done) | (simp [*]; done)), H', ⟨by have := HK1.out; omega⟩, by repeat (first | exact Drawn0.refl _ | apply Drawn0.step)⟩
              · rw [if_neg c7] at H
                have c7b0 : ((rd l0 x5_1) == (rd l1 x5_1)) = false := beq_eq_false_iff_ne.mpr c7
                have c7b1 : ((rd l0 x5_1) != (rd l1 x5_1)) = true := bne_iff_ne.mpr c7
                obtain rfl := Option.some.inj H
                have p334 : 0 ≤ (x5_1 : Int) := of_decide_eq_true (by first | (with_reducible assumption) | assumption)
                have q334 : x5_1 < (l0.length : Int) := of_decide_eq_true (by first | (with_reducible assumption) | assumption)
                obtain ⟨ad334, e334, hx334_0⟩ := Kd.at_int HR0.out x5_1 p334 q334
                cases e334
                replace p334 := eq_true p334
                replace q334 := eq_true q334
                have p335 : 0 ≤ (x5_1 : Int) := of_decide_eq_true (by first | (with_reducible assumption) | assumption)
                have q335 : x5_1 < (l1.length : Int) := of_decide_eq_true (by first | (with_reducible assumption) | assumption)
                obtain ⟨ad335, e335, hx335_0⟩ := Kd.at_int HR1.out x5_1 p335 q335
                cases e335
                replace p335 := eq_true p335
                replace q335 := eq_true q335
                go_wp2
                repeat (go_quiet (fail); try go_wp2)
                go_ret
                exact ⟨by first | rfl | (simp; done) | (simp [*]; done), by repeat (first | exact Drawn0.refl _ | apply Drawn0.step)⟩
            · rw [if_neg c6] at H
              exact absurd H (by simp)
          · rw [if_neg c5] at H
            exact absurd H (by simp)
        · rw [if_neg c4] at H
          have c4b0 : decide (x5_1 < (l0.length : Int)) = false := decide_eq_false c4
          clear c4
          obtain rfl := Option.some.inj H
          go_wp2
          repeat (go_quiet (fail); try go_wp2)
          go_ret
          exact ⟨by first | rfl | (simp; done) | (simp [*]; done), by repeat (first | exact Drawn0.refl _ | apply Drawn0.step)⟩
  · rw [if_neg c3] at H
    have c3b0 : ((l0.length : Int) == (l1.length : Int)) = false := beq_eq_false_iff_ne.mpr c3
    have c3b1 : ((l0.length : Int) != (l1.length : Int)) = true := bne_iff_ne.mpr c3
    have c3b2 : (l0.length == l1.length) = false := by first | simpa using c3 | (simp at c3 ⊢; omega)
    obtain rfl := Option.some.inj H
    go_enter Try.func37, Try.ntmps37
    go_wp2
    repeat (go_quiet (fail); try go_wp2)
    go_ret
    exact ⟨by first | rfl | (simp; done) | (simp [*]; done), by repeat (first | exact Drawn0.refl _ | apply Drawn0.step)⟩
mutual
def scarfref05_Same.l0 : Nat → List (S54) → List (S54) → Int → Option (Bool)
  | 0, _, _, _ => none
  | k + 1, x0, x1, x5 => if x5 < (x0.length : Int) then (if 0 ≤ x5 then (if x5 < (x1.length : Int) then (if ((rd_T54 x0 x5).f0) = ((rd_T54 x1 x5).f0) then (if ((rd_T54 x0 x5).f1) = ((rd_T54 x1 x5).f1) then (if ((rd_T54 x0 x5).f2) = ((rd_T54 x1 x5).f2) then (if ((rd_T54 x0 x5).f3) = ((rd_T54 x1 x5).f3) then ((scarfref01_Same.f k ((rd_T54 x0 x5).f4) ((rd_T54 x1 x5).f4)).bind fun t340 => (if t340 = true then ((scarfref05_Same.f k ((rd_T54 x0 x5).f5) ((rd_T54 x1 x5).f5)).bind fun t341 => (if t341 = true then ((scarfref05_Same.f k ((rd_T54 x0 x5).f6) ((rd_T54 x1 x5).f6)).bind fun t342 => (if t342 = true then (scarfref05_Same.l0 k x0 x1 (wrap64 (x5 + 1))) else (some false))) else (some false))) else (some false))) else (some false)) else (some false)) else (some false)) else (some false)) else (none)) else (none)) else (some true)
def scarfref05_Same.f : Nat → List (S54) → List (S54) → Option (Bool)
  | 0, _, _ => none
  | k + 1, l0, l1 => if (l0.length : Int) = (l1.length : Int) then (scarfref05_Same.l0 k l0 l1 0) else (some false)
end
theorem scarfref05_Same.mono_l : ∀ k, (∀ y0 y1, LeO (scarfref05_Same.f k y0 y1) (scarfref05_Same.f (k + 1) y0 y1)) ∧ (∀ y0 y1 y2, LeO (scarfref05_Same.l0 k y0 y1 y2) (scarfref05_Same.l0 (k + 1) y0 y1 y2))
  | 0 => ⟨fun _ _ r h => by simp [scarfref05_Same.f] at h, fun _ _ _ r h => by simp [scarfref05_Same.l0] at h⟩
  | k + 1 => by
    obtain ⟨ih0, ih1⟩ := scarfref05_Same.mono_l k
    refine ⟨?_, ?_⟩
    · intro y0 y1
      unfold scarfref05_Same.f
      repeat' first
      | (with_reducible exact ih0 _ _)
      | (with_reducible exact ih1 _ _ _)
      | (with_reducible exact scarfref01_Same.mono _ _ _)
      | (with_reducible exact LeO.refl _)
      | (with_reducible exact LeO.none _)
      | (with_reducible refine LeO.ite ?_ ?_)
      | (with_reducible refine LeO.bind ?_ (fun _ => ?_))
      | exact ih0 _ _
      | exact ih1 _ _ _
      | exact scarfref01_Same.mono _ _ _
      | exact LeO.none _
      | refine LeO.ite ?_ ?_
      | refine LeO.bind ?_ (fun _ => ?_)
    · intro y0 y1 y2
      unfold scarfref05_Same.l0
      repeat' first
      | (with_reducible exact ih0 _ _)
      | (with_reducible exact ih1 _ _ _)
      | (with_reducible exact scarfref01_Same.mono _ _ _)
      | (with_reducible exact LeO.refl _)
      | (with_reducible exact LeO.none _)
      | (with_reducible refine LeO.ite ?_ ?_)
      | (with_reducible refine LeO.bind ?_ (fun _ => ?_))
      | exact ih0 _ _
      | exact ih1 _ _ _
      | exact scarfref01_Same.mono _ _ _
      | exact LeO.none _
      | refine LeO.ite ?_ ?_
      | refine LeO.bind ?_ (fun _ => ?_)
theorem scarfref05_Same.mono : ∀ a0 a1 k, LeO (scarfref05_Same.f k a0 a1) (scarfref05_Same.f (k + 1) a0 a1) := by
  intro a0 a1 k
  obtain ⟨ih0, ih1⟩ := scarfref05_Same.mono_l k
  exact ih0 a0 a1
def scarfref05_Same.T6 : Bool × List (List Nat × List Nat) := (true, [([], []), ([], []), ([0, 1], [0, 1]), ([2], [2]), ([], []), ([], []), ([4, 5], [4, 5]), ([6], [6]), ([], []), ([], []), ([8, 3, 0, 1, 2, 3, 8, 9], [3, 8]), ([9, 7, 10, 0, 1, 2, 3, 4, 5, 6, 7, 8, 9, 10], [7, 9])])
def scarfref05_Same.B6 : List Nat := [0, 0, 3, 7, 0, 0, 48, 112, 0, 0, 783, 2047]
theorem scarfref05_Same.tab6 : rtab .any (opsOf Try.f20 6) = scarfref05_Same.T6 := by kernel_rfl
theorem scarfref05_Same.bits6 : waitsOk scarfref05_Same.T6.2 scarfref05_Same.B6 = true := by kernel_rfl
theorem one_box {w w20 : World} {g : Nat} {z0 z1 z2 z3 z4 z5 z6 : Value} {t : TypeId} (x0 x1 x2 x3 x4 x5 x6 : Value)
    (hx : w20.heap[g]? = some (.cells #[z0, z1, z2, z3, z4, z5, z6] t (0, 0))) (hB : Below w.heap.size w w20) (hg : w.heap.size ≤ g) :
    (((((((w20.setCell ⟨g, 0, none⟩ x0).setCell ⟨g, 1, none⟩ x1).setCell ⟨g, 2, none⟩ x2).setCell ⟨g, 3, none⟩ x3).setCell ⟨g, 4, none⟩ x4).setCell ⟨g, 5, none⟩ x5).setCell ⟨g, 6, none⟩ x6).heap[g]? = some (.cells #[x0, x1, x2, x3, x4, x5, x6] t (0, 0)) ∧ (∀ h, h ≠ g → ∀ o, w20.heap[h]? = some o → (((((((w20.setCell ⟨g, 0, none⟩ x0).setCell ⟨g, 1, none⟩ x1).setCell ⟨g, 2, none⟩ x2).setCell ⟨g, 3, none⟩ x3).setCell ⟨g, 4, none⟩ x4).setCell ⟨g, 5, none⟩ x5).setCell ⟨g, 6, none⟩ x6).heap[h]? = some o) ∧ Below w.heap.size w (((((((w20.setCell ⟨g, 0, none⟩ x0).setCell ⟨g, 1, none⟩ x1).setCell ⟨g, 2, none⟩ x2).setCell ⟨g, 3, none⟩ x3).setCell ⟨g, 4, none⟩ x4).setCell ⟨g, 5, none⟩ x5).setCell ⟨g, 6, none⟩ x6) := by
  refine ⟨?_, fun h hh o ho => ?_, ?_⟩
  · have := blk_set (blk_set (blk_set (blk_set (blk_set (blk_set (blk_set hx 0 x0) 1 x1) 2 x2) 3 x3) 4 x4) 5 x5) 6 x6
    simpa using this
  · iterate 7 refine (Below.heap_setCell _ _ _ h hh).trans ?_
    exact ho
  · iterate 7 refine below_set ?_ hg
    exact hB
set_option maxHeartbeats 8000000 in
set_option maxRecDepth 100000 in
theorem scarfref05_Same.calls (k : Nat) : ∀ (A0 : Option Addr) (c0 : Nat) (l0 : List (S54)) (A1 : Option Addr) (c1 : Nat) (l1 : List (S54)) (r : Bool) (w : World) (hr0 : Kd.C k54 w A0 l0.length l0) (hc0 : l0.length ≤ c0) (hr1 : Kd.C k54 w A1 l1.length l1) (hc1 : l1.length ≤ c1) (h : scarfref05_Same.f k l0 l1 = some r),
    Calls Try.prog 20 #[.slice A0 l0.length c0, .slice A1 l1.length c1] w fun e w' => e = .returned (.bool r) ∧ Below w.heap.size w w' := by
  induction k using Nat.strongRecOn with
  | _ k ih =>
  intro A0 c0 l0 A1 c1 l1 r w hr0 hc0 hr1 hc1 h
  cases k with
  | zero => exact absurd h (by simp [scarfref05_Same.f])
  | succ k =>
  simp only [scarfref05_Same.f] at h
  have hu54 := Try.underlying54
  have HR0 := Aside0.mk hr0
  have HC0 := Aside0.mk hc0
  clear hr0 hc0
  have HR1 := Aside0.mk hr1
  have HC1 := Aside0.mk hc1
  clear hr1 hc1
  have HB := Aside0.mk (Below.refl w.heap.size w)
  have H : (if (l0.length : Int) = (l1.length : Int) then (scarfref05_Same.l0 k l0 l1 0) else (some false)) = some r := h
  clear h
  by_cases c3 : (l0.length : Int) = (l1.length : Int)
  · rw [if_pos c3] at H
    have c3b0 : ((l0.length : Int) == (l1.length : Int)) = true := beq_iff_eq.mpr c3
    have c3b1 : ((l0.length : Int) != (l1.length : Int)) = false := bne_eq_false_iff_eq.mpr c3
    have c3b2 : (l0.length == l1.length) = true := by first | simpa using c3 | (simp at c3 ⊢; omega)
    clear c3
    have H' := Aside0.mk H
    clear H
    go_enter Try.func20, Try.ntmps20
    go_wp2
    go_loopg [5] k (fun kq v5 w' => ∃ (x5_1 : Int), v5 = .int .i64 x5_1 ∧ Aside0 (scarfref05_Same.l0 kq l0 l1 x5_1 = some r) ∧ Aside0 (kq ≤ k) ∧ Aside0 (Below w.heap.size w w'))
    case atStart => exact ⟨(0), (by first | rfl | (simp; done) | (simp [*]; done)), H', ⟨Nat.le_refl _⟩, ⟨by repeat (first | (with_reducible first | exact HB.out | apply below_alloc | apply pw_below_drewN | apply below_drew1) | exact HB.out)⟩⟩
    case round =>
      clear H'
      try clear c1
      try clear c2
      try clear p2
      try clear c3
      try clear c3b0
      try clear c3b1
      try clear c3b2
      obtain ⟨x5_1, rfl, HA, HK1, HB⟩ := hrel
      cases gk with
      | zero => exact absurd HA.out (by simp [scarfref05_Same.l0])
      | succ k1 =>
        have H := HA.out
        clear HA
        simp only [scarfref05_Same.l0] at H
        by_cases c4 : x5_1 < (l0.length : Int)
        · rw [if_pos c4] at H
          have c4b0 : decide (x5_1 < (l0.length : Int)) = true := decide_eq_true c4
          clear c4
          by_cases c5 : 0 ≤ x5_1
          · rw [if_pos c5] at H
            have c5b0 : decide (0 ≤ x5_1) = true := decide_eq_true c5
            clear c5
            by_cases c6 : x5_1 < (l1.length : Int)
            · rw [if_pos c6] at H
              have c6b0 : decide (x5_1 < (l1.length : Int)) = true := decide_eq_true c6
              clear c6
              have H' := Aside0.mk H
              clear H
              try go_wp2
              have n0_ := Aside0.mk (below_drew1 HB.out)
              clear HB
              have HB := n0_
              clear n0_
              have p226 : 0 ≤ (x5_1 : Int) := of_decide_eq_true (by first | (with_reducible assumption) | assumption)
              have q226 : x5_1 < (l0.length : Int) := of_decide_eq_true (by first | (with_reducible assumption) | assumption)
              obtain ⟨ad226, A226_4, c226_4, A226_5, c226_5, A226_6, c226_6, e226, hx226_0, hx226_1, hx226_2, hx226_3, hx226_4, hx226_5, hx226_6, hl226_4, hi226_4, hl226_5, hi226_5, hl226_6, hi226_6⟩ := at_T54 HR0.out x5_1 p226 q226
              have hw226_6 := hx226_6
              have hw226_5 := hx226_5
              have hw226_4 := hx226_4
              have hw226_3 := hx226_3
              have hw226_2 := hx226_2
              have hw226_1 := hx226_1
              have hw226_0 := hx226_0
              cases e226
              replace hx226_0 := (HB.out.cell (World.block_lt_of_cell? w _ hx226_0)).trans hx226_0
              replace hx226_1 := (HB.out.cell (World.block_lt_of_cell? w _ hx226_1)).trans hx226_1
              replace hx226_2 := (HB.out.cell (World.block_lt_of_cell? w _ hx226_2)).trans hx226_2
              replace hx226_3 := (HB.out.cell (World.block_lt_of_cell? w _ hx226_3)).trans hx226_3
              replace hx226_4 := (HB.out.cell (World.block_lt_of_cell? w _ hx226_4)).trans hx226_4
              replace hx226_5 := (HB.out.cell (World.block_lt_of_cell? w _ hx226_5)).trans hx226_5
              replace hx226_6 := (HB.out.cell (World.block_lt_of_cell? w _ hx226_6)).trans hx226_6
              have HR226_4 := Aside0.mk hi226_4
              have HC226_4 := Aside0.mk hl226_4
              clear hi226_4 hl226_4
              have HR226_5 := Aside0.mk hi226_5
              have HC226_5 := Aside0.mk hl226_5
              clear hi226_5 hl226_5
              have HR226_6 := Aside0.mk hi226_6
              have HC226_6 := Aside0.mk hl226_6
              clear hi226_6 hl226_6
              replace p226 := eq_true p226
              replace q226 := eq_true q226
              have p227 : 0 ≤ (x5_1 : Int) := of_decide_eq_true (by first | (with_reducible assumption) | assumption)
              have q227 : x5_1 < (l1.length : Int) := of_decide_eq_true (by first | (with_reducible assumption) | assumption)
              obtain ⟨ad227, A227_4, c227_4, A227_5, c227_5, A227_6, c227_6, e227, hx227_0, hx227_1, hx227_2, hx227_3, hx227_4, hx227_5, hx227_6, hl227_4, hi227_4, hl227_5, hi227_5, hl227_6, hi227_6⟩ := at_T54 HR1.out x5_1 p227 q227
              have hw227_6 := hx227_6
              have hw227_5 := hx227_5
              have hw227_4 := hx227_4
              have hw227_3 := hx227_3
              have hw227_2 := hx227_2
              have hw227_1 := hx227_1
              have hw227_0 := hx227_0
              cases e227
              generalize rd_T54 l0 x5_1 = x at *
              generalize rd_T54 l1 x5_1 = y at *
              replace hx227_0 := (HB.out.cell (World.block_lt_of_cell? w _ hx227_0)).trans hx227_0
              replace hx227_1 := (HB.out.cell (World.block_lt_of_cell? w _ hx227_1)).trans hx227_1
              replace hx227_2 := (HB.out.cell (World.block_lt_of_cell? w _ hx227_2)).trans hx227_2
              replace hx227_3 := (HB.out.cell (World.block_lt_of_cell? w _ hx227_3)).trans hx227_3
              replace hx227_4 := (HB.out.cell (World.block_lt_of_cell? w _ hx227_4)).trans hx227_4
              replace hx227_5 := (HB.out.cell (World.block_lt_of_cell? w _ hx227_5)).trans hx227_5
              replace hx227_6 := (HB.out.cell (World.block_lt_of_cell? w _ hx227_6)).trans hx227_6
              have HR227_4 := Aside0.mk hi227_4
              have HC227_4 := Aside0.mk hl227_4
              clear hi227_4 hl227_4
              have HR227_5 := Aside0.mk hi227_5
              have HC227_5 := Aside0.mk hl227_5
              clear hi227_5 hl227_5
              have HR227_6 := Aside0.mk hi227_6
              have HC227_6 := Aside0.mk hl227_6
              clear hi227_6 hl227_6
              replace p227 := eq_true p227
              replace q227 := eq_true q227
              refine start_ (n := 12) (S := fun w' => Below w.heap.size w w') (ds := []) #[false, false, false, false, false, false, false, false, false, false, false, false] (by kernel_rfl) rfl rfl HB.out (fun hHeld => ?_); refine with_tabW scarfref05_Same.tab6 scarfref05_Same.bits6 (fun HT_ HW_ => ?_)
              generalize wr.drew = w17 at HB HR226_4 HR226_5 HR226_6 HR227_4 HR227_5 HR227_6 hx226_0 hx226_1 hx226_2 hx226_3 hx226_4 hx226_5 hx226_6 hx227_0 hx227_1 hx227_2 hx227_3 hx227_4 hx227_5 hx227_6 hHeld ⊢
              refine pure_ (i := 0) (N := some 19) (v := ?_) (a' := ?_) #[true, false, false, false, false, false, false, false, false, false, false, false] rfl rfl (any_of HT_.out (by kernel_rfl)) (fun _ _ _ h => h) (Or.inl ⟨by rfl, ?_⟩) ?_ ?_
              rotate_left
              · intro w'
                go_simp
                with_reducible rfl
              rotate_left
              · simp only [Act.put, List.setIfInBounds_toArray, List.set_cons_zero, List.set_cons_succ, i64_w, i32_w]
                rfl
              refine pure_ (i := 1) (N := some 20) (v := ?_) (a' := ?_) #[true, true, false, false, false, false, false, false, false, false, false, false] rfl rfl (any_of HT_.out (by kernel_rfl)) (fun _ _ _ h => h) (Or.inl ⟨by rfl, ?_⟩) ?_ ?_
              rotate_left
              · intro w'
                go_simp
                with_reducible rfl
              rotate_left
              · simp only [Act.put, List.setIfInBounds_toArray, List.set_cons_zero, List.set_cons_succ, i64_w, i32_w]
                rfl
              refine pure_ (i := 2) (N := some 21) (v := ?_) (a' := ?_) #[true, true, true, false, false, false, false, false, false, false, false, false] rfl rfl (any_of HT_.out (by kernel_rfl)) (fun _ _ _ h => h) (Or.inl ⟨by rfl, ?_⟩) ?_ ?_
              rotate_left
              · intro w'
                go_simp
                with_reducible rfl
              rotate_left
              · simp only [Act.put, List.setIfInBounds_toArray, List.set_cons_zero, List.set_cons_succ, i64_w, i32_w]
                rfl
              refine pure_ (i := 4) (N := some 23) (v := ?_) (a' := ?_) #[true, true, true, false, true, false, false, false, false, false, false, false] rfl rfl (any_of HT_.out (by kernel_rfl)) (fun _ _ _ h => h) (Or.inl ⟨by rfl, ?_⟩) ?_ ?_
              rotate_left
              · intro w'
                go_simp
                with_reducible rfl
              rotate_left
              · simp only [Act.put, List.setIfInBounds_toArray, List.set_cons_zero, List.set_cons_succ, i64_w, i32_w]
                rfl
              refine pure_ (i := 5) (N := some 24) (v := ?_) (a' := ?_) #[true, true, true, false, true, true, false, false, false, false, false, false] rfl rfl (any_of HT_.out (by kernel_rfl)) (fun _ _ _ h => h) (Or.inl ⟨by rfl, ?_⟩) ?_ ?_
              rotate_left
              · intro w'
                go_simp
                with_reducible rfl
              rotate_left
              · simp only [Act.put, List.setIfInBounds_toArray, List.set_cons_zero, List.set_cons_succ, i64_w, i32_w]
                rfl
              refine pure_ (i := 6) (N := some 25) (v := ?_) (a' := ?_) #[true, true, true, false, true, true, true, false, false, false, false, false] rfl rfl (any_of HT_.out (by kernel_rfl)) (fun _ _ _ h => h) (Or.inl ⟨by rfl, ?_⟩) ?_ ?_
              rotate_left
              · intro w'
                go_simp
                with_reducible rfl
              rotate_left
              · simp only [Act.put, List.setIfInBounds_toArray, List.set_cons_zero, List.set_cons_succ, i64_w, i32_w]
                rfl
              refine take_ (i := 3) (N := some 22) (v := ?_) (a' := ?_) #[true, true, true, true, true, true, true, false, false, false, false, false] rfl rfl (take_ofW HT_.out HW_.out (by kernel_rfl)) (fun _ _ _ h => h) (Or.inl ⟨by rfl, ?_⟩) hHeld ?_ ?_
              rotate_left
              · intro w' hS_
                have s0 := (hS_.cell (World.block_lt_of_cell? w _ hw226_0)).trans hw226_0
                have s1 := (hS_.cell (World.block_lt_of_cell? w _ hw226_1)).trans hw226_1
                have s2 := (hS_.cell (World.block_lt_of_cell? w _ hw226_2)).trans hw226_2
                have s3 := (hS_.cell (World.block_lt_of_cell? w _ hw226_3)).trans hw226_3
                have s4 := (hS_.cell (World.block_lt_of_cell? w _ hw226_4)).trans hw226_4
                have s5 := (hS_.cell (World.block_lt_of_cell? w _ hw226_5)).trans hw226_5
                have s6 := (hS_.cell (World.block_lt_of_cell? w _ hw226_6)).trans hw226_6
                have s7 := (hS_.cell (World.block_lt_of_cell? w _ hw227_0)).trans hw227_0
                have s8 := (hS_.cell (World.block_lt_of_cell? w _ hw227_1)).trans hw227_1
                have s9 := (hS_.cell (World.block_lt_of_cell? w _ hw227_2)).trans hw227_2
                have s10 := (hS_.cell (World.block_lt_of_cell? w _ hw227_3)).trans hw227_3
                have s11 := (hS_.cell (World.block_lt_of_cell? w _ hw227_4)).trans hw227_4
                have s12 := (hS_.cell (World.block_lt_of_cell? w _ hw227_5)).trans hw227_5
                have s13 := (hS_.cell (World.block_lt_of_cell? w _ hw227_6)).trans hw227_6
                go_simp
                with_reducible rfl
              rotate_left
              · simp only [Act.put, List.setIfInBounds_toArray, List.set_cons_zero, List.set_cons_succ, i64_w, i32_w]
                rfl
              refine take_ (i := 7) (N := some 26) (v := ?_) (a' := ?_) #[true, true, true, true, true, true, true, true, false, false, false, false] rfl rfl (take_ofW HT_.out HW_.out (by kernel_rfl)) (fun _ _ _ h => h) (Or.inl ⟨by rfl, ?_⟩) hHeld ?_ ?_
              rotate_left
              · intro w' hS_
                have s0 := (hS_.cell (World.block_lt_of_cell? w _ hw226_0)).trans hw226_0
                have s1 := (hS_.cell (World.block_lt_of_cell? w _ hw226_1)).trans hw226_1
                have s2 := (hS_.cell (World.block_lt_of_cell? w _ hw226_2)).trans hw226_2
                have s3 := (hS_.cell (World.block_lt_of_cell? w _ hw226_3)).trans hw226_3
                have s4 := (hS_.cell (World.block_lt_of_cell? w _ hw226_4)).trans hw226_4
                have s5 := (hS_.cell (World.block_lt_of_cell? w _ hw226_5)).trans hw226_5
                have s6 := (hS_.cell (World.block_lt_of_cell? w _ hw226_6)).trans hw226_6
                have s7 := (hS_.cell (World.block_lt_of_cell? w _ hw227_0)).trans hw227_0
                have s8 := (hS_.cell (World.block_lt_of_cell? w _ hw227_1)).trans hw227_1
                have s9 := (hS_.cell (World.block_lt_of_cell? w _ hw227_2)).trans hw227_2
                have s10 := (hS_.cell (World.block_lt_of_cell? w _ hw227_3)).trans hw227_3
                have s11 := (hS_.cell (World.block_lt_of_cell? w _ hw227_4)).trans hw227_4
                have s12 := (hS_.cell (World.block_lt_of_cell? w _ hw227_5)).trans hw227_5
                have s13 := (hS_.cell (World.block_lt_of_cell? w _ hw227_6)).trans hw227_6
                go_simp
                with_reducible rfl
              rotate_left
              · simp only [Act.put, List.setIfInBounds_toArray, List.set_cons_zero, List.set_cons_succ, i64_w, i32_w]
                rfl
              refine join_ (σ := Nat × Nat) 2 #[true, true, true, true, true, true, true, true, true, true, false, false] (fun s_ => [(6, .pointer (some ⟨s_.1, 0, none⟩)), (7, .pointer (some ⟨s_.2, 0, none⟩))]) (fun s_ w' => (Below w.heap.size w w') ∧ (w'.heap[s_.1]? = some (.cells #[.int .i64 0, .int .i64 0, .int .i64 0, .int .i64 0, .slice none 0 0, .slice none 0 0, .slice none 0 0] 54 (0, 0))) ∧ (w'.heap[s_.2]? = some (.cells #[.int .i64 0, .int .i64 0, .int .i64 0, .int .i64 0, .slice none 0 0, .slice none 0 0, .slice none 0 0] 54 (0, 0))) ∧ (w.heap.size ≤ s_.1) ∧ (w.heap.size ≤ s_.1) ∧ (s_.2 ≠ s_.1) ∧ (s_.1 ≠ s_.2) ∧ (w.heap.size ≤ s_.2) ∧ (w.heap.size ≤ s_.2) ∧ (Below w.heap.size w w')) ?_ ?_
              rotate_left
              · intro hCont
                refine two_ (i := 8) (j := 9) (Ni := some 6) (Nj := some 7) #[true, true, true, true, true, true, true, true, true, false, false, false] #[true, true, true, true, true, true, true, true, false, true, false, false] rfl rfl rfl rfl (two_of HT_.out (by kernel_rfl)) (by decide) (by decide) (fun K hK => ?_) (fun K hK => ?_)
                · skip
                  refine box_step ?hg (N := 6) ?hd (cs := #[.int .i64 0, .int .i64 0, .int .i64 0, .int .i64 0, .slice none 0 0, .slice none 0 0, .slice none 0 0]) (t := 54) ?hr ?_; (case hd => rfl); (case hg => rfl); (case hr => first | (go_simp; done) | (go_simp; rfl))
                  intro gb228 hg w18 hbox hb
                  have n0_ := Aside0.mk (below_step (by repeat (first | (with_reducible first | exact HB.out | apply below_alloc | apply pw_below_drewN | apply below_drew1) | exact HB.out)) hb)
                  have n1_ := Aside0.mk (hbox)
                  have n2_ := Aside0.mk ((by rw [hg]; exact (below_size (by repeat (first | (with_reducible first | exact HB.out | apply below_alloc | apply pw_below_drewN | apply below_drew1) | exact HB.out))) : w.heap.size ≤ gb228))
                  have n3_ := Aside0.mk ((by rw [hg]; exact (below_size (by repeat (first | (with_reducible first | exact HB.out | apply below_alloc | apply pw_below_drewN | apply below_drew1) | exact HB.out))) : w.heap.size ≤ gb228))
                  clear HB
                  have HB := n0_
                  have BK228 := n1_
                  have GW228 := n2_
                  have GE228 := n3_
                  clear n0_ n1_ n2_ n3_
                  clear hb hbox hg
                  refine hK.out _ _ HB.out (fun hHeld => ?_)
                  clear hK K
                  refine norm_ (a' := ?_) ?_ ?_
                  rotate_left
                  · show Act.put _ (some 6) _ = _
                    simp only [Act.put, List.setIfInBounds_toArray, List.set_cons_zero, List.set_cons_succ, i64_w, i32_w]
                    rfl
                  refine one_ (i := 9) (N := some 7) #[true, true, true, true, true, true, true, true, true, true, false, false] rfl rfl (one_of HT_.out (by kernel_rfl)) (by decide) (fun K hK => ?_)
                  refine box_step ?hg (N := 7) ?hd (cs := #[.int .i64 0, .int .i64 0, .int .i64 0, .int .i64 0, .slice none 0 0, .slice none 0 0, .slice none 0 0]) (t := 54) ?hr ?_; (case hd => rfl); (case hg => rfl); (case hr => first | (go_simp; done) | (go_simp; rfl))
                  intro gb229 hg w19 hbox hb
                  have n0_ := Aside0.mk (blk_below (g := gb228) (o := .cells #[.int .i64 0, .int .i64 0, .int .i64 0, .int .i64 0, .slice none 0 0, .slice none 0 0, .slice none 0 0] 54 (0, 0)) (by (with_reducible repeat (first | refine blk_drewN ?_ _ | refine blk_drew ?_ | refine blk_alloc ?_ _)); exact BK228.out) hb)
                  have n1_ := Aside0.mk (below_step (by repeat (first | (with_reducible first | exact HB.out | apply below_alloc | apply pw_below_drewN | apply below_drew1 | refine below_set ?_ GE228.out) | exact HB.out)) hb)
                  have n2_ := Aside0.mk (hbox)
                  have n3_ := Aside0.mk ((by rw [hg]; exact (below_size (by repeat (first | (with_reducible first | exact HB.out | apply below_alloc | apply pw_below_drewN | apply below_drew1 | refine below_set ?_ GE228.out) | exact HB.out))) : w.heap.size ≤ gb229))
                  have n4_ := Aside0.mk ((by rw [hg]; exact (below_size (by repeat (first | (with_reducible first | exact HB.out | apply below_alloc | apply pw_below_drewN | apply below_drew1 | refine below_set ?_ GE228.out) | exact HB.out))) : w.heap.size ≤ gb229))
                  have n5_ := Aside0.mk ((by rw [hg]; exact Nat.ne_of_lt (blk_lt (g := gb228) (o := .cells #[.int .i64 0, .int .i64 0, .int .i64 0, .int .i64 0, .slice none 0 0, .slice none 0 0, .slice none 0 0] 54 (0, 0)) (by (with_reducible repeat (first | refine blk_drewN ?_ _ | refine blk_drew ?_ | refine blk_alloc ?_ _)); exact BK228.out)) : gb228 ≠ gb229))
                  have n6_ := Aside0.mk ((by rw [hg]; exact Nat.ne_of_gt (blk_lt (g := gb228) (o := .cells #[.int .i64 0, .int .i64 0, .int .i64 0, .int .i64 0, .slice none 0 0, .slice none 0 0, .slice none 0 0] 54 (0, 0)) (by (with_reducible repeat (first | refine blk_drewN ?_ _ | refine blk_drew ?_ | refine blk_alloc ?_ _)); exact BK228.out)) : gb229 ≠ gb228))
                  clear BK228
                  clear HB
                  have BK228 := n0_
                  have HB := n1_
                  have BK229 := n2_
                  have GW229 := n3_
                  have GE229 := n4_
                  have NB228_229 := n5_
                  have NB229_228 := n6_
                  clear n0_ n1_ n2_ n3_ n4_ n5_ n6_
                  clear hb hbox hg
                  refine hK.out _ _ HB.out (fun hHeld => ?_)
                  clear hK K
                  refine norm_ (a' := ?_) ?_ ?_
                  rotate_left
                  · show Act.put _ (some 7) _ = _
                    simp only [Act.put, List.setIfInBounds_toArray, List.set_cons_zero, List.set_cons_succ, i64_w, i32_w]
                    rfl
                  exact norm_ (by simp only [putAll, Act.put, List.setIfInBounds_toArray, List.set_cons_zero, List.set_cons_succ]) (hCont (gb228, gb229) _ ⟨hHeld, (by (with_reducible repeat (first | refine blk_drewN ?_ _ | refine blk_drew ?_ | refine blk_alloc ?_ _)); exact BK228.out), (by (with_reducible repeat (first | refine blk_drewN ?_ _ | refine blk_drew ?_ | refine blk_alloc ?_ _)); exact BK229.out), GW228.out, GE228.out, NB229_228.out, NB228_229.out, GW229.out, GE229.out, (by repeat (first | (with_reducible first | exact HB.out | apply below_alloc | apply pw_below_drewN | apply below_drew1 | refine below_set ?_ GE228.out | refine below_set ?_ GE229.out) | exact HB.out))⟩)
                · skip
                  refine box_step ?hg (N := 7) ?hd (cs := #[.int .i64 0, .int .i64 0, .int .i64 0, .int .i64 0, .slice none 0 0, .slice none 0 0, .slice none 0 0]) (t := 54) ?hr ?_; (case hd => rfl); (case hg => rfl); (case hr => first | (go_simp; done) | (go_simp; rfl))
                  intro gb229 hg w18 hbox hb
                  have n0_ := Aside0.mk (below_step (by repeat (first | (with_reducible first | exact HB.out | apply below_alloc | apply pw_below_drewN | apply below_drew1) | exact HB.out)) hb)
                  have n1_ := Aside0.mk (hbox)
                  have n2_ := Aside0.mk ((by rw [hg]; exact (below_size (by repeat (first | (with_reducible first | exact HB.out | apply below_alloc | apply pw_below_drewN | apply below_drew1) | exact HB.out))) : w.heap.size ≤ gb229))
                  have n3_ := Aside0.mk ((by rw [hg]; exact (below_size (by repeat (first | (with_reducible first | exact HB.out | apply below_alloc | apply pw_below_drewN | apply below_drew1) | exact HB.out))) : w.heap.size ≤ gb229))
                  clear HB
                  have HB := n0_
                  have BK229 := n1_
                  have GW229 := n2_
                  have GE229 := n3_
                  clear n0_ n1_ n2_ n3_
                  clear hb hbox hg
                  refine hK.out _ _ HB.out (fun hHeld => ?_)
                  clear hK K
                  refine norm_ (a' := ?_) ?_ ?_
                  rotate_left
                  · show Act.put _ (some 7) _ = _
                    simp only [Act.put, List.setIfInBounds_toArray, List.set_cons_zero, List.set_cons_succ, i64_w, i32_w]
                    rfl
                  refine one_ (i := 8) (N := some 6) #[true, true, true, true, true, true, true, true, true, true, false, false] rfl rfl (one_of HT_.out (by kernel_rfl)) (by decide) (fun K hK => ?_)
                  refine box_step ?hg (N := 6) ?hd (cs := #[.int .i64 0, .int .i64 0, .int .i64 0, .int .i64 0, .slice none 0 0, .slice none 0 0, .slice none 0 0]) (t := 54) ?hr ?_; (case hd => rfl); (case hg => rfl); (case hr => first | (go_simp; done) | (go_simp; rfl))
                  intro gb228 hg w19 hbox hb
                  have n0_ := Aside0.mk (blk_below (g := gb229) (o := .cells #[.int .i64 0, .int .i64 0, .int .i64 0, .int .i64 0, .slice none 0 0, .slice none 0 0, .slice none 0 0] 54 (0, 0)) (by (with_reducible repeat (first | refine blk_drewN ?_ _ | refine blk_drew ?_ | refine blk_alloc ?_ _)); exact BK229.out) hb)
                  have n1_ := Aside0.mk (below_step (by repeat (first | (with_reducible first | exact HB.out | apply below_alloc | apply pw_below_drewN | apply below_drew1 | refine below_set ?_ GE229.out) | exact HB.out)) hb)
                  have n2_ := Aside0.mk (hbox)
                  have n3_ := Aside0.mk ((by rw [hg]; exact (below_size (by repeat (first | (with_reducible first | exact HB.out | apply below_alloc | apply pw_below_drewN | apply below_drew1 | refine below_set ?_ GE229.out) | exact HB.out))) : w.heap.size ≤ gb228))
                  have n4_ := Aside0.mk ((by rw [hg]; exact (below_size (by repeat (first | (with_reducible first | exact HB.out | apply below_alloc | apply pw_below_drewN | apply below_drew1 | refine below_set ?_ GE229.out) | exact HB.out))) : w.heap.size ≤ gb228))
                  have n5_ := Aside0.mk ((by rw [hg]; exact Nat.ne_of_lt (blk_lt (g := gb229) (o := .cells #[.int .i64 0, .int .i64 0, .int .i64 0, .int .i64 0, .slice none 0 0, .slice none 0 0, .slice none 0 0] 54 (0, 0)) (by (with_reducible repeat (first | refine blk_drewN ?_ _ | refine blk_drew ?_ | refine blk_alloc ?_ _)); exact BK229.out)) : gb229 ≠ gb228))
                  have n6_ := Aside0.mk ((by rw [hg]; exact Nat.ne_of_gt (blk_lt (g := gb229) (o := .cells #[.int .i64 0, .int .i64 0, .int .i64 0, .int .i64 0, .slice none 0 0, .slice none 0 0, .slice none 0 0] 54 (0, 0)) (by (with_reducible repeat (first | refine blk_drewN ?_ _ | refine blk_drew ?_ | refine blk_alloc ?_ _)); exact BK229.out)) : gb228 ≠ gb229))
                  clear BK229
                  clear HB
                  have BK229 := n0_
                  have HB := n1_
                  have BK228 := n2_
                  have GW228 := n3_
                  have GE228 := n4_
                  have NB229_228 := n5_
                  have NB228_229 := n6_
                  clear n0_ n1_ n2_ n3_ n4_ n5_ n6_
                  clear hb hbox hg
                  refine hK.out _ _ HB.out (fun hHeld => ?_)
                  clear hK K
                  refine norm_ (a' := ?_) ?_ ?_
                  rotate_left
                  · show Act.put _ (some 6) _ = _
                    simp only [Act.put, List.setIfInBounds_toArray, List.set_cons_zero, List.set_cons_succ, i64_w, i32_w]
                    rfl
                  exact norm_ (by simp only [putAll, Act.put, List.setIfInBounds_toArray, List.set_cons_zero, List.set_cons_succ]) (hCont (gb228, gb229) _ ⟨hHeld, (by (with_reducible repeat (first | refine blk_drewN ?_ _ | refine blk_drew ?_ | refine blk_alloc ?_ _)); exact BK228.out), (by (with_reducible repeat (first | refine blk_drewN ?_ _ | refine blk_drew ?_ | refine blk_alloc ?_ _)); exact BK229.out), GW228.out, GE228.out, NB229_228.out, NB228_229.out, GW229.out, GE229.out, (by repeat (first | (with_reducible first | exact HB.out | apply below_alloc | apply pw_below_drewN | apply below_drew1 | refine below_set ?_ GE229.out | refine below_set ?_ GE228.out) | exact HB.out))⟩)
              rintro ⟨gb228, gb229⟩ w20 ⟨hS_, h0_, h1_, h2_, h3_, h4_, h5_, h6_, h7_, h8_⟩
              have n0_ : Aside0 (w20.heap[gb228]? = some (.cells #[.int .i64 0, .int .i64 0, .int .i64 0, .int .i64 0, .slice none 0 0, .slice none 0 0, .slice none 0 0] 54 (0, 0))) := ⟨h0_⟩
              have n1_ : Aside0 (w20.heap[gb229]? = some (.cells #[.int .i64 0, .int .i64 0, .int .i64 0, .int .i64 0, .slice none 0 0, .slice none 0 0, .slice none 0 0] 54 (0, 0))) := ⟨h1_⟩
              have n2_ : Aside0 (w.heap.size ≤ gb228) := ⟨h2_⟩
              have n3_ : Aside0 (w.heap.size ≤ gb228) := ⟨h3_⟩
              have n4_ : Aside0 (gb229 ≠ gb228) := ⟨h4_⟩
              have n5_ : Aside0 (gb228 ≠ gb229) := ⟨h5_⟩
              have n6_ : Aside0 (w.heap.size ≤ gb229) := ⟨h6_⟩
              have n7_ : Aside0 (w.heap.size ≤ gb229) := ⟨h7_⟩
              have n8_ : Aside0 (Below w.heap.size w w20) := ⟨h8_⟩
              clear HB
              clear h0_ h1_ h2_ h3_ h4_ h5_ h6_ h7_ h8_
              have BK228 := n0_
              have BK229 := n1_
              have GW228 := n2_
              have GE228 := n3_
              have NB229_228 := n4_
              have NB228_229 := n5_
              have GW229 := n6_
              have GE229 := n7_
              have HB := n8_
              clear n0_ n1_ n2_ n3_ n4_ n5_ n6_ n7_ n8_
              have hHeld_ := hS_
              clear hS_
              refine norm_ (a' := ?_) ?_ ?_
              rotate_left
              · simp only [putAll, Act.put, List.setIfInBounds_toArray, List.set_cons_zero, List.set_cons_succ]
                rfl
              refine one_ (i := 10) (N := none) #[true, true, true, true, true, true, true, true, true, true, true, false] rfl rfl (one_of HT_.out (by kernel_rfl)) (by decide) (fun K hK => ?_)
              have hs21 : w20.cell? ⟨gb228, 0, none⟩ = some (.int .i64 0) := (blk_cell BK228.out 0).trans rfl
              have hfs21 := blk_frozen BK228.out 0
              have hns21_1 := NB229_228.out
              have hms21_1 := NB228_229.out
              have hs22 : w20.cell? ⟨gb228, 1, none⟩ = some (.int .i64 0) := (blk_cell BK228.out 1).trans rfl
              have hfs22 := blk_frozen BK228.out 1
              have hns22_1 := NB229_228.out
              have hms22_1 := NB228_229.out
              have hs23 : w20.cell? ⟨gb228, 2, none⟩ = some (.int .i64 0) := (blk_cell BK228.out 2).trans rfl
              have hfs23 := blk_frozen BK228.out 2
              have hns23_1 := NB229_228.out
              have hms23_1 := NB228_229.out
              have hs24 : w20.cell? ⟨gb228, 3, none⟩ = some (.int .i64 0) := (blk_cell BK228.out 3).trans rfl
              have hfs24 := blk_frozen BK228.out 3
              have hns24_1 := NB229_228.out
              have hms24_1 := NB228_229.out
              have hs25 : w20.cell? ⟨gb228, 4, none⟩ = some (.slice none 0 0) := (blk_cell BK228.out 4).trans rfl
              have hfs25 := blk_frozen BK228.out 4
              have hns25_1 := NB229_228.out
              have hms25_1 := NB228_229.out
              have hs26 : w20.cell? ⟨gb228, 5, none⟩ = some (.slice none 0 0) := (blk_cell BK228.out 5).trans rfl
              have hfs26 := blk_frozen BK228.out 5
              have hns26_1 := NB229_228.out
              have hms26_1 := NB228_229.out
              have hs27 : w20.cell? ⟨gb228, 6, none⟩ = some (.slice none 0 0) := (blk_cell BK228.out 6).trans rfl
              have hfs27 := blk_frozen BK228.out 6
              have hns27_1 := NB229_228.out
              have hms27_1 := NB228_229.out
              refine skip_ (w1 := ?_) (by rfl) rfl ?_ ?_
              rotate_left
              · go_simp
                rfl
              refine hK.out _ _ (by (iterate 7 (refine below_set ?_ GE228.out)); exact HB.out) (fun hHeld => ?_)
              clear hK K hHeld hHeld_
              obtain ⟨BX, BO, HW1⟩ := one_box (.int .i64 (x.f0)) (.int .i64 (x.f1)) (.int .i64 (x.f2)) (.int .i64 (x.f3)) (.slice A226_4 (x.f4).length c226_4) (.slice A226_5 (x.f5).length c226_5) (.slice A226_6 (x.f6).length c226_6) BK228.out HB.out GW228.out
              have BK229a := BO gb229 NB229_228.out _ BK229.out
              clear hfs21 hfs22 hfs23 hfs24 hfs25 hfs26 hfs27 hms21_1 hms22_1 hms23_1 hms24_1 hms25_1 hms26_1 hms27_1 hns21_1 hns22_1 hns23_1 hns24_1 hns25_1 hns26_1 hns27_1 hs21 hs22 hs23 hs24 hs25 hs26 hs27
              generalize (((((((w20.setCell ⟨gb228, 0, none⟩ (.int .i64 (x.f0))).setCell ⟨gb228, 1, none⟩ (.int .i64 (x.f1))).setCell ⟨gb228, 2, none⟩ (.int .i64 (x.f2))).setCell ⟨gb228, 3, none⟩ (.int .i64 (x.f3))).setCell ⟨gb228, 4, none⟩ (.slice A226_4 (x.f4).length c226_4)).setCell ⟨gb228, 5, none⟩ (.slice A226_5 (x.f5).length c226_5)).setCell ⟨gb228, 6, none⟩ (.slice A226_6 (x.f6).length c226_6)) = W1 at BX BK229a HW1 ⊢
              clear BO BK229 BK228 HB
              have BK229 := Aside0.mk BK229a
              have HB := Aside0.mk HW1
              refine one_ (i := 11) (N := none) #[true, true, true, true, true, true, true, true, true, true, true, true] rfl rfl (one_of HT_.out (by kernel_rfl)) (by decide) (fun K hK => ?_)
              have hs28 : W1.cell? ⟨gb229, 0, none⟩ = some (.int .i64 0) := (blk_cell BK229.out 0).trans rfl
              have hfs28 := blk_frozen BK229.out 0
              have hns28_0 := NB228_229.out
              have hms28_0 := NB229_228.out
              have hs29 : W1.cell? ⟨gb229, 1, none⟩ = some (.int .i64 0) := (blk_cell BK229.out 1).trans rfl
              have hfs29 := blk_frozen BK229.out 1
              have hns29_0 := NB228_229.out
              have hms29_0 := NB229_228.out
              have hs30 : W1.cell? ⟨gb229, 2, none⟩ = some (.int .i64 0) := (blk_cell BK229.out 2).trans rfl
              have hfs30 := blk_frozen BK229.out 2
              have hns30_0 := NB228_229.out
              have hms30_0 := NB229_228.out
              have hs31 : W1.cell? ⟨gb229, 3, none⟩ = some (.int .i64 0) := (blk_cell BK229.out 3).trans rfl
              have hfs31 := blk_frozen BK229.out 3
              have hns31_0 := NB228_229.out
              have hms31_0 := NB229_228.out
              have hs32 : W1.cell? ⟨gb229, 4, none⟩ = some (.slice none 0 0) := (blk_cell BK229.out 4).trans rfl
              have hfs32 := blk_frozen BK229.out 4
              have hns32_0 := NB228_229.out
              have hms32_0 := NB229_228.out
              have hs33 : W1.cell? ⟨gb229, 5, none⟩ = some (.slice none 0 0) := (blk_cell BK229.out 5).trans rfl
              have hfs33 := blk_frozen BK229.out 5
              have hns33_0 := NB228_229.out
              have hms33_0 := NB229_228.out
              have hs34 : W1.cell? ⟨gb229, 6, none⟩ = some (.slice none 0 0) := (blk_cell BK229.out 6).trans rfl
              have hfs34 := blk_frozen BK229.out 6
              have hns34_0 := NB228_229.out
              have hms34_0 := NB229_228.out
              refine skip_ (w1 := ?_) (by rfl) rfl ?_ ?_
              rotate_left
              · go_simp
                rfl
              refine hK.out _ _ (by (iterate 7 (refine below_set ?_ GE229.out)); exact HB.out) (fun hHeld => ?_)
              clear hK K
              refine done_ (done_of HT_.out (by kernel_rfl)) ?_
              obtain ⟨BY, BO, HW⟩ := one_box (.int .i64 (y.f0)) (.int .i64 (y.f1)) (.int .i64 (y.f2)) (.int .i64 (y.f3)) (.slice A227_4 (y.f4).length c227_4) (.slice A227_5 (y.f5).length c227_5) (.slice A227_6 (y.f6).length c227_6) BK229.out HB.out GW229.out
              replace BX := BO gb228 NB228_229.out _ BX
              generalize (((((((W1.setCell ⟨gb229, 0, none⟩ (.int .i64 (y.f0))).setCell ⟨gb229, 1, none⟩ (.int .i64 (y.f1))).setCell ⟨gb229, 2, none⟩ (.int .i64 (y.f2))).setCell ⟨gb229, 3, none⟩ (.int .i64 (y.f3))).setCell ⟨gb229, 4, none⟩ (.slice A227_4 (y.f4).length c227_4)).setCell ⟨gb229, 5, none⟩ (.slice A227_5 (y.f5).length c227_5)).setCell ⟨gb229, 6, none⟩ (.slice A227_6 (y.f6).length c227_6)) = W2 at BX BY HW ⊢
              clear BO BK229 HB HT_ HW_ hHeld HW1 BK229a
              have cx0 : W2.cell? ⟨gb228, 0, none⟩ = some (.int .i64 (x.f0)) := blk_cell BX 0
              have cy0 : W2.cell? ⟨gb229, 0, none⟩ = some (.int .i64 (y.f0)) := blk_cell BY 0
              have cx1 : W2.cell? ⟨gb228, 1, none⟩ = some (.int .i64 (x.f1)) := blk_cell BX 1
              have cy1 : W2.cell? ⟨gb229, 1, none⟩ = some (.int .i64 (y.f1)) := blk_cell BY 1
              have cx2 : W2.cell? ⟨gb228, 2, none⟩ = some (.int .i64 (x.f2)) := blk_cell BX 2
              have cy2 : W2.cell? ⟨gb229, 2, none⟩ = some (.int .i64 (y.f2)) := blk_cell BY 2
              have cx3 : W2.cell? ⟨gb228, 3, none⟩ = some (.int .i64 (x.f3)) := blk_cell BX 3
              have cy3 : W2.cell? ⟨gb229, 3, none⟩ = some (.int .i64 (y.f3)) := blk_cell BY 3
              have cx4 : W2.cell? ⟨gb228, 4, none⟩ = some (.slice A226_4 (x.f4).length c226_4) := blk_cell BX 4
              have cy4 : W2.cell? ⟨gb229, 4, none⟩ = some (.slice A227_4 (y.f4).length c227_4) := blk_cell BY 4
              have cx5 : W2.cell? ⟨gb228, 5, none⟩ = some (.slice A226_5 (x.f5).length c226_5) := blk_cell BX 5
              have cy5 : W2.cell? ⟨gb229, 5, none⟩ = some (.slice A227_5 (y.f5).length c227_5) := blk_cell BY 5
              have cx6 : W2.cell? ⟨gb228, 6, none⟩ = some (.slice A226_6 (x.f6).length c226_6) := blk_cell BX 6
              have cy6 : W2.cell? ⟨gb229, 6, none⟩ = some (.slice A227_6 (y.f6).length c227_6) := blk_cell BY 6
              have H := H'.out
              clear H'
              by_cases c7 : (x.f0) = (y.f0)
              · rw [if_pos c7] at H
                have c7b0 : ((x.f0) == (y.f0)) = true := beq_iff_eq.mpr c7
                have c7b1 : ((x.f0) != (y.f0)) = false := bne_eq_false_iff_eq.mpr c7
                clear c7
                by_cases c8 : (x.f1) = (y.f1)
                · rw [if_pos c8] at H
                  have c8b0 : ((x.f1) == (y.f1)) = true := beq_iff_eq.mpr c8
                  have c8b1 : ((x.f1) != (y.f1)) = false := bne_eq_false_iff_eq.mpr c8
                  clear c8
                  by_cases c9 : (x.f2) = (y.f2)
                  · rw [if_pos c9] at H
                    have c9b0 : ((x.f2) == (y.f2)) = true := beq_iff_eq.mpr c9
                    have c9b1 : ((x.f2) != (y.f2)) = false := bne_eq_false_iff_eq.mpr c9
                    clear c9
                    by_cases c10 : (x.f3) = (y.f3)
                    · rw [if_pos c10] at H
                      have c10b0 : ((x.f3) == (y.f3)) = true := beq_iff_eq.mpr c10
                      have c10b1 : ((x.f3) != (y.f3)) = false := bne_eq_false_iff_eq.mpr c10
                      clear c10
                      replace H := Option.bind_eq_some_iff.mp H
                      obtain ⟨t230, A110, H⟩ := H
                      replace H : (if t230 = true then ((scarfref05_Same.f k1 (x.f5) (y.f5)).bind fun t231 => (if t231 = true then ((scarfref05_Same.f k1 (x.f6) (y.f6)).bind fun t232 => (if t232 = true then (scarfref05_Same.l0 k1 l0 l1 (wrap64 (x5_1 + 1))) else (some false))) else (some false))) else (some false)) = some r := H
                      have A11 := Aside0.mk A110
                      clear A110
                      by_cases c12 : t230 = true
                      · subst c12
                        have H1 : ((scarfref05_Same.f k1 (x.f5) (y.f5)).bind fun t231 => (if t231 = true then ((scarfref05_Same.f k1 (x.f6) (y.f6)).bind fun t232 => (if t232 = true then (scarfref05_Same.l0 k1 l0 l1 (wrap64 (x5_1 + 1))) else (some false))) else (some false))) = some r := by rw [if_pos rfl] at H; exact H
                        clear H
                        have H := H1
                        clear H1
                        replace H := Option.bind_eq_some_iff.mp H
                        obtain ⟨t231, A130, H⟩ := H
                        replace H : (if t231 = true then ((scarfref05_Same.f k1 (x.f6) (y.f6)).bind fun t232 => (if t232 = true then (scarfref05_Same.l0 k1 l0 l1 (wrap64 (x5_1 + 1))) else (some false))) else (some false)) = some r := H
                        have A13 := Aside0.mk A130
                        clear A130
                        by_cases c14 : t231 = true
                        · subst c14
                          have H1 : ((scarfref05_Same.f k1 (x.f6) (y.f6)).bind fun t232 => (if t232 = true then (scarfref05_Same.l0 k1 l0 l1 (wrap64 (x5_1 + 1))) else (some false))) = some r := by rw [if_pos rfl] at H; exact H
                          clear H
                          have H := H1
                          clear H1
                          replace H := Option.bind_eq_some_iff.mp H
                          obtain ⟨t232, A150, H⟩ := H
                          replace H : (if t232 = true then (scarfref05_Same.l0 k1 l0 l1 (wrap64 (x5_1 + 1))) else (some false)) = some r := H
                          have A15 := Aside0.mk A150
                          clear A150
                          by_cases c16 : t232 = true
                          · subst c16
                            have H1 : (scarfref05_Same.l0 k1 l0 l1 (wrap64 (x5_1 + 1))) = some r := by rw [if_pos rfl] at H; exact H
                            clear H
                            have H := H1
                            clear H1
                            have H' := Aside0.mk H
                            clear H
                            go_wp2_with (first | (go_at_call 37; (with_reducible refine (scarfref01_Same.calls k1 _ _ (x.f4) _ _ (y.f4) true _ (Kd.C_below HR226_4.out HW) HC226_4.out (Kd.C_below HR227_4.out HW) HC227_4.out A11.out).mono ?_); rintro e w' ⟨rfl, ⟨nd, rfl⟩⟩) | (go_at_call 20; (with_reducible refine (ih k1 (by have := HK1.out; omega) _ _ (x.f5) _ _ (y.f5) true _ (Kd.C_below HR226_5.out (pw_below_drewN HW _)) HC226_5.out (Kd.C_below HR227_5.out (pw_below_drewN HW _)) HC227_5.out A13.out).mono ?_); rintro e w3 ⟨rfl, hb3⟩; have HW3 := below_step (pw_below_drewN HW nd) hb3; have c3x : w3.cell? ⟨gb228, 6, none⟩ = some (.slice A226_6 (x.f6).length c226_6) := pw_cell_below hb3 cx6; have c3y : w3.cell? ⟨gb229, 6, none⟩ = some (.slice A227_6 (y.f6).length c227_6) := pw_cell_below hb3 cy6) | (go_at_call 20; (with_reducible refine (ih k1 (by have := HK1.out; omega) _ _ (x.f6) _ _ (y.f6) true _ (Kd.C_below HR226_6.out HW3) HC226_6.out (Kd.C_below HR227_6.out HW3) HC227_6.out A15.out).mono ?_); rintro e w4 ⟨rfl, hb4⟩; have HW4 := below_step HW3 hb4))
                            go_roundg k1
                            case measure => have := HK1.out; omega
                            case rel => exact ⟨_, rfl, H', ⟨by have := HK1.out; omega⟩, ⟨HW4⟩⟩
                          · replace c16 := Bool.eq_false_iff.mpr c16
                            subst c16
                            have H1 : (some false) = some r := by rw [if_neg (show ¬ (false = true) by decide)] at H; exact H
                            clear H
                            have H := H1
                            clear H1
                            obtain rfl := Option.some.inj H
                            go_wp2_with (first | (go_at_call 37; (with_reducible refine (scarfref01_Same.calls k1 _ _ (x.f4) _ _ (y.f4) true _ (Kd.C_below HR226_4.out HW) HC226_4.out (Kd.C_below HR227_4.out HW) HC227_4.out A11.out).mono ?_); rintro e w' ⟨rfl, ⟨nd, rfl⟩⟩) | (go_at_call 20; (with_reducible refine (ih k1 (by have := HK1.out; omega) _ _ (x.f5) _ _ (y.f5) true _ (Kd.C_below HR226_5.out (pw_below_drewN HW _)) HC226_5.out (Kd.C_below HR227_5.out (pw_below_drewN HW _)) HC227_5.out A13.out).mono ?_); rintro e w3 ⟨rfl, hb3⟩; have HW3 := below_step (pw_below_drewN HW nd) hb3; have c3x : w3.cell? ⟨gb228, 6, none⟩ = some (.slice A226_6 (x.f6).length c226_6) := pw_cell_below hb3 cx6; have c3y : w3.cell? ⟨gb229, 6, none⟩ = some (.slice A227_6 (y.f6).length c227_6) := pw_cell_below hb3 cy6) | (go_at_call 20; (with_reducible refine (ih k1 (by have := HK1.out; omega) _ _ (x.f6) _ _ (y.f6) false _ (Kd.C_below HR226_6.out HW3) HC226_6.out (Kd.C_below HR227_6.out HW3) HC227_6.out A15.out).mono ?_); rintro e w4 ⟨rfl, hb4⟩; have HW4 := below_step HW3 hb4))
                            go_ret
                            exact ⟨rfl, HW4⟩
                        · replace c14 := Bool.eq_false_iff.mpr c14
                          subst c14
                          have H1 : (some false) = some r := by rw [if_neg (show ¬ (false = true) by decide)] at H; exact H
                          clear H
                          have H := H1
                          clear H1
                          obtain rfl := Option.some.inj H
                          go_wp2_with (first | (go_at_call 37; (with_reducible refine (scarfref01_Same.calls k1 _ _ (x.f4) _ _ (y.f4) true _ (Kd.C_below HR226_4.out HW) HC226_4.out (Kd.C_below HR227_4.out HW) HC227_4.out A11.out).mono ?_); rintro e w' ⟨rfl, ⟨nd, rfl⟩⟩) | (go_at_call 20; (with_reducible refine (ih k1 (by have := HK1.out; omega) _ _ (x.f5) _ _ (y.f5) false _ (Kd.C_below HR226_5.out (pw_below_drewN HW _)) HC226_5.out (Kd.C_below HR227_5.out (pw_below_drewN HW _)) HC227_5.out A13.out).mono ?_); rintro e w3 ⟨rfl, hb3⟩; have HW3 := below_step (pw_below_drewN HW nd) hb3; have c3x : w3.cell? ⟨gb228, 6, none⟩ = some (.slice A226_6 (x.f6).length c226_6) := pw_cell_below hb3 cx6; have c3y : w3.cell? ⟨gb229, 6, none⟩ = some (.slice A227_6 (y.f6).length c227_6) := pw_cell_below hb3 cy6))
                          go_ret
                          exact ⟨rfl, HW3⟩
                      · replace c12 := Bool.eq_false_iff.mpr c12
                        subst c12
                        have H1 : (some false) = some r := by rw [if_neg (show ¬ (false = true) by decide)] at H; exact H
                        clear H
                        have H := H1
                        clear H1
                        obtain rfl := Option.some.inj H
                        go_wp2_with (first | (go_at_call 37; (with_reducible refine (scarfref01_Same.calls k1 _ _ (x.f4) _ _ (y.f4) false _ (Kd.C_below HR226_4.out HW) HC226_4.out (Kd.C_below HR227_4.out HW) HC227_4.out A11.out).mono ?_); rintro e w' ⟨rfl, ⟨nd, rfl⟩⟩))
                        go_ret
                        exact ⟨rfl, pw_below_drewN HW _⟩
                    · rw [if_neg c10] at H
                      have c10b0 : ((x.f3) == (y.f3)) = false := beq_eq_false_iff_ne.mpr c10
                      have c10b1 : ((x.f3) != (y.f3)) = true := bne_iff_ne.mpr c10
                      obtain rfl := Option.some.inj H
                      go_wp2
                      go_ret
                      exact ⟨rfl, by first | exact HW | exact pw_below_drewN HW _⟩
                  · rw [if_neg c9] at H
                    have c9b0 : ((x.f2) == (y.f2)) = false := beq_eq_false_iff_ne.mpr c9
                    have c9b1 : ((x.f2) != (y.f2)) = true := bne_iff_ne.mpr c9
                    obtain rfl := Option.some.inj H
                    go_wp2
                    go_ret
                    exact ⟨rfl, by first | exact HW | exact pw_below_drewN HW _⟩
                · rw [if_neg c8] at H
                  have c8b0 : ((x.f1) == (y.f1)) = false := beq_eq_false_iff_ne.mpr c8
                  have c8b1 : ((x.f1) != (y.f1)) = true := bne_iff_ne.mpr c8
                  obtain rfl := Option.some.inj H
                  go_wp2
                  go_ret
                  exact ⟨rfl, by first | exact HW | exact pw_below_drewN HW _⟩
              · rw [if_neg c7] at H
                have c7b0 : ((x.f0) == (y.f0)) = false := beq_eq_false_iff_ne.mpr c7
                have c7b1 : ((x.f0) != (y.f0)) = true := bne_iff_ne.mpr c7
                obtain rfl := Option.some.inj H
                go_wp2
                go_ret
                exact ⟨rfl, by first | exact HW | exact pw_below_drewN HW _⟩
            · rw [if_neg c6] at H
              exact absurd H (by simp)
          · rw [if_neg c5] at H
            exact absurd H (by simp)
        · rw [if_neg c4] at H
          have c4b0 : decide (x5_1 < (l0.length : Int)) = false := decide_eq_false c4
          clear c4
          obtain rfl := Option.some.inj H
          go_wp2
          go_ret
          exact ⟨by first | rfl | (simp [errW_none, errW_some] <;> rfl) | (simp [*, errW_none, errW_some] <;> rfl), by repeat (first | (with_reducible first | exact HB.out | apply below_alloc | apply pw_below_drewN | apply below_drew1) | exact HB.out)⟩
  · rw [if_neg c3] at H
    have c3b0 : ((l0.length : Int) == (l1.length : Int)) = false := beq_eq_false_iff_ne.mpr c3
    have c3b1 : ((l0.length : Int) != (l1.length : Int)) = true := bne_iff_ne.mpr c3
    have c3b2 : (l0.length == l1.length) = false := by first | simpa using c3 | (simp at c3 ⊢; omega)
    obtain rfl := Option.some.inj H
    go_enter Try.func20, Try.ntmps20
    go_wp2
    go_ret
    exact ⟨by first | rfl | (simp [errW_none, errW_some] <;> rfl) | (simp [*, errW_none, errW_some] <;> rfl), by repeat (first | (with_reducible first | exact HB.out | apply below_alloc | apply pw_below_drewN | apply below_drew1) | exact HB.out)⟩
def scarflaw05_InstrOnly.j0 : Nat → ByteArray → Option (Bool)
  | 0, _ => none
  | k + 1, x0 => (instr_Take.f x0).bind fun bt354 => (if bt354.2.2 = 0 then ((instr_Put.f bt354.1).bind fun bt360 => ((instr_Take.f bt360.1).bind fun bt362 => (if bt360.2 = 0 then (if bt362.2.2 = 0 then (if bt362.2.1.toList = ([] : List UInt8) then ((scarfref05_Same.f k bt354.1 bt362.1).bind fun t367 => (if t367 = true then (if (bt360.1.size : Int) ≤ (wrap64 ((x0.size : Int) - (bt354.2.1.size : Int))) then ((scarflaw05_awake.f k).bind fun t368 => (some t368)) else (some false)) else (some false))) else (some false)) else (some false)) else (some false)))) else (if (bt354.1.length : Int) = 0 then (if bt354.2.1.toList = ([] : List UInt8) then ((scarflaw05_awake.f k).bind fun t359 => (some t359)) else (some false)) else (some false)))
def scarflaw05_InstrOnly.f (k : Nat) (a0 : ByteArray) : Option (Bool) := if (a0.size : Int) > 20000 then (if 0 ≤ 20000 then (if 20000 ≤ (a0.size : Int) then (scarflaw05_InstrOnly.j0 k (a0.extract 0 20000)) else (none)) else (none)) else (scarflaw05_InstrOnly.j0 k a0)
theorem scarflaw05_InstrOnly.mono_l : ∀ k, (∀ y0, LeO (scarflaw05_InstrOnly.j0 k y0) (scarflaw05_InstrOnly.j0 (k + 1) y0))
  | 0 => fun _ r h => by simp [scarflaw05_InstrOnly.j0] at h
  | k + 1 => by
    have ih0 := scarflaw05_InstrOnly.mono_l k
    · intro y0
      unfold scarflaw05_InstrOnly.j0
      repeat' first
      | (with_reducible exact ih0 _)
      | (with_reducible exact scarflaw05_awake.mono _)
      | (with_reducible exact scarfref05_Same.mono _ _ _)
      | (with_reducible exact LeO.refl _)
      | (with_reducible exact LeO.none _)
      | (with_reducible refine LeO.ite ?_ ?_)
      | (with_reducible refine LeO.bind ?_ (fun _ => ?_))
      | exact ih0 _
      | exact scarflaw05_awake.mono _
      | exact scarfref05_Same.mono _ _ _
      | exact LeO.none _
      | refine LeO.ite ?_ ?_
      | refine LeO.bind ?_ (fun _ => ?_)
theorem scarflaw05_InstrOnly.mono : ∀ a0 k, LeO (scarflaw05_InstrOnly.f k a0) (scarflaw05_InstrOnly.f (k + 1) a0) := by
  intro a0 k
  have ih0 := scarflaw05_InstrOnly.mono_l k
  unfold scarflaw05_InstrOnly.f
  repeat' first
      | (with_reducible exact ih0 _)
      | (with_reducible exact scarflaw05_awake.mono _)
      | (with_reducible exact scarfref05_Same.mono _ _ _)
      | (with_reducible exact LeO.refl _)
      | (with_reducible exact LeO.none _)
      | (with_reducible refine LeO.ite ?_ ?_)
      | (with_reducible refine LeO.bind ?_ (fun _ => ?_))
      | exact ih0 _
      | exact scarflaw05_awake.mono _
      | exact scarfref05_Same.mono _ _ _
      | exact LeO.none _
      | refine LeO.ite ?_ ?_
      | refine LeO.bind ?_ (fun _ => ?_)
set_option maxHeartbeats 8000000 in
set_option maxRecDepth 100000 in
theorem scarflaw05_InstrOnly.calls (k : Nat) (a0 : ByteArray) (r : Bool) (w : World) (h : scarflaw05_InstrOnly.f k a0 = some r) :
    Calls Try.prog 6 #[.string a0] w fun e w' => e = .returned (.bool r) ∧ Below w.heap.size w w' := by
  have HB := Aside0.mk (Below.refl w.heap.size w)
  have H : (if (a0.size : Int) > 20000 then (if 0 ≤ 20000 then (if 20000 ≤ (a0.size : Int) then (scarflaw05_InstrOnly.j0 k (a0.extract 0 20000)) else (none)) else (none)) else (scarflaw05_InstrOnly.j0 k a0)) = some r := h
  clear h
  have HC2 := Aside0.mk H
  clear H
  go_enter Try.func6, Try.ntmps6
  go_upto_if 13 with (fail)
  go_cut [0] (fun v0 wc => ∃ (kq : Nat) (x0_1 : ByteArray), v0 = .string x0_1 ∧ Aside0 (scarflaw05_InstrOnly.j0 kq x0_1 = some r) ∧ Aside0 (kq ≤ k) ∧ Aside0 (Below w.heap.size w wc))
  case first =>
    have H := HC2.out
    clear HC2
    by_cases c3 : (a0.size : Int) > 20000
    · rw [if_pos c3] at H
      have c3b0 : decide (20000 < (a0.size : Int)) = true := decide_eq_true c3
      have c3b1 : decide (20000 < a0.size) = true := decide_eq_true (by omega)
      clear c3
      (first | rw [c3b0] | (simp only [i64_w, i32_w]; rw [c3b0]) | skip)
      by_cases c4 : 0 ≤ 20000
      · rw [if_pos c4] at H
        have c4b0 := eq_true c4
        have c4b1 : decide (0 ≤ 20000) = true := decide_eq_true c4
        clear c4
        by_cases c5 : 20000 ≤ (a0.size : Int)
        · rw [if_pos c5] at H
          have c5b0 := eq_true c5
          have c5b1 : decide (20000 ≤ (a0.size : Int)) = true := decide_eq_true c5
          clear c5
          have H' := Aside0.mk H
          clear H
          go_wp2
          go_meet
          case rel => exact ⟨_, (a0.extract 0 20000), (by first | rfl | (simp; done) | (simp [*]; done)), H', ⟨by first | omega | exact Nat.le_refl _⟩, ⟨by repeat (first | (with_reducible first | exact HB.out | apply below_alloc | apply pw_below_drewN | apply below_drew1) | exact HB.out)⟩⟩
        · rw [if_neg c5] at H
          exact absurd H (by simp)
      · rw [if_neg c4] at H
        exact absurd H (by simp)
    · rw [if_neg c3] at H
      have c3b0 : decide (20000 < (a0.size : Int)) = false := decide_eq_false c3
      have c3b1 : decide (20000 < a0.size) = false := decide_eq_false (by omega)
      clear c3
      (first | rw [c3b0] | (simp only [i64_w, i32_w]; rw [c3b0]) | skip)
      have H' := Aside0.mk H
      clear H
      go_wp2
      go_meet
      case rel => exact ⟨_, (a0), (by first | rfl | (simp; done) | (simp [*]; done)), H', ⟨by first | omega | exact Nat.le_refl _⟩, ⟨by repeat (first | (with_reducible first | exact HB.out | apply below_alloc | apply pw_below_drewN | apply below_drew1) | exact HB.out)⟩⟩
  case rest =>
    clear HC2
    try clear p2
    try clear c3
    try clear c3b0
    try clear c3b1
    try clear c4
    try clear c4b0
    try clear c4b1
    try clear c5
    try clear c5b0
    try clear c5b1
    obtain ⟨kq, x0_1, rfl, HA, HJ1, HB⟩ := hcut
    cases kq with
    | zero => exact absurd HA.out (by simp [scarflaw05_InstrOnly.j0])
    | succ kj1 =>
      have H := HA.out
      clear HA
      simp only [scarflaw05_InstrOnly.j0] at H
      replace H := Option.bind_eq_some_iff.mp H
      obtain ⟨⟨t354, t355, t356⟩, A60, H⟩ := H
      replace H : (if t356 = 0 then ((instr_Put.f t354).bind fun bt360 => ((instr_Take.f bt360.1).bind fun bt362 => (if bt360.2 = 0 then (if bt362.2.2 = 0 then (if bt362.2.1.toList = ([] : List UInt8) then ((scarfref05_Same.f kj1 t354 bt362.1).bind fun t367 => (if t367 = true then (if (bt360.1.size : Int) ≤ (wrap64 ((x0_1.size : Int) - (t355.size : Int))) then ((scarflaw05_awake.f kj1).bind fun t368 => (some t368)) else (some false)) else (some false))) else (some false)) else (some false)) else (some false)))) else (if (t354.length : Int) = 0 then (if t355.toList = ([] : List UInt8) then ((scarflaw05_awake.f kj1).bind fun t359 => (some t359)) else (some false)) else (some false))) = some r := H
      have A6 := Aside0.mk A60
      clear A60
      by_cases c7 : t356 = 0
      · rw [if_pos c7] at H
        have c7b0 : (t356 == 0) = true := beq_iff_eq.mpr c7
        have c7b1 : (t356 != 0) = false := bne_eq_false_iff_eq.mpr c7
        clear c7
        replace H := Option.bind_eq_some_iff.mp H
        obtain ⟨⟨t360, t361⟩, A80, H⟩ := H
        replace H : ((instr_Take.f t360).bind fun bt362 => (if t361 = 0 then (if bt362.2.2 = 0 then (if bt362.2.1.toList = ([] : List UInt8) then ((scarfref05_Same.f kj1 t354 bt362.1).bind fun t367 => (if t367 = true then (if (t360.size : Int) ≤ (wrap64 ((x0_1.size : Int) - (t355.size : Int))) then ((scarflaw05_awake.f kj1).bind fun t368 => (some t368)) else (some false)) else (some false))) else (some false)) else (some false)) else (some false))) = some r := H
        have A8 := Aside0.mk A80
        clear A80
        replace H := Option.bind_eq_some_iff.mp H
        obtain ⟨⟨t362, t363, t364⟩, A90, H⟩ := H
        replace H : (if t361 = 0 then (if t364 = 0 then (if t363.toList = ([] : List UInt8) then ((scarfref05_Same.f kj1 t354 t362).bind fun t367 => (if t367 = true then (if (t360.size : Int) ≤ (wrap64 ((x0_1.size : Int) - (t355.size : Int))) then ((scarflaw05_awake.f kj1).bind fun t368 => (some t368)) else (some false)) else (some false))) else (some false)) else (some false)) else (some false)) = some r := H
        have A9 := Aside0.mk A90
        clear A90
        by_cases c10 : t361 = 0
        · rw [if_pos c10] at H
          have c10b0 : (t361 == 0) = true := beq_iff_eq.mpr c10
          have c10b1 : (t361 != 0) = false := bne_eq_false_iff_eq.mpr c10
          clear c10
          by_cases c11 : t364 = 0
          · rw [if_pos c11] at H
            have c11b0 : (t364 == 0) = true := beq_iff_eq.mpr c11
            have c11b1 : (t364 != 0) = false := bne_eq_false_iff_eq.mpr c11
            clear c11
            by_cases c12 : t363.toList = ([] : List UInt8)
            · rw [if_pos c12] at H
              have c12b0 : (t363.toList == ([] : List UInt8)) = true := beq_iff_eq.mpr c12
              have c12b1 : (t363.toList != ([] : List UInt8)) = false := bne_eq_false_iff_eq.mpr c12
              clear c12
              replace H := Option.bind_eq_some_iff.mp H
              obtain ⟨t367, A130, H⟩ := H
              replace H : (if t367 = true then (if (t360.size : Int) ≤ (wrap64 ((x0_1.size : Int) - (t355.size : Int))) then ((scarflaw05_awake.f kj1).bind fun t368 => (some t368)) else (some false)) else (some false)) = some r := H
              have A13 := Aside0.mk A130
              clear A130
              by_cases c14 : t367 = true
              · subst c14
                have H1 : (if (t360.size : Int) ≤ (wrap64 ((x0_1.size : Int) - (t355.size : Int))) then ((scarflaw05_awake.f kj1).bind fun t368 => (some t368)) else (some false)) = some r := by rw [if_pos rfl] at H; exact H
                clear H
                have H := H1
                clear H1
                by_cases c15 : (t360.size : Int) ≤ (wrap64 ((x0_1.size : Int) - (t355.size : Int)))
                · rw [if_pos c15] at H
                  have c15b0 : decide ((t360.size : Int) ≤ (wrap64 ((x0_1.size : Int) - (t355.size : Int)))) = true := decide_eq_true c15
                  clear c15
                  replace H := Option.bind_eq_some_iff.mp H
                  obtain ⟨t368, A160, H⟩ := H
                  replace H : (some t368) = some r := H
                  have A16 := Aside0.mk A160
                  clear A160
                  obtain rfl := Option.some.inj H
                  go_wp2_with (first | ((with_reducible refine gate_callee (f := 19) rfl ?_); refine goesL_ (some 18) rfl rfl Try.func19 (by kernel_rfl) rfl #[.string x0_1] rfl (by (try simp only [List.map_toArray, List.map_cons, List.map_nil]); first | done | rfl | (simp only [List.length_drop, List.length_take]; rfl)) ?_; (with_reducible refine (instr_Take.calls x0_1 t354 t355 t356 _ A6.out).mono ?_); rintro e w17 ⟨v357, rfl, ho0, hb⟩; refine ⟨_, rfl, ?_⟩; have n0_ := Aside0.mk (Kd.R_lower ho0 (below_size (by repeat (first | (with_reducible first | exact HB.out | apply below_alloc | apply pw_below_drewN | apply below_drew1) | exact HB.out)))); have n1_ := Aside0.mk (below_step (by repeat (first | (with_reducible first | exact HB.out | apply below_alloc | apply pw_below_drewN | apply below_drew1) | exact HB.out)) hb); clear HB; have HO358 := n0_; have HB := n1_; clear n0_ n1_; (try clear hb); (try clear hb2); (try clear hk); (try clear hi); (try clear ho0); obtain ⟨Ao18, co18, eo18⟩ := Kd.R_slice HO358.out; subst eo18) | ((with_reducible refine gate_callee (f := 15) rfl ?_); refine goesL_ (some 36) rfl rfl Try.func15 (by kernel_rfl) rfl #[.slice Ao18 t354.length co18] rfl (by (try simp only [List.map_toArray, List.map_cons, List.map_nil]); first | done | rfl | (simp only [List.length_drop, List.length_take]; rfl)) ?_; (with_reducible refine (instr_Put.calls _ _ t354 t360 t361 _ ?side1 ?side2 A8.out).mono ?_); (case side1 => repeat (first | exact (Kd.R_reads' HO358.out).2.2 | (with_reducible refine Kd.C_alloc ?_ _) | (with_reducible refine Kd.C_drewN ?_ _) | (with_reducible refine Kd.C_drew ?_))); (case side2 => exact (Kd.R_reads' HO358.out).2.1); rintro e w19 ⟨rfl, hb⟩; refine ⟨_, rfl, ?_⟩; have n0_ := Aside0.mk (Kd.R_below (by (with_reducible repeat (first | apply Kd.R_alloc | apply Kd.R_drewN | apply Kd.R_drew)); exact HO358.out) hb); have n1_ := Aside0.mk (below_step (by repeat (first | (with_reducible first | exact HB.out | apply below_alloc | apply pw_below_drewN | apply below_drew1) | exact HB.out)) hb); clear HO358; clear HB; have HO358 := n0_; have HB := n1_; clear n0_ n1_; (try clear hb); (try clear hb2); (try clear hk); (try clear hi)) | ((with_reducible refine gate_callee (f := 19) rfl ?_); refine goesL_ (some 41) rfl rfl Try.func19 (by kernel_rfl) rfl #[.string t360] rfl (by (try simp only [List.map_toArray, List.map_cons, List.map_nil]); first | done | rfl | (simp only [List.length_drop, List.length_take]; rfl)) ?_; (with_reducible refine (instr_Take.calls t360 t362 t363 t364 _ A9.out).mono ?_); rintro e w20 ⟨v365, rfl, ho0, hb⟩; refine ⟨_, rfl, ?_⟩; have n0_ := Aside0.mk (Kd.R_elder' (by (with_reducible repeat (first | apply Kd.R_alloc | apply Kd.R_drewN | apply Kd.R_drew)); exact HO358.out) (Kd.R_base ho0) hb); have n1_ := Aside0.mk (Kd.R_lower (Kd.R_new' ho0 (Kd.R_lt (by (with_reducible repeat (first | apply Kd.R_alloc | apply Kd.R_drewN | apply Kd.R_drew)); exact HO358.out))) (below_size (by repeat (first | (with_reducible first | exact HB.out | apply below_alloc | apply pw_below_drewN | apply below_drew1) | exact HB.out)))); have n2_ := Aside0.mk (below_step (by repeat (first | (with_reducible first | exact HB.out | apply below_alloc | apply pw_below_drewN | apply below_drew1) | exact HB.out)) hb); clear HO358; clear HB; have HO358 := n0_; have HO366 := n1_; have HB := n2_; clear n0_ n1_ n2_; (try clear hb); (try clear hb2); (try clear hk); (try clear hi); (try clear ho0); obtain ⟨Ao21, co21, eo21⟩ := Kd.R_slice HO366.out; subst eo21) | (go_at_call 20; (with_reducible refine (scarfref05_Same.calls kj1 _ _ t354 _ _ t362 true _ ?side1 ?side2 ?side3 ?side4 A13.out).mono ?_); (case side1 => repeat (first | exact (Kd.R_reads' HO358.out).2.2 | (with_reducible refine Kd.C_alloc ?_ _) | (with_reducible refine Kd.C_drewN ?_ _) | (with_reducible refine Kd.C_drew ?_))); (case side2 => exact (Kd.R_reads' HO358.out).2.1); (case side3 => repeat (first | exact (Kd.R_reads' HO366.out).2.2 | (with_reducible refine Kd.C_alloc ?_ _) | (with_reducible refine Kd.C_drewN ?_ _) | (with_reducible refine Kd.C_drew ?_))); (case side4 => exact (Kd.R_reads' HO366.out).2.1); rintro e w22 ⟨rfl, hb⟩; have n0_ := Aside0.mk (Kd.R_below (by (with_reducible repeat (first | apply Kd.R_alloc | apply Kd.R_drewN | apply Kd.R_drew)); exact HO358.out) hb); have n1_ := Aside0.mk (Kd.R_below (by (with_reducible repeat (first | apply Kd.R_alloc | apply Kd.R_drewN | apply Kd.R_drew)); exact HO366.out) hb); have n2_ := Aside0.mk (below_step (by repeat (first | (with_reducible first | exact HB.out | apply below_alloc | apply pw_below_drewN | apply below_drew1) | exact HB.out)) hb); clear HO358; clear HO366; clear HB; have HO358 := n0_; have HO366 := n1_; have HB := n2_; clear n0_ n1_ n2_; (try clear hb); (try clear hb2); (try clear hk); (try clear hi)) | (go_at_call 14; (with_reducible refine (scarflaw05_awake.calls kj1  t368 _ A16.out).mono ?_); rintro e w23 ⟨rfl, hb⟩; have n0_ := Aside0.mk (Kd.R_below (by (with_reducible repeat (first | apply Kd.R_alloc | apply Kd.R_drewN | apply Kd.R_drew)); exact HO358.out) hb); have n1_ := Aside0.mk (Kd.R_below (by (with_reducible repeat (first | apply Kd.R_alloc | apply Kd.R_drewN | apply Kd.R_drew)); exact HO366.out) hb); have n2_ := Aside0.mk (below_step (by repeat (first | (with_reducible first | exact HB.out | apply below_alloc | apply pw_below_drewN | apply below_drew1) | exact HB.out)) hb); clear HO358; clear HO366; clear HB; have HO358 := n0_; have HO366 := n1_; have HB := n2_; clear n0_ n1_ n2_; (try clear hb); (try clear hb2); (try clear hk); (try clear hi)))
                  go_ret
                  exact ⟨by first | rfl | (simp [errW_none, errW_some] <;> rfl) | (simp [*, errW_none, errW_some] <;> rfl), by repeat (first | (with_reducible first | exact HB.out | apply below_alloc | apply pw_below_drewN | apply below_drew1) | exact HB.out)⟩
                · rw [if_neg c15] at H
                  have c15b0 : decide ((t360.size : Int) ≤ (wrap64 ((x0_1.size : Int) - (t355.size : Int)))) = false := decide_eq_false c15
                  clear c15
                  obtain rfl := Option.some.inj H
                  go_wp2_with (first | ((with_reducible refine gate_callee (f := 19) rfl ?_); refine goesL_ (some 18) rfl rfl Try.func19 (by kernel_rfl) rfl #[.string x0_1] rfl (by (try simp only [List.map_toArray, List.map_cons, List.map_nil]); first | done | rfl | (simp only [List.length_drop, List.length_take]; rfl)) ?_; (with_reducible refine (instr_Take.calls x0_1 t354 t355 t356 _ A6.out).mono ?_); rintro e w24 ⟨v357, rfl, ho0, hb⟩; refine ⟨_, rfl, ?_⟩; have n0_ := Aside0.mk (Kd.R_lower ho0 (below_size (by repeat (first | (with_reducible first | exact HB.out | apply below_alloc | apply pw_below_drewN | apply below_drew1) | exact HB.out)))); have n1_ := Aside0.mk (below_step (by repeat (first | (with_reducible first | exact HB.out | apply below_alloc | apply pw_below_drewN | apply below_drew1) | exact HB.out)) hb); clear HB; have HO358 := n0_; have HB := n1_; clear n0_ n1_; (try clear hb); (try clear hb2); (try clear hk); (try clear hi); (try clear ho0); obtain ⟨Ao25, co25, eo25⟩ := Kd.R_slice HO358.out; subst eo25) | ((with_reducible refine gate_callee (f := 15) rfl ?_); refine goesL_ (some 36) rfl rfl Try.func15 (by kernel_rfl) rfl #[.slice Ao25 t354.length co25] rfl (by (try simp only [List.map_toArray, List.map_cons, List.map_nil]); first | done | rfl | (simp only [List.length_drop, List.length_take]; rfl)) ?_; (with_reducible refine (instr_Put.calls _ _ t354 t360 t361 _ ?side1 ?side2 A8.out).mono ?_); (case side1 => repeat (first | exact (Kd.R_reads' HO358.out).2.2 | (with_reducible refine Kd.C_alloc ?_ _) | (with_reducible refine Kd.C_drewN ?_ _) | (with_reducible refine Kd.C_drew ?_))); (case side2 => exact (Kd.R_reads' HO358.out).2.1); rintro e w26 ⟨rfl, hb⟩; refine ⟨_, rfl, ?_⟩; have n0_ := Aside0.mk (Kd.R_below (by (with_reducible repeat (first | apply Kd.R_alloc | apply Kd.R_drewN | apply Kd.R_drew)); exact HO358.out) hb); have n1_ := Aside0.mk (below_step (by repeat (first | (with_reducible first | exact HB.out | apply below_alloc | apply pw_below_drewN | apply below_drew1) | exact HB.out)) hb); clear HO358; clear HB; have HO358 := n0_; have HB := n1_; clear n0_ n1_; (try clear hb); (try clear hb2); (try clear hk); (try clear hi)) | ((with_reducible refine gate_callee (f := 19) rfl ?_); refine goesL_ (some 41) rfl rfl Try.func19 (by kernel_rfl) rfl #[.string t360] rfl (by (try simp only [List.map_toArray, List.map_cons, List.map_nil]); first | done | rfl | (simp only [List.length_drop, List.length_take]; rfl)) ?_; (with_reducible refine (instr_Take.calls t360 t362 t363 t364 _ A9.out).mono ?_); rintro e w27 ⟨v365, rfl, ho0, hb⟩; refine ⟨_, rfl, ?_⟩; have n0_ := Aside0.mk (Kd.R_elder' (by (with_reducible repeat (first | apply Kd.R_alloc | apply Kd.R_drewN | apply Kd.R_drew)); exact HO358.out) (Kd.R_base ho0) hb); have n1_ := Aside0.mk (Kd.R_lower (Kd.R_new' ho0 (Kd.R_lt (by (with_reducible repeat (first | apply Kd.R_alloc | apply Kd.R_drewN | apply Kd.R_drew)); exact HO358.out))) (below_size (by repeat (first | (with_reducible first | exact HB.out | apply below_alloc | apply pw_below_drewN | apply below_drew1) | exact HB.out)))); have n2_ := Aside0.mk (below_step (by repeat (first | (with_reducible first | exact HB.out | apply below_alloc | apply pw_below_drewN | apply below_drew1) | exact HB.out)) hb); clear HO358; clear HB; have HO358 := n0_; have HO366 := n1_; have HB := n2_; clear n0_ n1_ n2_; (try clear hb); (try clear hb2); (try clear hk); (try clear hi); (try clear ho0); obtain ⟨Ao28, co28, eo28⟩ := Kd.R_slice HO366.out; subst eo28) | (go_at_call 20; (with_reducible refine (scarfref05_Same.calls kj1 _ _ t354 _ _ t362 true _ ?side1 ?side2 ?side3 ?side4 A13.out).mono ?_); (case side1 => repeat (first | exact (Kd.R_reads' HO358.out).2.2 | (with_reducible refine Kd.C_alloc ?_ _) | (with_reducible refine Kd.C_drewN ?_ _) | (with_reducible refine Kd.C_drew ?_))); (case side2 => exact (Kd.R_reads' HO358.out).2.1); (case side3 => repeat (first | exact (Kd.R_reads' HO366.out).2.2 | (with_reducible refine Kd.C_alloc ?_ _) | (with_reducible refine Kd.C_drewN ?_ _) | (with_reducible refine Kd.C_drew ?_))); (case side4 => exact (Kd.R_reads' HO366.out).2.1); rintro e w29 ⟨rfl, hb⟩; have n0_ := Aside0.mk (Kd.R_below (by (with_reducible repeat (first | apply Kd.R_alloc | apply Kd.R_drewN | apply Kd.R_drew)); exact HO358.out) hb); have n1_ := Aside0.mk (Kd.R_below (by (with_reducible repeat (first | apply Kd.R_alloc | apply Kd.R_drewN | apply Kd.R_drew)); exact HO366.out) hb); have n2_ := Aside0.mk (below_step (by repeat (first | (with_reducible first | exact HB.out | apply below_alloc | apply pw_below_drewN | apply below_drew1) | exact HB.out)) hb); clear HO358; clear HO366; clear HB; have HO358 := n0_; have HO366 := n1_; have HB := n2_; clear n0_ n1_ n2_; (try clear hb); (try clear hb2); (try clear hk); (try clear hi)))
                  go_ret
                  exact ⟨by first | rfl | (simp [errW_none, errW_some] <;> rfl) | (simp [*, errW_none, errW_some] <;> rfl), by repeat (first | (with_reducible first | exact HB.out | apply below_alloc | apply pw_below_drewN | apply below_drew1) | exact HB.out)⟩
              · replace c14 := Bool.eq_false_iff.mpr c14
                subst c14
                have H1 : (some false) = some r := by rw [if_neg (show ¬ (false = true) by decide)] at H; exact H
                clear H
                have H := H1
                clear H1
                obtain rfl := Option.some.inj H
                go_wp2_with (first | ((with_reducible refine gate_callee (f := 19) rfl ?_); refine goesL_ (some 18) rfl rfl Try.func19 (by kernel_rfl) rfl #[.string x0_1] rfl (by (try simp only [List.map_toArray, List.map_cons, List.map_nil]); first | done | rfl | (simp only [List.length_drop, List.length_take]; rfl)) ?_; (with_reducible refine (instr_Take.calls x0_1 t354 t355 t356 _ A6.out).mono ?_); rintro e w30 ⟨v357, rfl, ho0, hb⟩; refine ⟨_, rfl, ?_⟩; have n0_ := Aside0.mk (Kd.R_lower ho0 (below_size (by repeat (first | (with_reducible first | exact HB.out | apply below_alloc | apply pw_below_drewN | apply below_drew1) | exact HB.out)))); have n1_ := Aside0.mk (below_step (by repeat (first | (with_reducible first | exact HB.out | apply below_alloc | apply pw_below_drewN | apply below_drew1) | exact HB.out)) hb); clear HB; have HO358 := n0_; have HB := n1_; clear n0_ n1_; (try clear hb); (try clear hb2); (try clear hk); (try clear hi); (try clear ho0); obtain ⟨Ao31, co31, eo31⟩ := Kd.R_slice HO358.out; subst eo31) | ((with_reducible refine gate_callee (f := 15) rfl ?_); refine goesL_ (some 36) rfl rfl Try.func15 (by kernel_rfl) rfl #[.slice Ao31 t354.length co31] rfl (by (try simp only [List.map_toArray, List.map_cons, List.map_nil]); first | done | rfl | (simp only [List.length_drop, List.length_take]; rfl)) ?_; (with_reducible refine (instr_Put.calls _ _ t354 t360 t361 _ ?side1 ?side2 A8.out).mono ?_); (case side1 => repeat (first | exact (Kd.R_reads' HO358.out).2.2 | (with_reducible refine Kd.C_alloc ?_ _) | (with_reducible refine Kd.C_drewN ?_ _) | (with_reducible refine Kd.C_drew ?_))); (case side2 => exact (Kd.R_reads' HO358.out).2.1); rintro e w32 ⟨rfl, hb⟩; refine ⟨_, rfl, ?_⟩; have n0_ := Aside0.mk (Kd.R_below (by (with_reducible repeat (first | apply Kd.R_alloc | apply Kd.R_drewN | apply Kd.R_drew)); exact HO358.out) hb); have n1_ := Aside0.mk (below_step (by repeat (first | (with_reducible first | exact HB.out | apply below_alloc | apply pw_below_drewN | apply below_drew1) | exact HB.out)) hb); clear HO358; clear HB; have HO358 := n0_; have HB := n1_; clear n0_ n1_; (try clear hb); (try clear hb2); (try clear hk); (try clear hi)) | ((with_reducible refine gate_callee (f := 19) rfl ?_); refine goesL_ (some 41) rfl rfl Try.func19 (by kernel_rfl) rfl #[.string t360] rfl (by (try simp only [List.map_toArray, List.map_cons, List.map_nil]); first | done | rfl | (simp only [List.length_drop, List.length_take]; rfl)) ?_; (with_reducible refine (instr_Take.calls t360 t362 t363 t364 _ A9.out).mono ?_); rintro e w33 ⟨v365, rfl, ho0, hb⟩; refine ⟨_, rfl, ?_⟩; have n0_ := Aside0.mk (Kd.R_elder' (by (with_reducible repeat (first | apply Kd.R_alloc | apply Kd.R_drewN | apply Kd.R_drew)); exact HO358.out) (Kd.R_base ho0) hb); have n1_ := Aside0.mk (Kd.R_lower (Kd.R_new' ho0 (Kd.R_lt (by (with_reducible repeat (first | apply Kd.R_alloc | apply Kd.R_drewN | apply Kd.R_drew)); exact HO358.out))) (below_size (by repeat (first | (with_reducible first | exact HB.out | apply below_alloc | apply pw_below_drewN | apply below_drew1) | exact HB.out)))); have n2_ := Aside0.mk (below_step (by repeat (first | (with_reducible first | exact HB.out | apply below_alloc | apply pw_below_drewN | apply below_drew1) | exact HB.out)) hb); clear HO358; clear HB; have HO358 := n0_; have HO366 := n1_; have HB := n2_; clear n0_ n1_ n2_; (try clear hb); (try clear hb2); (try clear hk); (try clear hi); (try clear ho0); obtain ⟨Ao34, co34, eo34⟩ := Kd.R_slice HO366.out; subst eo34) | (go_at_call 20; (with_reducible refine (scarfref05_Same.calls kj1 _ _ t354 _ _ t362 false _ ?side1 ?side2 ?side3 ?side4 A13.out).mono ?_); (case side1 => repeat (first | exact (Kd.R_reads' HO358.out).2.2 | (with_reducible refine Kd.C_alloc ?_ _) | (with_reducible refine Kd.C_drewN ?_ _) | (with_reducible refine Kd.C_drew ?_))); (case side2 => exact (Kd.R_reads' HO358.out).2.1); (case side3 => repeat (first | exact (Kd.R_reads' HO366.out).2.2 | (with_reducible refine Kd.C_alloc ?_ _) | (with_reducible refine Kd.C_drewN ?_ _) | (with_reducible refine Kd.C_drew ?_))); (case side4 => exact (Kd.R_reads' HO366.out).2.1); rintro e w35 ⟨rfl, hb⟩; have n0_ := Aside0.mk (Kd.R_below (by (with_reducible repeat (first | apply Kd.R_alloc | apply Kd.R_drewN | apply Kd.R_drew)); exact HO358.out) hb); have n1_ := Aside0.mk (Kd.R_below (by (with_reducible repeat (first | apply Kd.R_alloc | apply Kd.R_drewN | apply Kd.R_drew)); exact HO366.out) hb); have n2_ := Aside0.mk (below_step (by repeat (first | (with_reducible first | exact HB.out | apply below_alloc | apply pw_below_drewN | apply below_drew1) | exact HB.out)) hb); clear HO358; clear HO366; clear HB; have HO358 := n0_; have HO366 := n1_; have HB := n2_; clear n0_ n1_ n2_; (try clear hb); (try clear hb2); (try clear hk); (try clear hi)))
                go_ret
                exact ⟨by first | rfl | (simp [errW_none, errW_some] <;> rfl) | (simp [*, errW_none, errW_some] <;> rfl), by repeat (first | (with_reducible first | exact HB.out | apply below_alloc | apply pw_below_drewN | apply below_drew1) | exact HB.out)⟩
            · rw [if_neg c12] at H
              have c12b0 : (t363.toList == ([] : List UInt8)) = false := beq_eq_false_iff_ne.mpr c12
              have c12b1 : (t363.toList != ([] : List UInt8)) = true := bne_iff_ne.mpr c12
              obtain rfl := Option.some.inj H
              go_wp2_with (first | ((with_reducible refine gate_callee (f := 19) rfl ?_); refine goesL_ (some 18) rfl rfl Try.func19 (by kernel_rfl) rfl #[.string x0_1] rfl (by (try simp only [List.map_toArray, List.map_cons, List.map_nil]); first | done | rfl | (simp only [List.length_drop, List.length_take]; rfl)) ?_; (with_reducible refine (instr_Take.calls x0_1 t354 t355 t356 _ A6.out).mono ?_); rintro e w36 ⟨v357, rfl, ho0, hb⟩; refine ⟨_, rfl, ?_⟩; have n0_ := Aside0.mk (Kd.R_lower ho0 (below_size (by repeat (first | (with_reducible first | exact HB.out | apply below_alloc | apply pw_below_drewN | apply below_drew1) | exact HB.out)))); have n1_ := Aside0.mk (below_step (by repeat (first | (with_reducible first | exact HB.out | apply below_alloc | apply pw_below_drewN | apply below_drew1) | exact HB.out)) hb); clear HB; have HO358 := n0_; have HB := n1_; clear n0_ n1_; (try clear hb); (try clear hb2); (try clear hk); (try clear hi); (try clear ho0); obtain ⟨Ao37, co37, eo37⟩ := Kd.R_slice HO358.out; subst eo37) | ((with_reducible refine gate_callee (f := 15) rfl ?_); refine goesL_ (some 36) rfl rfl Try.func15 (by kernel_rfl) rfl #[.slice Ao37 t354.length co37] rfl (by (try simp only [List.map_toArray, List.map_cons, List.map_nil]); first | done | rfl | (simp only [List.length_drop, List.length_take]; rfl)) ?_; (with_reducible refine (instr_Put.calls _ _ t354 t360 t361 _ ?side1 ?side2 A8.out).mono ?_); (case side1 => repeat (first | exact (Kd.R_reads' HO358.out).2.2 | (with_reducible refine Kd.C_alloc ?_ _) | (with_reducible refine Kd.C_drewN ?_ _) | (with_reducible refine Kd.C_drew ?_))); (case side2 => exact (Kd.R_reads' HO358.out).2.1); rintro e w38 ⟨rfl, hb⟩; refine ⟨_, rfl, ?_⟩; have n0_ := Aside0.mk (Kd.R_below (by (with_reducible repeat (first | apply Kd.R_alloc | apply Kd.R_drewN | apply Kd.R_drew)); exact HO358.out) hb); have n1_ := Aside0.mk (below_step (by repeat (first | (with_reducible first | exact HB.out | apply below_alloc | apply pw_below_drewN | apply below_drew1) | exact HB.out)) hb); clear HO358; clear HB; have HO358 := n0_; have HB := n1_; clear n0_ n1_; (try clear hb); (try clear hb2); (try clear hk); (try clear hi)) | ((with_reducible refine gate_callee (f := 19) rfl ?_); refine goesL_ (some 41) rfl rfl Try.func19 (by kernel_rfl) rfl #[.string t360] rfl (by (try simp only [List.map_toArray, List.map_cons, List.map_nil]); first | done | rfl | (simp only [List.length_drop, List.length_take]; rfl)) ?_; (with_reducible refine (instr_Take.calls t360 t362 t363 t364 _ A9.out).mono ?_); rintro e w39 ⟨v365, rfl, ho0, hb⟩; refine ⟨_, rfl, ?_⟩; have n0_ := Aside0.mk (Kd.R_elder' (by (with_reducible repeat (first | apply Kd.R_alloc | apply Kd.R_drewN | apply Kd.R_drew)); exact HO358.out) (Kd.R_base ho0) hb); have n1_ := Aside0.mk (Kd.R_lower (Kd.R_new' ho0 (Kd.R_lt (by (with_reducible repeat (first | apply Kd.R_alloc | apply Kd.R_drewN | apply Kd.R_drew)); exact HO358.out))) (below_size (by repeat (first | (with_reducible first | exact HB.out | apply below_alloc | apply pw_below_drewN | apply below_drew1) | exact HB.out)))); have n2_ := Aside0.mk (below_step (by repeat (first | (with_reducible first | exact HB.out | apply below_alloc | apply pw_below_drewN | apply below_drew1) | exact HB.out)) hb); clear HO358; clear HB; have HO358 := n0_; have HO366 := n1_; have HB := n2_; clear n0_ n1_ n2_; (try clear hb); (try clear hb2); (try clear hk); (try clear hi); (try clear ho0)))
              go_ret
              exact ⟨by first | rfl | (simp [errW_none, errW_some] <;> rfl) | (simp [*, errW_none, errW_some] <;> rfl), by repeat (first | (with_reducible first | exact HB.out | apply below_alloc | apply pw_below_drewN | apply below_drew1) | exact HB.out)⟩
          · rw [if_neg c11] at H
            have c11b0 : (t364 == 0) = false := beq_eq_false_iff_ne.mpr c11
            have c11b1 : (t364 != 0) = true := bne_iff_ne.mpr c11
            obtain rfl := Option.some.inj H
            go_wp2_with (first | ((with_reducible refine gate_callee (f := 19) rfl ?_); refine goesL_ (some 18) rfl rfl Try.func19 (by kernel_rfl) rfl #[.string x0_1] rfl (by (try simp only [List.map_toArray, List.map_cons, List.map_nil]); first | done | rfl | (simp only [List.length_drop, List.length_take]; rfl)) ?_; (with_reducible refine (instr_Take.calls x0_1 t354 t355 t356 _ A6.out).mono ?_); rintro e w40 ⟨v357, rfl, ho0, hb⟩; refine ⟨_, rfl, ?_⟩; have n0_ := Aside0.mk (Kd.R_lower ho0 (below_size (by repeat (first | (with_reducible first | exact HB.out | apply below_alloc | apply pw_below_drewN | apply below_drew1) | exact HB.out)))); have n1_ := Aside0.mk (below_step (by repeat (first | (with_reducible first | exact HB.out | apply below_alloc | apply pw_below_drewN | apply below_drew1) | exact HB.out)) hb); clear HB; have HO358 := n0_; have HB := n1_; clear n0_ n1_; (try clear hb); (try clear hb2); (try clear hk); (try clear hi); (try clear ho0); obtain ⟨Ao41, co41, eo41⟩ := Kd.R_slice HO358.out; subst eo41) | ((with_reducible refine gate_callee (f := 15) rfl ?_); refine goesL_ (some 36) rfl rfl Try.func15 (by kernel_rfl) rfl #[.slice Ao41 t354.length co41] rfl (by (try simp only [List.map_toArray, List.map_cons, List.map_nil]); first | done | rfl | (simp only [List.length_drop, List.length_take]; rfl)) ?_; (with_reducible refine (instr_Put.calls _ _ t354 t360 t361 _ ?side1 ?side2 A8.out).mono ?_); (case side1 => repeat (first | exact (Kd.R_reads' HO358.out).2.2 | (with_reducible refine Kd.C_alloc ?_ _) | (with_reducible refine Kd.C_drewN ?_ _) | (with_reducible refine Kd.C_drew ?_))); (case side2 => exact (Kd.R_reads' HO358.out).2.1); rintro e w42 ⟨rfl, hb⟩; refine ⟨_, rfl, ?_⟩; have n0_ := Aside0.mk (Kd.R_below (by (with_reducible repeat (first | apply Kd.R_alloc | apply Kd.R_drewN | apply Kd.R_drew)); exact HO358.out) hb); have n1_ := Aside0.mk (below_step (by repeat (first | (with_reducible first | exact HB.out | apply below_alloc | apply pw_below_drewN | apply below_drew1) | exact HB.out)) hb); clear HO358; clear HB; have HO358 := n0_; have HB := n1_; clear n0_ n1_; (try clear hb); (try clear hb2); (try clear hk); (try clear hi)) | ((with_reducible refine gate_callee (f := 19) rfl ?_); refine goesL_ (some 41) rfl rfl Try.func19 (by kernel_rfl) rfl #[.string t360] rfl (by (try simp only [List.map_toArray, List.map_cons, List.map_nil]); first | done | rfl | (simp only [List.length_drop, List.length_take]; rfl)) ?_; (with_reducible refine (instr_Take.calls t360 t362 t363 t364 _ A9.out).mono ?_); rintro e w43 ⟨v365, rfl, ho0, hb⟩; refine ⟨_, rfl, ?_⟩; have n0_ := Aside0.mk (Kd.R_elder' (by (with_reducible repeat (first | apply Kd.R_alloc | apply Kd.R_drewN | apply Kd.R_drew)); exact HO358.out) (Kd.R_base ho0) hb); have n1_ := Aside0.mk (Kd.R_lower (Kd.R_new' ho0 (Kd.R_lt (by (with_reducible repeat (first | apply Kd.R_alloc | apply Kd.R_drewN | apply Kd.R_drew)); exact HO358.out))) (below_size (by repeat (first | (with_reducible first | exact HB.out | apply below_alloc | apply pw_below_drewN | apply below_drew1) | exact HB.out)))); have n2_ := Aside0.mk (below_step (by repeat (first | (with_reducible first | exact HB.out | apply below_alloc | apply pw_below_drewN | apply below_drew1) | exact HB.out)) hb); clear HO358; clear HB; have HO358 := n0_; have HO366 := n1_; have HB := n2_; clear n0_ n1_ n2_; (try clear hb); (try clear hb2); (try clear hk); (try clear hi); (try clear ho0)))
            go_ret
            exact ⟨by first | rfl | (simp [errW_none, errW_some] <;> rfl) | (simp [*, errW_none, errW_some] <;> rfl), by repeat (first | (with_reducible first | exact HB.out | apply below_alloc | apply pw_below_drewN | apply below_drew1) | exact HB.out)⟩
        · rw [if_neg c10] at H
          have c10b0 : (t361 == 0) = false := beq_eq_false_iff_ne.mpr c10
          have c10b1 : (t361 != 0) = true := bne_iff_ne.mpr c10
          obtain rfl := Option.some.inj H
          go_wp2_with (first | ((with_reducible refine gate_callee (f := 19) rfl ?_); refine goesL_ (some 18) rfl rfl Try.func19 (by kernel_rfl) rfl #[.string x0_1] rfl (by (try simp only [List.map_toArray, List.map_cons, List.map_nil]); first | done | rfl | (simp only [List.length_drop, List.length_take]; rfl)) ?_; (with_reducible refine (instr_Take.calls x0_1 t354 t355 t356 _ A6.out).mono ?_); rintro e w44 ⟨v357, rfl, ho0, hb⟩; refine ⟨_, rfl, ?_⟩; have n0_ := Aside0.mk (Kd.R_lower ho0 (below_size (by repeat (first | (with_reducible first | exact HB.out | apply below_alloc | apply pw_below_drewN | apply below_drew1) | exact HB.out)))); have n1_ := Aside0.mk (below_step (by repeat (first | (with_reducible first | exact HB.out | apply below_alloc | apply pw_below_drewN | apply below_drew1) | exact HB.out)) hb); clear HB; have HO358 := n0_; have HB := n1_; clear n0_ n1_; (try clear hb); (try clear hb2); (try clear hk); (try clear hi); (try clear ho0); obtain ⟨Ao45, co45, eo45⟩ := Kd.R_slice HO358.out; subst eo45) | ((with_reducible refine gate_callee (f := 15) rfl ?_); refine goesL_ (some 36) rfl rfl Try.func15 (by kernel_rfl) rfl #[.slice Ao45 t354.length co45] rfl (by (try simp only [List.map_toArray, List.map_cons, List.map_nil]); first | done | rfl | (simp only [List.length_drop, List.length_take]; rfl)) ?_; (with_reducible refine (instr_Put.calls _ _ t354 t360 t361 _ ?side1 ?side2 A8.out).mono ?_); (case side1 => repeat (first | exact (Kd.R_reads' HO358.out).2.2 | (with_reducible refine Kd.C_alloc ?_ _) | (with_reducible refine Kd.C_drewN ?_ _) | (with_reducible refine Kd.C_drew ?_))); (case side2 => exact (Kd.R_reads' HO358.out).2.1); rintro e w46 ⟨rfl, hb⟩; refine ⟨_, rfl, ?_⟩; have n0_ := Aside0.mk (Kd.R_below (by (with_reducible repeat (first | apply Kd.R_alloc | apply Kd.R_drewN | apply Kd.R_drew)); exact HO358.out) hb); have n1_ := Aside0.mk (below_step (by repeat (first | (with_reducible first | exact HB.out | apply below_alloc | apply pw_below_drewN | apply below_drew1) | exact HB.out)) hb); clear HO358; clear HB; have HO358 := n0_; have HB := n1_; clear n0_ n1_; (try clear hb); (try clear hb2); (try clear hk); (try clear hi)) | ((with_reducible refine gate_callee (f := 19) rfl ?_); refine goesL_ (some 41) rfl rfl Try.func19 (by kernel_rfl) rfl #[.string t360] rfl (by (try simp only [List.map_toArray, List.map_cons, List.map_nil]); first | done | rfl | (simp only [List.length_drop, List.length_take]; rfl)) ?_; (with_reducible refine (instr_Take.calls t360 t362 t363 t364 _ A9.out).mono ?_); rintro e w47 ⟨v365, rfl, ho0, hb⟩; refine ⟨_, rfl, ?_⟩; have n0_ := Aside0.mk (Kd.R_elder' (by (with_reducible repeat (first | apply Kd.R_alloc | apply Kd.R_drewN | apply Kd.R_drew)); exact HO358.out) (Kd.R_base ho0) hb); have n1_ := Aside0.mk (Kd.R_lower (Kd.R_new' ho0 (Kd.R_lt (by (with_reducible repeat (first | apply Kd.R_alloc | apply Kd.R_drewN | apply Kd.R_drew)); exact HO358.out))) (below_size (by repeat (first | (with_reducible first | exact HB.out | apply below_alloc | apply pw_below_drewN | apply below_drew1) | exact HB.out)))); have n2_ := Aside0.mk (below_step (by repeat (first | (with_reducible first | exact HB.out | apply below_alloc | apply pw_below_drewN | apply below_drew1) | exact HB.out)) hb); clear HO358; clear HB; have HO358 := n0_; have HO366 := n1_; have HB := n2_; clear n0_ n1_ n2_; (try clear hb); (try clear hb2); (try clear hk); (try clear hi); (try clear ho0)))
          go_ret
          exact ⟨by first | rfl | (simp [errW_none, errW_some] <;> rfl) | (simp [*, errW_none, errW_some] <;> rfl), by repeat (first | (with_reducible first | exact HB.out | apply below_alloc | apply pw_below_drewN | apply below_drew1) | exact HB.out)⟩
      · rw [if_neg c7] at H
        have c7b0 : (t356 == 0) = false := beq_eq_false_iff_ne.mpr c7
        have c7b1 : (t356 != 0) = true := bne_iff_ne.mpr c7
        by_cases c48 : (t354.length : Int) = 0
        · rw [if_pos c48] at H
          have c48b0 : ((t354.length : Int) == 0) = true := beq_iff_eq.mpr c48
          have c48b1 : ((t354.length : Int) != 0) = false := bne_eq_false_iff_eq.mpr c48
          clear c48
          by_cases c49 : t355.toList = ([] : List UInt8)
          · rw [if_pos c49] at H
            have c49b0 : (t355.toList == ([] : List UInt8)) = true := beq_iff_eq.mpr c49
            have c49b1 : (t355.toList != ([] : List UInt8)) = false := bne_eq_false_iff_eq.mpr c49
            clear c49
            replace H := Option.bind_eq_some_iff.mp H
            obtain ⟨t359, A500, H⟩ := H
            replace H : (some t359) = some r := H
            have A50 := Aside0.mk A500
            clear A500
            obtain rfl := Option.some.inj H
            go_wp2_with (first | ((with_reducible refine gate_callee (f := 19) rfl ?_); refine goesL_ (some 18) rfl rfl Try.func19 (by kernel_rfl) rfl #[.string x0_1] rfl (by (try simp only [List.map_toArray, List.map_cons, List.map_nil]); first | done | rfl | (simp only [List.length_drop, List.length_take]; rfl)) ?_; (with_reducible refine (instr_Take.calls x0_1 t354 t355 t356 _ A6.out).mono ?_); rintro e w51 ⟨v357, rfl, ho0, hb⟩; refine ⟨_, rfl, ?_⟩; have n0_ := Aside0.mk (Kd.R_lower ho0 (below_size (by repeat (first | (with_reducible first | exact HB.out | apply below_alloc | apply pw_below_drewN | apply below_drew1) | exact HB.out)))); have n1_ := Aside0.mk (below_step (by repeat (first | (with_reducible first | exact HB.out | apply below_alloc | apply pw_below_drewN | apply below_drew1) | exact HB.out)) hb); clear HB; have HO358 := n0_; have HB := n1_; clear n0_ n1_; (try clear hb); (try clear hb2); (try clear hk); (try clear hi); (try clear ho0); obtain ⟨Ao52, co52, eo52⟩ := Kd.R_slice HO358.out; subst eo52) | (go_at_call 14; (with_reducible refine (scarflaw05_awake.calls kj1  t359 _ A50.out).mono ?_); rintro e w53 ⟨rfl, hb⟩; have n0_ := Aside0.mk (Kd.R_below (by (with_reducible repeat (first | apply Kd.R_alloc | apply Kd.R_drewN | apply Kd.R_drew)); exact HO358.out) hb); have n1_ := Aside0.mk (below_step (by repeat (first | (with_reducible first | exact HB.out | apply below_alloc | apply pw_below_drewN | apply below_drew1) | exact HB.out)) hb); clear HO358; clear HB; have HO358 := n0_; have HB := n1_; clear n0_ n1_; (try clear hb); (try clear hb2); (try clear hk); (try clear hi)))
            go_ret
            exact ⟨by first | rfl | (simp [errW_none, errW_some] <;> rfl) | (simp [*, errW_none, errW_some] <;> rfl), by repeat (first | (with_reducible first | exact HB.out | apply below_alloc | apply pw_below_drewN | apply below_drew1) | exact HB.out)⟩
          · rw [if_neg c49] at H
            have c49b0 : (t355.toList == ([] : List UInt8)) = false := beq_eq_false_iff_ne.mpr c49
            have c49b1 : (t355.toList != ([] : List UInt8)) = true := bne_iff_ne.mpr c49
            obtain rfl := Option.some.inj H
            go_wp2_with (first | ((with_reducible refine gate_callee (f := 19) rfl ?_); refine goesL_ (some 18) rfl rfl Try.func19 (by kernel_rfl) rfl #[.string x0_1] rfl (by (try simp only [List.map_toArray, List.map_cons, List.map_nil]); first | done | rfl | (simp only [List.length_drop, List.length_take]; rfl)) ?_; (with_reducible refine (instr_Take.calls x0_1 t354 t355 t356 _ A6.out).mono ?_); rintro e w54 ⟨v357, rfl, ho0, hb⟩; refine ⟨_, rfl, ?_⟩; have n0_ := Aside0.mk (Kd.R_lower ho0 (below_size (by repeat (first | (with_reducible first | exact HB.out | apply below_alloc | apply pw_below_drewN | apply below_drew1) | exact HB.out)))); have n1_ := Aside0.mk (below_step (by repeat (first | (with_reducible first | exact HB.out | apply below_alloc | apply pw_below_drewN | apply below_drew1) | exact HB.out)) hb); clear HB; have HO358 := n0_; have HB := n1_; clear n0_ n1_; (try clear hb); (try clear hb2); (try clear hk); (try clear hi); (try clear ho0); obtain ⟨Ao55, co55, eo55⟩ := Kd.R_slice HO358.out; subst eo55))
            go_ret
            exact ⟨by first | rfl | (simp [errW_none, errW_some] <;> rfl) | (simp [*, errW_none, errW_some] <;> rfl), by repeat (first | (with_reducible first | exact HB.out | apply below_alloc | apply pw_below_drewN | apply below_drew1) | exact HB.out)⟩
        · rw [if_neg c48] at H
          have c48b0 : ((t354.length : Int) == 0) = false := beq_eq_false_iff_ne.mpr c48
          have c48b1 : ((t354.length : Int) != 0) = true := bne_iff_ne.mpr c48
          have c48b2 : ¬ (t354 = []) := fun h_ => c48 (by rw [h_]; rfl)
          obtain rfl := Option.some.inj H
          go_wp2_with (first | ((with_reducible refine gate_callee (f := 19) rfl ?_); refine goesL_ (some 18) rfl rfl Try.func19 (by kernel_rfl) rfl #[.string x0_1] rfl (by (try simp only [List.map_toArray, List.map_cons, List.map_nil]); first | done | rfl | (simp only [List.length_drop, List.length_take]; rfl)) ?_; (with_reducible refine (instr_Take.calls x0_1 t354 t355 t356 _ A6.out).mono ?_); rintro e w56 ⟨v357, rfl, ho0, hb⟩; refine ⟨_, rfl, ?_⟩; have n0_ := Aside0.mk (Kd.R_lower ho0 (below_size (by repeat (first | (with_reducible first | exact HB.out | apply below_alloc | apply pw_below_drewN | apply below_drew1) | exact HB.out)))); have n1_ := Aside0.mk (below_step (by repeat (first | (with_reducible first | exact HB.out | apply below_alloc | apply pw_below_drewN | apply below_drew1) | exact HB.out)) hb); clear HB; have HO358 := n0_; have HB := n1_; clear n0_ n1_; (try clear hb); (try clear hb2); (try clear hk); (try clear hi); (try clear ho0); obtain ⟨Ao57, co57, eo57⟩ := Kd.R_slice HO358.out; subst eo57))
          go_ret
          exact ⟨by first | rfl | (simp [errW_none, errW_some] <;> rfl) | (simp [*, errW_none, errW_some] <;> rfl), by repeat (first | (with_reducible first | exact HB.out | apply below_alloc | apply pw_below_drewN | apply below_drew1) | exact HB.out)⟩
/-- THE ONE PURE STATEMENT of scarflaw05_InstrOnly: yours. -/
def scarflaw05_InstrOnly.Pure : Prop := ∀ (a0 : ByteArray), a0.size ≤ 140737488351232 → ∃ k, scarflaw05_InstrOnly.f k a0 = some true
theorem scarflaw05_InstrOnly.walk (P : scarflaw05_InstrOnly.Pure) (a0 : ByteArray) (w : World) (w0 : a0.size ≤ 140737488351232) :
    Calls Try.prog 6 #[.string a0] w fun e w' => e = .returned (.bool true) ∧ Below w.heap.size w w' := by
  obtain ⟨k, h⟩ := P a0 w0
  refine (scarflaw05_InstrOnly.calls k a0 true w h).mono ?_
  rintro e w' ⟨rfl, hd⟩
  exact ⟨rfl, hd⟩
open Go.Proofs.Ytckhlbpjehbnlaa.Str Go.Proofs.Ytckhlbpjehbnlaa.LebS Go.Proofs.Ytckhlbpjehbnlaa.LebF
theorem nSame_l0 (l : List Int) (hn : l.length ≤ 4611686018427387904) : ∀ (m i k : Nat), i + m = l.length → m + 1 ≤ k → scarfref01_Same.l0 k l l (i : Int) = some true := by
  intro m
  induction m with
  | zero =>
    intro i k hi hk
    obtain ⟨k, rfl⟩ : ∃ m, k = m + 1 := ⟨k - 1, by omega⟩
    rw [scarfref01_Same.l0, if_neg (by omega)]
  | succ m ih =>
    intro i k hi hk
    obtain ⟨k, rfl⟩ : ∃ m, k = m + 1 := ⟨k - 1, by omega⟩
    have hi1 : wrap64 ((i : Int) + 1) = ((i + 1 : Nat) : Int) := by rw [wrap64_id (by omega) (by omega)]; omega
    rw [scarfref01_Same.l0, if_pos (by omega), if_pos (by omega), if_pos (by omega), if_pos rfl, hi1, ih (i + 1) k (by omega) (by omega)]
theorem nSame_eq (l : List Int) (hn : l.length ≤ 4611686018427387904) (k : Nat) (hk : l.length + 1 ≤ k) : scarfref01_Same.f k l l = some true := by
  unfold scarfref01_Same.f
  rw [if_pos rfl]
  have := nSame_l0 l hn l.length 0 k (by omega) (by omega)
  rwa [show ((0 : Nat) : Int) = 0 from rfl] at this
theorem same_up {a b : List S54} {k k' : Nat} {r : Bool} (h : scarfref05_Same.f k a b = some r) (hk : k ≤ k') : scarfref05_Same.f k' a b = some r := at_rounds (scarfref05_Same.mono a b) hk h
theorem same_l0_up {a b : List S54} {i : Int} {k k' : Nat} {r : Bool} (h : scarfref05_Same.l0 k a b i = some r) (hk : k ≤ k') : scarfref05_Same.l0 k' a b i = some r := at_rounds (fun k => (scarfref05_Same.mono_l k).2 a b i) hk h
theorem same_l0 (l : List S54) (hlen : l.length ≤ 17592186044416) : ∀ (ys : List S54) (i : Nat), l.drop i = ys → (∀ x ∈ ys, x.f4.length ≤ 17592186044416 ∧ (∃ k, scarfref05_Same.f k x.f5 x.f5 = some true) ∧ ∃ k, scarfref05_Same.f k x.f6 x.f6 = some true) → ∃ k, scarfref05_Same.l0 k l l (i : Int) = some true := by
  intro ys
  induction ys with
  | nil =>
    intro i hdrop _
    have hge : l.length ≤ i := List.drop_eq_nil_iff.mp hdrop
    exact ⟨1, by rw [scarfref05_Same.l0, if_neg (by omega)]⟩
  | cons x ys ih =>
    intro i hdrop hx
    obtain ⟨hrd, hi, hdrop1⟩ := rd_at hdrop
    obtain ⟨h4, ⟨k5, h5⟩, k6, h6⟩ := hx x (by simp)
    obtain ⟨kr, hr⟩ := ih (i + 1) hdrop1 (fun y hy => hx y (by simp [hy]))
    refine ⟨(x.f4.length + 1 + k5 + k6 + kr) + 1, ?_⟩
    rw [scarfref05_Same.l0, if_pos (by omega), if_pos (by omega), if_pos (by omega), hrd, if_pos rfl, if_pos rfl, if_pos rfl, if_pos rfl, nSame_eq x.f4 (by omega) _ (by omega)]
    simp only [Option.bind_some, if_true]
    rw [same_up h5 (by omega)]
    simp only [Option.bind_some, if_true]
    rw [same_up h6 (by omega)]
    simp only [Option.bind_some, if_true]
    rw [succ3 i (by omega)]
    exact same_l0_up hr (by omega)
theorem mayN {x : S54} {s : Int} {t : Int × Int} (hk : ShOk x.f0 s) (hm : mayS s x.f0 x.f1 x.f2 x.f3 x.f4 x.f5 x.f6 t = true) : x.f4.length ≤ 1000 := by
  rcases s_cases hk with rfl | rfl | rfl | rfl | rfl | rfl | rfl | rfl | rfl | rfl | rfl <;> simp [mayS] at hm
  · rw [hm.2.2.2.1]; simp
  · rw [hm.2.2.2]; simp
  · rw [hm.2.2.2.1]; simp
  · exact hm.1.1.2
  · rw [hm.2.2.1]; simp
  · rw [hm.2.2.2.1]; simp
  · rw [hm.2.1]; simp
  · rw [hm.2.2.2.1]; simp
  · rw [hm.2.2.1]; simp
  · rw [hm.2.2.2.1]; simp
  · rw [hm.2.2.2.1]; simp
theorem same_eq : ∀ (d : Nat) (l : List S54), okD d l → cntD d l ≤ 8192 → ∃ k, scarfref05_Same.f k l l = some true := by
  intro d
  induction d with
  | zero =>
    intro l hl _
    rw [show l = [] from hl]
    exact ⟨2, rfl⟩
  | succ d ih =>
    intro l hl hc
    have hlen := cntD_len d l
    have hsub : ∀ x ∈ l, cntD d x.f5 + cntD d x.f6 ≤ cntD (d + 1) l := by
      clear hc hlen hl
      induction l with
      | nil => intro x hx; cases hx
      | cons y l ihl =>
        intro x hx
        rw [cnt_le]
        rcases List.mem_cons.mp hx with rfl | hx
        · omega
        · have := ihl x hx; omega
    obtain ⟨k, hk⟩ := same_l0 l (by omega) l 0 (by simp) (fun x hx => by
      obtain ⟨⟨s, t, hs, ht, hm, _, _⟩, hL, hE, _⟩ := hl x hx
      have h1 := hsub x hx
      have h4 := mayN (shp_ok hs) hm
      exact ⟨by omega, ih _ hL (by omega), ih _ hE (by omega)⟩)
    refine ⟨k + 1, ?_⟩
    rw [scarfref05_Same.f, if_pos rfl]
    exact hk
theorem Fits.same {l : List S54} (h : Fits l) : ∃ k, scarfref05_Same.f k l l = some true := same_eq 33 l h.1 h.2
theorem rU_st {l : List Int} (hl : Rng l) (hs : Sm l) (n e : Int) : ∃ v r e', rU (strOfNums l, n, e) = some (v, strOfNums r, n, e') ∧ Rng r ∧ r.length ≤ l.length ∧ (e' = 0 → e = 0 ∧ inx v = true ∧ (pu v.toNat).length + r.length ≤ l.length) := by
  by_cases he : e = 0
  · subst he
    cases ht : takeU l with
    | none => exact ⟨0, [], 2, by rw [rU_none hl hs ht, str_nil], Rng.nil, by simp, fun h => absurd h (by decide)⟩
    | some p =>
      obtain ⟨v, r⟩ := p
      obtain ⟨h0, h1, h2, h3, d, hd⟩ := takeU_len ht
      exact ⟨v, r, 0, rU_some hl hs ht, by rw [hd]; exact hl.drop d, by omega, fun _ => ⟨rfl, inx_iff.mpr ⟨h0, h1⟩, by omega⟩⟩
  · exact ⟨0, l, e, rU_err he, hl, Nat.le_refl _, fun h => absurd h he⟩
theorem takeS_drop {l : List Int} {b v : Int} {r : List Int} (h : takeS l b = some (v, r)) : ∃ n, r = l.drop n := by
  unfold takeS at h
  simp only at h
  split at h
  · cases h
  · split at h
    · cases h
    · split at h
      · simp only [Option.some.injEq, Prod.mk.injEq] at h
        exact ⟨_, h.2.symm⟩
      · cases h
theorem takeS_any {l : List Int} {b v : Int} {r : List Int} (hb : b = 32 ∨ b = 33 ∨ b = 64) (h : takeS l b = some (v, r)) : fitsS b v ∧ (ps v).length + r.length ≤ l.length ∧ -9223372036854775808 ≤ v ∧ v < 9223372036854775808 := by
  have h64 : takeS l 64 = some (v, r) := by
    rcases hb with rfl | rfl | rfl
    · exact takeS_up (.inr ⟨rfl, rfl⟩) (takeS_up (.inl ⟨rfl, rfl⟩) h)
    · exact takeS_up (.inr ⟨rfl, rfl⟩) h
    · exact h
  have h1 := takeS_len h64
  have h2 := takeS_range h64
  obtain ⟨n, hn⟩ := takeS_drop h
  have h3 : r.length ≤ l.length := by rw [hn, List.length_drop]; omega
  have h4 := ps_pos v
  exact ⟨takeS_wf h, by omega, h2⟩
theorem rS_st {l : List Int} (hl : Rng l) (hs : Sm l) (n e : Int) {b : Int} (hb : b = 32 ∨ b = 33 ∨ b = 64) : ∃ v r e', rSigned (strOfNums l, n, e) b = some (v, strOfNums r, n, e') ∧ Rng r ∧ r.length ≤ l.length ∧ (e' = 0 → e = 0 ∧ fitsS b v ∧ (ps v).length + r.length ≤ l.length ∧ -9223372036854775808 ≤ v ∧ v < 9223372036854775808) := by
  by_cases he : e = 0
  · subst he
    cases ht : takeS l b with
    | none => exact ⟨0, [], 2, by rw [rS_none hb hl hs ht, str_nil], Rng.nil, by simp, fun h => absurd h (by decide)⟩
    | some p =>
      obtain ⟨v, r⟩ := p
      obtain ⟨d, hd⟩ := takeS_drop ht
      have h := takeS_any hb ht
      exact ⟨v, r, 0, rS_some hb hl hs ht, by rw [hd]; exact hl.drop d, by omega, fun _ => ⟨rfl, h⟩⟩
  · exact ⟨0, l, e, rS_err he, hl, Nat.le_refl _, fun h => absurd h he⟩
theorem rByte_st {l : List Int} (hl : Rng l) (n e : Int) : ∃ v r e', rByte (strOfNums l, n, e) = some (v, strOfNums r, n, e') ∧ Rng r ∧ r.length ≤ l.length ∧ (e' = 0 → e = 0 ∧ l = v :: r) := by
  by_cases he : e = 0
  · subst he
    cases l with
    | nil => exact ⟨0, [], 2, by rw [str_nil, rByte_nil], Rng.nil, by simp, fun h => absurd h (by decide)⟩
    | cons c l => exact ⟨c, l, 0, rByte_cons hl, fun x hx => hl x (by simp [hx]), by simp, fun _ => ⟨rfl, rfl⟩⟩
  · exact ⟨0, l, e, rByte_err he, hl, Nat.le_refl _, fun h => absurd h he⟩
theorem rFail_st {s : ByteArray} {n e c : Int} : rFail (s, n, e) c = some (s, n, if e = 0 then c else e) := by
  by_cases he : e = 0
  · subst he; rw [if_pos rfl]; exact rFail_0
  · rw [if_neg he]; exact rFail_e he
theorem rBlock_st {l : List Int} (hl : Rng l) (hs : Sm l) (n e : Int) : ∃ v r e', rBlock (strOfNums l, n, e) = some (v, strOfNums r, n, e') ∧ Rng r ∧ r.length ≤ l.length ∧ (e' = 0 → e = 0 ∧ bty v = true ∧ (ps v).length + r.length ≤ l.length) := by
  by_cases he : e = 0
  · subst he
    by_cases hc : NoC l
    · cases ht : takeS l 33 with
      | none => exact ⟨0, [], 2, by rw [rBlock_none hc hl hs ht, str_nil], Rng.nil, by simp, fun h => absurd h (by decide)⟩
      | some p =>
        obtain ⟨v, r⟩ := p
        obtain ⟨d, hd⟩ := takeS_drop ht
        have h := takeS_any (.inr (.inl rfl)) ht
        refine ⟨v, r, _, rBlock_some hc hl hs ht, by rw [hd]; exact hl.drop d, by omega, fun h0 => ⟨rfl, bty_iff.mpr (.inl ?_), h.2.1⟩⟩
        have hv : ¬ v < 0 := fun hv => by rw [if_pos hv] at h0; cases h0
        have hf := h.1
        unfold fitsS at hf
        omega
    · have : ∃ c r, l = c :: r ∧ 64 ≤ c ∧ c < 128 := by
        cases l with
        | nil => exact absurd (fun c r h => by cases h) hc
        | cons c r =>
          by_cases h : 64 ≤ c ∧ c < 128
          · exact ⟨c, r, rfl, h⟩
          · exact absurd (fun c' r' h' => by
              obtain ⟨rfl, rfl⟩ := List.cons.inj h'
              exact h) hc
      obtain ⟨c, r, rfl, h0, h1⟩ := this
      obtain ⟨t, e', ht, hk⟩ := ty_at c
      refine ⟨c - 128, r, _, rBlock_c hl h0 h1 ht, fun x hx => hl x (by simp [hx]), by simp, fun h0 => ⟨rfl, ?_, ?_⟩⟩
      · refine bty_iff.mpr (.inr ?_)
        by_cases h64 : c = 64
        · omega
        · rw [if_neg h64] at h0
          rcases hk with ⟨_, _, hk⟩ | ⟨_, hk, _⟩
          · omega
          · exact absurd h0 hk
      · rw [ps_small (by omega)]
        simp only [List.length_cons, List.length_nil]; omega
  · exact ⟨0, l, e, rBlock_err he, hl, Nat.le_refl _, fun h => absurd h he⟩
theorem takeN_rev : ∀ (m : Nat) (l a b : List Int), Rng l → takeN m l = some (a, b) → a.length = m ∧ (∀ x ∈ a, inx x = true) ∧ (puA a).length + b.length ≤ l.length ∧ Rng b := by
  intro m
  induction m with
  | zero =>
    intro l a b hl h
    simp only [takeN, Option.some.injEq, Prod.mk.injEq] at h
    obtain ⟨rfl, rfl⟩ := h
    exact ⟨rfl, (fun x hx => by cases hx), by simp [puA], hl⟩
  | succ m ih =>
    intro l a b hl h
    simp only [takeN] at h
    cases ht : takeU l with
    | none => rw [ht] at h; cases h
    | some p =>
      obtain ⟨v, r⟩ := p
      rw [ht] at h
      simp only at h
      obtain ⟨h0, h1, h2, h3, d, hd⟩ := takeU_len ht
      cases hn : takeN m r with
      | none => rw [hn] at h; cases h
      | some q =>
        obtain ⟨a', b'⟩ := q
        rw [hn] at h
        simp only [Option.some.injEq, Prod.mk.injEq] at h
        obtain ⟨rfl, rfl⟩ := h
        obtain ⟨g1, g2, g3, g4⟩ := ih r a' b' (by rw [hd]; exact hl.drop d) hn
        refine ⟨by simp [g1], fun x hx => ?_, ?_, g4⟩
        · rcases List.mem_cons.mp hx with rfl | hx
          · exact inx_iff.mpr ⟨h0, h1⟩
          · exact g2 x hx
        · have e : puZ v = pu v.toNat := by unfold puZ; rw [if_neg (by omega)]
          simp only [puA, e, List.length_append]
          omega
theorem rLab_st {l : List Int} (hl : Rng l) (hs : Sm l) (n e : Int) : ∃ N r e', rLabels (strOfNums l, n, e) = some (N, strOfNums r, n, e') ∧ Rng r ∧ r.length ≤ l.length ∧ (e' = 0 → e = 0 ∧ N.length ≤ 1000 ∧ (∀ x ∈ N, inx x = true) ∧ (pu N.length).length + (puA N).length + r.length ≤ l.length) := by
  by_cases he : e = 0
  · subst he
    rw [rLab hl hs]
    unfold takeA
    cases ht : takeU l with
    | none => exact ⟨[], [], 2, by simp only; rw [str_nil], Rng.nil, by simp, fun h => absurd h (by decide)⟩
    | some p =>
      obtain ⟨v, r⟩ := p
      obtain ⟨h0, h1, h2, h3, d, hd⟩ := takeU_len ht
      simp only
      by_cases hv : v > 1000
      · exact ⟨[], [], 14, by rw [if_pos hv, str_nil], Rng.nil, by simp, fun h => absurd h (by decide)⟩
      · rw [if_neg hv]
        cases hn : takeN v.toNat r with
        | none => exact ⟨[], [], 2, by simp only; rw [str_nil], Rng.nil, by simp, fun h => absurd h (by decide)⟩
        | some q =>
          obtain ⟨a, b⟩ := q
          obtain ⟨g1, g2, g3, g4⟩ := takeN_rev _ r a b (by rw [hd]; exact hl.drop d) hn
          exact ⟨a, b, 0, rfl, g4, by omega, fun _ => ⟨trivial, by omega, g2, by rw [g1]; omega⟩⟩
  · exact ⟨[], l, e, rLab_err he, hl, Nat.le_refl _, fun h => absurd h he⟩
theorem Sm.le {a b : List Int} (hb : Sm b) (h : a.length ≤ b.length) : Sm a := Nat.le_trans h hb
set_option maxHeartbeats 2000000 in
/-- An instruction's numbers, of any bytes. -/
theorem num_any {l : List Int} (hl : Rng l) (hs : Sm l) (op n : Int) : ∃ a b m N r e, numF (strOfNums l, n, 0) op = some (a, b, m, N, strOfNums r, n, e) ∧ Rng r ∧ r.length ≤ l.length ∧
    (e = 0 → ∃ s, instr_Shape.f 40 op = some (s, 0) ∧ -9223372036854775808 ≤ a ∧ a < 9223372036854775808 ∧ (∀ L E : List S54, (s ≠ 2 → L = [] ∧ E = []) → (op = 4 ∨ E = []) → ∃ t, instr_Type.f 5 a = some t ∧ mayS s op a b m N L E t = true) ∧ (body s ⟨op, a, b, m, N, [], []⟩).length + r.length ≤ l.length) := by
  obtain ⟨s, e0, hsh, hk⟩ := shp_any op
  have tya : ∀ a : Int, ∃ t, instr_Type.f 5 a = some t := fun a => by
    obtain ⟨t, e, h, _⟩ := ty_at a
    exact ⟨_, h⟩
  unfold numF
  rw [hsh]
  simp only [Option.bind_some, rFail_0]
  rcases hk with ⟨rfl, hk⟩ | ⟨rfl, hk, _⟩
  · rcases s_cases hk with rfl | rfl | rfl | rfl | rfl | rfl | rfl | rfl | rfl | rfl | rfl
    · simp only [Int.reduceEq, if_true, if_false]
      refine ⟨_, _, _, _, l, 0, rfl, hl, Nat.le_refl _, fun _ => ⟨1, rfl, by omega, by omega, fun L E h1 h2 => ?_, by simp [body]⟩⟩
      obtain ⟨t, ht⟩ := tya 0
      obtain ⟨rfl, rfl⟩ := h1 (by decide)
      exact ⟨t, ht, by simp [mayS]⟩
    · simp only [Int.reduceEq, if_true, if_false]
      obtain ⟨v, r, e, h, hr, hrl, hz⟩ := rBlock_st hl hs n 0
      rw [h]
      refine ⟨v, 0, 0, [], r, e, rfl, hr, hrl, fun h0 => ?_⟩
      obtain ⟨_, hb, hlen⟩ := hz h0
      have hbi := bty_iff.mp hb
      refine ⟨2, rfl, by omega, by omega, fun L E h1 h2 => ?_, by simpa [body] using hlen⟩
      obtain ⟨t, ht⟩ := tya v
      exact ⟨t, ht, by simp [mayS, hb, h2]⟩
    · simp only [Int.reduceEq, if_true, if_false]
      obtain ⟨v, r, e, h, hr, hrl, hz⟩ := rU_st hl hs n 0
      rw [h]
      refine ⟨v, 0, 0, [], r, e, rfl, hr, hrl, fun h0 => ?_⟩
      obtain ⟨_, hb, hlen⟩ := hz h0
      have hbi := inx_iff.mp hb
      refine ⟨3, rfl, by omega, by omega, fun L E h1 h2 => ?_, by simpa [body] using hlen⟩
      obtain ⟨t, ht⟩ := tya v
      obtain ⟨rfl, rfl⟩ := h1 (by decide)
      exact ⟨t, ht, by simp [mayS, hb]⟩
    · simp only [Int.reduceEq, if_true, if_false]
      obtain ⟨N, r1, e1, g1, hr1, hl1, hz1⟩ := rLab_st hl hs n 0
      rw [g1]
      simp only [Option.bind_some]
      obtain ⟨v, r, e, h, hr, hrl, hz⟩ := rU_st hr1 (hs.le hl1) n e1
      rw [h]
      refine ⟨v, 0, 0, N, r, e, rfl, hr, by omega, fun h0 => ?_⟩
      obtain ⟨h1, hb, hlen⟩ := hz h0
      obtain ⟨_, hn, hN, hlen1⟩ := hz1 h1
      have hbi := inx_iff.mp hb
      refine ⟨4, rfl, by omega, by omega, fun L E h1 h2 => ?_, by simp only [body, Int.reduceEq, if_true, if_false, List.length_append]; omega⟩
      obtain ⟨t, ht⟩ := tya v
      obtain ⟨rfl, rfl⟩ := h1 (by decide)
      exact ⟨t, ht, by simp [mayS, hb, hn]; exact hN⟩
    · simp only [Int.reduceEq, if_true, if_false]
      obtain ⟨v1, r1, e1, g1, hr1, hl1, hz1⟩ := rU_st hl hs n 0
      rw [g1]
      simp only [Option.bind_some]
      obtain ⟨v, r, e, h, hr, hrl, hz⟩ := rU_st hr1 (hs.le hl1) n e1
      rw [h]
      refine ⟨v1, 0, v, [], r, e, rfl, hr, by omega, fun h0 => ?_⟩
      obtain ⟨h1, hb, hlen⟩ := hz h0
      obtain ⟨_, hb1, hlen1⟩ := hz1 h1
      have hbi := inx_iff.mp hb1
      refine ⟨5, rfl, by omega, by omega, fun L E h1 h2 => ?_, by simp only [body, Int.reduceEq, if_true, if_false, List.length_append]; omega⟩
      obtain ⟨t, ht⟩ := tya v1
      obtain ⟨rfl, rfl⟩ := h1 (by decide)
      exact ⟨t, ht, by simp [mayS, hb, hb1]⟩
    · simp only [Int.reduceEq, if_true, if_false]
      obtain ⟨v1, r1, e1, g1, hr1, hl1, hz1⟩ := rU_st hl hs n 0
      rw [g1]
      simp only [Option.bind_some]
      have hf : ∃ e2, (if v1 = 1 then some (strOfNums r1, n, e1) else rFail (strOfNums r1, n, e1) 2) = some (strOfNums r1, n, e2) ∧ (e2 = 0 → e1 = 0 ∧ v1 = 1) := by
        by_cases h1 : v1 = 1
        · rw [if_pos h1]; exact ⟨e1, rfl, fun h => ⟨h, h1⟩⟩
        · rw [if_neg h1, rFail_st]
          refine ⟨_, rfl, fun h => ?_⟩
          split at h
          · cases h
          · rename_i h2; exact absurd h h2
      obtain ⟨e2, g2, hz2⟩ := hf
      rw [g2]
      simp only [Option.bind_some]
      obtain ⟨c, r, e3, g3, hr, hrl, hz3⟩ := rByte_st hr1 n e2
      rw [g3]
      simp only [Option.bind_some]
      obtain ⟨t, et, ht, hkt⟩ := ty_at c
      rw [ht]
      simp only [Option.bind_some]
      rw [rFail_st]
      refine ⟨t, 0, 0, [], r, _, rfl, hr, by omega, fun h0 => ?_⟩
      have he3 : e3 = 0 ∧ et = 0 := by
        split at h0
        · rename_i h; exact ⟨h, h0⟩
        · rename_i h; exact absurd h0 h
      obtain ⟨h2, rfl⟩ := hz3 he3.1
      obtain ⟨h1, hv⟩ := hz2 h2
      obtain ⟨_, _, hlen1⟩ := hz1 h1
      rcases hkt with ⟨_, rfl, hc⟩ | ⟨_, hc, _⟩
      · have hp := pu_pos v1.toNat
        refine ⟨6, rfl, by omega, by omega, fun L E h1 h2 => ?_, by simp only [body, Int.reduceEq, if_true, if_false, List.length_cons, List.length_nil]; simp only [List.length_cons] at hlen1; omega⟩
        obtain ⟨rfl, rfl⟩ := h1 (by decide)
        exact ⟨_, ty_self hc, by simp [mayS]⟩
      · exact absurd he3.2 hc
    · simp only [Int.reduceEq, if_true, if_false]
      unfold placeF
      obtain ⟨v1, r1, e1, g1, hr1, hl1, hz1⟩ := rU_st hl hs n 0
      rw [g1]
      simp only [Option.bind_some]
      have hf : ∃ e2, (if v1 ≥ 128 then rFail (strOfNums r1, n, e1) 2 else some (strOfNums r1, n, e1)) = some (strOfNums r1, n, e2) ∧ (e2 = 0 → e1 = 0 ∧ v1 < 128) := by
        by_cases h1 : v1 ≥ 128
        · rw [if_pos h1, rFail_st]
          refine ⟨_, rfl, fun h => ?_⟩
          split at h
          · cases h
          · rename_i h2; exact absurd h h2
        · rw [if_neg h1]; exact ⟨e1, rfl, fun h => ⟨h, by omega⟩⟩
      obtain ⟨e2, g2, hz2⟩ := hf
      rw [g2]
      simp only [Option.bind_some]
      by_cases h64 : v1 ≥ 64
      · rw [if_pos h64]
        obtain ⟨v2, r2, e3, g3, hr2, hl2, hz3⟩ := rU_st hr1 (hs.le hl1) n e2
        rw [g3]
        simp only [Option.bind_some]
        obtain ⟨v3, r, e4, g4, hr, hrl, hz4⟩ := rU_st hr2 ((hs.le hl1).le hl2) n e3
        rw [g4]
        refine ⟨v3, wrap64 (v1 - 64), v2, [], r, e4, rfl, hr, by omega, fun h0 => ?_⟩
        obtain ⟨h3, hb3, hlen3⟩ := hz4 h0
        obtain ⟨h2, hb2, hlen2⟩ := hz3 h3
        obtain ⟨h1, hv⟩ := hz2 h2
        obtain ⟨_, hb1, hlen1⟩ := hz1 h1
        have hbi := inx_iff.mp hb3
        have hbi2 := inx_iff.mp hb2
        rw [wrap64_id (by omega) (by omega)]
        refine ⟨7, rfl, by omega, by omega, fun L E h1 h2 => ?_, ?_⟩
        · obtain ⟨t, ht⟩ := tya v3
          obtain ⟨rfl, rfl⟩ := h1 (by decide)
          exact ⟨t, ht, by simp [mayS, hb3, hb2]; omega⟩
        · simp only [body, Int.reduceEq, if_true, if_false]
          split
          · simp only [List.length_append, show v1 - 64 + 64 = v1 by omega]; omega
          · have hp : (pu (v1 - 64).toNat).length = 1 := by rw [pu_small (by omega)]; rfl
            have hp1 := pu_pos v1.toNat
            have hp2 := pu_pos v2.toNat
            simp only [List.length_append, hp]; omega
      · rw [if_neg h64]
        obtain ⟨v3, r, e4, g4, hr, hrl, hz4⟩ := rU_st hr1 (hs.le hl1) n e2
        rw [g4]
        refine ⟨v3, v1, 0, [], r, e4, rfl, hr, by omega, fun h0 => ?_⟩
        obtain ⟨h2, hb3, hlen3⟩ := hz4 h0
        obtain ⟨h1, hv⟩ := hz2 h2
        obtain ⟨_, hb1, hlen1⟩ := hz1 h1
        have hbi := inx_iff.mp hb3
        have hbi1 := inx_iff.mp hb1
        refine ⟨7, rfl, by omega, by omega, fun L E h1 h2 => ?_, by simp only [body, Int.reduceEq, if_true, if_false, Int.lt_irrefl, gt_iff_lt, List.length_append]; omega⟩
        obtain ⟨t, ht⟩ := tya v3
        obtain ⟨rfl, rfl⟩ := h1 (by decide)
        exact ⟨t, ht, by simp [mayS, hb3, inx]; omega⟩
    · simp only [Int.reduceEq, if_true, if_false]
      obtain ⟨v, r, e, h, hr, hrl, hz⟩ := rU_st hl hs n 0
      rw [h]
      refine ⟨0, 0, v, [], r, e, rfl, hr, hrl, fun h0 => ?_⟩
      obtain ⟨_, hb, hlen⟩ := hz h0
      refine ⟨8, rfl, by omega, by omega, fun L E h1 h2 => ?_, by simpa [body] using hlen⟩
      obtain ⟨t, ht⟩ := tya 0
      obtain ⟨rfl, rfl⟩ := h1 (by decide)
      exact ⟨t, ht, by simp [mayS, hb]⟩
    · simp only [Int.reduceEq, if_true, if_false]
      obtain ⟨v1, r1, e1, g1, hr1, hl1, hz1⟩ := rU_st hl hs n 0
      rw [g1]
      simp only [Option.bind_some]
      obtain ⟨v, r, e, h, hr, hrl, hz⟩ := rU_st hr1 (hs.le hl1) n e1
      rw [h]
      refine ⟨v, 0, v1, [], r, e, rfl, hr, by omega, fun h0 => ?_⟩
      obtain ⟨h1, hb, hlen⟩ := hz h0
      obtain ⟨_, hb1, hlen1⟩ := hz1 h1
      have hbi := inx_iff.mp hb
      refine ⟨9, rfl, by omega, by omega, fun L E h1 h2 => ?_, by simp only [body, Int.reduceEq, if_true, if_false, List.length_append]; omega⟩
      obtain ⟨t, ht⟩ := tya v
      obtain ⟨rfl, rfl⟩ := h1 (by decide)
      exact ⟨t, ht, by simp [mayS, hb, hb1]⟩
    · simp only [Int.reduceEq, if_true, if_false]
      have h10 := hk.ten rfl
      rw [const_bits h10]
      obtain ⟨v, r, e, h, hr, hrl, hz⟩ := rS_st hl hs n 0 (b := if op = 66 then 64 else 32) (by split <;> omega)
      rw [h]
      refine ⟨v, 0, 0, [], r, e, rfl, hr, hrl, fun h0 => ?_⟩
      obtain ⟨_, hb, hlen, hv0, hv1⟩ := hz h0
      refine ⟨10, rfl, hv0, hv1, fun L E h1 h2 => ?_, by simpa [body] using hlen⟩
      obtain ⟨t, ht⟩ := tya v
      obtain ⟨rfl, rfl⟩ := h1 (by decide)
      refine ⟨t, ht, ?_⟩
      unfold fitsS at hb
      by_cases h66 : op = 66
      · simp [mayS, h66]
      · rw [if_neg h66] at hb
        simp [mayS, h66]
        omega
    · simp only [Int.reduceEq, if_true, if_false]
      obtain ⟨c, r, e3, g3, hr, hrl, hz3⟩ := rByte_st hl n 0
      rw [g3]
      simp only [Option.bind_some]
      obtain ⟨t, et, ht, hkt⟩ := ty_at c
      rw [ht]
      simp only [Option.bind_some]
      rw [rFail_st]
      simp only [Option.bind_some]
      have hf : ∃ e4, (if t = 112 then some (strOfNums r, n, if e3 = 0 then et else e3) else rFail (strOfNums r, n, if e3 = 0 then et else e3) 2) = some (strOfNums r, n, e4) ∧ (e4 = 0 → e3 = 0) := by
        by_cases h1 : t = 112
        · rw [if_pos h1]
          refine ⟨_, rfl, fun h => ?_⟩
          split at h
          · rename_i h2; exact h2
          · exact h
        · rw [if_neg h1, rFail_st]
          refine ⟨_, rfl, fun h => ?_⟩
          by_cases h3 : e3 = 0
          · exact h3
          · rw [if_neg h3, if_neg h3] at h
            exact absurd h h3
      obtain ⟨e4, g4, hz4⟩ := hf
      rw [g4]
      refine ⟨0, 0, 0, [], r, e4, rfl, hr, hrl, fun h0 => ?_⟩
      obtain ⟨_, rfl⟩ := hz3 (hz4 h0)
      refine ⟨11, rfl, by omega, by omega, fun L E h1 h2 => ?_, by simp only [body, Int.reduceEq, if_true, if_false, List.length_cons, List.length_nil]; omega⟩
      obtain ⟨t, ht⟩ := tya 0
      obtain ⟨rfl, rfl⟩ := h1 (by decide)
      exact ⟨t, ht, by simp [mayS]⟩
  · simp only [Int.reduceEq, if_false]
    exact ⟨_, _, _, _, l, e0, rfl, hl, Nat.le_refl _, fun h => by omega⟩
theorem okD_nil (k : Nat) : okD k ([] : List S54) := by
  cases k with
  | zero => rfl
  | succ k => intro x hx; cases hx
theorem encD_nil (k : Nat) : encD k ([] : List S54) = [] := by cases k <;> rfl
theorem cntD_nil (k : Nat) : cntD k ([] : List S54) = 0 := by cases k <;> rfl
/-- What list answers, of any bytes. -/
def AnyR (f : Nat) (l : List Int) (n deep : Int) (acc : List S54) (k : Nat) : Prop :=
  ∃ out ec r n' e, listL f (strOfNums l, n, 0) deep acc = some (out, ec, strOfNums r, n', e) ∧ Rng r ∧ r.length ≤ l.length ∧
    ((e = 0 ∧ (ec = 11 ∨ ec = 5) ∧ n' ≤ 8192 ∧ ∃ new, out = acc ++ new ∧ okD k new ∧ n' = n + cntD k new ∧ (encD k new).length + 1 + r.length ≤ l.length) ∨ (e ≠ 0 ∧ out = [] ∧ ec = 11))
theorem any_fault {f : Nat} {l r : List Int} {n deep e : Int} {acc : List S54} {k : Nat} (h : ∃ n', listL f (strOfNums l, n, 0) deep acc = some ([], 11, strOfNums r, n', e)) (hr : Rng r) (hl : r.length ≤ l.length) (he : e ≠ 0) : AnyR f l n deep acc k := by
  obtain ⟨n', h⟩ := h
  exact ⟨_, _, r, n', e, h, hr, hl, .inr ⟨he, rfl, rfl⟩⟩
set_option maxHeartbeats 2000000 in
theorem list_any : ∀ (f : Nat) (l : List Int) (n deep : Int) (acc : List S54) (k : Nat), Rng l → l.length ≤ 500000 → l.length + 2 ≤ f → 0 ≤ n → n ≤ 8192 → 0 ≤ deep → deep + (k + 1 : Nat) = 33 → acc.length + l.length ≤ 500000 → AnyR f l n deep acc (k + 1) := by
  intro f
  induction f with
  | zero => intro l n deep acc k _ _ hf; omega
  | succ f ih =>
    intro l n deep acc k hl hlen hf hn hn2 hd hdk ha
    obtain ⟨f, rfl⟩ : ∃ q, f = q + 1 := ⟨f - 1, by omega⟩
    have hsm : Sm l := by show l.length ≤ _; omega
    cases l with
    | nil =>
      refine any_fault (r := []) ?_ Rng.nil (Nat.le_refl _) (show (2 : Int) ≠ 0 by decide)
      rw [str_nil, listL_nil (by omega)]
      exact ⟨_, rfl⟩
    | cons c l =>
      simp only [List.length_cons] at hlen hf ha
      by_cases hc : c = 11 ∨ c = 5
      · refine ⟨_, _, l, n, 0, listL_end hl hc, fun x hx => hl x (by simp [hx]), by simp, .inl ⟨rfl, hc, hn2, [], by simp, okD_nil _, by rw [cntD_nil]; simp, by rw [encD_nil]; simp only [List.length_cons, List.length_nil]; omega⟩⟩
      · have hrl : Rng l := fun x hx => hl x (by simp [hx])
        have hsl : Sm l := by show l.length ≤ _; omega
        have g1 := rByte_cons (n := n) hl
        have hc0 := hl c (by simp)
        -- the opcode
        have hop : ∃ op r1 e1, opF (c, strOfNums l, n, 0) = some (op, strOfNums r1, n, e1) ∧ Rng r1 ∧ r1.length ≤ l.length ∧ (e1 = 0 → ∀ s, ShOk op s → (opb op).length + r1.length ≤ l.length + 1) := by
          unfold opF
          by_cases h252 : c = 252
          · rw [if_pos h252]
            obtain ⟨v, r1, e1, h, hr1, hl1, hz⟩ := rU_st hrl hsl n 0
            simp only
            rw [h]
            refine ⟨_, r1, e1, rfl, hr1, hl1, fun h0 s hs => ?_⟩
            obtain ⟨_, hb, hle⟩ := hz h0
            have := inx_iff.mp hb
            rw [wrap64_id (by omega) (by omega)]
            unfold opb
            rw [if_pos (by omega), show 64512 + v - 64512 = v by omega]
            simp only [List.length_cons]; omega
          · rw [if_neg h252]
            refine ⟨c, l, 0, rfl, hrl, Nat.le_refl _, fun _ s hs => ?_⟩
            unfold opb
            rw [if_neg (by omega)]
            simp only [List.length_cons, List.length_nil]; omega
        obtain ⟨op, r1, e1, g2, hr1, hl1, hz1⟩ := hop
        by_cases he1 : e1 = 0
        · subst he1
          obtain ⟨a, b, m, N, r2, e2, g3, hr2, hl2, hz2⟩ := num_any hr1 (hsl.le hl1) op n
          by_cases he2 : e2 = 0
          · subst he2
            obtain ⟨s, hsh, ha0, ha1, hmay, hbody⟩ := hz2 rfl
            have hk := shp_ok hsh
            have hopb := hz1 rfl s hk
            have hn1 : wrap64 (n + 1) = n + 1 := wrap64_id (by omega) (by omega)
            by_cases hfull : n + 1 > 8192 ∨ (blk op = true ∧ deep = 32)
            · have g4 : fullF op deep (strOfNums r2, n, 0) = some (strOfNums r2, n + 1, 14) := by
                unfold fullF
                simp only
                rw [hn1, if_pos ⟨trivial, hfull⟩]
                exact rFail_0
              have g5 : inF (f + 1) op deep (strOfNums r2, n + 1, 14) = some ([], [], strOfNums r2, n + 1, 14) := by
                unfold inF
                rw [if_neg (fun h => by cases h.1)]
              refine any_fault (r := r2) ?_ hr2 (by simp only [List.length_cons]; omega) (show (14 : Int) ≠ 0 by decide)
              rw [listL_step g1 hc g2 g3 g4 g5 (show acc.length ≤ 1000000 by omega)]
              exact ⟨_, listL_err (by decide)⟩
            · have g4 : fullF op deep (strOfNums r2, n, 0) = some (strOfNums r2, n + 1, 0) := by
                unfold fullF
                simp only
                rw [hn1, if_neg (fun h => hfull h.2)]
              have hn8 : n + 1 ≤ 8192 := by omega
              -- behind the instruction
              have key : ∀ (L E : List S54) (r3 : List Int) (n3 : Int), inF (f + 1) op deep (strOfNums r2, n + 1, 0) = some (L, E, strOfNums r3, n3, 0) → Rng r3 → r3.length ≤ r2.length → n3 ≤ 8192 → n3 = n + 1 + cntD k L + cntD k E → okD k L → okD k E → (s ≠ 2 → L = [] ∧ E = []) → (op = 4 ∨ E = []) → (k = 0 → blk op = false) →
                  (if s = 2 then inner (encD k) ⟨op, a, b, m, N, L, E⟩ else []).length + r3.length ≤ r2.length → AnyR (f + 2) (c :: l) n deep acc (k + 1) := by
                intro L E r3 n3 g5 hr3 hl3 hn3 hn3e hokL hokE hs2 hop4 hk0 hin
                obtain ⟨t, htt, hmm⟩ := hmay L E hs2 hop4
                have hx : okx ⟨op, a, b, m, N, L, E⟩ := ⟨s, t, hsh, htt, hmm, ha0, ha1⟩
                have ebody : body s ⟨op, a, b, m, N, L, E⟩ = body s ⟨op, a, b, m, N, [], []⟩ := rfl
                obtain ⟨out, ec, r, n', e, h, hr, hrl', hz⟩ := ih r3 n3 deep (acc ++ [⟨op, a, b, m, N, L, E⟩]) k hr3 (by omega) (by omega) (by omega) hn3 hd hdk (by simp only [List.length_append, List.length_singleton]; omega)
                have hacc : acc.length ≤ 1000000 := by omega
                have hstep := listL_step g1 hc g2 g3 g4 g5 hacc
                refine ⟨out, ec, r, n', e, by rw [hstep]; exact h, hr, by simp only [List.length_cons]; omega, ?_⟩
                rcases hz with ⟨h0, hec, hn', new, hout, hok, hcnt, henc⟩ | hz
                · refine .inl ⟨h0, hec, hn', ⟨op, a, b, m, N, L, E⟩ :: new, by rw [hout]; simp, ?_, ?_, ?_⟩
                  · intro y hy
                    rcases List.mem_cons.mp hy with rfl | hy
                    · exact ⟨hx, hokL, hokE, hk0⟩
                    · exact hok y hy
                  · rw [cnt_le]
                    show n' = n + ((1 + cntD k L + cntD k E + cntD (k + 1) new : Nat) : Int)
                    omega
                  · have e1 : encD (k + 1) (⟨op, a, b, m, N, L, E⟩ :: new) = encX (encD k) ⟨op, a, b, m, N, L, E⟩ ++ encD (k + 1) new := rfl
                    rw [e1, encX_eq (x := ⟨op, a, b, m, N, L, E⟩) hsh, ebody]
                    simp only [List.length_append, List.length_cons]
                    omega
                · exact .inr hz
              have flt : ∀ (L E : List S54) (r3 : List Int) (n3 e3 : Int), inF (f + 1) op deep (strOfNums r2, n + 1, 0) = some (L, E, strOfNums r3, n3, e3) → e3 ≠ 0 → Rng r3 → r3.length ≤ r2.length → AnyR (f + 2) (c :: l) n deep acc (k + 1) := by
                intro L E r3 n3 e3 g5 he3 hr3 hl3
                refine any_fault (r := r3) ?_ hr3 (by simp only [List.length_cons]; omega) he3
                rw [listL_step g1 hc g2 g3 g4 g5 (show acc.length ≤ 1000000 by omega)]
                exact ⟨_, listL_err he3⟩
              by_cases hb : blk op = true
              · have hs2 : s = 2 := hk.two.mpr (blk_iff.mp hb)
                have hd32 : deep ≠ 32 := fun h => hfull (.inr ⟨hb, h⟩)
                obtain ⟨k, rfl⟩ : ∃ q, k = q + 1 := ⟨k - 1, by omega⟩
                have hdw : wrap64 (deep + 1) = deep + 1 := wrap64_id (by omega) (by omega)
                obtain ⟨L, ec, r3, n3, e3, hL, hr3, hl3, hz3⟩ := ih r2 (n + 1) (deep + 1) [] k hr2 (by omega) (by omega) (by omega) hn8 (by omega) (by omega) (by simp; omega)
                have inf0 : inF (f + 1) op deep (strOfNums r2, n + 1, 0) = (if ec = 5 then (if op = 4 then some (strOfNums r3, n3, e3) else rFail (strOfNums r3, n3, e3) 2).bind fun t7 => (listL (f + 1) t7 (deep + 1) []).bind fun E => (if E.2.1 = 5 then rFail E.2.2 2 else some E.2.2).bind fun t9 => some (L, E.1, t9) else some (L, [], strOfNums r3, n3, e3)) := by
                  unfold inF
                  rw [if_pos ⟨rfl, hb⟩, hdw, hL]
                  rfl
                rcases hz3 with ⟨rfl, hec, hn3, new, hout, hokL, hcL, heL⟩ | ⟨he3, hLo, hec⟩
                · rw [List.nil_append] at hout
                  subst hout
                  rcases hec with rfl | rfl
                  · -- an end
                    refine key L [] r3 n3 (by rw [inf0, if_neg (by decide)]) hr3 hl3 hn3 (by rw [cntD_nil, hcL]; simp) hokL (okD_nil _) (fun h => absurd hs2 h) (.inr rfl) (fun h => by omega) ?_
                    rw [if_pos hs2]
                    unfold inner
                    simp only [List.length_append, List.length_nil, if_true, List.length_cons]
                    omega
                  · -- an else
                    rw [if_pos rfl] at inf0
                    by_cases h4 : op = 4
                    · rw [if_pos h4] at inf0
                      simp only [Option.bind_some] at inf0
                      obtain ⟨E, ec4, r4, n4, e4, hE, hr4, hl4, hz4⟩ := ih r3 n3 (deep + 1) [] k hr3 (by omega) (by omega) (by omega) hn3 (by omega) (by omega) (by simp; omega)
                      rw [hE] at inf0
                      simp only [Option.bind_some] at inf0
                      rcases hz4 with ⟨rfl, hec4, hn4, newE, houtE, hokE, hcE, heE⟩ | ⟨he4, hEo, hec4⟩
                      · rw [List.nil_append] at houtE
                        subst houtE
                        rcases hec4 with rfl | rfl
                        · rw [if_neg (by decide)] at inf0
                          simp only [Option.bind_some] at inf0
                          refine key L E r4 n4 inf0 hr4 (by omega) hn4 (by rw [hcE, hcL]) hokL hokE (fun h => absurd hs2 h) (.inl h4) (fun h => by omega) ?_
                          rw [if_pos hs2]
                          unfold inner
                          simp only [List.length_append, List.length_nil, List.length_cons]
                          split
                          · simp only [List.length_nil]; omega
                          · simp only [List.length_cons]; omega
                        · rw [if_pos rfl, rFail_0] at inf0
                          simp only [Option.bind_some] at inf0
                          exact flt L E r4 n4 2 inf0 (by decide) hr4 (by omega)
                      · rw [if_neg (by omega)] at inf0
                        simp only [Option.bind_some] at inf0
                        exact flt L E r4 n4 e4 inf0 he4 hr4 (by omega)
                    · rw [if_neg h4, rFail_0] at inf0
                      simp only [Option.bind_some] at inf0
                      rw [listL_err (by decide)] at inf0
                      simp only [Option.bind_some, Int.reduceEq, if_false] at inf0
                      exact flt L [] r3 n3 2 inf0 (by decide) hr3 (by omega)
                · rw [if_neg (by omega)] at inf0
                  exact flt L [] r3 n3 e3 inf0 he3 hr3 hl3
              · have hb' : blk op = false := by simpa using hb
                have hs2 : s ≠ 2 := fun h => hb (blk_iff.mpr (hk.two.mp h))
                have inf0 : inF (f + 1) op deep (strOfNums r2, n + 1, 0) = some ([], [], strOfNums r2, n + 1, 0) := by
                  unfold inF
                  rw [if_neg (fun h => hb h.2)]
                exact key [] [] r2 (n + 1) inf0 hr2 (Nat.le_refl _) hn8 (by rw [cntD_nil]; simp) (okD_nil _) (okD_nil _) (fun _ => ⟨rfl, rfl⟩) (.inr rfl) (fun _ => hb') (by rw [if_neg hs2]; simp)
          · refine any_fault (r := r2) ?_ hr2 (by simp only [List.length_cons]; omega) he2
            exact ⟨_, listL_fault g1 hc g2 g3 he2 (show acc.length ≤ 1000000 by omega)⟩
        · obtain ⟨a, b, m, N, g3⟩ := num_err (s := strOfNums r1) (n := n) he1 op
          refine any_fault (r := r1) ?_ hr1 (by simp only [List.length_cons]; omega) he1
          exact ⟨_, listL_fault g1 hc g2 g3 he1 (show acc.length ≤ 1000000 by omega)⟩
end Go.Proofs.Ytckhlbpjehbnlaa.PB
