-- Laid by this session's wip/hp/hp.py: the kit's print with own contracts for what it does not take
import Derived.Test.YtmoeibghjejneaaPAx0
import Derived.Test.YtmoeibghjejneaaPAx1
import Derived.Test.YtmoeibghjejneaaPAx2
namespace Go.Proofs.Ytmoeibghjejneaa.PA
open Go.RowKit Go.Proofs.YtmoeibghjejneaaW.PrintWords Go.Proofs.YtmoeibghjejneaaW.PrintLast Go.Proofs.YtmoeibghjejneaaW.PrintMore
attribute [local go_sem] max2_int min2_int max_two min_two max_three min_three max_four min_four   -- for this text's walks alone
set_option linter.unusedVariables false
set_option linter.unusedSimpArgs false

/-! ### scarflaw01_LebBits: function 4 -/
def scarflaw01_LebBits.j0 : Nat → Int → Int → Int → ByteArray → Int → Int → ByteArray → Int → Bool → Option (Bool)
  | 0, _, _, _, _, _, _, _, _, _ => none
  | k + 1, x3, x5, x6, x7, x8, x9, x10, x11, x45 => if x45 = true then (some false) else (if x8 = 0 then (if x11 = 0 then (if x6 = x9 then (if x7.toList = x10.toList then (if x5 = 0 then (if x3 ≥ (-2147483648) then (if x3 < 2147483648 then (if x6 ≥ (-4294967296) then (if x6 < 4294967296 then ((scarflaw01_awake.f k).bind fun t150 => (some t150)) else (some false)) else (some false)) else (some false)) else (some false)) else (if x6 ≥ (-4294967296) then (if x6 < 4294967296 then ((scarflaw01_awake.f k).bind fun t151 => (some t151)) else (some false)) else (some false))) else (some false)) else (some false)) else (some false)) else (if x5 = 0 then (if x3 ≥ (-2147483648) then (if x3 < 2147483648 then ((scarflaw01_awake.f k).bind fun t152 => (some t152)) else (some false)) else (some false)) else ((scarflaw01_awake.f k).bind fun t153 => (some t153))))
def scarflaw01_LebBits.f (k : Nat) (a0 : ByteArray) : Option (Bool) := (leb_TakeS.f k a0 32).bind fun bt141 => ((leb_TakeS.f k a0 33).bind fun bt144 => ((leb_TakeS.f k a0 64).bind fun bt147 => (if bt141.2.2 = 0 then (if bt144.2.2 = 0 then (if bt141.1 = bt144.1 then (scarflaw01_LebBits.j0 k bt141.1 bt141.2.2 bt144.1 bt144.2.1 bt144.2.2 bt147.1 bt147.2.1 bt147.2.2 (bt141.2.1.toList != bt144.2.1.toList)) else (scarflaw01_LebBits.j0 k bt141.1 bt141.2.2 bt144.1 bt144.2.1 bt144.2.2 bt147.1 bt147.2.1 bt147.2.2 true)) else (scarflaw01_LebBits.j0 k bt141.1 bt141.2.2 bt144.1 bt144.2.1 bt144.2.2 bt147.1 bt147.2.1 bt147.2.2 true)) else (scarflaw01_LebBits.j0 k bt141.1 bt141.2.2 bt144.1 bt144.2.1 bt144.2.2 bt147.1 bt147.2.1 bt147.2.2 false))))
theorem scarflaw01_LebBits.mono_l : ∀ k, (∀ y0 y1 y2 y3 y4 y5 y6 y7 y8, LeO (scarflaw01_LebBits.j0 k y0 y1 y2 y3 y4 y5 y6 y7 y8) (scarflaw01_LebBits.j0 (k + 1) y0 y1 y2 y3 y4 y5 y6 y7 y8))
  | 0 => fun _ _ _ _ _ _ _ _ _ r h => by simp [scarflaw01_LebBits.j0] at h
  | k + 1 => by
    have ih0 := scarflaw01_LebBits.mono_l k
    · intro y0 y1 y2 y3 y4 y5 y6 y7 y8
      unfold scarflaw01_LebBits.j0
      repeat' first
      | (with_reducible exact ih0 _ _ _ _ _ _ _ _ _)
      | (with_reducible exact leb_TakeS.mono _ _ _)
      | (with_reducible exact scarflaw01_awake.mono _)
      | (with_reducible exact LeO.refl _)
      | (with_reducible exact LeO.none _)
      | (with_reducible refine LeO.ite ?_ ?_)
      | (with_reducible refine LeO.bind ?_ (fun _ => ?_))
      | exact ih0 _ _ _ _ _ _ _ _ _
      | exact leb_TakeS.mono _ _ _
      | exact scarflaw01_awake.mono _
      | exact LeO.none _
      | refine LeO.ite ?_ ?_
      | refine LeO.bind ?_ (fun _ => ?_)
theorem scarflaw01_LebBits.mono : ∀ a0 k, LeO (scarflaw01_LebBits.f k a0) (scarflaw01_LebBits.f (k + 1) a0) := by
  intro a0 k
  have ih0 := scarflaw01_LebBits.mono_l k
  unfold scarflaw01_LebBits.f
  repeat' first
      | (with_reducible exact ih0 _ _ _ _ _ _ _ _ _)
      | (with_reducible exact leb_TakeS.mono _ _ _)
      | (with_reducible exact scarflaw01_awake.mono _)
      | (with_reducible exact LeO.refl _)
      | (with_reducible exact LeO.none _)
      | (with_reducible refine LeO.ite ?_ ?_)
      | (with_reducible refine LeO.bind ?_ (fun _ => ?_))
      | exact ih0 _ _ _ _ _ _ _ _ _
      | exact leb_TakeS.mono _ _ _
      | exact scarflaw01_awake.mono _
      | exact LeO.none _
      | refine LeO.ite ?_ ?_
      | refine LeO.bind ?_ (fun _ => ?_)
set_option maxHeartbeats 8000000 in
set_option maxRecDepth 100000 in
theorem scarflaw01_LebBits.calls (k : Nat) (a0 : ByteArray) (r : Bool) (w : World) (h : scarflaw01_LebBits.f k a0 = some r) :
    Calls Try.prog 4 #[.string a0] w fun e w' => e = .returned (.bool r) ∧ Below w.heap.size w w' := by
  have HB := Aside0.mk (Below.refl w.heap.size w)
  have H : ((leb_TakeS.f k a0 32).bind fun bt141 => ((leb_TakeS.f k a0 33).bind fun bt144 => ((leb_TakeS.f k a0 64).bind fun bt147 => (if bt141.2.2 = 0 then (if bt144.2.2 = 0 then (if bt141.1 = bt144.1 then (scarflaw01_LebBits.j0 k bt141.1 bt141.2.2 bt144.1 bt144.2.1 bt144.2.2 bt147.1 bt147.2.1 bt147.2.2 (bt141.2.1.toList != bt144.2.1.toList)) else (scarflaw01_LebBits.j0 k bt141.1 bt141.2.2 bt144.1 bt144.2.1 bt144.2.2 bt147.1 bt147.2.1 bt147.2.2 true)) else (scarflaw01_LebBits.j0 k bt141.1 bt141.2.2 bt144.1 bt144.2.1 bt144.2.2 bt147.1 bt147.2.1 bt147.2.2 true)) else (scarflaw01_LebBits.j0 k bt141.1 bt141.2.2 bt144.1 bt144.2.1 bt144.2.2 bt147.1 bt147.2.1 bt147.2.2 false))))) = some r := h
  clear h
  replace H := Option.bind_eq_some_iff.mp H
  obtain ⟨⟨t141, t142, t143⟩, A20, H⟩ := H
  replace H : ((leb_TakeS.f k a0 33).bind fun bt144 => ((leb_TakeS.f k a0 64).bind fun bt147 => (if t143 = 0 then (if bt144.2.2 = 0 then (if t141 = bt144.1 then (scarflaw01_LebBits.j0 k t141 t143 bt144.1 bt144.2.1 bt144.2.2 bt147.1 bt147.2.1 bt147.2.2 (t142.toList != bt144.2.1.toList)) else (scarflaw01_LebBits.j0 k t141 t143 bt144.1 bt144.2.1 bt144.2.2 bt147.1 bt147.2.1 bt147.2.2 true)) else (scarflaw01_LebBits.j0 k t141 t143 bt144.1 bt144.2.1 bt144.2.2 bt147.1 bt147.2.1 bt147.2.2 true)) else (scarflaw01_LebBits.j0 k t141 t143 bt144.1 bt144.2.1 bt144.2.2 bt147.1 bt147.2.1 bt147.2.2 false)))) = some r := H
  have A2 := Aside0.mk A20
  clear A20
  replace H := Option.bind_eq_some_iff.mp H
  obtain ⟨⟨t144, t145, t146⟩, A30, H⟩ := H
  replace H : ((leb_TakeS.f k a0 64).bind fun bt147 => (if t143 = 0 then (if t146 = 0 then (if t141 = t144 then (scarflaw01_LebBits.j0 k t141 t143 t144 t145 t146 bt147.1 bt147.2.1 bt147.2.2 (t142.toList != t145.toList)) else (scarflaw01_LebBits.j0 k t141 t143 t144 t145 t146 bt147.1 bt147.2.1 bt147.2.2 true)) else (scarflaw01_LebBits.j0 k t141 t143 t144 t145 t146 bt147.1 bt147.2.1 bt147.2.2 true)) else (scarflaw01_LebBits.j0 k t141 t143 t144 t145 t146 bt147.1 bt147.2.1 bt147.2.2 false))) = some r := H
  have A3 := Aside0.mk A30
  clear A30
  replace H := Option.bind_eq_some_iff.mp H
  obtain ⟨⟨t147, t148, t149⟩, A40, H⟩ := H
  replace H : (if t143 = 0 then (if t146 = 0 then (if t141 = t144 then (scarflaw01_LebBits.j0 k t141 t143 t144 t145 t146 t147 t148 t149 (t142.toList != t145.toList)) else (scarflaw01_LebBits.j0 k t141 t143 t144 t145 t146 t147 t148 t149 true)) else (scarflaw01_LebBits.j0 k t141 t143 t144 t145 t146 t147 t148 t149 true)) else (scarflaw01_LebBits.j0 k t141 t143 t144 t145 t146 t147 t148 t149 false)) = some r := H
  have A4 := Aside0.mk A40
  clear A40
  have HC5 := Aside0.mk H
  clear H
  go_enter Try.func4, Try.ntmps4
  go_upto_region 4 with (first | ((with_reducible refine gate_callee (f := 15) rfl ?_); refine goesL_ (some 14) rfl rfl Try.func15 (by kernel_rfl) rfl #[.string a0, .int .i64 32] rfl (by (try simp only [List.map_toArray, List.map_cons, List.map_nil]); first | done | rfl | (simp only [List.length_drop, List.length_take]; rfl)) ?_; (with_reducible refine (leb_TakeS.calls k a0 32 t141 t142 t143 _ A2.out).mono ?_); rintro e w' ⟨rfl, ⟨nd, rfl⟩⟩; refine ⟨_, rfl, ?_⟩) | ((with_reducible refine gate_callee (f := 15) rfl ?_); refine goesL_ (some 20) rfl rfl Try.func15 (by kernel_rfl) rfl #[.string a0, .int .i64 33] rfl (by (try simp only [List.map_toArray, List.map_cons, List.map_nil]); first | done | rfl | (simp only [List.length_drop, List.length_take]; rfl)) ?_; (with_reducible refine (leb_TakeS.calls k a0 33 t144 t145 t146 _ A3.out).mono ?_); rintro e w' ⟨rfl, ⟨nd, rfl⟩⟩; refine ⟨_, rfl, ?_⟩) | ((with_reducible refine gate_callee (f := 15) rfl ?_); refine goesL_ (some 26) rfl rfl Try.func15 (by kernel_rfl) rfl #[.string a0, .int .i64 64] rfl (by (try simp only [List.map_toArray, List.map_cons, List.map_nil]); first | done | rfl | (simp only [List.length_drop, List.length_take]; rfl)) ?_; (with_reducible refine (leb_TakeS.calls k a0 64 t147 t148 t149 _ A4.out).mono ?_); rintro e w' ⟨rfl, ⟨nd, rfl⟩⟩; refine ⟨_, rfl, ?_⟩))
  (try simp only [Act.put, List.setIfInBounds_toArray, List.set_cons_zero, List.set_cons_succ])
  go_cut [45] (fun v45 wc => ∃ (kq : Nat) (x45_4 : Bool), v45 = .bool x45_4 ∧ Aside0 (scarflaw01_LebBits.j0 kq t141 t143 t144 t145 t146 t147 t148 t149 x45_4 = some r) ∧ Aside0 (kq ≤ k) ∧ Aside0 (Below w.heap.size w wc))
  case first =>
    have H := HC5.out
    clear HC5
    by_cases c6 : t143 = 0
    · rw [if_pos c6] at H
      have c6b0 : (t143 == 0) = true := beq_iff_eq.mpr c6
      have c6b1 : (t143 != 0) = false := bne_eq_false_iff_eq.mpr c6
      clear c6
      (first | rw [c6b0] | (simp only [i64_w, i32_w]; rw [c6b0]) | skip)
      by_cases c7 : t146 = 0
      · rw [if_pos c7] at H
        have c7b0 : (t146 == 0) = true := beq_iff_eq.mpr c7
        have c7b1 : (t146 != 0) = false := bne_eq_false_iff_eq.mpr c7
        clear c7
        by_cases c8 : t141 = t144
        · rw [if_pos c8] at H
          have c8b0 : (t141 == t144) = true := beq_iff_eq.mpr c8
          have c8b1 : (t141 != t144) = false := bne_eq_false_iff_eq.mpr c8
          clear c8
          have H' := Aside0.mk H
          clear H
          go_wp2
          go_meet
          case rel => exact ⟨_, ((t142.toList != t145.toList)), (by first | rfl | (simp; done) | (simp [*]; done)), H', ⟨by first | omega | exact Nat.le_refl _⟩, ⟨by repeat (first | (with_reducible first | exact HB.out | apply below_alloc | apply pw_below_drewN | apply below_drew1) | exact HB.out)⟩⟩
        · rw [if_neg c8] at H
          have c8b0 : (t141 == t144) = false := beq_eq_false_iff_ne.mpr c8
          have c8b1 : (t141 != t144) = true := bne_iff_ne.mpr c8
          have H' := Aside0.mk H
          clear H
          go_wp2
          go_meet
          case rel => exact ⟨_, (true), (by first | rfl | (simp; done) | (simp [*]; done)), H', ⟨by first | omega | exact Nat.le_refl _⟩, ⟨by repeat (first | (with_reducible first | exact HB.out | apply below_alloc | apply pw_below_drewN | apply below_drew1) | exact HB.out)⟩⟩
      · rw [if_neg c7] at H
        have c7b0 : (t146 == 0) = false := beq_eq_false_iff_ne.mpr c7
        have c7b1 : (t146 != 0) = true := bne_iff_ne.mpr c7
        have H' := Aside0.mk H
        clear H
        go_wp2
        go_meet
        case rel => exact ⟨_, (true), (by first | rfl | (simp; done) | (simp [*]; done)), H', ⟨by first | omega | exact Nat.le_refl _⟩, ⟨by repeat (first | (with_reducible first | exact HB.out | apply below_alloc | apply pw_below_drewN | apply below_drew1) | exact HB.out)⟩⟩
    · rw [if_neg c6] at H
      have c6b0 : (t143 == 0) = false := beq_eq_false_iff_ne.mpr c6
      have c6b1 : (t143 != 0) = true := bne_iff_ne.mpr c6
      (first | rw [c6b0] | (simp only [i64_w, i32_w]; rw [c6b0]) | skip)
      have H' := Aside0.mk H
      clear H
      go_wp2
      go_meet
      case rel => exact ⟨_, (false), (by first | rfl | (simp; done) | (simp [*]; done)), H', ⟨by first | omega | exact Nat.le_refl _⟩, ⟨by repeat (first | (with_reducible first | exact HB.out | apply below_alloc | apply pw_below_drewN | apply below_drew1) | exact HB.out)⟩⟩
  case rest =>
    clear HC5
    try clear c1
    try clear p2
    try clear c4
    try clear c6
    try clear c6b0
    try clear c6b1
    try clear c7
    try clear c7b0
    try clear c7b1
    try clear c8
    try clear c8b0
    try clear c8b1
    obtain ⟨kq, x45_4, rfl, HA, HJ4, HB⟩ := hcut
    cases kq with
    | zero => exact absurd HA.out (by simp [scarflaw01_LebBits.j0])
    | succ kj4 =>
      have H := HA.out
      clear HA
      simp only [scarflaw01_LebBits.j0] at H
      by_cases c9 : x45_4 = true
      · subst c9
        have H1 : (some false) = some r := by rw [if_pos rfl] at H; exact H
        clear H
        have H := H1
        clear H1
        obtain rfl := Option.some.inj H
        go_wp2
        go_ret
        exact ⟨by first | rfl | (simp [errW_none, errW_some] <;> rfl) | (simp [*, errW_none, errW_some] <;> rfl), by repeat (first | (with_reducible first | exact HB.out | apply below_alloc | apply pw_below_drewN | apply below_drew1) | exact HB.out)⟩
      · replace c9 := Bool.eq_false_iff.mpr c9
        subst c9
        have H1 : (if t146 = 0 then (if t149 = 0 then (if t144 = t147 then (if t145.toList = t148.toList then (if t143 = 0 then (if t141 ≥ (-2147483648) then (if t141 < 2147483648 then (if t144 ≥ (-4294967296) then (if t144 < 4294967296 then ((scarflaw01_awake.f kj4).bind fun t150 => (some t150)) else (some false)) else (some false)) else (some false)) else (some false)) else (if t144 ≥ (-4294967296) then (if t144 < 4294967296 then ((scarflaw01_awake.f kj4).bind fun t151 => (some t151)) else (some false)) else (some false))) else (some false)) else (some false)) else (some false)) else (if t143 = 0 then (if t141 ≥ (-2147483648) then (if t141 < 2147483648 then ((scarflaw01_awake.f kj4).bind fun t152 => (some t152)) else (some false)) else (some false)) else ((scarflaw01_awake.f kj4).bind fun t153 => (some t153)))) = some r := by rw [if_neg (show ¬ (false = true) by decide)] at H; exact H
        clear H
        have H := H1
        clear H1
        by_cases c10 : t146 = 0
        · rw [if_pos c10] at H
          have c10b0 : (t146 == 0) = true := beq_iff_eq.mpr c10
          have c10b1 : (t146 != 0) = false := bne_eq_false_iff_eq.mpr c10
          clear c10
          by_cases c11 : t149 = 0
          · rw [if_pos c11] at H
            have c11b0 : (t149 == 0) = true := beq_iff_eq.mpr c11
            have c11b1 : (t149 != 0) = false := bne_eq_false_iff_eq.mpr c11
            clear c11
            by_cases c12 : t144 = t147
            · rw [if_pos c12] at H
              have c12b0 : (t144 == t147) = true := beq_iff_eq.mpr c12
              have c12b1 : (t144 != t147) = false := bne_eq_false_iff_eq.mpr c12
              clear c12
              by_cases c13 : t145.toList = t148.toList
              · rw [if_pos c13] at H
                have c13b0 : (t145.toList == t148.toList) = true := beq_iff_eq.mpr c13
                have c13b1 : (t145.toList != t148.toList) = false := bne_eq_false_iff_eq.mpr c13
                clear c13
                by_cases c14 : t143 = 0
                · rw [if_pos c14] at H
                  have c14b0 : (t143 == 0) = true := beq_iff_eq.mpr c14
                  have c14b1 : (t143 != 0) = false := bne_eq_false_iff_eq.mpr c14
                  clear c14
                  by_cases c15 : t141 ≥ (-2147483648)
                  · rw [if_pos c15] at H
                    have c15b0 : decide ((-2147483648) ≤ t141) = true := decide_eq_true c15
                    clear c15
                    by_cases c16 : t141 < 2147483648
                    · rw [if_pos c16] at H
                      have c16b0 : decide (t141 < 2147483648) = true := decide_eq_true c16
                      clear c16
                      by_cases c17 : t144 ≥ (-4294967296)
                      · rw [if_pos c17] at H
                        have c17b0 : decide ((-4294967296) ≤ t144) = true := decide_eq_true c17
                        clear c17
                        by_cases c18 : t144 < 4294967296
                        · rw [if_pos c18] at H
                          have c18b0 : decide (t144 < 4294967296) = true := decide_eq_true c18
                          clear c18
                          replace H := Option.bind_eq_some_iff.mp H
                          obtain ⟨t150, A190, H⟩ := H
                          replace H : (some t150) = some r := H
                          have A19 := Aside0.mk A190
                          clear A190
                          obtain rfl := Option.some.inj H
                          go_wp2_with (first | (go_at_call 14; (with_reducible refine (scarflaw01_awake.calls kj4  t150 _ A19.out).mono ?_); rintro e w20 ⟨rfl, hb⟩; have n0_ := Aside0.mk (below_step (by repeat (first | (with_reducible first | exact HB.out | apply below_alloc | apply pw_below_drewN | apply below_drew1) | exact HB.out)) hb); clear HB; have HB := n0_; clear n0_; (try clear hb); (try clear hb2); (try clear hk); (try clear hi)))
                          go_ret
                          exact ⟨by first | rfl | (simp [errW_none, errW_some] <;> rfl) | (simp [*, errW_none, errW_some] <;> rfl), by repeat (first | (with_reducible first | exact HB.out | apply below_alloc | apply pw_below_drewN | apply below_drew1) | exact HB.out)⟩
                        · rw [if_neg c18] at H
                          have c18b0 : decide (t144 < 4294967296) = false := decide_eq_false c18
                          clear c18
                          obtain rfl := Option.some.inj H
                          go_wp2
                          go_ret
                          exact ⟨by first | rfl | (simp [errW_none, errW_some] <;> rfl) | (simp [*, errW_none, errW_some] <;> rfl), by repeat (first | (with_reducible first | exact HB.out | apply below_alloc | apply pw_below_drewN | apply below_drew1) | exact HB.out)⟩
                      · rw [if_neg c17] at H
                        have c17b0 : decide ((-4294967296) ≤ t144) = false := decide_eq_false c17
                        clear c17
                        obtain rfl := Option.some.inj H
                        go_wp2
                        go_ret
                        exact ⟨by first | rfl | (simp [errW_none, errW_some] <;> rfl) | (simp [*, errW_none, errW_some] <;> rfl), by repeat (first | (with_reducible first | exact HB.out | apply below_alloc | apply pw_below_drewN | apply below_drew1) | exact HB.out)⟩
                    · rw [if_neg c16] at H
                      have c16b0 : decide (t141 < 2147483648) = false := decide_eq_false c16
                      clear c16
                      obtain rfl := Option.some.inj H
                      go_wp2
                      go_ret
                      exact ⟨by first | rfl | (simp [errW_none, errW_some] <;> rfl) | (simp [*, errW_none, errW_some] <;> rfl), by repeat (first | (with_reducible first | exact HB.out | apply below_alloc | apply pw_below_drewN | apply below_drew1) | exact HB.out)⟩
                  · rw [if_neg c15] at H
                    have c15b0 : decide ((-2147483648) ≤ t141) = false := decide_eq_false c15
                    clear c15
                    obtain rfl := Option.some.inj H
                    go_wp2
                    go_ret
                    exact ⟨by first | rfl | (simp [errW_none, errW_some] <;> rfl) | (simp [*, errW_none, errW_some] <;> rfl), by repeat (first | (with_reducible first | exact HB.out | apply below_alloc | apply pw_below_drewN | apply below_drew1) | exact HB.out)⟩
                · rw [if_neg c14] at H
                  have c14b0 : (t143 == 0) = false := beq_eq_false_iff_ne.mpr c14
                  have c14b1 : (t143 != 0) = true := bne_iff_ne.mpr c14
                  by_cases c21 : t144 ≥ (-4294967296)
                  · rw [if_pos c21] at H
                    have c21b0 : decide ((-4294967296) ≤ t144) = true := decide_eq_true c21
                    clear c21
                    by_cases c22 : t144 < 4294967296
                    · rw [if_pos c22] at H
                      have c22b0 : decide (t144 < 4294967296) = true := decide_eq_true c22
                      clear c22
                      replace H := Option.bind_eq_some_iff.mp H
                      obtain ⟨t151, A230, H⟩ := H
                      replace H : (some t151) = some r := H
                      have A23 := Aside0.mk A230
                      clear A230
                      obtain rfl := Option.some.inj H
                      go_wp2_with (first | (go_at_call 14; (with_reducible refine (scarflaw01_awake.calls kj4  t151 _ A23.out).mono ?_); rintro e w24 ⟨rfl, hb⟩; have n0_ := Aside0.mk (below_step (by repeat (first | (with_reducible first | exact HB.out | apply below_alloc | apply pw_below_drewN | apply below_drew1) | exact HB.out)) hb); clear HB; have HB := n0_; clear n0_; (try clear hb); (try clear hb2); (try clear hk); (try clear hi)))
                      go_ret
                      exact ⟨by first | rfl | (simp [errW_none, errW_some] <;> rfl) | (simp [*, errW_none, errW_some] <;> rfl), by repeat (first | (with_reducible first | exact HB.out | apply below_alloc | apply pw_below_drewN | apply below_drew1) | exact HB.out)⟩
                    · rw [if_neg c22] at H
                      have c22b0 : decide (t144 < 4294967296) = false := decide_eq_false c22
                      clear c22
                      obtain rfl := Option.some.inj H
                      go_wp2
                      go_ret
                      exact ⟨by first | rfl | (simp [errW_none, errW_some] <;> rfl) | (simp [*, errW_none, errW_some] <;> rfl), by repeat (first | (with_reducible first | exact HB.out | apply below_alloc | apply pw_below_drewN | apply below_drew1) | exact HB.out)⟩
                  · rw [if_neg c21] at H
                    have c21b0 : decide ((-4294967296) ≤ t144) = false := decide_eq_false c21
                    clear c21
                    obtain rfl := Option.some.inj H
                    go_wp2
                    go_ret
                    exact ⟨by first | rfl | (simp [errW_none, errW_some] <;> rfl) | (simp [*, errW_none, errW_some] <;> rfl), by repeat (first | (with_reducible first | exact HB.out | apply below_alloc | apply pw_below_drewN | apply below_drew1) | exact HB.out)⟩
              · rw [if_neg c13] at H
                have c13b0 : (t145.toList == t148.toList) = false := beq_eq_false_iff_ne.mpr c13
                have c13b1 : (t145.toList != t148.toList) = true := bne_iff_ne.mpr c13
                obtain rfl := Option.some.inj H
                go_wp2
                go_ret
                exact ⟨by first | rfl | (simp [errW_none, errW_some] <;> rfl) | (simp [*, errW_none, errW_some] <;> rfl), by repeat (first | (with_reducible first | exact HB.out | apply below_alloc | apply pw_below_drewN | apply below_drew1) | exact HB.out)⟩
            · rw [if_neg c12] at H
              have c12b0 : (t144 == t147) = false := beq_eq_false_iff_ne.mpr c12
              have c12b1 : (t144 != t147) = true := bne_iff_ne.mpr c12
              obtain rfl := Option.some.inj H
              go_wp2
              go_ret
              exact ⟨by first | rfl | (simp [errW_none, errW_some] <;> rfl) | (simp [*, errW_none, errW_some] <;> rfl), by repeat (first | (with_reducible first | exact HB.out | apply below_alloc | apply pw_below_drewN | apply below_drew1) | exact HB.out)⟩
          · rw [if_neg c11] at H
            have c11b0 : (t149 == 0) = false := beq_eq_false_iff_ne.mpr c11
            have c11b1 : (t149 != 0) = true := bne_iff_ne.mpr c11
            obtain rfl := Option.some.inj H
            go_wp2
            go_ret
            exact ⟨by first | rfl | (simp [errW_none, errW_some] <;> rfl) | (simp [*, errW_none, errW_some] <;> rfl), by repeat (first | (with_reducible first | exact HB.out | apply below_alloc | apply pw_below_drewN | apply below_drew1) | exact HB.out)⟩
        · rw [if_neg c10] at H
          have c10b0 : (t146 == 0) = false := beq_eq_false_iff_ne.mpr c10
          have c10b1 : (t146 != 0) = true := bne_iff_ne.mpr c10
          by_cases c25 : t143 = 0
          · rw [if_pos c25] at H
            have c25b0 : (t143 == 0) = true := beq_iff_eq.mpr c25
            have c25b1 : (t143 != 0) = false := bne_eq_false_iff_eq.mpr c25
            clear c25
            by_cases c26 : t141 ≥ (-2147483648)
            · rw [if_pos c26] at H
              have c26b0 : decide ((-2147483648) ≤ t141) = true := decide_eq_true c26
              clear c26
              by_cases c27 : t141 < 2147483648
              · rw [if_pos c27] at H
                have c27b0 : decide (t141 < 2147483648) = true := decide_eq_true c27
                clear c27
                replace H := Option.bind_eq_some_iff.mp H
                obtain ⟨t152, A280, H⟩ := H
                replace H : (some t152) = some r := H
                have A28 := Aside0.mk A280
                clear A280
                obtain rfl := Option.some.inj H
                go_wp2_with (first | (go_at_call 14; (with_reducible refine (scarflaw01_awake.calls kj4  t152 _ A28.out).mono ?_); rintro e w29 ⟨rfl, hb⟩; have n0_ := Aside0.mk (below_step (by repeat (first | (with_reducible first | exact HB.out | apply below_alloc | apply pw_below_drewN | apply below_drew1) | exact HB.out)) hb); clear HB; have HB := n0_; clear n0_; (try clear hb); (try clear hb2); (try clear hk); (try clear hi)))
                go_ret
                exact ⟨by first | rfl | (simp [errW_none, errW_some] <;> rfl) | (simp [*, errW_none, errW_some] <;> rfl), by repeat (first | (with_reducible first | exact HB.out | apply below_alloc | apply pw_below_drewN | apply below_drew1) | exact HB.out)⟩
              · rw [if_neg c27] at H
                have c27b0 : decide (t141 < 2147483648) = false := decide_eq_false c27
                clear c27
                obtain rfl := Option.some.inj H
                go_wp2
                go_ret
                exact ⟨by first | rfl | (simp [errW_none, errW_some] <;> rfl) | (simp [*, errW_none, errW_some] <;> rfl), by repeat (first | (with_reducible first | exact HB.out | apply below_alloc | apply pw_below_drewN | apply below_drew1) | exact HB.out)⟩
            · rw [if_neg c26] at H
              have c26b0 : decide ((-2147483648) ≤ t141) = false := decide_eq_false c26
              clear c26
              obtain rfl := Option.some.inj H
              go_wp2
              go_ret
              exact ⟨by first | rfl | (simp [errW_none, errW_some] <;> rfl) | (simp [*, errW_none, errW_some] <;> rfl), by repeat (first | (with_reducible first | exact HB.out | apply below_alloc | apply pw_below_drewN | apply below_drew1) | exact HB.out)⟩
          · rw [if_neg c25] at H
            have c25b0 : (t143 == 0) = false := beq_eq_false_iff_ne.mpr c25
            have c25b1 : (t143 != 0) = true := bne_iff_ne.mpr c25
            replace H := Option.bind_eq_some_iff.mp H
            obtain ⟨t153, A300, H⟩ := H
            replace H : (some t153) = some r := H
            have A30 := Aside0.mk A300
            clear A300
            obtain rfl := Option.some.inj H
            go_wp2_with (first | (go_at_call 14; (with_reducible refine (scarflaw01_awake.calls kj4  t153 _ A30.out).mono ?_); rintro e w31 ⟨rfl, hb⟩; have n0_ := Aside0.mk (below_step (by repeat (first | (with_reducible first | exact HB.out | apply below_alloc | apply pw_below_drewN | apply below_drew1) | exact HB.out)) hb); clear HB; have HB := n0_; clear n0_; (try clear hb); (try clear hb2); (try clear hk); (try clear hi)))
            go_ret
            exact ⟨by first | rfl | (simp [errW_none, errW_some] <;> rfl) | (simp [*, errW_none, errW_some] <;> rfl), by repeat (first | (with_reducible first | exact HB.out | apply below_alloc | apply pw_below_drewN | apply below_drew1) | exact HB.out)⟩

/-- THE ONE PURE STATEMENT of scarflaw01_LebBits: yours. -/
def scarflaw01_LebBits.Pure : Prop := ∀ (a0 : ByteArray), a0.size ≤ 140737488351232 → ∃ k, scarflaw01_LebBits.f k a0 = some true
theorem scarflaw01_LebBits.walk (P : scarflaw01_LebBits.Pure) (a0 : ByteArray) (w : World) (w0 : a0.size ≤ 140737488351232) :
    Calls Try.prog 4 #[.string a0] w fun e w' => e = .returned (.bool true) ∧ Below w.heap.size w w' := by
  obtain ⟨k, h⟩ := P a0 w0
  refine (scarflaw01_LebBits.calls k a0 true w h).mono ?_
  rintro e w' ⟨rfl, hd⟩
  exact ⟨rfl, hd⟩

/-! ### leb_TakeU: function 16 -/
def leb_TakeU.f (k : Nat) (a0 : ByteArray) : Option (Int × ByteArray × Int) := (leb_raw.f k a0 32).bind fun bt154 => (if bt154.2.2.2 = true then (if bt154.1 ≥ 4294967296 then (some (0, (⟨#[]⟩ : ByteArray), 2)) else (some (wrap64 (bt154.1), bt154.2.2.1, 0))) else (some (0, (⟨#[]⟩ : ByteArray), 2)))
theorem leb_TakeU.mono : ∀ a0 k, LeO (leb_TakeU.f k a0) (leb_TakeU.f (k + 1) a0) := by
  intro a0 k
  unfold leb_TakeU.f
  repeat' first
      | (with_reducible exact leb_raw.mono _ _ _)
      | (with_reducible exact LeO.refl _)
      | (with_reducible exact LeO.none _)
      | (with_reducible refine LeO.ite ?_ ?_)
      | (with_reducible refine LeO.bind ?_ (fun _ => ?_))
      | exact leb_raw.mono _ _ _
      | exact LeO.none _
      | refine LeO.ite ?_ ?_
      | refine LeO.bind ?_ (fun _ => ?_)
set_option maxHeartbeats 8000000 in
set_option maxRecDepth 100000 in
theorem leb_TakeU.calls (k : Nat) (a0 : ByteArray) (r1 : Int) (r2 : ByteArray) (r3 : Int) (w : World) (h : leb_TakeU.f k a0 = some (r1, r2, r3)) :
    Calls Try.prog 16 #[.string a0] w fun e w' => e = .returned (.tuple #[.int .i64 r1, .string r2, .int .i64 r3]) ∧ Drawn0 w w' := by
  have H : ((leb_raw.f k a0 32).bind fun bt154 => (if bt154.2.2.2 = true then (if bt154.1 ≥ 4294967296 then (some (0, (⟨#[]⟩ : ByteArray), 2)) else (some (wrap64 (bt154.1), bt154.2.2.1, 0))) else (some (0, (⟨#[]⟩ : ByteArray), 2)))) = some (r1, r2, r3) := h
  clear h
  replace H := Option.bind_eq_some_iff.mp H
  obtain ⟨⟨t154, t155, t156, t157⟩, A20, H⟩ := H
  replace H : (if t157 = true then (if t154 ≥ 4294967296 then (some (0, (⟨#[]⟩ : ByteArray), 2)) else (some (wrap64 (t154), t156, 0))) else (some (0, (⟨#[]⟩ : ByteArray), 2))) = some (r1, r2, r3) := H
  have A2 := Aside0.mk A20
  clear A20
  by_cases c3 : t157 = true
  · subst c3
    have H1 : (if t154 ≥ 4294967296 then (some (0, (⟨#[]⟩ : ByteArray), 2)) else (some (wrap64 (t154), t156, 0))) = some (r1, r2, r3) := by rw [if_pos rfl] at H; exact H
    clear H
    have H := H1
    clear H1
    by_cases c4 : t154 ≥ 4294967296
    · rw [if_pos c4] at H
      have c4b0 : decide (4294967296 ≤ t154) = true := decide_eq_true c4
      clear c4
      simp only [Option.some.injEq, Prod.mk.injEq] at H
      obtain ⟨rfl, rfl, rfl⟩ := H
      go_enter Try.func16, Try.ntmps16
      go_wp2_with (first | ((with_reducible refine gate_callee (f := 30) rfl ?_); refine goesL_ (some 11) rfl rfl Try.func30 (by kernel_rfl) rfl #[.string a0, .int .i64 32] rfl (by (try simp only [List.map_toArray, List.map_cons, List.map_nil]); first | done | rfl | (simp only [List.length_drop, List.length_take]; rfl)) ?_; (with_reducible refine (leb_raw.calls k a0 32 t154 t155 t156 true _ A2.out).mono ?_); rintro e w' ⟨rfl, ⟨nd, rfl⟩⟩; refine ⟨_, rfl, ?_⟩))
      go_ret3
      exact ⟨by first | rfl | (simp; done) | (simp [*]; done), by repeat (first | exact Drawn0.refl _ | apply Drawn0.step)⟩
    · rw [if_neg c4] at H
      have c4b0 : decide (4294967296 ≤ t154) = false := decide_eq_false c4
      clear c4
      simp only [Option.some.injEq, Prod.mk.injEq] at H
      obtain ⟨rfl, rfl, rfl⟩ := H
      go_enter Try.func16, Try.ntmps16
      go_wp2_with (first | ((with_reducible refine gate_callee (f := 30) rfl ?_); refine goesL_ (some 11) rfl rfl Try.func30 (by kernel_rfl) rfl #[.string a0, .int .i64 32] rfl (by (try simp only [List.map_toArray, List.map_cons, List.map_nil]); first | done | rfl | (simp only [List.length_drop, List.length_take]; rfl)) ?_; (with_reducible refine (leb_raw.calls k a0 32 t154 t155 t156 true _ A2.out).mono ?_); rintro e w' ⟨rfl, ⟨nd, rfl⟩⟩; refine ⟨_, rfl, ?_⟩))
      go_ret3
      exact ⟨by first | rfl | (simp; done) | (simp [*]; done), by repeat (first | exact Drawn0.refl _ | apply Drawn0.step)⟩
  · replace c3 := Bool.eq_false_iff.mpr c3
    subst c3
    have H1 : (some (0, (⟨#[]⟩ : ByteArray), 2)) = some (r1, r2, r3) := by rw [if_neg (show ¬ (false = true) by decide)] at H; exact H
    clear H
    have H := H1
    clear H1
    simp only [Option.some.injEq, Prod.mk.injEq] at H
    obtain ⟨rfl, rfl, rfl⟩ := H
    go_enter Try.func16, Try.ntmps16
    go_wp2_with (first | ((with_reducible refine gate_callee (f := 30) rfl ?_); refine goesL_ (some 11) rfl rfl Try.func30 (by kernel_rfl) rfl #[.string a0, .int .i64 32] rfl (by (try simp only [List.map_toArray, List.map_cons, List.map_nil]); first | done | rfl | (simp only [List.length_drop, List.length_take]; rfl)) ?_; (with_reducible refine (leb_raw.calls k a0 32 t154 t155 t156 false _ A2.out).mono ?_); rintro e w' ⟨rfl, ⟨nd, rfl⟩⟩; refine ⟨_, rfl, ?_⟩))
    go_ret3
    exact ⟨by first | rfl | (simp; done) | (simp [*]; done), by repeat (first | exact Drawn0.refl _ | apply Drawn0.step)⟩

/-! ### scarfref01_length: function 31 -/
mutual
def scarfref01_length.l0 : Nat → ByteArray → Int → Int → Option (Int)
  | 0, _, _, _ => none
  | k + 1, x0, x1, x5 => if x5 < (x0.size : Int) then (scarfref01_length.j1 k x0 x1 x5 (decide (x5 < x1))) else (scarfref01_length.j1 k x0 x1 x5 false)
def scarfref01_length.j1 : Nat → ByteArray → Int → Int → Bool → Option (Int)
  | 0, _, _, _, _ => none
  | k + 1, x0, x1, x5, x14 => if x14 = true then (if 0 ≤ x5 then (if x5 < (x0.size : Int) then (if (bt x0 x5) < 128 then (some (wrap64 (x5 + 1))) else (scarfref01_length.l0 k x0 x1 (wrap64 (x5 + 1)))) else (none)) else (none)) else (some 0)
end
def scarfref01_length.f (k : Nat) (a0 : ByteArray) (a1 : Int) : Option (Int) := scarfref01_length.l0 k a0 a1 0
theorem scarfref01_length.mono_l : ∀ k, (∀ y0 y1 y2, LeO (scarfref01_length.l0 k y0 y1 y2) (scarfref01_length.l0 (k + 1) y0 y1 y2)) ∧ (∀ y0 y1 y2 y3, LeO (scarfref01_length.j1 k y0 y1 y2 y3) (scarfref01_length.j1 (k + 1) y0 y1 y2 y3))
  | 0 => ⟨fun _ _ _ r h => by simp [scarfref01_length.l0] at h, fun _ _ _ _ r h => by simp [scarfref01_length.j1] at h⟩
  | k + 1 => by
    obtain ⟨ih0, ih1⟩ := scarfref01_length.mono_l k
    refine ⟨?_, ?_⟩
    · intro y0 y1 y2
      unfold scarfref01_length.l0
      repeat' first
      | (with_reducible exact ih0 _ _ _)
      | (with_reducible exact ih1 _ _ _ _)
      | (with_reducible exact LeO.refl _)
      | (with_reducible exact LeO.none _)
      | (with_reducible refine LeO.ite ?_ ?_)
      | (with_reducible refine LeO.bind ?_ (fun _ => ?_))
      | exact ih0 _ _ _
      | exact ih1 _ _ _ _
      | exact LeO.none _
      | refine LeO.ite ?_ ?_
      | refine LeO.bind ?_ (fun _ => ?_)
    · intro y0 y1 y2 y3
      unfold scarfref01_length.j1
      repeat' first
      | (with_reducible exact ih0 _ _ _)
      | (with_reducible exact ih1 _ _ _ _)
      | (with_reducible exact LeO.refl _)
      | (with_reducible exact LeO.none _)
      | (with_reducible refine LeO.ite ?_ ?_)
      | (with_reducible refine LeO.bind ?_ (fun _ => ?_))
      | exact ih0 _ _ _
      | exact ih1 _ _ _ _
      | exact LeO.none _
      | refine LeO.ite ?_ ?_
      | refine LeO.bind ?_ (fun _ => ?_)
theorem scarfref01_length.mono : ∀ a0 a1 k, LeO (scarfref01_length.f k a0 a1) (scarfref01_length.f (k + 1) a0 a1) := by
  intro a0 a1 k
  obtain ⟨ih0, ih1⟩ := scarfref01_length.mono_l k
  unfold scarfref01_length.f
  repeat' first
      | (with_reducible exact ih0 _ _ _)
      | (with_reducible exact ih1 _ _ _ _)
      | (with_reducible exact LeO.refl _)
      | (with_reducible exact LeO.none _)
      | (with_reducible refine LeO.ite ?_ ?_)
      | (with_reducible refine LeO.bind ?_ (fun _ => ?_))
      | exact ih0 _ _ _
      | exact ih1 _ _ _ _
      | exact LeO.none _
      | refine LeO.ite ?_ ?_
      | refine LeO.bind ?_ (fun _ => ?_)
set_option maxHeartbeats 8000000 in
set_option maxRecDepth 100000 in
theorem scarfref01_length.calls (k : Nat) (a0 : ByteArray) (a1 : Int) (r : Int) (w : World) (h : scarfref01_length.f k a0 a1 = some r) :
    Calls Try.prog 31 #[.string a0, .int .i64 a1] w fun e w' => e = .returned (.int .i64 r) ∧ Drawn0 w w' := by
  have H : (scarfref01_length.l0 k a0 a1 0) = some r := h
  clear h
  have H' := Aside0.mk H
  clear H
  go_enter Try.func31, Try.ntmps31
  go_wp2
  go_loopg [5] k (fun kq v5 w' => ∃ (x5_1 : Int), v5 = .int .i64 x5_1 ∧ Aside0 (scarfref01_length.l0 kq a0 a1 x5_1 = some r) ∧ Aside0 (kq ≤ k) ∧ Drawn0 w w')
  case atStart => exact ⟨(0), (by first | rfl | (simp; done) | (simp [*]; done)), H', ⟨Nat.le_refl _⟩, by repeat (first | exact Drawn0.refl _ | apply Drawn0.step)⟩
  case round =>
    clear H'
    try clear p2
    obtain ⟨x5_1, rfl, HA, HK1, ⟨m1, rfl⟩⟩ := hrel
    cases gk with
    | zero => exact absurd HA.out (by simp [scarfref01_length.l0])
    | succ k1 =>
      have H := HA.out
      clear HA
      simp only [scarfref01_length.l0] at H
      have HC3 := Aside0.mk H
      clear H
      go_upto_region 2 with (fail)
      go_cut [14] (fun v14 wc => ∃ (kq : Nat) (x14_2 : Bool), v14 = .bool x14_2 ∧ Aside0 (scarfref01_length.j1 kq a0 a1 x5_1 x14_2 = some r) ∧ Aside0 (kq ≤ k1) ∧ Drawn0 w wc)
      case first =>
        have H := HC3.out
        clear HC3
        by_cases c4 : x5_1 < (a0.size : Int)
        · rw [if_pos c4] at H
          have c4b0 : decide (x5_1 < (a0.size : Int)) = true := decide_eq_true c4
          clear c4
          (first | rw [c4b0] | (simp only [i64_w, i32_w]; rw [c4b0]) | skip)
          have H' := Aside0.mk H
          clear H
          go_wp2
          go_meet
          case rel => exact ⟨_, (decide (x5_1 < a1)), (by first | rfl | (simp; done) | (simp [*]; done)), H', ⟨by have := HK1.out; first | omega | exact Nat.le_refl _⟩, by repeat (first | exact Drawn0.refl _ | apply Drawn0.step)⟩
        · rw [if_neg c4] at H
          have c4b0 : decide (x5_1 < (a0.size : Int)) = false := decide_eq_false c4
          clear c4
          (first | rw [c4b0] | (simp only [i64_w, i32_w]; rw [c4b0]) | skip)
          have H' := Aside0.mk H
          clear H
          go_wp2
          go_meet
          case rel => exact ⟨_, (false), (by first | rfl | (simp; done) | (simp [*]; done)), H', ⟨by have := HK1.out; first | omega | exact Nat.le_refl _⟩, by repeat (first | exact Drawn0.refl _ | apply Drawn0.step)⟩
      case rest =>
        clear HC3
        try clear p2
        try clear c3
        try clear c4
        try clear c4b0
        try clear p2
        obtain ⟨kq, x14_2, rfl, HA, HJ2, ⟨mc2, rfl⟩⟩ := hcut
        cases kq with
        | zero => exact absurd HA.out (by simp [scarfref01_length.j1])
        | succ kj2 =>
          have H := HA.out
          clear HA
          simp only [scarfref01_length.j1] at H
          by_cases c5 : x14_2 = true
          · subst c5
            have H1 : (if 0 ≤ x5_1 then (if x5_1 < (a0.size : Int) then (if (bt a0 x5_1) < 128 then (some (wrap64 (x5_1 + 1))) else (scarfref01_length.l0 kj2 a0 a1 (wrap64 (x5_1 + 1)))) else (none)) else (none)) = some r := by rw [if_pos rfl] at H; exact H
            clear H
            have H := H1
            clear H1
            by_cases c6 : 0 ≤ x5_1
            · rw [if_pos c6] at H
              have c6b0 : decide (0 ≤ x5_1) = true := decide_eq_true c6
              clear c6
              by_cases c7 : x5_1 < (a0.size : Int)
              · rw [if_pos c7] at H
                have c7b0 : decide (x5_1 < (a0.size : Int)) = true := decide_eq_true c7
                clear c7
                by_cases c9 : (bt a0 x5_1) < 128
                · rw [if_pos c9] at H
                  have c9b0 : decide ((bt a0 x5_1) < 128) = true := decide_eq_true c9
                  clear c9
                  obtain rfl := Option.some.inj H
                  have p8 : 0 ≤ (x5_1 : Int) := of_decide_eq_true (by first | (with_reducible assumption) | assumption)
                  have q8 : x5_1 < (a0.size : Int) := of_decide_eq_true (by first | (with_reducible assumption) | assumption)
                  have hx8 := bt_at a0 x5_1
                  replace p8 := eq_true p8
                  replace q8 := eq_true q8
                  go_wp2
                  go_ret
                  exact ⟨by first | rfl | (simp; done) | (simp [*]; done), by repeat (first | exact Drawn0.refl _ | apply Drawn0.step)⟩
                · rw [if_neg c9] at H
                  have c9b0 : decide ((bt a0 x5_1) < 128) = false := decide_eq_false c9
                  clear c9
                  have H' := Aside0.mk H
                  clear H
                  have p8 : 0 ≤ (x5_1 : Int) := of_decide_eq_true (by first | (with_reducible assumption) | assumption)
                  have q8 : x5_1 < (a0.size : Int) := of_decide_eq_true (by first | (with_reducible assumption) | assumption)
                  have hx8 := bt_at a0 x5_1
                  replace p8 := eq_true p8
                  replace q8 := eq_true q8
                  go_wp2
                  go_roundg kj2
                  case measure => have := HK1.out; have := HJ2.out; omega
                  case rel => exact ⟨(wrap64 (x5_1 + 1)), (by first | rfl | (simp; done) | (simp [*]; done)), H', ⟨by have := HK1.out; have := HJ2.out; omega⟩, by repeat (first | exact Drawn0.refl _ | apply Drawn0.step)⟩
              · rw [if_neg c7] at H
                exact absurd H (by simp)
            · rw [if_neg c6] at H
              exact absurd H (by simp)
          · replace c5 := Bool.eq_false_iff.mpr c5
            subst c5
            have H1 : (some 0) = some r := by rw [if_neg (show ¬ (false = true) by decide)] at H; exact H
            clear H
            have H := H1
            clear H1
            obtain rfl := Option.some.inj H
            go_wp2
            go_ret
            exact ⟨by first | rfl | (simp; done) | (simp [*]; done), by repeat (first | exact Drawn0.refl _ | apply Drawn0.step)⟩

/-! ### scarfref01_TakeU: function 17 -/
def scarfref01_TakeU.l0 : Nat → ByteArray → Int → Int → Int → Int → Option (Int × ByteArray × Int)
  | 0, _, _, _, _, _ => none
  | k + 1, x0, x5, x6, x7, x8 => if x8 < x5 then (if 0 ≤ x8 then (if x8 < (x0.size : Int) then (scarfref01_TakeU.l0 k x0 x5 (wrap64 (x6 + (wrap64 ((Int.tmod (wrap64 (bt x0 x8)) 128) * x7)))) (wrap64 (x7 * 128)) (wrap64 (x8 + 1))) else (none)) else (none)) else (if x6 ≥ 4294967296 then (some (0, (⟨#[]⟩ : ByteArray), 2)) else (if 0 ≤ x5 then (if x5 ≤ (x0.size : Int) then (some (x6, x0.extract (x5 : Int).toNat x0.size, 0)) else (none)) else (none)))
def scarfref01_TakeU.f (k : Nat) (a0 : ByteArray) : Option (Int × ByteArray × Int) := (scarfref01_length.f k a0 5).bind fun t158 => (if t158 = 0 then (some (0, (⟨#[]⟩ : ByteArray), 2)) else (scarfref01_TakeU.l0 k a0 t158 0 1 0))
theorem scarfref01_TakeU.mono_l : ∀ k, (∀ y0 y1 y2 y3 y4, LeO (scarfref01_TakeU.l0 k y0 y1 y2 y3 y4) (scarfref01_TakeU.l0 (k + 1) y0 y1 y2 y3 y4))
  | 0 => fun _ _ _ _ _ r h => by simp [scarfref01_TakeU.l0] at h
  | k + 1 => by
    have ih0 := scarfref01_TakeU.mono_l k
    · intro y0 y1 y2 y3 y4
      unfold scarfref01_TakeU.l0
      repeat' first
      | (with_reducible exact ih0 _ _ _ _ _)
      | (with_reducible exact scarfref01_length.mono _ _ _)
      | (with_reducible exact LeO.refl _)
      | (with_reducible exact LeO.none _)
      | (with_reducible refine LeO.ite ?_ ?_)
      | (with_reducible refine LeO.bind ?_ (fun _ => ?_))
      | exact ih0 _ _ _ _ _
      | exact scarfref01_length.mono _ _ _
      | exact LeO.none _
      | refine LeO.ite ?_ ?_
      | refine LeO.bind ?_ (fun _ => ?_)
theorem scarfref01_TakeU.mono : ∀ a0 k, LeO (scarfref01_TakeU.f k a0) (scarfref01_TakeU.f (k + 1) a0) := by
  intro a0 k
  have ih0 := scarfref01_TakeU.mono_l k
  unfold scarfref01_TakeU.f
  repeat' first
      | (with_reducible exact ih0 _ _ _ _ _)
      | (with_reducible exact scarfref01_length.mono _ _ _)
      | (with_reducible exact LeO.refl _)
      | (with_reducible exact LeO.none _)
      | (with_reducible refine LeO.ite ?_ ?_)
      | (with_reducible refine LeO.bind ?_ (fun _ => ?_))
      | exact ih0 _ _ _ _ _
      | exact scarfref01_length.mono _ _ _
      | exact LeO.none _
      | refine LeO.ite ?_ ?_
      | refine LeO.bind ?_ (fun _ => ?_)
set_option maxHeartbeats 8000000 in
set_option maxRecDepth 100000 in
theorem scarfref01_TakeU.calls (k : Nat) (a0 : ByteArray) (r1 : Int) (r2 : ByteArray) (r3 : Int) (w : World) (h : scarfref01_TakeU.f k a0 = some (r1, r2, r3)) :
    Calls Try.prog 17 #[.string a0] w fun e w' => e = .returned (.tuple #[.int .i64 r1, .string r2, .int .i64 r3]) ∧ Drawn0 w w' := by
  have H : ((scarfref01_length.f k a0 5).bind fun t158 => (if t158 = 0 then (some (0, (⟨#[]⟩ : ByteArray), 2)) else (scarfref01_TakeU.l0 k a0 t158 0 1 0))) = some (r1, r2, r3) := h
  clear h
  replace H := Option.bind_eq_some_iff.mp H
  obtain ⟨t158, A20, H⟩ := H
  replace H : (if t158 = 0 then (some (0, (⟨#[]⟩ : ByteArray), 2)) else (scarfref01_TakeU.l0 k a0 t158 0 1 0)) = some (r1, r2, r3) := H
  have A2 := Aside0.mk A20
  clear A20
  by_cases c3 : t158 = 0
  · rw [if_pos c3] at H
    have c3b0 : (t158 == 0) = true := beq_iff_eq.mpr c3
    have c3b1 : (t158 != 0) = false := bne_eq_false_iff_eq.mpr c3
    clear c3
    simp only [Option.some.injEq, Prod.mk.injEq] at H
    obtain ⟨rfl, rfl, rfl⟩ := H
    go_enter Try.func17, Try.ntmps17
    go_wp2_with (first | (go_at_call 31; (with_reducible refine (scarfref01_length.calls k a0 5 t158 _ A2.out).mono ?_); rintro e w' ⟨rfl, ⟨nd, rfl⟩⟩; (try first | exact ⟨rfl, _, World.drewN_drewN _ _ _⟩ | exact ⟨rfl, _, Eq.trans (World.drewN_drewN _ _ _) (congrArg (World.drewN _) (Nat.add_assoc _ _ _))⟩)))
    repeat (go_quiet (first | (go_at_call 31; (with_reducible refine (scarfref01_length.calls k a0 5 t158 _ A2.out).mono ?_); rintro e w' ⟨rfl, ⟨nd, rfl⟩⟩; (try first | exact ⟨rfl, _, World.drewN_drewN _ _ _⟩ | exact ⟨rfl, _, Eq.trans (World.drewN_drewN _ _ _) (congrArg (World.drewN _) (Nat.add_assoc _ _ _))⟩))); try go_wp2_with (first | (go_at_call 31; (with_reducible refine (scarfref01_length.calls k a0 5 t158 _ A2.out).mono ?_); rintro e w' ⟨rfl, ⟨nd, rfl⟩⟩; (try first | exact ⟨rfl, _, World.drewN_drewN _ _ _⟩ | exact ⟨rfl, _, Eq.trans (World.drewN_drewN _ _ _) (congrArg (World.drewN _) (Nat.add_assoc _ _ _))⟩))))
    go_ret3
    exact ⟨by first | rfl | (simp; done) | (simp [*]; done), by repeat (first | exact Drawn0.refl _ | apply Drawn0.step)⟩
  · rw [if_neg c3] at H
    have c3b0 : (t158 == 0) = false := beq_eq_false_iff_ne.mpr c3
    have c3b1 : (t158 != 0) = true := bne_iff_ne.mpr c3
    have H' := Aside0.mk H
    clear H
    go_enter Try.func17, Try.ntmps17
    go_wp2_with (first | (go_at_call 31; (with_reducible refine (scarfref01_length.calls k a0 5 t158 _ A2.out).mono ?_); rintro e w' ⟨rfl, ⟨nd, rfl⟩⟩; (try first | exact ⟨rfl, _, World.drewN_drewN _ _ _⟩ | exact ⟨rfl, _, Eq.trans (World.drewN_drewN _ _ _) (congrArg (World.drewN _) (Nat.add_assoc _ _ _))⟩)))
    repeat (go_quiet (first | (go_at_call 31; (with_reducible refine (scarfref01_length.calls k a0 5 t158 _ A2.out).mono ?_); rintro e w' ⟨rfl, ⟨nd, rfl⟩⟩; (try first | exact ⟨rfl, _, World.drewN_drewN _ _ _⟩ | exact ⟨rfl, _, Eq.trans (World.drewN_drewN _ _ _) (congrArg (World.drewN _) (Nat.add_assoc _ _ _))⟩))); try go_wp2_with (first | (go_at_call 31; (with_reducible refine (scarfref01_length.calls k a0 5 t158 _ A2.out).mono ?_); rintro e w' ⟨rfl, ⟨nd, rfl⟩⟩; (try first | exact ⟨rfl, _, World.drewN_drewN _ _ _⟩ | exact ⟨rfl, _, Eq.trans (World.drewN_drewN _ _ _) (congrArg (World.drewN _) (Nat.add_assoc _ _ _))⟩))))
    go_loopg [6, 7, 8] k (fun kq v6 v7 v8 w' => ∃ (x6_1 : Int) (x7_1 : Int) (x8_1 : Int), v6 = .int .i64 x6_1 ∧ v7 = .int .i64 x7_1 ∧ v8 = .int .i64 x8_1 ∧ Aside0 (scarfref01_TakeU.l0 kq a0 t158 x6_1 x7_1 x8_1 = some (r1, r2, r3)) ∧ Aside0 (kq ≤ k) ∧ Drawn0 w w')
    case atStart => exact ⟨(0), (1), (0), (by first | rfl | (simp; done) | (simp [*]; done)), (by first | rfl | (simp; done) | (simp [*]; done)), (by first | rfl | (simp; done) | (simp [*]; done)), H', ⟨Nat.le_refl _⟩, by repeat (first | exact Drawn0.refl _ | apply Drawn0.step)⟩
    case round =>
      clear H'
      try clear c1
      try clear p2
      try clear c3
      try clear c3b0
      try clear c3b1
      obtain ⟨x6_1, x7_1, x8_1, rfl, rfl, rfl, HA, HK1, ⟨m1, rfl⟩⟩ := hrel
      cases gk with
      | zero => exact absurd HA.out (by simp [scarfref01_TakeU.l0])
      | succ k1 =>
        have H := HA.out
        clear HA
        simp only [scarfref01_TakeU.l0] at H
        by_cases c4 : x8_1 < t158
        · rw [if_pos c4] at H
          have c4b0 : decide (x8_1 < t158) = true := decide_eq_true c4
          clear c4
          by_cases c5 : 0 ≤ x8_1
          · rw [if_pos c5] at H
            have c5b0 : decide (0 ≤ x8_1) = true := decide_eq_true c5
            clear c5
            by_cases c6 : x8_1 < (a0.size : Int)
            · rw [if_pos c6] at H
              have c6b0 : decide (x8_1 < (a0.size : Int)) = true := decide_eq_true c6
              clear c6
              have H' := Aside0.mk H
              clear H
              have p7 : 0 ≤ (x8_1 : Int) := of_decide_eq_true (by first | (with_reducible assumption) | assumption)
              have q7 : x8_1 < (a0.size : Int) := of_decide_eq_true (by first | (with_reducible assumption) | assumption)
              have hx7 := bt_at a0 x8_1
              replace p7 := eq_true p7
              replace q7 := eq_true q7
              go_wp2
              repeat (go_quiet (fail); try go_wp2)
              go_roundg k1
              case measure => have := HK1.out; omega
              case rel => exact ⟨(wrap64 (x6_1 + (wrap64 ((Int.tmod (wrap64 (bt a0 x8_1)) 128) * x7_1)))), (wrap64 (x7_1 * 128)), (wrap64 (x8_1 + 1)), (by first | rfl | (simp; done) | (simp [*]; done)), (by first | rfl | (simp; done) | (simp [*]; done)), (by first | rfl | (simp; done) | (simp [*]; done)), H', ⟨by have := HK1.out; omega⟩, by repeat (first | exact Drawn0.refl _ | apply Drawn0.step)⟩
            · rw [if_neg c6] at H
              exact absurd H (by simp)
          · rw [if_neg c5] at H
            exact absurd H (by simp)
        · rw [if_neg c4] at H
          have c4b0 : decide (x8_1 < t158) = false := decide_eq_false c4
          clear c4
          by_cases c8 : x6_1 ≥ 4294967296
          · rw [if_pos c8] at H
            have c8b0 : decide (4294967296 ≤ x6_1) = true := decide_eq_true c8
            clear c8
            simp only [Option.some.injEq, Prod.mk.injEq] at H
            obtain ⟨rfl, rfl, rfl⟩ := H
            go_wp2
            repeat (go_quiet (fail); try go_wp2)
            go_ret3
            exact ⟨by first | rfl | (simp; done) | (simp [*]; done), by repeat (first | exact Drawn0.refl _ | apply Drawn0.step)⟩
          · rw [if_neg c8] at H
            have c8b0 : decide (4294967296 ≤ x6_1) = false := decide_eq_false c8
            clear c8
            by_cases c9 : 0 ≤ t158
            · rw [if_pos c9] at H
              have c9b0 := eq_true c9
              have c9b1 : decide (0 ≤ t158) = true := decide_eq_true c9
              clear c9
              by_cases c10 : t158 ≤ (a0.size : Int)
              · rw [if_pos c10] at H
                have c10b0 := eq_true c10
                have c10b1 : decide (t158 ≤ (a0.size : Int)) = true := decide_eq_true c10
                clear c10
                simp only [Option.some.injEq, Prod.mk.injEq] at H
                obtain ⟨rfl, rfl, rfl⟩ := H
                go_wp2
                repeat (go_quiet (fail); try go_wp2)
                go_ret3
                exact ⟨by first | rfl | (simp; done) | (simp [*]; done), by repeat (first | exact Drawn0.refl _ | apply Drawn0.step)⟩
              · rw [if_neg c10] at H
                exact absurd H (by simp)
            · rw [if_neg c9] at H
              exact absurd H (by simp)

end Go.Proofs.Ytmoeibghjejneaa.PA
