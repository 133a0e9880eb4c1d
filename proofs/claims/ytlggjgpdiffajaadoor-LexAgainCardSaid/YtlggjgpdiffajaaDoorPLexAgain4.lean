/- Several texts, laid into one for a claim: PAx52, Str, LexM, Ev, PAx39, PAx40, LexB, PAx41, PAx42, PAx43, LexK, LexAw, PAx44, PAx45, PAx46, PAx47. -/
import Derived.Test.YtlggjgpdiffajaaDoorPLexAgain1
import Derived.Test.YtlggjgpdiffajaaDoorPLexAgain2
import Derived.Test.YtlggjgpdiffajaaDoorPLexAgain3
import Derived.Test.YtlggjgpdiffajaaDoorPLexAgain0
namespace Go.Proofs.YtlggjgpdiffajaaDoor.PA
open Go.RowKit Go.Proofs.YtlggjgpdiffajaaDoorW.PrintWords Go.Proofs.YtlggjgpdiffajaaDoorW.PrintLast Go.Proofs.YtlggjgpdiffajaaDoorW.PrintMore
attribute [local go_sem] max2_int min2_int max_two min_two max_three min_three max_four min_four   -- for this text's walks alone
set_option linter.unusedVariables false
set_option linter.unusedSimpArgs false
mutual
def scarflaw10_LexAgain.j0 : Nat → ByteArray → List (S33) → ByteArray → Option (Bool)
  | 0, _, _, _ => none
  | k + 1, x0, x5, x8 => scarflaw10_LexAgain.l0 k x0 x5 x8 (⟨#[]⟩ : ByteArray) 0
def scarflaw10_LexAgain.l0 : Nat → ByteArray → List (S33) → ByteArray → ByteArray → Int → Option (Bool)
  | 0, _, _, _, _, _ => none
  | k + 1, x0, x5, x8, x9, x10 => if x10 < (x5.length : Int) then (if 0 ≤ x10 then ((scarflaw10_text.f ((rd_T33 x5 x10).f0) ((rd_T33 x5 x10).f1) ((rd_T33 x5 x10).f2)).bind fun t215 => (if ((rd_T33 x5 x10).f2) < 0 then (some false) else (if ((rd_T33 x5 x10).f2) > (wrap64 ((x0.size : Int) - (t215.size : Int))) then (some false) else (if 0 ≤ ((rd_T33 x5 x10).f2) then (if ((rd_T33 x5 x10).f2) ≤ (wrap64 (((rd_T33 x5 x10).f2) + (t215.size : Int))) then (if (wrap64 (((rd_T33 x5 x10).f2) + (t215.size : Int))) ≤ (x0.size : Int) then (if (x0.extract (((rd_T33 x5 x10).f2) : Int).toNat ((wrap64 (((rd_T33 x5 x10).f2) + (t215.size : Int))) : Int).toNat).toList = t215.toList then (if x9.size + t215.size ≤ 9223372036854775807 then (if (x9 ++ t215).size + x8.size ≤ 9223372036854775807 then (scarflaw10_LexAgain.l0 k x0 x5 x8 ((x9 ++ t215) ++ x8) (wrap64 (x10 + 1))) else (none)) else (none)) else (some false)) else (none)) else (none)) else (none))))) else (none)) else (if (x9.size : Int) > 8192 then ((scarflaw10_awake.f k).bind fun t220 => (some t220)) else ((lex_Cut.f k x9).bind fun bt221 => (if bt221.2.2 = 0 then (scarflaw10_LexAgain.j2 k x5 bt221.1 ((bt221.1.length : Int) != (x5.length : Int))) else (scarflaw10_LexAgain.j2 k x5 bt221.1 true))))
def scarflaw10_LexAgain.j2 : Nat → List (S33) → List (S33) → Bool → Option (Bool)
  | 0, _, _, _ => none
  | k + 1, x5, x12, x113 => if x113 = true then (some false) else (scarflaw10_LexAgain.l1 k x5 x12 0)
def scarflaw10_LexAgain.l1 : Nat → List (S33) → List (S33) → Int → Option (Bool)
  | 0, _, _, _ => none
  | k + 1, x5, x12, x15 => if x15 < (x5.length : Int) then (if 0 ≤ x15 then (if x15 < (x12.length : Int) then (if ((rd_T33 x5 x15).f0) = ((rd_T33 x12 x15).f0) then (if ((rd_T33 x5 x15).f1).toList = ((rd_T33 x12 x15).f1).toList then (scarflaw10_LexAgain.l1 k x5 x12 (wrap64 (x15 + 1))) else (some false)) else (some false)) else (none)) else (none)) else ((scarflaw10_awake.f k).bind fun t230 => (some t230))
end
def scarflaw10_LexAgain.f (k : Nat) (a0 : ByteArray) (a1 : Bool) : Option (Bool) := (lex_Cut.f k a0).bind fun bt208 => (if bt208.2.2 = 0 then (if a1 = true then (scarflaw10_LexAgain.j0 k a0 bt208.1 (⟨#[32, 47, 42, 32, 97, 32, 47, 42, 32, 98, 32, 42, 47, 32, 42, 47, 32]⟩ : ByteArray)) else (scarflaw10_LexAgain.j0 k a0 bt208.1 (⟨#[32]⟩ : ByteArray))) else (if (bt208.1.length : Int) = 0 then (if bt208.2.1 ≥ 0 then (if bt208.2.1 ≤ (a0.size : Int) then ((scarflaw10_awake.f k).bind fun t213 => (some t213)) else (some false)) else (some false)) else (some false)))
set_option maxHeartbeats 8000000 in
set_option maxRecDepth 100000 in
theorem scarflaw10_LexAgain.calls (k : Nat) (a0 : ByteArray) (a1 : Bool) (r : Bool) (w : World) (h : scarflaw10_LexAgain.f k a0 a1 = some r) :
    Calls Tryd.prog 4 #[.string a0, .bool a1] w fun e w' => e = .returned (.bool r) ∧ Below w.heap.size w w' := by
  have hu33 := Tryd.underlying33
  have HB := Aside0.mk (Below.refl w.heap.size w)
  have H : ((lex_Cut.f k a0).bind fun bt208 => (if bt208.2.2 = 0 then (if a1 = true then (scarflaw10_LexAgain.j0 k a0 bt208.1 (⟨#[32, 47, 42, 32, 97, 32, 47, 42, 32, 98, 32, 42, 47, 32, 42, 47, 32]⟩ : ByteArray)) else (scarflaw10_LexAgain.j0 k a0 bt208.1 (⟨#[32]⟩ : ByteArray))) else (if (bt208.1.length : Int) = 0 then (if bt208.2.1 ≥ 0 then (if bt208.2.1 ≤ (a0.size : Int) then ((scarflaw10_awake.f k).bind fun t213 => (some t213)) else (some false)) else (some false)) else (some false)))) = some r := h
  clear h
  replace H := Option.bind_eq_some_iff.mp H
  obtain ⟨⟨t208, t209, t210⟩, A30, H⟩ := H
  replace H : (if t210 = 0 then (if a1 = true then (scarflaw10_LexAgain.j0 k a0 t208 (⟨#[32, 47, 42, 32, 97, 32, 47, 42, 32, 98, 32, 42, 47, 32, 42, 47, 32]⟩ : ByteArray)) else (scarflaw10_LexAgain.j0 k a0 t208 (⟨#[32]⟩ : ByteArray))) else (if (t208.length : Int) = 0 then (if t209 ≥ 0 then (if t209 ≤ (a0.size : Int) then ((scarflaw10_awake.f k).bind fun t213 => (some t213)) else (some false)) else (some false)) else (some false))) = some r := H
  have A3 := Aside0.mk A30
  clear A30
  by_cases c4 : t210 = 0
  · rw [if_pos c4] at H
    have c4b0 : (t210 == 0) = true := beq_iff_eq.mpr c4
    have c4b1 : (t210 != 0) = false := bne_eq_false_iff_eq.mpr c4
    clear c4
    have HC5 := Aside0.mk H
    clear H
    go_enter Tryd.func4, Tryd.ntmps4
    go_upto_if 40 with (first | (go_at_call 8; (with_reducible refine (lex_Cut.calls k a0 t208 t209 t210 _ A3.out).mono ?_); rintro e w6 ⟨v211, rfl, ho0, hb⟩; have n0_ := Aside0.mk (Kd.R_lower ho0 (below_size (by repeat (first | (with_reducible first | exact HB.out | apply below_alloc | apply pw_below_drewN | apply below_drew1) | exact HB.out)))); have n1_ := Aside0.mk (below_step (by repeat (first | (with_reducible first | exact HB.out | apply below_alloc | apply pw_below_drewN | apply below_drew1) | exact HB.out)) hb); clear HB; have HO212 := n0_; have HB := n1_; clear n0_ n1_; (try clear hb); (try clear hb2); (try clear hk); (try clear hi); (try clear ho0)))
    repeat (go_quiet (first | (go_at_call 8; (with_reducible refine (lex_Cut.calls k a0 t208 t209 t210 _ A3.out).mono ?_); rintro e w6 ⟨v211, rfl, ho0, hb⟩; have n0_ := Aside0.mk (Kd.R_lower ho0 (below_size (by repeat (first | (with_reducible first | exact HB.out | apply below_alloc | apply pw_below_drewN | apply below_drew1) | exact HB.out)))); have n1_ := Aside0.mk (below_step (by repeat (first | (with_reducible first | exact HB.out | apply below_alloc | apply pw_below_drewN | apply below_drew1) | exact HB.out)) hb); clear HB; have HO212 := n0_; have HB := n1_; clear n0_ n1_; (try clear hb); (try clear hb2); (try clear hk); (try clear hi); (try clear ho0))); go_upto_if 40 with (first | (go_at_call 8; (with_reducible refine (lex_Cut.calls k a0 t208 t209 t210 _ A3.out).mono ?_); rintro e w6 ⟨v211, rfl, ho0, hb⟩; have n0_ := Aside0.mk (Kd.R_lower ho0 (below_size (by repeat (first | (with_reducible first | exact HB.out | apply below_alloc | apply pw_below_drewN | apply below_drew1) | exact HB.out)))); have n1_ := Aside0.mk (below_step (by repeat (first | (with_reducible first | exact HB.out | apply below_alloc | apply pw_below_drewN | apply below_drew1) | exact HB.out)) hb); clear HB; have HO212 := n0_; have HB := n1_; clear n0_ n1_; (try clear hb); (try clear hb2); (try clear hk); (try clear hi); (try clear ho0))))
    (try simp only [Act.put, List.setIfInBounds_toArray, List.set_cons_zero, List.set_cons_succ])
    go_cut [8] (fun v8 wc => ∃ (kq : Nat) (x8_4 : ByteArray), v8 = .string x8_4 ∧ Aside0 (scarflaw10_LexAgain.j0 kq a0 t208 x8_4 = some r) ∧ Aside0 (kq ≤ k) ∧ Aside0 (Kd.R k33 33 wc w.heap.size (fun _ => True) v211 t208) ∧ Aside0 (Below w.heap.size w wc))
    case first =>
      have H := HC5.out
      clear HC5
      by_cases c7 : a1 = true
      · subst c7
        have H1 : (scarflaw10_LexAgain.j0 k a0 t208 (⟨#[32, 47, 42, 32, 97, 32, 47, 42, 32, 98, 32, 42, 47, 32, 42, 47, 32]⟩ : ByteArray)) = some r := by rw [if_pos rfl] at H; exact H
        clear H
        have H := H1
        clear H1
        have H' := Aside0.mk H
        clear H
        go_wp2
        repeat (go_quiet (fail); try go_wp2)
        go_meet
        case rel => exact ⟨_, ((⟨#[32, 47, 42, 32, 97, 32, 47, 42, 32, 98, 32, 42, 47, 32, 42, 47, 32]⟩ : ByteArray)), (by first | rfl | (simp; done) | (simp [*]; done)), H', ⟨by first | omega | exact Nat.le_refl _⟩, ⟨by (with_reducible repeat (first | apply Kd.R_alloc | apply Kd.R_drewN | apply Kd.R_drew)); exact HO212.out⟩, ⟨by repeat (first | (with_reducible first | exact HB.out | apply below_alloc | apply pw_below_drewN | apply below_drew1) | exact HB.out)⟩⟩
      · replace c7 := Bool.eq_false_iff.mpr c7
        subst c7
        have H1 : (scarflaw10_LexAgain.j0 k a0 t208 (⟨#[32]⟩ : ByteArray)) = some r := by rw [if_neg (show ¬ (false = true) by decide)] at H; exact H
        clear H
        have H := H1
        clear H1
        have H' := Aside0.mk H
        clear H
        go_wp2
        repeat (go_quiet (fail); try go_wp2)
        go_meet
        case rel => exact ⟨_, ((⟨#[32]⟩ : ByteArray)), (by first | rfl | (simp; done) | (simp [*]; done)), H', ⟨by first | omega | exact Nat.le_refl _⟩, ⟨by (with_reducible repeat (first | apply Kd.R_alloc | apply Kd.R_drewN | apply Kd.R_drew)); exact HO212.out⟩, ⟨by repeat (first | (with_reducible first | exact HB.out | apply below_alloc | apply pw_below_drewN | apply below_drew1) | exact HB.out)⟩⟩
    case rest =>
      clear HC5
      try clear p2
      try clear c4
      try clear c4b0
      try clear c4b1
      try clear c7
      obtain ⟨kq, x8_4, rfl, HA, HJ4, HO_5, HB⟩ := hcut
      cases kq with
      | zero => exact absurd HA.out (by simp [scarflaw10_LexAgain.j0])
      | succ kj4 =>
        have H := HA.out
        clear HA
        simp only [scarflaw10_LexAgain.j0] at H
        have H' := Aside0.mk H
        clear H
        go_wp2
        repeat (go_quiet (fail); try go_wp2)
        go_loopg [9, 10] kj4 (fun kq v9 v10 w' => ∃ (x9_2 : ByteArray) (x10_2 : Int), v9 = .string x9_2 ∧ v10 = .int .i64 x10_2 ∧ Aside0 (scarflaw10_LexAgain.l0 kq a0 t208 x8_4 x9_2 x10_2 = some r) ∧ Aside0 (kq ≤ kj4) ∧ Aside0 (Kd.R k33 33 w' w.heap.size (fun _ => True) v211 t208) ∧ Aside0 (Below w.heap.size w w'))
        case atStart => exact ⟨((⟨#[]⟩ : ByteArray)), (0), (by first | rfl | (simp; done) | (simp [*]; done)), (by first | rfl | (simp; done) | (simp [*]; done)), H', ⟨Nat.le_refl _⟩, ⟨by (with_reducible repeat (first | apply Kd.R_alloc | apply Kd.R_drewN | apply Kd.R_drew)); exact HO_5.out⟩, ⟨by repeat (first | (with_reducible first | exact HB.out | apply below_alloc | apply pw_below_drewN | apply below_drew1) | exact HB.out)⟩⟩
        case round =>
          clear H'
          try clear p2
          try clear c4
          try clear c4b0
          try clear c4b1
          try clear c7
          try clear p2
          obtain ⟨x9_2, x10_2, rfl, rfl, HA, HK2, HO_5, HB⟩ := hrel
          cases gk with
          | zero => exact absurd HA.out (by simp [scarflaw10_LexAgain.l0])
          | succ k2 =>
            have H := HA.out
            clear HA
            simp only [scarflaw10_LexAgain.l0] at H
            by_cases c8 : x10_2 < (t208.length : Int)
            · rw [if_pos c8] at H
              have c8b0 : decide (x10_2 < (t208.length : Int)) = true := decide_eq_true c8
              clear c8
              by_cases c9 : 0 ≤ x10_2
              · rw [if_pos c9] at H
                have c9b0 : decide (0 ≤ x10_2) = true := decide_eq_true c9
                clear c9
                replace H := Option.bind_eq_some_iff.mp H
                obtain ⟨t215, A100, H⟩ := H
                replace H : (if ((rd_T33 t208 x10_2).f2) < 0 then (some false) else (if ((rd_T33 t208 x10_2).f2) > (wrap64 ((a0.size : Int) - (t215.size : Int))) then (some false) else (if 0 ≤ ((rd_T33 t208 x10_2).f2) then (if ((rd_T33 t208 x10_2).f2) ≤ (wrap64 (((rd_T33 t208 x10_2).f2) + (t215.size : Int))) then (if (wrap64 (((rd_T33 t208 x10_2).f2) + (t215.size : Int))) ≤ (a0.size : Int) then (if (a0.extract (((rd_T33 t208 x10_2).f2) : Int).toNat ((wrap64 (((rd_T33 t208 x10_2).f2) + (t215.size : Int))) : Int).toNat).toList = t215.toList then (if x9_2.size + t215.size ≤ 9223372036854775807 then (if (x9_2 ++ t215).size + x8_4.size ≤ 9223372036854775807 then (scarflaw10_LexAgain.l0 k2 a0 t208 x8_4 ((x9_2 ++ t215) ++ x8_4) (wrap64 (x10_2 + 1))) else (none)) else (none)) else (some false)) else (none)) else (none)) else (none)))) = some r := H
                have A10 := Aside0.mk A100
                clear A100
                by_cases c11 : ((rd_T33 t208 x10_2).f2) < 0
                · rw [if_pos c11] at H
                  have c11b0 : decide (((rd_T33 t208 x10_2).f2) < 0) = true := decide_eq_true c11
                  clear c11
                  obtain rfl := Option.some.inj H
                  obtain ⟨Ao12, co12, eo12⟩ := Kd.R_slice HO_5.out
                  subst eo12
                  have p214 : 0 ≤ (x10_2 : Int) := of_decide_eq_true (by first | (with_reducible assumption) | assumption)
                  have q214 : x10_2 < (t208.length : Int) := of_decide_eq_true (by first | (with_reducible assumption) | assumption)
                  obtain ⟨ad214, e214, hx214_0, hx214_1, hx214_2⟩ := at_T33 (Kd.R_reads' HO_5.out).2.2 x10_2 p214 q214
                  cases e214
                  replace p214 := eq_true p214
                  replace q214 := eq_true q214
                  go_wp2_with (first | (go_at_call 12; (with_reducible refine (scarflaw10_text.calls ((rd_T33 t208 x10_2).f0) ((rd_T33 t208 x10_2).f1) ((rd_T33 t208 x10_2).f2) t215 _ A10.out).mono ?_); rintro e w13 ⟨rfl, hb⟩; have n0_ := Aside0.mk (Kd.R_below (by (with_reducible repeat (first | apply Kd.R_alloc | apply Kd.R_drewN | apply Kd.R_drew)); exact HO_5.out) hb); have n1_ := Aside0.mk (below_step (by repeat (first | (with_reducible first | exact HB.out | apply below_alloc | apply pw_below_drewN | apply below_drew1) | exact HB.out)) hb); clear HO_5; clear HB; have HO_5 := n0_; have HB := n1_; clear n0_ n1_; (try clear hb); (try clear hb2); (try clear hk); (try clear hi); have p216 : 0 ≤ (x10_2 : Int) := of_decide_eq_true (by first | (with_reducible assumption) | assumption); have q216 : x10_2 < (t208.length : Int) := of_decide_eq_true (by first | (with_reducible assumption) | assumption); obtain ⟨ad216, e216, hx216_0, hx216_1, hx216_2⟩ := at_T33 (Kd.R_reads' HO_5.out).2.2 x10_2 p216 q216; obtain rfl : ad214 = ad216 := (by injection e216); replace p216 := eq_true p216; replace q216 := eq_true q216))
                  repeat (go_quiet (first | (go_at_call 12; (with_reducible refine (scarflaw10_text.calls ((rd_T33 t208 x10_2).f0) ((rd_T33 t208 x10_2).f1) ((rd_T33 t208 x10_2).f2) t215 _ A10.out).mono ?_); rintro e w13 ⟨rfl, hb⟩; have n0_ := Aside0.mk (Kd.R_below (by (with_reducible repeat (first | apply Kd.R_alloc | apply Kd.R_drewN | apply Kd.R_drew)); exact HO_5.out) hb); have n1_ := Aside0.mk (below_step (by repeat (first | (with_reducible first | exact HB.out | apply below_alloc | apply pw_below_drewN | apply below_drew1) | exact HB.out)) hb); clear HO_5; clear HB; have HO_5 := n0_; have HB := n1_; clear n0_ n1_; (try clear hb); (try clear hb2); (try clear hk); (try clear hi); have p216 : 0 ≤ (x10_2 : Int) := of_decide_eq_true (by first | (with_reducible assumption) | assumption); have q216 : x10_2 < (t208.length : Int) := of_decide_eq_true (by first | (with_reducible assumption) | assumption); obtain ⟨ad216, e216, hx216_0, hx216_1, hx216_2⟩ := at_T33 (Kd.R_reads' HO_5.out).2.2 x10_2 p216 q216; obtain rfl : ad214 = ad216 := (by injection e216); replace p216 := eq_true p216; replace q216 := eq_true q216)); try go_wp2_with (first | (go_at_call 12; (with_reducible refine (scarflaw10_text.calls ((rd_T33 t208 x10_2).f0) ((rd_T33 t208 x10_2).f1) ((rd_T33 t208 x10_2).f2) t215 _ A10.out).mono ?_); rintro e w13 ⟨rfl, hb⟩; have n0_ := Aside0.mk (Kd.R_below (by (with_reducible repeat (first | apply Kd.R_alloc | apply Kd.R_drewN | apply Kd.R_drew)); exact HO_5.out) hb); have n1_ := Aside0.mk (below_step (by repeat (first | (with_reducible first | exact HB.out | apply below_alloc | apply pw_below_drewN | apply below_drew1) | exact HB.out)) hb); clear HO_5; clear HB; have HO_5 := n0_; have HB := n1_; clear n0_ n1_; (try clear hb); (try clear hb2); (try clear hk); (try clear hi); have p216 : 0 ≤ (x10_2 : Int) := of_decide_eq_true (by first | (with_reducible assumption) | assumption); have q216 : x10_2 < (t208.length : Int) := of_decide_eq_true (by first | (with_reducible assumption) | assumption); obtain ⟨ad216, e216, hx216_0, hx216_1, hx216_2⟩ := at_T33 (Kd.R_reads' HO_5.out).2.2 x10_2 p216 q216; obtain rfl : ad214 = ad216 := (by injection e216); replace p216 := eq_true p216; replace q216 := eq_true q216)))
                  go_ret
                  exact ⟨by first | rfl | (simp [errW_none, errW_some] <;> rfl) | (simp [*, errW_none, errW_some] <;> rfl), by repeat (first | (with_reducible first | exact HB.out | apply below_alloc | apply pw_below_drewN | apply below_drew1) | exact HB.out)⟩
                · rw [if_neg c11] at H
                  have c11b0 : decide (((rd_T33 t208 x10_2).f2) < 0) = false := decide_eq_false c11
                  clear c11
                  by_cases c14 : ((rd_T33 t208 x10_2).f2) > (wrap64 ((a0.size : Int) - (t215.size : Int)))
                  · rw [if_pos c14] at H
                    have c14b0 : decide ((wrap64 ((a0.size : Int) - (t215.size : Int))) < ((rd_T33 t208 x10_2).f2)) = true := decide_eq_true c14
                    clear c14
                    obtain rfl := Option.some.inj H
                    obtain ⟨Ao15, co15, eo15⟩ := Kd.R_slice HO_5.out
                    subst eo15
                    have p214 : 0 ≤ (x10_2 : Int) := of_decide_eq_true (by first | (with_reducible assumption) | assumption)
                    have q214 : x10_2 < (t208.length : Int) := of_decide_eq_true (by first | (with_reducible assumption) | assumption)
                    obtain ⟨ad214, e214, hx214_0, hx214_1, hx214_2⟩ := at_T33 (Kd.R_reads' HO_5.out).2.2 x10_2 p214 q214
                    cases e214
                    replace p214 := eq_true p214
                    replace q214 := eq_true q214
                    go_wp2_with (first | (go_at_call 12; (with_reducible refine (scarflaw10_text.calls ((rd_T33 t208 x10_2).f0) ((rd_T33 t208 x10_2).f1) ((rd_T33 t208 x10_2).f2) t215 _ A10.out).mono ?_); rintro e w16 ⟨rfl, hb⟩; have n0_ := Aside0.mk (Kd.R_below (by (with_reducible repeat (first | apply Kd.R_alloc | apply Kd.R_drewN | apply Kd.R_drew)); exact HO_5.out) hb); have n1_ := Aside0.mk (below_step (by repeat (first | (with_reducible first | exact HB.out | apply below_alloc | apply pw_below_drewN | apply below_drew1) | exact HB.out)) hb); clear HO_5; clear HB; have HO_5 := n0_; have HB := n1_; clear n0_ n1_; (try clear hb); (try clear hb2); (try clear hk); (try clear hi); have p216 : 0 ≤ (x10_2 : Int) := of_decide_eq_true (by first | (with_reducible assumption) | assumption); have q216 : x10_2 < (t208.length : Int) := of_decide_eq_true (by first | (with_reducible assumption) | assumption); obtain ⟨ad216, e216, hx216_0, hx216_1, hx216_2⟩ := at_T33 (Kd.R_reads' HO_5.out).2.2 x10_2 p216 q216; obtain rfl : ad214 = ad216 := (by injection e216); replace p216 := eq_true p216; replace q216 := eq_true q216; have p217 : 0 ≤ (x10_2 : Int) := of_decide_eq_true (by first | (with_reducible assumption) | assumption); have q217 : x10_2 < (t208.length : Int) := of_decide_eq_true (by first | (with_reducible assumption) | assumption); obtain ⟨ad217, e217, hx217_0, hx217_1, hx217_2⟩ := at_T33 (Kd.R_reads' HO_5.out).2.2 x10_2 p217 q217; obtain rfl : ad214 = ad217 := (by injection e217); replace p217 := eq_true p217; replace q217 := eq_true q217))
                    repeat (go_quiet (first | (go_at_call 12; (with_reducible refine (scarflaw10_text.calls ((rd_T33 t208 x10_2).f0) ((rd_T33 t208 x10_2).f1) ((rd_T33 t208 x10_2).f2) t215 _ A10.out).mono ?_); rintro e w16 ⟨rfl, hb⟩; have n0_ := Aside0.mk (Kd.R_below (by (with_reducible repeat (first | apply Kd.R_alloc | apply Kd.R_drewN | apply Kd.R_drew)); exact HO_5.out) hb); have n1_ := Aside0.mk (below_step (by repeat (first | (with_reducible first | exact HB.out | apply below_alloc | apply pw_below_drewN | apply below_drew1) | exact HB.out)) hb); clear HO_5; clear HB; have HO_5 := n0_; have HB := n1_; clear n0_ n1_; (try clear hb); (try clear hb2); (try clear hk); (try clear hi); have p216 : 0 ≤ (x10_2 : Int) := of_decide_eq_true (by first | (with_reducible assumption) | assumption); have q216 : x10_2 < (t208.length : Int) := of_decide_eq_true (by first | (with_reducible assumption) | assumption); obtain ⟨ad216, e216, hx216_0, hx216_1, hx216_2⟩ := at_T33 (Kd.R_reads' HO_5.out).2.2 x10_2 p216 q216; obtain rfl : ad214 = ad216 := (by injection e216); replace p216 := eq_true p216; replace q216 := eq_true q216; have p217 : 0 ≤ (x10_2 : Int) := of_decide_eq_true (by first | (with_reducible assumption) | assumption); have q217 : x10_2 < (t208.length : Int) := of_decide_eq_true (by first | (with_reducible assumption) | assumption); obtain ⟨ad217, e217, hx217_0, hx217_1, hx217_2⟩ := at_T33 (Kd.R_reads' HO_5.out).2.2 x10_2 p217 q217; obtain rfl : ad214 = ad217 := (by injection e217); replace p217 := eq_true p217; replace q217 := eq_true q217)); try go_wp2_with (first | (go_at_call 12; (with_reducible refine (scarflaw10_text.calls ((rd_T33 t208 x10_2).f0) ((rd_T33 t208 x10_2).f1) ((rd_T33 t208 x10_2).f2) t215 _ A10.out).mono ?_); rintro e w16 ⟨rfl, hb⟩; have n0_ := Aside0.mk (Kd.R_below (by (with_reducible repeat (first | apply Kd.R_alloc | apply Kd.R_drewN | apply Kd.R_drew)); exact HO_5.out) hb); have n1_ := Aside0.mk (below_step (by repeat (first | (with_reducible first | exact HB.out | apply below_alloc | apply pw_below_drewN | apply below_drew1) | exact HB.out)) hb); clear HO_5; clear HB; have HO_5 := n0_; have HB := n1_; clear n0_ n1_; (try clear hb); (try clear hb2); (try clear hk); (try clear hi); have p216 : 0 ≤ (x10_2 : Int) := of_decide_eq_true (by first | (with_reducible assumption) | assumption); have q216 : x10_2 < (t208.length : Int) := of_decide_eq_true (by first | (with_reducible assumption) | assumption); obtain ⟨ad216, e216, hx216_0, hx216_1, hx216_2⟩ := at_T33 (Kd.R_reads' HO_5.out).2.2 x10_2 p216 q216; obtain rfl : ad214 = ad216 := (by injection e216); replace p216 := eq_true p216; replace q216 := eq_true q216; have p217 : 0 ≤ (x10_2 : Int) := of_decide_eq_true (by first | (with_reducible assumption) | assumption); have q217 : x10_2 < (t208.length : Int) := of_decide_eq_true (by first | (with_reducible assumption) | assumption); obtain ⟨ad217, e217, hx217_0, hx217_1, hx217_2⟩ := at_T33 (Kd.R_reads' HO_5.out).2.2 x10_2 p217 q217; obtain rfl : ad214 = ad217 := (by injection e217); replace p217 := eq_true p217; replace q217 := eq_true q217)))
                    go_ret
                    exact ⟨by first | rfl | (simp [errW_none, errW_some] <;> rfl) | (simp [*, errW_none, errW_some] <;> rfl), by repeat (first | (with_reducible first | exact HB.out | apply below_alloc | apply pw_below_drewN | apply below_drew1) | exact HB.out)⟩
                  · rw [if_neg c14] at H
                    have c14b0 : decide ((wrap64 ((a0.size : Int) - (t215.size : Int))) < ((rd_T33 t208 x10_2).f2)) = false := decide_eq_false c14
                    clear c14
                    by_cases c17 : 0 ≤ ((rd_T33 t208 x10_2).f2)
                    · rw [if_pos c17] at H
                      have c17b0 := eq_true c17
                      have c17b1 : decide (0 ≤ ((rd_T33 t208 x10_2).f2)) = true := decide_eq_true c17
                      clear c17
                      by_cases c18 : ((rd_T33 t208 x10_2).f2) ≤ (wrap64 (((rd_T33 t208 x10_2).f2) + (t215.size : Int)))
                      · rw [if_pos c18] at H
                        have c18b0 := eq_true c18
                        have c18b1 : decide (((rd_T33 t208 x10_2).f2) ≤ (wrap64 (((rd_T33 t208 x10_2).f2) + (t215.size : Int)))) = true := decide_eq_true c18
                        by_cases c19 : (wrap64 (((rd_T33 t208 x10_2).f2) + (t215.size : Int))) ≤ (a0.size : Int)
                        · rw [if_pos c19] at H
                          have c19b0 := eq_true c19
                          have c19b1 : decide ((wrap64 (((rd_T33 t208 x10_2).f2) + (t215.size : Int))) ≤ (a0.size : Int)) = true := decide_eq_true c19
                          by_cases c20 : (a0.extract (((rd_T33 t208 x10_2).f2) : Int).toNat ((wrap64 (((rd_T33 t208 x10_2).f2) + (t215.size : Int))) : Int).toNat).toList = t215.toList
                          · rw [if_pos c20] at H
                            have c20b0 : ((a0.extract (((rd_T33 t208 x10_2).f2) : Int).toNat ((wrap64 (((rd_T33 t208 x10_2).f2) + (t215.size : Int))) : Int).toNat).toList == t215.toList) = true := beq_iff_eq.mpr c20
                            have c20b1 : ((a0.extract (((rd_T33 t208 x10_2).f2) : Int).toNat ((wrap64 (((rd_T33 t208 x10_2).f2) + (t215.size : Int))) : Int).toNat).toList != t215.toList) = false := bne_eq_false_iff_eq.mpr c20
                            clear c20
                            by_cases c21 : x9_2.size + t215.size ≤ 9223372036854775807
                            · rw [if_pos c21] at H
                              have c21b0 := eq_true c21
                              have c21b1 : decide (x9_2.size + t215.size ≤ 9223372036854775807) = true := decide_eq_true c21
                              try have c21b2 : (9223372036854775807 < x9_2.size + t215.size) = False := eq_false (Nat.not_lt.2 c21)
                              by_cases c22 : (x9_2 ++ t215).size + x8_4.size ≤ 9223372036854775807
                              · rw [if_pos c22] at H
                                have c22b0 := eq_true c22
                                have c22b1 : decide ((x9_2 ++ t215).size + x8_4.size ≤ 9223372036854775807) = true := decide_eq_true c22
                                try have c22b2 : (9223372036854775807 < (x9_2 ++ t215).size + x8_4.size) = False := eq_false (Nat.not_lt.2 c22)
                                have H' := Aside0.mk H
                                clear H
                                obtain ⟨Ao23, co23, eo23⟩ := Kd.R_slice HO_5.out
                                subst eo23
                                have p214 : 0 ≤ (x10_2 : Int) := of_decide_eq_true (by first | (with_reducible assumption) | assumption)
                                have q214 : x10_2 < (t208.length : Int) := of_decide_eq_true (by first | (with_reducible assumption) | assumption)
                                obtain ⟨ad214, e214, hx214_0, hx214_1, hx214_2⟩ := at_T33 (Kd.R_reads' HO_5.out).2.2 x10_2 p214 q214
                                cases e214
                                replace p214 := eq_true p214
                                replace q214 := eq_true q214
                                go_wp2_with (first | (go_at_call 12; (with_reducible refine (scarflaw10_text.calls ((rd_T33 t208 x10_2).f0) ((rd_T33 t208 x10_2).f1) ((rd_T33 t208 x10_2).f2) t215 _ A10.out).mono ?_); rintro e w24 ⟨rfl, hb⟩; have n0_ := Aside0.mk (Kd.R_below (by (with_reducible repeat (first | apply Kd.R_alloc | apply Kd.R_drewN | apply Kd.R_drew)); exact HO_5.out) hb); have n1_ := Aside0.mk (below_step (by repeat (first | (with_reducible first | exact HB.out | apply below_alloc | apply pw_below_drewN | apply below_drew1) | exact HB.out)) hb); clear HO_5; clear HB; have HO_5 := n0_; have HB := n1_; clear n0_ n1_; (try clear hb); (try clear hb2); (try clear hk); (try clear hi); have p216 : 0 ≤ (x10_2 : Int) := of_decide_eq_true (by first | (with_reducible assumption) | assumption); have q216 : x10_2 < (t208.length : Int) := of_decide_eq_true (by first | (with_reducible assumption) | assumption); obtain ⟨ad216, e216, hx216_0, hx216_1, hx216_2⟩ := at_T33 (Kd.R_reads' HO_5.out).2.2 x10_2 p216 q216; obtain rfl : ad214 = ad216 := (by injection e216); replace p216 := eq_true p216; replace q216 := eq_true q216; have p217 : 0 ≤ (x10_2 : Int) := of_decide_eq_true (by first | (with_reducible assumption) | assumption); have q217 : x10_2 < (t208.length : Int) := of_decide_eq_true (by first | (with_reducible assumption) | assumption); obtain ⟨ad217, e217, hx217_0, hx217_1, hx217_2⟩ := at_T33 (Kd.R_reads' HO_5.out).2.2 x10_2 p217 q217; obtain rfl : ad214 = ad217 := (by injection e217); replace p217 := eq_true p217; replace q217 := eq_true q217; have p218 : 0 ≤ (x10_2 : Int) := of_decide_eq_true (by first | (with_reducible assumption) | assumption); have q218 : x10_2 < (t208.length : Int) := of_decide_eq_true (by first | (with_reducible assumption) | assumption); obtain ⟨ad218, e218, hx218_0, hx218_1, hx218_2⟩ := at_T33 (Kd.R_reads' HO_5.out).2.2 x10_2 p218 q218; obtain rfl : ad214 = ad218 := (by injection e218); replace p218 := eq_true p218; replace q218 := eq_true q218; have p219 : 0 ≤ (x10_2 : Int) := of_decide_eq_true (by first | (with_reducible assumption) | assumption); have q219 : x10_2 < (t208.length : Int) := of_decide_eq_true (by first | (with_reducible assumption) | assumption); obtain ⟨ad219, e219, hx219_0, hx219_1, hx219_2⟩ := at_T33 (Kd.R_reads' HO_5.out).2.2 x10_2 p219 q219; obtain rfl : ad214 = ad219 := (by injection e219); replace p219 := eq_true p219; replace q219 := eq_true q219))
                                repeat (go_quiet (first | (go_at_call 12; (with_reducible refine (scarflaw10_text.calls ((rd_T33 t208 x10_2).f0) ((rd_T33 t208 x10_2).f1) ((rd_T33 t208 x10_2).f2) t215 _ A10.out).mono ?_); rintro e w24 ⟨rfl, hb⟩; have n0_ := Aside0.mk (Kd.R_below (by (with_reducible repeat (first | apply Kd.R_alloc | apply Kd.R_drewN | apply Kd.R_drew)); exact HO_5.out) hb); have n1_ := Aside0.mk (below_step (by repeat (first | (with_reducible first | exact HB.out | apply below_alloc | apply pw_below_drewN | apply below_drew1) | exact HB.out)) hb); clear HO_5; clear HB; have HO_5 := n0_; have HB := n1_; clear n0_ n1_; (try clear hb); (try clear hb2); (try clear hk); (try clear hi); have p216 : 0 ≤ (x10_2 : Int) := of_decide_eq_true (by first | (with_reducible assumption) | assumption); have q216 : x10_2 < (t208.length : Int) := of_decide_eq_true (by first | (with_reducible assumption) | assumption); obtain ⟨ad216, e216, hx216_0, hx216_1, hx216_2⟩ := at_T33 (Kd.R_reads' HO_5.out).2.2 x10_2 p216 q216; obtain rfl : ad214 = ad216 := (by injection e216); replace p216 := eq_true p216; replace q216 := eq_true q216; have p217 : 0 ≤ (x10_2 : Int) := of_decide_eq_true (by first | (with_reducible assumption) | assumption); have q217 : x10_2 < (t208.length : Int) := of_decide_eq_true (by first | (with_reducible assumption) | assumption); obtain ⟨ad217, e217, hx217_0, hx217_1, hx217_2⟩ := at_T33 (Kd.R_reads' HO_5.out).2.2 x10_2 p217 q217; obtain rfl : ad214 = ad217 := (by injection e217); replace p217 := eq_true p217; replace q217 := eq_true q217; have p218 : 0 ≤ (x10_2 : Int) := of_decide_eq_true (by first | (with_reducible assumption) | assumption); have q218 : x10_2 < (t208.length : Int) := of_decide_eq_true (by first | (with_reducible assumption) | assumption); obtain ⟨ad218, e218, hx218_0, hx218_1, hx218_2⟩ := at_T33 (Kd.R_reads' HO_5.out).2.2 x10_2 p218 q218; obtain rfl : ad214 = ad218 := (by injection e218); replace p218 := eq_true p218; replace q218 := eq_true q218; have p219 : 0 ≤ (x10_2 : Int) := of_decide_eq_true (by first | (with_reducible assumption) | assumption); have q219 : x10_2 < (t208.length : Int) := of_decide_eq_true (by first | (with_reducible assumption) | assumption); obtain ⟨ad219, e219, hx219_0, hx219_1, hx219_2⟩ := at_T33 (Kd.R_reads' HO_5.out).2.2 x10_2 p219 q219; obtain rfl : ad214 = ad219 := (by injection e219); replace p219 := eq_true p219; replace q219 := eq_true q219)); try go_wp2_with (first | (go_at_call 12; (with_reducible refine (scarflaw10_text.calls ((rd_T33 t208 x10_2).f0) ((rd_T33 t208 x10_2).f1) ((rd_T33 t208 x10_2).f2) t215 _ A10.out).mono ?_); rintro e w24 ⟨rfl, hb⟩; have n0_ := Aside0.mk (Kd.R_below (by (with_reducible repeat (first | apply Kd.R_alloc | apply Kd.R_drewN | apply Kd.R_drew)); exact HO_5.out) hb); have n1_ := Aside0.mk (below_step (by repeat (first | (with_reducible first | exact HB.out | apply below_alloc | apply pw_below_drewN | apply below_drew1) | exact HB.out)) hb); clear HO_5; clear HB; have HO_5 := n0_; have HB := n1_; clear n0_ n1_; (try clear hb); (try clear hb2); (try clear hk); (try clear hi); have p216 : 0 ≤ (x10_2 : Int) := of_decide_eq_true (by first | (with_reducible assumption) | assumption); have q216 : x10_2 < (t208.length : Int) := of_decide_eq_true (by first | (with_reducible assumption) | assumption); obtain ⟨ad216, e216, hx216_0, hx216_1, hx216_2⟩ := at_T33 (Kd.R_reads' HO_5.out).2.2 x10_2 p216 q216; obtain rfl : ad214 = ad216 := (by injection e216); replace p216 := eq_true p216; replace q216 := eq_true q216; have p217 : 0 ≤ (x10_2 : Int) := of_decide_eq_true (by first | (with_reducible assumption) | assumption); have q217 : x10_2 < (t208.length : Int) := of_decide_eq_true (by first | (with_reducible assumption) | assumption); obtain ⟨ad217, e217, hx217_0, hx217_1, hx217_2⟩ := at_T33 (Kd.R_reads' HO_5.out).2.2 x10_2 p217 q217; obtain rfl : ad214 = ad217 := (by injection e217); replace p217 := eq_true p217; replace q217 := eq_true q217; have p218 : 0 ≤ (x10_2 : Int) := of_decide_eq_true (by first | (with_reducible assumption) | assumption); have q218 : x10_2 < (t208.length : Int) := of_decide_eq_true (by first | (with_reducible assumption) | assumption); obtain ⟨ad218, e218, hx218_0, hx218_1, hx218_2⟩ := at_T33 (Kd.R_reads' HO_5.out).2.2 x10_2 p218 q218; obtain rfl : ad214 = ad218 := (by injection e218); replace p218 := eq_true p218; replace q218 := eq_true q218; have p219 : 0 ≤ (x10_2 : Int) := of_decide_eq_true (by first | (with_reducible assumption) | assumption); have q219 : x10_2 < (t208.length : Int) := of_decide_eq_true (by first | (with_reducible assumption) | assumption); obtain ⟨ad219, e219, hx219_0, hx219_1, hx219_2⟩ := at_T33 (Kd.R_reads' HO_5.out).2.2 x10_2 p219 q219; obtain rfl : ad214 = ad219 := (by injection e219); replace p219 := eq_true p219; replace q219 := eq_true q219)))
                                go_roundg k2
                                case measure => have := HJ4.out; have := HK2.out; omega
                                case rel => exact ⟨((x9_2 ++ t215) ++ x8_4), (wrap64 (x10_2 + 1)), (by first | rfl | (simp; done) | (simp [*]; done)), (by first | rfl | (simp; done) | (simp [*]; done)), H', ⟨by have := HJ4.out; have := HK2.out; omega⟩, ⟨by (with_reducible repeat (first | apply Kd.R_alloc | apply Kd.R_drewN | apply Kd.R_drew)); exact HO_5.out⟩, ⟨by repeat (first | (with_reducible first | exact HB.out | apply below_alloc | apply pw_below_drewN | apply below_drew1) | exact HB.out)⟩⟩
                              · rw [if_neg c22] at H
                                exact absurd H (by simp)
                            · rw [if_neg c21] at H
                              exact absurd H (by simp)
                          · rw [if_neg c20] at H
                            have c20b0 : ((a0.extract (((rd_T33 t208 x10_2).f2) : Int).toNat ((wrap64 (((rd_T33 t208 x10_2).f2) + (t215.size : Int))) : Int).toNat).toList == t215.toList) = false := beq_eq_false_iff_ne.mpr c20
                            have c20b1 : ((a0.extract (((rd_T33 t208 x10_2).f2) : Int).toNat ((wrap64 (((rd_T33 t208 x10_2).f2) + (t215.size : Int))) : Int).toNat).toList != t215.toList) = true := bne_iff_ne.mpr c20
                            obtain rfl := Option.some.inj H
                            obtain ⟨Ao25, co25, eo25⟩ := Kd.R_slice HO_5.out
                            subst eo25
                            have p214 : 0 ≤ (x10_2 : Int) := of_decide_eq_true (by first | (with_reducible assumption) | assumption)
                            have q214 : x10_2 < (t208.length : Int) := of_decide_eq_true (by first | (with_reducible assumption) | assumption)
                            obtain ⟨ad214, e214, hx214_0, hx214_1, hx214_2⟩ := at_T33 (Kd.R_reads' HO_5.out).2.2 x10_2 p214 q214
                            cases e214
                            replace p214 := eq_true p214
                            replace q214 := eq_true q214
                            go_wp2_with (first | (go_at_call 12; (with_reducible refine (scarflaw10_text.calls ((rd_T33 t208 x10_2).f0) ((rd_T33 t208 x10_2).f1) ((rd_T33 t208 x10_2).f2) t215 _ A10.out).mono ?_); rintro e w26 ⟨rfl, hb⟩; have n0_ := Aside0.mk (Kd.R_below (by (with_reducible repeat (first | apply Kd.R_alloc | apply Kd.R_drewN | apply Kd.R_drew)); exact HO_5.out) hb); have n1_ := Aside0.mk (below_step (by repeat (first | (with_reducible first | exact HB.out | apply below_alloc | apply pw_below_drewN | apply below_drew1) | exact HB.out)) hb); clear HO_5; clear HB; have HO_5 := n0_; have HB := n1_; clear n0_ n1_; (try clear hb); (try clear hb2); (try clear hk); (try clear hi); have p216 : 0 ≤ (x10_2 : Int) := of_decide_eq_true (by first | (with_reducible assumption) | assumption); have q216 : x10_2 < (t208.length : Int) := of_decide_eq_true (by first | (with_reducible assumption) | assumption); obtain ⟨ad216, e216, hx216_0, hx216_1, hx216_2⟩ := at_T33 (Kd.R_reads' HO_5.out).2.2 x10_2 p216 q216; obtain rfl : ad214 = ad216 := (by injection e216); replace p216 := eq_true p216; replace q216 := eq_true q216; have p217 : 0 ≤ (x10_2 : Int) := of_decide_eq_true (by first | (with_reducible assumption) | assumption); have q217 : x10_2 < (t208.length : Int) := of_decide_eq_true (by first | (with_reducible assumption) | assumption); obtain ⟨ad217, e217, hx217_0, hx217_1, hx217_2⟩ := at_T33 (Kd.R_reads' HO_5.out).2.2 x10_2 p217 q217; obtain rfl : ad214 = ad217 := (by injection e217); replace p217 := eq_true p217; replace q217 := eq_true q217; have p218 : 0 ≤ (x10_2 : Int) := of_decide_eq_true (by first | (with_reducible assumption) | assumption); have q218 : x10_2 < (t208.length : Int) := of_decide_eq_true (by first | (with_reducible assumption) | assumption); obtain ⟨ad218, e218, hx218_0, hx218_1, hx218_2⟩ := at_T33 (Kd.R_reads' HO_5.out).2.2 x10_2 p218 q218; obtain rfl : ad214 = ad218 := (by injection e218); replace p218 := eq_true p218; replace q218 := eq_true q218; have p219 : 0 ≤ (x10_2 : Int) := of_decide_eq_true (by first | (with_reducible assumption) | assumption); have q219 : x10_2 < (t208.length : Int) := of_decide_eq_true (by first | (with_reducible assumption) | assumption); obtain ⟨ad219, e219, hx219_0, hx219_1, hx219_2⟩ := at_T33 (Kd.R_reads' HO_5.out).2.2 x10_2 p219 q219; obtain rfl : ad214 = ad219 := (by injection e219); replace p219 := eq_true p219; replace q219 := eq_true q219))
                            repeat (go_quiet (first | (go_at_call 12; (with_reducible refine (scarflaw10_text.calls ((rd_T33 t208 x10_2).f0) ((rd_T33 t208 x10_2).f1) ((rd_T33 t208 x10_2).f2) t215 _ A10.out).mono ?_); rintro e w26 ⟨rfl, hb⟩; have n0_ := Aside0.mk (Kd.R_below (by (with_reducible repeat (first | apply Kd.R_alloc | apply Kd.R_drewN | apply Kd.R_drew)); exact HO_5.out) hb); have n1_ := Aside0.mk (below_step (by repeat (first | (with_reducible first | exact HB.out | apply below_alloc | apply pw_below_drewN | apply below_drew1) | exact HB.out)) hb); clear HO_5; clear HB; have HO_5 := n0_; have HB := n1_; clear n0_ n1_; (try clear hb); (try clear hb2); (try clear hk); (try clear hi); have p216 : 0 ≤ (x10_2 : Int) := of_decide_eq_true (by first | (with_reducible assumption) | assumption); have q216 : x10_2 < (t208.length : Int) := of_decide_eq_true (by first | (with_reducible assumption) | assumption); obtain ⟨ad216, e216, hx216_0, hx216_1, hx216_2⟩ := at_T33 (Kd.R_reads' HO_5.out).2.2 x10_2 p216 q216; obtain rfl : ad214 = ad216 := (by injection e216); replace p216 := eq_true p216; replace q216 := eq_true q216; have p217 : 0 ≤ (x10_2 : Int) := of_decide_eq_true (by first | (with_reducible assumption) | assumption); have q217 : x10_2 < (t208.length : Int) := of_decide_eq_true (by first | (with_reducible assumption) | assumption); obtain ⟨ad217, e217, hx217_0, hx217_1, hx217_2⟩ := at_T33 (Kd.R_reads' HO_5.out).2.2 x10_2 p217 q217; obtain rfl : ad214 = ad217 := (by injection e217); replace p217 := eq_true p217; replace q217 := eq_true q217; have p218 : 0 ≤ (x10_2 : Int) := of_decide_eq_true (by first | (with_reducible assumption) | assumption); have q218 : x10_2 < (t208.length : Int) := of_decide_eq_true (by first | (with_reducible assumption) | assumption); obtain ⟨ad218, e218, hx218_0, hx218_1, hx218_2⟩ := at_T33 (Kd.R_reads' HO_5.out).2.2 x10_2 p218 q218; obtain rfl : ad214 = ad218 := (by injection e218); replace p218 := eq_true p218; replace q218 := eq_true q218; have p219 : 0 ≤ (x10_2 : Int) := of_decide_eq_true (by first | (with_reducible assumption) | assumption); have q219 : x10_2 < (t208.length : Int) := of_decide_eq_true (by first | (with_reducible assumption) | assumption); obtain ⟨ad219, e219, hx219_0, hx219_1, hx219_2⟩ := at_T33 (Kd.R_reads' HO_5.out).2.2 x10_2 p219 q219; obtain rfl : ad214 = ad219 := (by injection e219); replace p219 := eq_true p219; replace q219 := eq_true q219)); try go_wp2_with (first | (go_at_call 12; (with_reducible refine (scarflaw10_text.calls ((rd_T33 t208 x10_2).f0) ((rd_T33 t208 x10_2).f1) ((rd_T33 t208 x10_2).f2) t215 _ A10.out).mono ?_); rintro e w26 ⟨rfl, hb⟩; have n0_ := Aside0.mk (Kd.R_below (by (with_reducible repeat (first | apply Kd.R_alloc | apply Kd.R_drewN | apply Kd.R_drew)); exact HO_5.out) hb); have n1_ := Aside0.mk (below_step (by repeat (first | (with_reducible first | exact HB.out | apply below_alloc | apply pw_below_drewN | apply below_drew1) | exact HB.out)) hb); clear HO_5; clear HB; have HO_5 := n0_; have HB := n1_; clear n0_ n1_; (try clear hb); (try clear hb2); (try clear hk); (try clear hi); have p216 : 0 ≤ (x10_2 : Int) := of_decide_eq_true (by first | (with_reducible assumption) | assumption); have q216 : x10_2 < (t208.length : Int) := of_decide_eq_true (by first | (with_reducible assumption) | assumption); obtain ⟨ad216, e216, hx216_0, hx216_1, hx216_2⟩ := at_T33 (Kd.R_reads' HO_5.out).2.2 x10_2 p216 q216; obtain rfl : ad214 = ad216 := (by injection e216); replace p216 := eq_true p216; replace q216 := eq_true q216; have p217 : 0 ≤ (x10_2 : Int) := of_decide_eq_true (by first | (with_reducible assumption) | assumption); have q217 : x10_2 < (t208.length : Int) := of_decide_eq_true (by first | (with_reducible assumption) | assumption); obtain ⟨ad217, e217, hx217_0, hx217_1, hx217_2⟩ := at_T33 (Kd.R_reads' HO_5.out).2.2 x10_2 p217 q217; obtain rfl : ad214 = ad217 := (by injection e217); replace p217 := eq_true p217; replace q217 := eq_true q217; have p218 : 0 ≤ (x10_2 : Int) := of_decide_eq_true (by first | (with_reducible assumption) | assumption); have q218 : x10_2 < (t208.length : Int) := of_decide_eq_true (by first | (with_reducible assumption) | assumption); obtain ⟨ad218, e218, hx218_0, hx218_1, hx218_2⟩ := at_T33 (Kd.R_reads' HO_5.out).2.2 x10_2 p218 q218; obtain rfl : ad214 = ad218 := (by injection e218); replace p218 := eq_true p218; replace q218 := eq_true q218; have p219 : 0 ≤ (x10_2 : Int) := of_decide_eq_true (by first | (with_reducible assumption) | assumption); have q219 : x10_2 < (t208.length : Int) := of_decide_eq_true (by first | (with_reducible assumption) | assumption); obtain ⟨ad219, e219, hx219_0, hx219_1, hx219_2⟩ := at_T33 (Kd.R_reads' HO_5.out).2.2 x10_2 p219 q219; obtain rfl : ad214 = ad219 := (by injection e219); replace p219 := eq_true p219; replace q219 := eq_true q219)))
                            go_ret
                            exact ⟨by first | rfl | (simp [errW_none, errW_some] <;> rfl) | (simp [*, errW_none, errW_some] <;> rfl), by repeat (first | (with_reducible first | exact HB.out | apply below_alloc | apply pw_below_drewN | apply below_drew1) | exact HB.out)⟩
                        · rw [if_neg c19] at H
                          exact absurd H (by simp)
                      · rw [if_neg c18] at H
                        exact absurd H (by simp)
                    · rw [if_neg c17] at H
                      exact absurd H (by simp)
              · rw [if_neg c9] at H
                exact absurd H (by simp)
            · rw [if_neg c8] at H
              have c8b0 : decide (x10_2 < (t208.length : Int)) = false := decide_eq_false c8
              clear c8
              by_cases c27 : (x9_2.size : Int) > 8192
              · rw [if_pos c27] at H
                have c27b0 : decide (8192 < (x9_2.size : Int)) = true := decide_eq_true c27
                have c27b1 : decide (8192 < x9_2.size) = true := decide_eq_true (by omega)
                clear c27
                replace H := Option.bind_eq_some_iff.mp H
                obtain ⟨t220, A280, H⟩ := H
                replace H : (some t220) = some r := H
                have A28 := Aside0.mk A280
                clear A280
                obtain rfl := Option.some.inj H
                obtain ⟨Ao29, co29, eo29⟩ := Kd.R_slice HO_5.out
                subst eo29
                go_wp2_with (first | (go_at_call 11; (with_reducible refine (scarflaw10_awake.calls k2  t220 _ A28.out).mono ?_); rintro e w30 ⟨rfl, hb⟩; have n0_ := Aside0.mk (Kd.R_below (by (with_reducible repeat (first | apply Kd.R_alloc | apply Kd.R_drewN | apply Kd.R_drew)); exact HO_5.out) hb); have n1_ := Aside0.mk (below_step (by repeat (first | (with_reducible first | exact HB.out | apply below_alloc | apply pw_below_drewN | apply below_drew1) | exact HB.out)) hb); clear HO_5; clear HB; have HO_5 := n0_; have HB := n1_; clear n0_ n1_; (try clear hb); (try clear hb2); (try clear hk); (try clear hi)))
                repeat (go_quiet (first | (go_at_call 11; (with_reducible refine (scarflaw10_awake.calls k2  t220 _ A28.out).mono ?_); rintro e w30 ⟨rfl, hb⟩; have n0_ := Aside0.mk (Kd.R_below (by (with_reducible repeat (first | apply Kd.R_alloc | apply Kd.R_drewN | apply Kd.R_drew)); exact HO_5.out) hb); have n1_ := Aside0.mk (below_step (by repeat (first | (with_reducible first | exact HB.out | apply below_alloc | apply pw_below_drewN | apply below_drew1) | exact HB.out)) hb); clear HO_5; clear HB; have HO_5 := n0_; have HB := n1_; clear n0_ n1_; (try clear hb); (try clear hb2); (try clear hk); (try clear hi))); try go_wp2_with (first | (go_at_call 11; (with_reducible refine (scarflaw10_awake.calls k2  t220 _ A28.out).mono ?_); rintro e w30 ⟨rfl, hb⟩; have n0_ := Aside0.mk (Kd.R_below (by (with_reducible repeat (first | apply Kd.R_alloc | apply Kd.R_drewN | apply Kd.R_drew)); exact HO_5.out) hb); have n1_ := Aside0.mk (below_step (by repeat (first | (with_reducible first | exact HB.out | apply below_alloc | apply pw_below_drewN | apply below_drew1) | exact HB.out)) hb); clear HO_5; clear HB; have HO_5 := n0_; have HB := n1_; clear n0_ n1_; (try clear hb); (try clear hb2); (try clear hk); (try clear hi))))
                go_ret
                exact ⟨by first | rfl | (simp [errW_none, errW_some] <;> rfl) | (simp [*, errW_none, errW_some] <;> rfl), by repeat (first | (with_reducible first | exact HB.out | apply below_alloc | apply pw_below_drewN | apply below_drew1) | exact HB.out)⟩
              · rw [if_neg c27] at H
                have c27b0 : decide (8192 < (x9_2.size : Int)) = false := decide_eq_false c27
                have c27b1 : decide (8192 < x9_2.size) = false := decide_eq_false (by omega)
                clear c27
                replace H := Option.bind_eq_some_iff.mp H
                obtain ⟨⟨t221, t222, t223⟩, A310, H⟩ := H
                replace H : (if t223 = 0 then (scarflaw10_LexAgain.j2 k2 t208 t221 ((t221.length : Int) != (t208.length : Int))) else (scarflaw10_LexAgain.j2 k2 t208 t221 true)) = some r := H
                have A31 := Aside0.mk A310
                clear A310
                have HC32 := Aside0.mk H
                clear H
                obtain ⟨Ao33, co33, eo33⟩ := Kd.R_slice HO_5.out
                subst eo33
                go_upto_region 18 with (first | (go_at_call 8; (with_reducible refine (lex_Cut.calls k2 x9_2 t221 t222 t223 _ A31.out).mono ?_); rintro e w34 ⟨v224, rfl, ho0, hb⟩; have n0_ := Aside0.mk (Kd.R_elder' (by (with_reducible repeat (first | apply Kd.R_alloc | apply Kd.R_drewN | apply Kd.R_drew)); exact HO_5.out) (Kd.R_base ho0) hb); have n1_ := Aside0.mk (Kd.R_lower (Kd.R_new' ho0 (Kd.R_lt (by (with_reducible repeat (first | apply Kd.R_alloc | apply Kd.R_drewN | apply Kd.R_drew)); exact HO_5.out))) (below_size (by repeat (first | (with_reducible first | exact HB.out | apply below_alloc | apply pw_below_drewN | apply below_drew1) | exact HB.out)))); have n2_ := Aside0.mk (below_step (by repeat (first | (with_reducible first | exact HB.out | apply below_alloc | apply pw_below_drewN | apply below_drew1) | exact HB.out)) hb); clear HO_5; clear HB; have HO_5 := n0_; have HO225 := n1_; have HB := n2_; clear n0_ n1_ n2_; (try clear hb); (try clear hb2); (try clear hk); (try clear hi); (try clear ho0)))
                repeat (go_quiet (first | (go_at_call 8; (with_reducible refine (lex_Cut.calls k2 x9_2 t221 t222 t223 _ A31.out).mono ?_); rintro e w34 ⟨v224, rfl, ho0, hb⟩; have n0_ := Aside0.mk (Kd.R_elder' (by (with_reducible repeat (first | apply Kd.R_alloc | apply Kd.R_drewN | apply Kd.R_drew)); exact HO_5.out) (Kd.R_base ho0) hb); have n1_ := Aside0.mk (Kd.R_lower (Kd.R_new' ho0 (Kd.R_lt (by (with_reducible repeat (first | apply Kd.R_alloc | apply Kd.R_drewN | apply Kd.R_drew)); exact HO_5.out))) (below_size (by repeat (first | (with_reducible first | exact HB.out | apply below_alloc | apply pw_below_drewN | apply below_drew1) | exact HB.out)))); have n2_ := Aside0.mk (below_step (by repeat (first | (with_reducible first | exact HB.out | apply below_alloc | apply pw_below_drewN | apply below_drew1) | exact HB.out)) hb); clear HO_5; clear HB; have HO_5 := n0_; have HO225 := n1_; have HB := n2_; clear n0_ n1_ n2_; (try clear hb); (try clear hb2); (try clear hk); (try clear hi); (try clear ho0))); go_upto_region 18 with (first | (go_at_call 8; (with_reducible refine (lex_Cut.calls k2 x9_2 t221 t222 t223 _ A31.out).mono ?_); rintro e w34 ⟨v224, rfl, ho0, hb⟩; have n0_ := Aside0.mk (Kd.R_elder' (by (with_reducible repeat (first | apply Kd.R_alloc | apply Kd.R_drewN | apply Kd.R_drew)); exact HO_5.out) (Kd.R_base ho0) hb); have n1_ := Aside0.mk (Kd.R_lower (Kd.R_new' ho0 (Kd.R_lt (by (with_reducible repeat (first | apply Kd.R_alloc | apply Kd.R_drewN | apply Kd.R_drew)); exact HO_5.out))) (below_size (by repeat (first | (with_reducible first | exact HB.out | apply below_alloc | apply pw_below_drewN | apply below_drew1) | exact HB.out)))); have n2_ := Aside0.mk (below_step (by repeat (first | (with_reducible first | exact HB.out | apply below_alloc | apply pw_below_drewN | apply below_drew1) | exact HB.out)) hb); clear HO_5; clear HB; have HO_5 := n0_; have HO225 := n1_; have HB := n2_; clear n0_ n1_ n2_; (try clear hb); (try clear hb2); (try clear hk); (try clear hi); (try clear ho0))))
                (try simp only [Act.put, List.setIfInBounds_toArray, List.set_cons_zero, List.set_cons_succ])
                go_cut [113] (fun v113 wc => ∃ (kq : Nat) (x113_31 : Bool), v113 = .bool x113_31 ∧ Aside0 (scarflaw10_LexAgain.j2 kq t208 t221 x113_31 = some r) ∧ Aside0 (kq ≤ k2) ∧ Aside0 (Kd.R k33 33 wc w.heap.size (fun k_ => some k_ ≠ (v224 : Value).ownBlock) (.slice Ao33 t208.length co33) t208) ∧ Aside0 (Kd.R k33 33 wc w.heap.size (fun k_ => some k_ ≠ ((.slice Ao33 t208.length co33) : Value).ownBlock) v224 t221) ∧ Aside0 (Below w.heap.size w wc))
                case first =>
                  have H := HC32.out
                  clear HC32
                  by_cases c35 : t223 = 0
                  · rw [if_pos c35] at H
                    have c35b0 : (t223 == 0) = true := beq_iff_eq.mpr c35
                    have c35b1 : (t223 != 0) = false := bne_eq_false_iff_eq.mpr c35
                    clear c35
                    (first | rw [c35b0] | (simp only [i64_w, i32_w]; rw [c35b0]) | skip)
                    have H' := Aside0.mk H
                    clear H
                    obtain ⟨Ao36, co36, eo36⟩ := Kd.R_slice HO225.out
                    subst eo36
                    go_wp2
                    repeat (go_quiet (fail); try go_wp2)
                    go_meet
                    case rel => exact ⟨_, (((t221.length : Int) != (t208.length : Int))), (by first | rfl | (simp; done) | (simp [*]; done)), H', ⟨by have := HJ4.out; have := HK2.out; first | omega | exact Nat.le_refl _⟩, ⟨by (with_reducible repeat (first | apply Kd.R_alloc | apply Kd.R_drewN | apply Kd.R_drew)); exact Kd.R_mono HO_5.out (fun _ hk => hk.2)⟩, ⟨by (with_reducible repeat (first | apply Kd.R_alloc | apply Kd.R_drewN | apply Kd.R_drew)); exact Kd.R_mono HO225.out (fun _ hk => hk.2)⟩, ⟨by repeat (first | (with_reducible first | exact HB.out | apply below_alloc | apply pw_below_drewN | apply below_drew1) | exact HB.out)⟩⟩
                  · rw [if_neg c35] at H
                    have c35b0 : (t223 == 0) = false := beq_eq_false_iff_ne.mpr c35
                    have c35b1 : (t223 != 0) = true := bne_iff_ne.mpr c35
                    (first | rw [c35b0] | (simp only [i64_w, i32_w]; rw [c35b0]) | skip)
                    have H' := Aside0.mk H
                    clear H
                    go_wp2
                    repeat (go_quiet (fail); try go_wp2)
                    go_meet
                    case rel => exact ⟨_, (true), (by first | rfl | (simp; done) | (simp [*]; done)), H', ⟨by have := HJ4.out; have := HK2.out; first | omega | exact Nat.le_refl _⟩, ⟨by (with_reducible repeat (first | apply Kd.R_alloc | apply Kd.R_drewN | apply Kd.R_drew)); exact Kd.R_mono HO_5.out (fun _ hk => hk.2)⟩, ⟨by (with_reducible repeat (first | apply Kd.R_alloc | apply Kd.R_drewN | apply Kd.R_drew)); exact Kd.R_mono HO225.out (fun _ hk => hk.2)⟩, ⟨by repeat (first | (with_reducible first | exact HB.out | apply below_alloc | apply pw_below_drewN | apply below_drew1) | exact HB.out)⟩⟩
                case rest =>
                  clear HC32
                  try clear c1
                  try clear c2
                  try clear p2
                  try clear q2
                  try clear hx2
                  try clear c3
                  try clear c4
                  try clear c4b0
                  try clear c4b1
                  try clear p6
                  try clear c7
                  try clear c8
                  try clear c8b0
                  try clear c9
                  try clear c9b0
                  try clear c11
                  try clear c11b0
                  try clear c14
                  try clear c14b0
                  try clear c17
                  try clear c17b0
                  try clear c17b1
                  try clear c18
                  try clear c18b0
                  try clear c18b1
                  try clear c19
                  try clear c19b0
                  try clear c19b1
                  try clear c20
                  try clear c20b0
                  try clear c20b1
                  try clear c21
                  try clear c21b0
                  try clear c21b1
                  try clear c21b2
                  try clear p21
                  try clear q21
                  try clear hx21
                  try clear c22
                  try clear c22b0
                  try clear c22b1
                  try clear c22b2
                  try clear c27
                  try clear c27b0
                  try clear c27b1
                  try clear c35
                  try clear c35b0
                  try clear c35b1
                  try clear hx214_0
                  try clear hx214_1
                  try clear hx214_2
                  try clear hx216_0
                  try clear hx216_1
                  try clear hx216_2
                  try clear hx217_0
                  try clear hx217_1
                  try clear hx217_2
                  try clear hx218_0
                  try clear hx218_1
                  try clear hx218_2
                  try clear hx219_0
                  try clear hx219_1
                  try clear hx219_2
                  try clear p2
                  try clear p214
                  try clear p216
                  try clear p217
                  try clear p218
                  try clear p219
                  try clear q214
                  try clear q216
                  try clear q217
                  try clear q218
                  try clear q219
                  obtain ⟨kq, x113_31, rfl, HA, HJ31, HO_5, HO_12, HB⟩ := hcut
                  cases kq with
                  | zero => exact absurd HA.out (by simp [scarflaw10_LexAgain.j2])
                  | succ kj31 =>
                    have H := HA.out
                    clear HA
                    simp only [scarflaw10_LexAgain.j2] at H
                    by_cases c37 : x113_31 = true
                    · subst c37
                      have H1 : (some false) = some r := by rw [if_pos rfl] at H; exact H
                      clear H
                      have H := H1
                      clear H1
                      obtain rfl := Option.some.inj H
                      go_wp2
                      repeat (go_quiet (fail); try go_wp2)
                      go_ret
                      exact ⟨by first | rfl | (simp [errW_none, errW_some] <;> rfl) | (simp [*, errW_none, errW_some] <;> rfl), by repeat (first | (with_reducible first | exact HB.out | apply below_alloc | apply pw_below_drewN | apply below_drew1) | exact HB.out)⟩
                    · replace c37 := Bool.eq_false_iff.mpr c37
                      subst c37
                      have H1 : (scarflaw10_LexAgain.l1 kj31 t208 t221 0) = some r := by rw [if_neg (show ¬ (false = true) by decide)] at H; exact H
                      clear H
                      have H := H1
                      clear H1
                      have H' := Aside0.mk H
                      clear H
                      go_wp2
                      repeat (go_quiet (fail); try go_wp2)
                      go_loopg [15] kj31 (fun kq v15 w' => ∃ (x15_4 : Int), v15 = .int .i64 x15_4 ∧ Aside0 (scarflaw10_LexAgain.l1 kq t208 t221 x15_4 = some r) ∧ Aside0 (kq ≤ kj31) ∧ Aside0 (Kd.R k33 33 w' w.heap.size (fun k_ => some k_ ≠ (v224 : Value).ownBlock) (.slice Ao33 t208.length co33) t208) ∧ Aside0 (Kd.R k33 33 w' w.heap.size (fun k_ => some k_ ≠ ((.slice Ao33 t208.length co33) : Value).ownBlock) v224 t221) ∧ Aside0 (Below w.heap.size w w'))
                      case atStart => exact ⟨(0), (by first | rfl | (simp; done) | (simp [*]; done)), H', ⟨Nat.le_refl _⟩, ⟨by (with_reducible repeat (first | apply Kd.R_alloc | apply Kd.R_drewN | apply Kd.R_drew)); exact HO_5.out⟩, ⟨by (with_reducible repeat (first | apply Kd.R_alloc | apply Kd.R_drewN | apply Kd.R_drew)); exact HO_12.out⟩, ⟨by repeat (first | (with_reducible first | exact HB.out | apply below_alloc | apply pw_below_drewN | apply below_drew1) | exact HB.out)⟩⟩
                      case round =>
                        clear H'
                        try clear c1
                        try clear c2
                        try clear p2
                        try clear q2
                        try clear hx2
                        try clear c3
                        try clear c4
                        try clear c4b0
                        try clear c4b1
                        try clear p6
                        try clear c7
                        try clear c8
                        try clear c8b0
                        try clear c9
                        try clear c9b0
                        try clear c11
                        try clear c11b0
                        try clear c14
                        try clear c14b0
                        try clear c17
                        try clear c17b0
                        try clear c17b1
                        try clear c18
                        try clear c18b0
                        try clear c18b1
                        try clear c19
                        try clear c19b0
                        try clear c19b1
                        try clear c20
                        try clear c20b0
                        try clear c20b1
                        try clear c21
                        try clear c21b0
                        try clear c21b1
                        try clear c21b2
                        try clear p21
                        try clear q21
                        try clear hx21
                        try clear c22
                        try clear c22b0
                        try clear c22b1
                        try clear c22b2
                        try clear c27
                        try clear c27b0
                        try clear c27b1
                        try clear c35
                        try clear c35b0
                        try clear c35b1
                        try clear c37
                        try clear hx214_0
                        try clear hx214_1
                        try clear hx214_2
                        try clear hx216_0
                        try clear hx216_1
                        try clear hx216_2
                        try clear hx217_0
                        try clear hx217_1
                        try clear hx217_2
                        try clear hx218_0
                        try clear hx218_1
                        try clear hx218_2
                        try clear hx219_0
                        try clear hx219_1
                        try clear hx219_2
                        try clear p2
                        try clear p21
                        try clear p214
                        try clear p216
                        try clear p217
                        try clear p218
                        try clear p219
                        try clear p6
                        try clear q2
                        try clear q21
                        try clear q214
                        try clear q216
                        try clear q217
                        try clear q218
                        try clear q219
                        obtain ⟨x15_4, rfl, HA, HK4, HO_5, HO_12, HB⟩ := hrel
                        cases gk with
                        | zero => exact absurd HA.out (by simp [scarflaw10_LexAgain.l1])
                        | succ k4 =>
                          have H := HA.out
                          clear HA
                          simp only [scarflaw10_LexAgain.l1] at H
                          by_cases c38 : x15_4 < (t208.length : Int)
                          · rw [if_pos c38] at H
                            have c38b0 : decide (x15_4 < (t208.length : Int)) = true := decide_eq_true c38
                            clear c38
                            by_cases c39 : 0 ≤ x15_4
                            · rw [if_pos c39] at H
                              have c39b0 : decide (0 ≤ x15_4) = true := decide_eq_true c39
                              clear c39
                              by_cases c40 : x15_4 < (t221.length : Int)
                              · rw [if_pos c40] at H
                                have c40b0 : decide (x15_4 < (t221.length : Int)) = true := decide_eq_true c40
                                clear c40
                                by_cases c41 : ((rd_T33 t208 x15_4).f0) = ((rd_T33 t221 x15_4).f0)
                                · rw [if_pos c41] at H
                                  have c41b0 : (((rd_T33 t208 x15_4).f0) == ((rd_T33 t221 x15_4).f0)) = true := beq_iff_eq.mpr c41
                                  have c41b1 : (((rd_T33 t208 x15_4).f0) != ((rd_T33 t221 x15_4).f0)) = false := bne_eq_false_iff_eq.mpr c41
                                  clear c41
                                  by_cases c42 : ((rd_T33 t208 x15_4).f1).toList = ((rd_T33 t221 x15_4).f1).toList
                                  · rw [if_pos c42] at H
                                    have c42b0 : (((rd_T33 t208 x15_4).f1).toList == ((rd_T33 t221 x15_4).f1).toList) = true := beq_iff_eq.mpr c42
                                    have c42b1 : (((rd_T33 t208 x15_4).f1).toList != ((rd_T33 t221 x15_4).f1).toList) = false := bne_eq_false_iff_eq.mpr c42
                                    clear c42
                                    have H' := Aside0.mk H
                                    clear H
                                    have p226 : 0 ≤ (x15_4 : Int) := of_decide_eq_true (by first | (with_reducible assumption) | assumption)
                                    have q226 : x15_4 < (t208.length : Int) := of_decide_eq_true (by first | (with_reducible assumption) | assumption)
                                    obtain ⟨ad226, e226, hx226_0, hx226_1, hx226_2⟩ := at_T33 (Kd.R_reads' HO_5.out).2.2 x15_4 p226 q226
                                    cases e226
                                    replace p226 := eq_true p226
                                    replace q226 := eq_true q226
                                    obtain ⟨Ao43, co43, eo43⟩ := Kd.R_slice HO_12.out
                                    subst eo43
                                    have p227 : 0 ≤ (x15_4 : Int) := of_decide_eq_true (by first | (with_reducible assumption) | assumption)
                                    have q227 : x15_4 < (t221.length : Int) := of_decide_eq_true (by first | (with_reducible assumption) | assumption)
                                    obtain ⟨ad227, e227, hx227_0, hx227_1, hx227_2⟩ := at_T33 (Kd.R_reads' HO_12.out).2.2 x15_4 p227 q227
                                    cases e227
                                    replace p227 := eq_true p227
                                    replace q227 := eq_true q227
                                    have p228 : 0 ≤ (x15_4 : Int) := of_decide_eq_true (by first | (with_reducible assumption) | assumption)
                                    have q228 : x15_4 < (t208.length : Int) := of_decide_eq_true (by first | (with_reducible assumption) | assumption)
                                    obtain ⟨ad228, e228, hx228_0, hx228_1, hx228_2⟩ := at_T33 (Kd.R_reads' HO_5.out).2.2 x15_4 p228 q228
                                    obtain rfl : ad226 = ad228 := (by injection e228)
                                    replace p228 := eq_true p228
                                    replace q228 := eq_true q228
                                    have p229 : 0 ≤ (x15_4 : Int) := of_decide_eq_true (by first | (with_reducible assumption) | assumption)
                                    have q229 : x15_4 < (t221.length : Int) := of_decide_eq_true (by first | (with_reducible assumption) | assumption)
                                    obtain ⟨ad229, e229, hx229_0, hx229_1, hx229_2⟩ := at_T33 (Kd.R_reads' HO_12.out).2.2 x15_4 p229 q229
                                    obtain rfl : ad227 = ad229 := (by injection e229)
                                    replace p229 := eq_true p229
                                    replace q229 := eq_true q229
                                    go_wp2
                                    repeat (go_quiet (fail); try go_wp2)
                                    go_roundg k4
                                    case measure => have := HJ4.out; have := HK2.out; have := HJ31.out; have := HK4.out; omega
                                    case rel => exact ⟨(wrap64 (x15_4 + 1)), (by first | rfl | (simp; done) | (simp [*]; done)), H', ⟨by have := HJ4.out; have := HK2.out; have := HJ31.out; have := HK4.out; omega⟩, ⟨by (with_reducible repeat (first | apply Kd.R_alloc | apply Kd.R_drewN | apply Kd.R_drew)); exact HO_5.out⟩, ⟨by (with_reducible repeat (first | apply Kd.R_alloc | apply Kd.R_drewN | apply Kd.R_drew)); exact HO_12.out⟩, ⟨by repeat (first | (with_reducible first | exact HB.out | apply below_alloc | apply pw_below_drewN | apply below_drew1) | exact HB.out)⟩⟩
                                  · rw [if_neg c42] at H
                                    have c42b0 : (((rd_T33 t208 x15_4).f1).toList == ((rd_T33 t221 x15_4).f1).toList) = false := beq_eq_false_iff_ne.mpr c42
                                    have c42b1 : (((rd_T33 t208 x15_4).f1).toList != ((rd_T33 t221 x15_4).f1).toList) = true := bne_iff_ne.mpr c42
                                    obtain rfl := Option.some.inj H
                                    have p226 : 0 ≤ (x15_4 : Int) := of_decide_eq_true (by first | (with_reducible assumption) | assumption)
                                    have q226 : x15_4 < (t208.length : Int) := of_decide_eq_true (by first | (with_reducible assumption) | assumption)
                                    obtain ⟨ad226, e226, hx226_0, hx226_1, hx226_2⟩ := at_T33 (Kd.R_reads' HO_5.out).2.2 x15_4 p226 q226
                                    cases e226
                                    replace p226 := eq_true p226
                                    replace q226 := eq_true q226
                                    obtain ⟨Ao44, co44, eo44⟩ := Kd.R_slice HO_12.out
                                    subst eo44
                                    have p227 : 0 ≤ (x15_4 : Int) := of_decide_eq_true (by first | (with_reducible assumption) | assumption)
                                    have q227 : x15_4 < (t221.length : Int) := of_decide_eq_true (by first | (with_reducible assumption) | assumption)
                                    obtain ⟨ad227, e227, hx227_0, hx227_1, hx227_2⟩ := at_T33 (Kd.R_reads' HO_12.out).2.2 x15_4 p227 q227
                                    cases e227
                                    replace p227 := eq_true p227
                                    replace q227 := eq_true q227
                                    have p228 : 0 ≤ (x15_4 : Int) := of_decide_eq_true (by first | (with_reducible assumption) | assumption)
                                    have q228 : x15_4 < (t208.length : Int) := of_decide_eq_true (by first | (with_reducible assumption) | assumption)
                                    obtain ⟨ad228, e228, hx228_0, hx228_1, hx228_2⟩ := at_T33 (Kd.R_reads' HO_5.out).2.2 x15_4 p228 q228
                                    obtain rfl : ad226 = ad228 := (by injection e228)
                                    replace p228 := eq_true p228
                                    replace q228 := eq_true q228
                                    have p229 : 0 ≤ (x15_4 : Int) := of_decide_eq_true (by first | (with_reducible assumption) | assumption)
                                    have q229 : x15_4 < (t221.length : Int) := of_decide_eq_true (by first | (with_reducible assumption) | assumption)
                                    obtain ⟨ad229, e229, hx229_0, hx229_1, hx229_2⟩ := at_T33 (Kd.R_reads' HO_12.out).2.2 x15_4 p229 q229
                                    obtain rfl : ad227 = ad229 := (by injection e229)
                                    replace p229 := eq_true p229
                                    replace q229 := eq_true q229
                                    go_wp2
                                    repeat (go_quiet (fail); try go_wp2)
                                    go_ret
                                    exact ⟨by first | rfl | (simp [errW_none, errW_some] <;> rfl) | (simp [*, errW_none, errW_some] <;> rfl), by repeat (first | (with_reducible first | exact HB.out | apply below_alloc | apply pw_below_drewN | apply below_drew1) | exact HB.out)⟩
                                · rw [if_neg c41] at H
                                  have c41b0 : (((rd_T33 t208 x15_4).f0) == ((rd_T33 t221 x15_4).f0)) = false := beq_eq_false_iff_ne.mpr c41
                                  have c41b1 : (((rd_T33 t208 x15_4).f0) != ((rd_T33 t221 x15_4).f0)) = true := bne_iff_ne.mpr c41
                                  obtain rfl := Option.some.inj H
                                  have p226 : 0 ≤ (x15_4 : Int) := of_decide_eq_true (by first | (with_reducible assumption) | assumption)
                                  have q226 : x15_4 < (t208.length : Int) := of_decide_eq_true (by first | (with_reducible assumption) | assumption)
                                  obtain ⟨ad226, e226, hx226_0, hx226_1, hx226_2⟩ := at_T33 (Kd.R_reads' HO_5.out).2.2 x15_4 p226 q226
                                  cases e226
                                  replace p226 := eq_true p226
                                  replace q226 := eq_true q226
                                  obtain ⟨Ao45, co45, eo45⟩ := Kd.R_slice HO_12.out
                                  subst eo45
                                  have p227 : 0 ≤ (x15_4 : Int) := of_decide_eq_true (by first | (with_reducible assumption) | assumption)
                                  have q227 : x15_4 < (t221.length : Int) := of_decide_eq_true (by first | (with_reducible assumption) | assumption)
                                  obtain ⟨ad227, e227, hx227_0, hx227_1, hx227_2⟩ := at_T33 (Kd.R_reads' HO_12.out).2.2 x15_4 p227 q227
                                  cases e227
                                  replace p227 := eq_true p227
                                  replace q227 := eq_true q227
                                  go_wp2
                                  repeat (go_quiet (fail); try go_wp2)
                                  go_ret
                                  exact ⟨by first | rfl | (simp [errW_none, errW_some] <;> rfl) | (simp [*, errW_none, errW_some] <;> rfl), by repeat (first | (with_reducible first | exact HB.out | apply below_alloc | apply pw_below_drewN | apply below_drew1) | exact HB.out)⟩
                              · rw [if_neg c40] at H
                                exact absurd H (by simp)
                            · rw [if_neg c39] at H
                              exact absurd H (by simp)
                          · rw [if_neg c38] at H
                            have c38b0 : decide (x15_4 < (t208.length : Int)) = false := decide_eq_false c38
                            clear c38
                            replace H := Option.bind_eq_some_iff.mp H
                            obtain ⟨t230, A460, H⟩ := H
                            replace H : (some t230) = some r := H
                            have A46 := Aside0.mk A460
                            clear A460
                            obtain rfl := Option.some.inj H
                            go_wp2_with (first | (go_at_call 11; (with_reducible refine (scarflaw10_awake.calls k4  t230 _ A46.out).mono ?_); rintro e w47 ⟨rfl, hb⟩; have n0_ := Aside0.mk (Kd.R_below (by (with_reducible repeat (first | apply Kd.R_alloc | apply Kd.R_drewN | apply Kd.R_drew)); exact HO_5.out) hb); have n1_ := Aside0.mk (Kd.R_below (by (with_reducible repeat (first | apply Kd.R_alloc | apply Kd.R_drewN | apply Kd.R_drew)); exact HO_12.out) hb); have n2_ := Aside0.mk (below_step (by repeat (first | (with_reducible first | exact HB.out | apply below_alloc | apply pw_below_drewN | apply below_drew1) | exact HB.out)) hb); clear HO_5; clear HO_12; clear HB; have HO_5 := n0_; have HO_12 := n1_; have HB := n2_; clear n0_ n1_ n2_; (try clear hb); (try clear hb2); (try clear hk); (try clear hi)))
                            repeat (go_quiet (first | (go_at_call 11; (with_reducible refine (scarflaw10_awake.calls k4  t230 _ A46.out).mono ?_); rintro e w47 ⟨rfl, hb⟩; have n0_ := Aside0.mk (Kd.R_below (by (with_reducible repeat (first | apply Kd.R_alloc | apply Kd.R_drewN | apply Kd.R_drew)); exact HO_5.out) hb); have n1_ := Aside0.mk (Kd.R_below (by (with_reducible repeat (first | apply Kd.R_alloc | apply Kd.R_drewN | apply Kd.R_drew)); exact HO_12.out) hb); have n2_ := Aside0.mk (below_step (by repeat (first | (with_reducible first | exact HB.out | apply below_alloc | apply pw_below_drewN | apply below_drew1) | exact HB.out)) hb); clear HO_5; clear HO_12; clear HB; have HO_5 := n0_; have HO_12 := n1_; have HB := n2_; clear n0_ n1_ n2_; (try clear hb); (try clear hb2); (try clear hk); (try clear hi))); try go_wp2_with (first | (go_at_call 11; (with_reducible refine (scarflaw10_awake.calls k4  t230 _ A46.out).mono ?_); rintro e w47 ⟨rfl, hb⟩; have n0_ := Aside0.mk (Kd.R_below (by (with_reducible repeat (first | apply Kd.R_alloc | apply Kd.R_drewN | apply Kd.R_drew)); exact HO_5.out) hb); have n1_ := Aside0.mk (Kd.R_below (by (with_reducible repeat (first | apply Kd.R_alloc | apply Kd.R_drewN | apply Kd.R_drew)); exact HO_12.out) hb); have n2_ := Aside0.mk (below_step (by repeat (first | (with_reducible first | exact HB.out | apply below_alloc | apply pw_below_drewN | apply below_drew1) | exact HB.out)) hb); clear HO_5; clear HO_12; clear HB; have HO_5 := n0_; have HO_12 := n1_; have HB := n2_; clear n0_ n1_ n2_; (try clear hb); (try clear hb2); (try clear hk); (try clear hi))))
                            go_ret
                            exact ⟨by first | rfl | (simp [errW_none, errW_some] <;> rfl) | (simp [*, errW_none, errW_some] <;> rfl), by repeat (first | (with_reducible first | exact HB.out | apply below_alloc | apply pw_below_drewN | apply below_drew1) | exact HB.out)⟩
  · rw [if_neg c4] at H
    have c4b0 : (t210 == 0) = false := beq_eq_false_iff_ne.mpr c4
    have c4b1 : (t210 != 0) = true := bne_iff_ne.mpr c4
    by_cases c48 : (t208.length : Int) = 0
    · rw [if_pos c48] at H
      have c48b0 : ((t208.length : Int) == 0) = true := beq_iff_eq.mpr c48
      have c48b1 : ((t208.length : Int) != 0) = false := bne_eq_false_iff_eq.mpr c48
      clear c48
      by_cases c49 : t209 ≥ 0
      · rw [if_pos c49] at H
        have c49b0 : decide (0 ≤ t209) = true := decide_eq_true c49
        clear c49
        by_cases c50 : t209 ≤ (a0.size : Int)
        · rw [if_pos c50] at H
          have c50b0 : decide (t209 ≤ (a0.size : Int)) = true := decide_eq_true c50
          clear c50
          replace H := Option.bind_eq_some_iff.mp H
          obtain ⟨t213, A510, H⟩ := H
          replace H : (some t213) = some r := H
          have A51 := Aside0.mk A510
          clear A510
          obtain rfl := Option.some.inj H
          go_enter Tryd.func4, Tryd.ntmps4
          go_wp2_with (first | (go_at_call 8; (with_reducible refine (lex_Cut.calls k a0 t208 t209 t210 _ A3.out).mono ?_); rintro e w52 ⟨v211, rfl, ho0, hb⟩; have n0_ := Aside0.mk (Kd.R_lower ho0 (below_size (by repeat (first | (with_reducible first | exact HB.out | apply below_alloc | apply pw_below_drewN | apply below_drew1) | exact HB.out)))); have n1_ := Aside0.mk (below_step (by repeat (first | (with_reducible first | exact HB.out | apply below_alloc | apply pw_below_drewN | apply below_drew1) | exact HB.out)) hb); clear HB; have HO212 := n0_; have HB := n1_; clear n0_ n1_; (try clear hb); (try clear hb2); (try clear hk); (try clear hi); (try clear ho0); obtain ⟨Ao53, co53, eo53⟩ := Kd.R_slice HO212.out; subst eo53) | (go_at_call 11; (with_reducible refine (scarflaw10_awake.calls k  t213 _ A51.out).mono ?_); rintro e w54 ⟨rfl, hb⟩; have n0_ := Aside0.mk (Kd.R_below (by (with_reducible repeat (first | apply Kd.R_alloc | apply Kd.R_drewN | apply Kd.R_drew)); exact HO212.out) hb); have n1_ := Aside0.mk (below_step (by repeat (first | (with_reducible first | exact HB.out | apply below_alloc | apply pw_below_drewN | apply below_drew1) | exact HB.out)) hb); clear HO212; clear HB; have HO212 := n0_; have HB := n1_; clear n0_ n1_; (try clear hb); (try clear hb2); (try clear hk); (try clear hi)))
          repeat (go_quiet (first | (go_at_call 8; (with_reducible refine (lex_Cut.calls k a0 t208 t209 t210 _ A3.out).mono ?_); rintro e w52 ⟨v211, rfl, ho0, hb⟩; have n0_ := Aside0.mk (Kd.R_lower ho0 (below_size (by repeat (first | (with_reducible first | exact HB.out | apply below_alloc | apply pw_below_drewN | apply below_drew1) | exact HB.out)))); have n1_ := Aside0.mk (below_step (by repeat (first | (with_reducible first | exact HB.out | apply below_alloc | apply pw_below_drewN | apply below_drew1) | exact HB.out)) hb); clear HB; have HO212 := n0_; have HB := n1_; clear n0_ n1_; (try clear hb); (try clear hb2); (try clear hk); (try clear hi); (try clear ho0); obtain ⟨Ao53, co53, eo53⟩ := Kd.R_slice HO212.out; subst eo53) | (go_at_call 11; (with_reducible refine (scarflaw10_awake.calls k  t213 _ A51.out).mono ?_); rintro e w54 ⟨rfl, hb⟩; have n0_ := Aside0.mk (Kd.R_below (by (with_reducible repeat (first | apply Kd.R_alloc | apply Kd.R_drewN | apply Kd.R_drew)); exact HO212.out) hb); have n1_ := Aside0.mk (below_step (by repeat (first | (with_reducible first | exact HB.out | apply below_alloc | apply pw_below_drewN | apply below_drew1) | exact HB.out)) hb); clear HO212; clear HB; have HO212 := n0_; have HB := n1_; clear n0_ n1_; (try clear hb); (try clear hb2); (try clear hk); (try clear hi))); try go_wp2_with (first | (go_at_call 8; (with_reducible refine (lex_Cut.calls k a0 t208 t209 t210 _ A3.out).mono ?_); rintro e w52 ⟨v211, rfl, ho0, hb⟩; have n0_ := Aside0.mk (Kd.R_lower ho0 (below_size (by repeat (first | (with_reducible first | exact HB.out | apply below_alloc | apply pw_below_drewN | apply below_drew1) | exact HB.out)))); have n1_ := Aside0.mk (below_step (by repeat (first | (with_reducible first | exact HB.out | apply below_alloc | apply pw_below_drewN | apply below_drew1) | exact HB.out)) hb); clear HB; have HO212 := n0_; have HB := n1_; clear n0_ n1_; (try clear hb); (try clear hb2); (try clear hk); (try clear hi); (try clear ho0); obtain ⟨Ao53, co53, eo53⟩ := Kd.R_slice HO212.out; subst eo53) | (go_at_call 11; (with_reducible refine (scarflaw10_awake.calls k  t213 _ A51.out).mono ?_); rintro e w54 ⟨rfl, hb⟩; have n0_ := Aside0.mk (Kd.R_below (by (with_reducible repeat (first | apply Kd.R_alloc | apply Kd.R_drewN | apply Kd.R_drew)); exact HO212.out) hb); have n1_ := Aside0.mk (below_step (by repeat (first | (with_reducible first | exact HB.out | apply below_alloc | apply pw_below_drewN | apply below_drew1) | exact HB.out)) hb); clear HO212; clear HB; have HO212 := n0_; have HB := n1_; clear n0_ n1_; (try clear hb); (try clear hb2); (try clear hk); (try clear hi))))
          go_ret
          exact ⟨by first | rfl | (simp [errW_none, errW_some] <;> rfl) | (simp [*, errW_none, errW_some] <;> rfl), by repeat (first | (with_reducible first | exact HB.out | apply below_alloc | apply pw_below_drewN | apply below_drew1) | exact HB.out)⟩
        · rw [if_neg c50] at H
          have c50b0 : decide (t209 ≤ (a0.size : Int)) = false := decide_eq_false c50
          clear c50
          obtain rfl := Option.some.inj H
          go_enter Tryd.func4, Tryd.ntmps4
          go_wp2_with (first | (go_at_call 8; (with_reducible refine (lex_Cut.calls k a0 t208 t209 t210 _ A3.out).mono ?_); rintro e w55 ⟨v211, rfl, ho0, hb⟩; have n0_ := Aside0.mk (Kd.R_lower ho0 (below_size (by repeat (first | (with_reducible first | exact HB.out | apply below_alloc | apply pw_below_drewN | apply below_drew1) | exact HB.out)))); have n1_ := Aside0.mk (below_step (by repeat (first | (with_reducible first | exact HB.out | apply below_alloc | apply pw_below_drewN | apply below_drew1) | exact HB.out)) hb); clear HB; have HO212 := n0_; have HB := n1_; clear n0_ n1_; (try clear hb); (try clear hb2); (try clear hk); (try clear hi); (try clear ho0); obtain ⟨Ao56, co56, eo56⟩ := Kd.R_slice HO212.out; subst eo56))
          repeat (go_quiet (first | (go_at_call 8; (with_reducible refine (lex_Cut.calls k a0 t208 t209 t210 _ A3.out).mono ?_); rintro e w55 ⟨v211, rfl, ho0, hb⟩; have n0_ := Aside0.mk (Kd.R_lower ho0 (below_size (by repeat (first | (with_reducible first | exact HB.out | apply below_alloc | apply pw_below_drewN | apply below_drew1) | exact HB.out)))); have n1_ := Aside0.mk (below_step (by repeat (first | (with_reducible first | exact HB.out | apply below_alloc | apply pw_below_drewN | apply below_drew1) | exact HB.out)) hb); clear HB; have HO212 := n0_; have HB := n1_; clear n0_ n1_; (try clear hb); (try clear hb2); (try clear hk); (try clear hi); (try clear ho0); obtain ⟨Ao56, co56, eo56⟩ := Kd.R_slice HO212.out; subst eo56)); try go_wp2_with (first | (go_at_call 8; (with_reducible refine (lex_Cut.calls k a0 t208 t209 t210 _ A3.out).mono ?_); rintro e w55 ⟨v211, rfl, ho0, hb⟩; have n0_ := Aside0.mk (Kd.R_lower ho0 (below_size (by repeat (first | (with_reducible first | exact HB.out | apply below_alloc | apply pw_below_drewN | apply below_drew1) | exact HB.out)))); have n1_ := Aside0.mk (below_step (by repeat (first | (with_reducible first | exact HB.out | apply below_alloc | apply pw_below_drewN | apply below_drew1) | exact HB.out)) hb); clear HB; have HO212 := n0_; have HB := n1_; clear n0_ n1_; (try clear hb); (try clear hb2); (try clear hk); (try clear hi); (try clear ho0); obtain ⟨Ao56, co56, eo56⟩ := Kd.R_slice HO212.out; subst eo56)))
          go_ret
          exact ⟨by first | rfl | (simp [errW_none, errW_some] <;> rfl) | (simp [*, errW_none, errW_some] <;> rfl), by repeat (first | (with_reducible first | exact HB.out | apply below_alloc | apply pw_below_drewN | apply below_drew1) | exact HB.out)⟩
      · rw [if_neg c49] at H
        have c49b0 : decide (0 ≤ t209) = false := decide_eq_false c49
        clear c49
        obtain rfl := Option.some.inj H
        go_enter Tryd.func4, Tryd.ntmps4
        go_wp2_with (first | (go_at_call 8; (with_reducible refine (lex_Cut.calls k a0 t208 t209 t210 _ A3.out).mono ?_); rintro e w57 ⟨v211, rfl, ho0, hb⟩; have n0_ := Aside0.mk (Kd.R_lower ho0 (below_size (by repeat (first | (with_reducible first | exact HB.out | apply below_alloc | apply pw_below_drewN | apply below_drew1) | exact HB.out)))); have n1_ := Aside0.mk (below_step (by repeat (first | (with_reducible first | exact HB.out | apply below_alloc | apply pw_below_drewN | apply below_drew1) | exact HB.out)) hb); clear HB; have HO212 := n0_; have HB := n1_; clear n0_ n1_; (try clear hb); (try clear hb2); (try clear hk); (try clear hi); (try clear ho0); obtain ⟨Ao58, co58, eo58⟩ := Kd.R_slice HO212.out; subst eo58))
        repeat (go_quiet (first | (go_at_call 8; (with_reducible refine (lex_Cut.calls k a0 t208 t209 t210 _ A3.out).mono ?_); rintro e w57 ⟨v211, rfl, ho0, hb⟩; have n0_ := Aside0.mk (Kd.R_lower ho0 (below_size (by repeat (first | (with_reducible first | exact HB.out | apply below_alloc | apply pw_below_drewN | apply below_drew1) | exact HB.out)))); have n1_ := Aside0.mk (below_step (by repeat (first | (with_reducible first | exact HB.out | apply below_alloc | apply pw_below_drewN | apply below_drew1) | exact HB.out)) hb); clear HB; have HO212 := n0_; have HB := n1_; clear n0_ n1_; (try clear hb); (try clear hb2); (try clear hk); (try clear hi); (try clear ho0); obtain ⟨Ao58, co58, eo58⟩ := Kd.R_slice HO212.out; subst eo58)); try go_wp2_with (first | (go_at_call 8; (with_reducible refine (lex_Cut.calls k a0 t208 t209 t210 _ A3.out).mono ?_); rintro e w57 ⟨v211, rfl, ho0, hb⟩; have n0_ := Aside0.mk (Kd.R_lower ho0 (below_size (by repeat (first | (with_reducible first | exact HB.out | apply below_alloc | apply pw_below_drewN | apply below_drew1) | exact HB.out)))); have n1_ := Aside0.mk (below_step (by repeat (first | (with_reducible first | exact HB.out | apply below_alloc | apply pw_below_drewN | apply below_drew1) | exact HB.out)) hb); clear HB; have HO212 := n0_; have HB := n1_; clear n0_ n1_; (try clear hb); (try clear hb2); (try clear hk); (try clear hi); (try clear ho0); obtain ⟨Ao58, co58, eo58⟩ := Kd.R_slice HO212.out; subst eo58)))
        go_ret
        exact ⟨by first | rfl | (simp [errW_none, errW_some] <;> rfl) | (simp [*, errW_none, errW_some] <;> rfl), by repeat (first | (with_reducible first | exact HB.out | apply below_alloc | apply pw_below_drewN | apply below_drew1) | exact HB.out)⟩
    · rw [if_neg c48] at H
      have c48b0 : ((t208.length : Int) == 0) = false := beq_eq_false_iff_ne.mpr c48
      have c48b1 : ((t208.length : Int) != 0) = true := bne_iff_ne.mpr c48
      have c48b2 : ¬ (t208 = []) := fun h_ => c48 (by rw [h_]; rfl)
      obtain rfl := Option.some.inj H
      go_enter Tryd.func4, Tryd.ntmps4
      go_wp2_with (first | (go_at_call 8; (with_reducible refine (lex_Cut.calls k a0 t208 t209 t210 _ A3.out).mono ?_); rintro e w59 ⟨v211, rfl, ho0, hb⟩; have n0_ := Aside0.mk (Kd.R_lower ho0 (below_size (by repeat (first | (with_reducible first | exact HB.out | apply below_alloc | apply pw_below_drewN | apply below_drew1) | exact HB.out)))); have n1_ := Aside0.mk (below_step (by repeat (first | (with_reducible first | exact HB.out | apply below_alloc | apply pw_below_drewN | apply below_drew1) | exact HB.out)) hb); clear HB; have HO212 := n0_; have HB := n1_; clear n0_ n1_; (try clear hb); (try clear hb2); (try clear hk); (try clear hi); (try clear ho0); obtain ⟨Ao60, co60, eo60⟩ := Kd.R_slice HO212.out; subst eo60))
      repeat (go_quiet (first | (go_at_call 8; (with_reducible refine (lex_Cut.calls k a0 t208 t209 t210 _ A3.out).mono ?_); rintro e w59 ⟨v211, rfl, ho0, hb⟩; have n0_ := Aside0.mk (Kd.R_lower ho0 (below_size (by repeat (first | (with_reducible first | exact HB.out | apply below_alloc | apply pw_below_drewN | apply below_drew1) | exact HB.out)))); have n1_ := Aside0.mk (below_step (by repeat (first | (with_reducible first | exact HB.out | apply below_alloc | apply pw_below_drewN | apply below_drew1) | exact HB.out)) hb); clear HB; have HO212 := n0_; have HB := n1_; clear n0_ n1_; (try clear hb); (try clear hb2); (try clear hk); (try clear hi); (try clear ho0); obtain ⟨Ao60, co60, eo60⟩ := Kd.R_slice HO212.out; subst eo60)); try go_wp2_with (first | (go_at_call 8; (with_reducible refine (lex_Cut.calls k a0 t208 t209 t210 _ A3.out).mono ?_); rintro e w59 ⟨v211, rfl, ho0, hb⟩; have n0_ := Aside0.mk (Kd.R_lower ho0 (below_size (by repeat (first | (with_reducible first | exact HB.out | apply below_alloc | apply pw_below_drewN | apply below_drew1) | exact HB.out)))); have n1_ := Aside0.mk (below_step (by repeat (first | (with_reducible first | exact HB.out | apply below_alloc | apply pw_below_drewN | apply below_drew1) | exact HB.out)) hb); clear HB; have HO212 := n0_; have HB := n1_; clear n0_ n1_; (try clear hb); (try clear hb2); (try clear hk); (try clear hi); (try clear ho0); obtain ⟨Ao60, co60, eo60⟩ := Kd.R_slice HO212.out; subst eo60)))
      go_ret
      exact ⟨by first | rfl | (simp [errW_none, errW_some] <;> rfl) | (simp [*, errW_none, errW_some] <;> rfl), by repeat (first | (with_reducible first | exact HB.out | apply below_alloc | apply pw_below_drewN | apply below_drew1) | exact HB.out)⟩
/-- THE ONE PURE STATEMENT of scarflaw10_LexAgain: yours. -/
def scarflaw10_LexAgain.Pure : Prop := ∀ (a0 : ByteArray) (a1 : Bool), a0.size ≤ 140737488351232 → ∃ k, scarflaw10_LexAgain.f k a0 a1 = some true
theorem scarflaw10_LexAgain.walk (P : scarflaw10_LexAgain.Pure) (a0 : ByteArray) (a1 : Bool) (w : World) (w0 : a0.size ≤ 140737488351232) :
    Calls Tryd.prog 4 #[.string a0, .bool a1] w fun e w' => e = .returned (.bool true) ∧ Below w.heap.size w w' := by
  obtain ⟨k, h⟩ := P a0 a1 w0
  refine (scarflaw10_LexAgain.calls k a0 a1 true w h).mono ?_
  rintro e w' ⟨rfl, hd⟩
  exact ⟨rfl, hd⟩
end Go.Proofs.YtlggjgpdiffajaaDoor.PA
namespace Go.Proofs.YtlggjgpdiffajaaDoor.Str
set_option linter.unusedVariables false
set_option linter.unusedSimpArgs false
open Go.RowKit Go.Proofs.YtlggjgpdiffajaaDoorW.PrintWords Go.Proofs.YtlggjgpdiffajaaDoorW.PrintLast Go.Proofs.YtlggjgpdiffajaaDoorW.PrintMore
theorem data_inj {s t : ByteArray} (h : s.data.toList = t.data.toList) : s = t := by
  cases s; cases t
  simp only [ByteArray.mk.injEq]
  exact Array.toList_inj.1 h
theorem bytes_inj {s t : ByteArray} (h : bytesOf s = bytesOf t) : s = t := by
  apply data_inj
  unfold bytesOf at h
  have inj : ∀ (l m : List UInt8), l.map (fun b => (b.toNat : Int)) = m.map (fun b => (b.toNat : Int)) → l = m := by
    intro l
    induction l with
    | nil => intro m h; cases m with
      | nil => rfl
      | cons => simp at h
    | cons a l ih => intro m h; cases m with
      | nil => simp at h
      | cons b m =>
        simp only [List.map_cons, List.cons.injEq] at h
        have e : a = b := UInt8.toNat_inj.1 (by have := h.1; omega)
        rw [e, ih m h.2]
  exact inj _ _ h
theorem toList_iff {s t : ByteArray} : s.toList = t.toList ↔ s = t := by
  constructor
  · intro h
    rw [ByteArray.toList_eq, ByteArray.toList_eq] at h
    exact data_inj h
  · rintro rfl; rfl
theorem size_bytes (s : ByteArray) : s.size = (bytesOf s).length := (bytesOf_length s).symm
theorem bytes_append (s t : ByteArray) : bytesOf (s ++ t) = bytesOf s ++ bytesOf t := by
  unfold bytesOf
  rw [ByteArray.data_append, Array.toList_append, List.map_append]
theorem bytes_extract (s : ByteArray) (a b : Nat) : bytesOf (s.extract a b) = ((bytesOf s).take b).drop a := by
  unfold bytesOf
  rw [ByteArray.data_extract, Array.toList_extract]
  simp [List.map_take, List.map_drop, List.take_drop]
  by_cases h : a ≤ b
  · congr 2; omega
  · rw [show b - a = 0 by omega]
    simp
    omega
theorem bytes_rest (s : ByteArray) (a : Nat) : bytesOf (s.extract a s.size) = (bytesOf s).drop a := by
  rw [bytes_extract, size_bytes, List.take_length]
theorem bytes_head (s : ByteArray) (b : Nat) : bytesOf (s.extract 0 b) = (bytesOf s).take b := by
  rw [bytes_extract, List.drop_zero]
theorem bytes_range (s : ByteArray) : ∀ x ∈ bytesOf s, 0 ≤ x ∧ x < 256 := by
  intro x hx
  unfold bytesOf at hx
  obtain ⟨b, _, rfl⟩ := List.mem_map.1 hx
  have := b.toNat_lt
  omega
theorem bytes_of {l : List Int} (h : ∀ x ∈ l, 0 ≤ x ∧ x < 256) : bytesOf (strOfNums l) = l := by
  unfold bytesOf
  rw [strOfNums_data, List.map_map]
  conv => rhs; rw [← List.map_id l]
  apply List.map_congr_left
  intro x hx
  have := h x hx
  simp only [Function.comp, id, UInt8.toNat_ofNat']
  omega
theorem str_of (s : ByteArray) : strOfNums (bytesOf s) = s := bytes_inj (bytes_of (bytes_range s))
theorem bt_get (s : ByteArray) (i : Int) : bt s i = (bytesOf s).getD i.toNat 0 := by
  rw [← rd_bytesOf]; rfl
theorem bt_nat (s : ByteArray) (i : Nat) : bt s (i : Int) = (bytesOf s).getD i 0 := by
  rw [bt_get]; rfl
theorem drop_cons {l : List Int} {i : Nat} (h : i < l.length) : l.drop i = l.getD i 0 :: l.drop (i + 1) := by
  rw [List.drop_eq_getElem_cons h]
  congr 1
  simp [List.getD, List.getElem?_eq_getElem h]
theorem strOfNums_append (l m : List Int) : strOfNums (l ++ m) = strOfNums l ++ strOfNums m := by
  apply data_inj
  rw [ByteArray.data_append, Array.toList_append, strOfNums_data, strOfNums_data, strOfNums_data, List.map_append]
theorem wrap64_id {n : Int} (h0 : -9223372036854775808 ≤ n) (h1 : n < 9223372036854775808) : wrap64 n = n := by
  unfold wrap64; omega
end Go.Proofs.YtlggjgpdiffajaaDoor.Str
namespace Go.Proofs.YtlggjgpdiffajaaDoor.LexM
set_option linter.unusedVariables false
set_option linter.unusedSimpArgs false
open Go.RowKit Go.Proofs.YtlggjgpdiffajaaDoor.PA Go.Proofs.YtlggjgpdiffajaaDoorW.PrintWords Go.Proofs.YtlggjgpdiffajaaDoorW.PrintLast Go.Proofs.YtlggjgpdiffajaaDoorW.PrintMore
open Go.Proofs.YtlggjgpdiffajaaDoor.Str
theorem wrap_add (a b : Nat) (h : a + b ≤ 4611686018427387904) : wrap64 ((a : Int) + (b : Int)) = ((a + b : Nat) : Int) := by
  rw [wrap64_id (by omega) (by omega)]; omega
theorem wrap_add1 (a : Nat) (h : a ≤ 4611686018427387910) : wrap64 ((a : Int) + 1) = ((a + 1 : Nat) : Int) := by
  rw [wrap64_id (by omega) (by omega)]; omega
theorem wrap_add2 (a : Nat) (h : a ≤ 4611686018427387910) : wrap64 ((a : Int) + 2) = ((a + 2 : Nat) : Int) := by
  rw [wrap64_id (by omega) (by omega)]; omega
/-- The pieces of a text between letters c. -/
def splitL (c : Int) : List Int → List (List Int)
  | [] => [[]]
  | b :: l => if b = c then [] :: splitL c l else match splitL c l with
    | [] => [[b]]
    | p :: ps => (b :: p) :: ps
theorem splitL_ne (c : Int) (l : List Int) : ∃ p ps, splitL c l = p :: ps := by
  cases l with
  | nil => exact ⟨_, _, rfl⟩
  | cons b l =>
    unfold splitL
    split
    · exact ⟨_, _, rfl⟩
    · split
      · exact ⟨_, _, rfl⟩
      · exact ⟨_, _, rfl⟩
theorem splitL_one (c : Int) (p : List Int) (h : c ∉ p) : splitL c p = [p] := by
  induction p with
  | nil => rfl
  | cons b p ih =>
    rw [List.mem_cons, not_or] at h
    rw [splitL, if_neg (fun e => h.1 e.symm), ih h.2]
theorem splitL_app (c : Int) (a b : List Int) : splitL c (a ++ c :: b) = splitL c a ++ splitL c b := by
  induction a with
  | nil => simp [splitL]
  | cons x a ih =>
    rw [List.cons_append, splitL]
    by_cases h : x = c
    · rw [if_pos h, ih]
      conv => rhs; rw [splitL, if_pos h]
      rfl
    · obtain ⟨p, ps, e⟩ := splitL_ne c a
      rw [if_neg h, ih, e]
      conv => rhs; rw [splitL, if_neg h, e]
      rfl
theorem indexByte_mem (l : List UInt8) (c : UInt8) : (Go.Lib.indexByte l c < 0 → c ∉ l) ∧ (¬ Go.Lib.indexByte l c < 0 → l = l.take (Go.Lib.indexByte l c).toNat ++ c :: l.drop ((Go.Lib.indexByte l c).toNat + 1) ∧ c ∉ l.take (Go.Lib.indexByte l c).toNat) := by
  induction l with
  | nil => exact ⟨fun _ => by simp, fun h => absurd (show Go.Lib.indexByte [] c < 0 by simp [Go.Lib.indexByte]) h⟩
  | cons b l ih =>
    have hg := Go.Lib.indexByte_ge l c
    rw [Go.Lib.indexByte]
    by_cases hb : (b == c) = true
    · rw [if_pos hb]
      have hbc : b = c := by simpa using hb
      refine ⟨fun h => absurd h (by omega), fun _ => ?_⟩
      simp [hbc]
    · have hbc : ¬ b = c := by simpa using hb
      rw [if_neg hb]
      by_cases hm : (Go.Lib.indexByte l c == -1) = true
      · rw [if_pos hm]
        have hm' : Go.Lib.indexByte l c = -1 := by simpa using hm
        refine ⟨fun _ => ?_, fun h => absurd (show (-1 : Int) < 0 by omega) h⟩
        rw [List.mem_cons, not_or]
        exact ⟨fun e => hbc e.symm, ih.1 (by omega)⟩
      · rw [if_neg hm]
        have hm' : ¬ Go.Lib.indexByte l c = -1 := by simpa using hm
        refine ⟨fun h => absurd h (by omega), fun _ => ?_⟩
        obtain ⟨h1, h2⟩ := ih.2 (by omega)
        have ht : (Go.Lib.indexByte l c + 1).toNat = (Go.Lib.indexByte l c).toNat + 1 := by omega
        rw [ht, List.take_succ_cons, List.drop_succ_cons]
        refine ⟨?_, ?_⟩
        · rw [List.cons_append, ← h1]
        · rw [List.mem_cons, not_or]
          exact ⟨fun e => hbc e.symm, h2⟩
theorem mem_bytes (l : List UInt8) (c : UInt8) : (c.toNat : Int) ∈ l.map (fun b => (b.toNat : Int)) ↔ c ∈ l := by
  rw [List.mem_map]
  constructor
  · rintro ⟨b, hb, e⟩
    have : b = c := UInt8.toNat_inj.1 (by omega)
    exact this ▸ hb
  · intro h; exact ⟨c, h, rfl⟩
theorem index_split (s : ByteArray) (c : UInt8) : (Go.Lib.indexByte s.data.toList c < 0 → (c.toNat : Int) ∉ bytesOf s) ∧ (¬ Go.Lib.indexByte s.data.toList c < 0 → bytesOf s = (bytesOf s).take (Go.Lib.indexByte s.data.toList c).toNat ++ (c.toNat : Int) :: (bytesOf s).drop ((Go.Lib.indexByte s.data.toList c).toNat + 1) ∧ (c.toNat : Int) ∉ (bytesOf s).take (Go.Lib.indexByte s.data.toList c).toNat) := by
  obtain ⟨h1, h2⟩ := indexByte_mem s.data.toList c
  refine ⟨fun h => ?_, fun h => ?_⟩
  · rw [bytesOf, mem_bytes]; exact h1 h
  · obtain ⟨e, m⟩ := h2 h
    refine ⟨?_, ?_⟩
    · conv => lhs; rw [bytesOf, e]
      rw [List.map_append, List.map_cons, List.map_take, List.map_drop]
      rfl
    · rw [bytesOf, ← List.map_take, mem_bytes]; exact m
theorem pieces_split (c : UInt8) : ∀ (n : Nat) (s : ByteArray), s.size ≤ n → (piecesF c s.size s).map bytesOf = splitL (c.toNat : Int) (bytesOf s) := by
  intro n
  induction n with
  | zero =>
    intro s hn
    have hi := indexByte_lt' s c
    have h : Go.Lib.indexByte s.data.toList c < 0 := by omega
    rw [pieces_end c s h, splitL_one _ _ ((index_split s c).1 h)]; rfl
  | succ n ih =>
    intro s hn
    by_cases h : Go.Lib.indexByte s.data.toList c < 0
    · rw [pieces_end c s h, splitL_one _ _ ((index_split s c).1 h)]; rfl
    · obtain ⟨e, m⟩ := (index_split s c).2 h
      have hi := indexByte_lt' s c
      have hz := ByteArray.size_extract (a := s) (b := (Go.Lib.indexByte s.data.toList c).toNat + 1) (e := s.size)
      rw [pieces_more c s h, List.map_cons, ih _ (by omega), bytes_head, bytes_rest]
      conv => rhs; rw [e, splitL_app, splitL_one _ _ m]
      rfl
/-- A part of a name. -/
def partL : List Int → Bool
  | [] => false
  | c :: l => (lxLo c || lxUp c) && (c :: l).all (lxOk (lxLo c))
theorem partAll_eq (t : Bool) (s : ByteArray) : ∀ m i, i + m = s.size → partAll t s m i = ((bytesOf s).drop i).all (lxOk t) := by
  intro m
  induction m with
  | zero => intro i h; rw [List.drop_of_length_le (by rw [bytesOf_length]; omega)]; rfl
  | succ m ih => intro i h; rw [partAll, ih (i + 1) (by omega), bt_nat]; conv => rhs; rw [drop_cons (by rw [bytesOf_length]; omega), List.all_cons]
theorem partB_eq (s : ByteArray) : partB s = partL (bytesOf s) := by
  unfold partB
  rw [partAll_eq _ s s.size 0 (by omega), List.drop_zero, show (0 : Int) = ((0 : Nat) : Int) from rfl, bt_nat, size_bytes]
  cases bytesOf s with
  | nil => rfl
  | cons c l => simp [partL]
/-- A name, without its bounds. -/
def nameS (l : List Int) : Bool := (splitL 45 l).all partL
theorem all_parts (s : ByteArray) : (piecesF 45 s.size s).all partB = nameS (bytesOf s) := by
  have h := pieces_split 45 s.size s (Nat.le_refl _)
  rw [nameS, show (45 : Int) = ((45 : UInt8).toNat : Int) from rfl, ← h, List.all_map]
  congr 1
  funext x
  exact partB_eq x
/-- A name. -/
def nameOk (l : List Int) : Bool := decide (0 < l.length) && decide (l.length ≤ 100) && nameS l
theorem Name_eq (s : ByteArray) : lex_Name.f s = some (nameOk (bytesOf s)) := by
  unfold lex_Name.f nameOk
  rw [all_parts, size_bytes]
  congr 1
  by_cases h0 : (bytesOf s).length = 0
  · rw [if_pos h0]; simp [h0]
  · rw [if_neg h0]
    by_cases h1 : 100 < (bytesOf s).length
    · rw [if_pos h1]; simp; intro _ _; omega
    · rw [if_neg h1, show decide (0 < (bytesOf s).length) = true by simp; omega, show decide ((bytesOf s).length ≤ 100) = true by simp; omega]; simp
theorem lo_def (a : Int) : lxLo a = true ↔ 97 ≤ a ∧ a ≤ 122 := by simp [lxLo]
theorem up_def (a : Int) : lxUp a = true ↔ 65 ≤ a ∧ a ≤ 90 := by simp [lxUp]
theorem di_def (a : Int) : lxDi a = true ↔ 48 ≤ a ∧ a ≤ 57 := by simp [lxDi]
/-- A number of a version. -/
def numOk (x : List Int) : Bool := decide (0 < x.length) && x.all lxDi && !(decide (1 < x.length) && x.headD 0 == 48) && decide (x.length ≤ 9)
/-- A version. -/
def verS (l : List Int) : Bool := (splitL 46 l).all numOk && (splitL 46 l).length == 3
theorem dw_nil {α : Type} (q : α → Bool) (l : List α) : List.dropWhile q l = [] ↔ ∀ b ∈ l, q b = true := by
  induction l with
  | nil => simp
  | cons a l ih =>
    rw [List.dropWhile_cons]
    by_cases h : q a = true
    · rw [if_pos h, ih]; simp [h]
    · rw [if_neg h]; simp [h]
theorem trim_nil (l : List UInt8) (cs : List UInt8) : Go.Lib.trimS l cs = [] ↔ ∀ b ∈ l, cs.contains b = true := by
  unfold Go.Lib.trimS Go.Lib.trimLeftS Go.Lib.trimRightS
  constructor
  · intro h b hb
    rw [dw_nil] at h
    by_cases hc : cs.contains b = true
    · exact hc
    · exfalso
      apply hc
      have hs := List.takeWhile_append_dropWhile (p := fun x => cs.contains x) (l := l.reverse)
      have hb' : b ∈ l.reverse := List.mem_reverse.2 hb
      rw [← hs, List.mem_append] at hb'
      rcases hb' with hb' | hb'
      · have := List.all_eq_true.1 (List.all_takeWhile (p := fun x => cs.contains x) (l := l.reverse)) b hb'
        exact this
      · exact h b (List.mem_reverse.2 hb')
  · intro h
    have : List.dropWhile (fun x => cs.contains x) l.reverse = [] := by
      rw [dw_nil]
      intro b hb
      exact h b (List.mem_reverse.1 hb)
    rw [this]; rfl
theorem digit_set (b : UInt8) : ([48, 49, 50, 51, 52, 53, 54, 55, 56, 57] : List UInt8).contains b = lxDi (b.toNat : Int) := by
  have h0 : ∀ n : Nat, n < 256 → ([48, 49, 50, 51, 52, 53, 54, 55, 56, 57] : List UInt8).contains (UInt8.ofNat n) = (decide (48 ≤ n) && decide (n ≤ 57)) := by decide +kernel
  have h1 := h0 b.toNat b.toNat_lt
  rw [UInt8.ofNat_toNat] at h1
  rw [h1]
  unfold lxDi
  rw [show decide ((48 : Int) ≤ (b.toNat : Int)) = decide (48 ≤ b.toNat) by congr 1; apply propext; omega, show decide ((b.toNat : Int) ≤ 57) = decide (b.toNat ≤ 57) by congr 1; apply propext; omega]
theorem verBad_eq (x : ByteArray) : (!verBad x) = numOk (bytesOf x) := by
  have h0 : (x.toList == []) = !decide (0 < (bytesOf x).length) := by
    rw [bytesOf_length]
    by_cases h : x.size = 0
    · rw [(str_empty x).2 h]; simp [h]
    · have hn : ¬ x.toList = [] := fun e => h ((str_empty x).1 e)
      rw [show (x.toList == []) = false by simp [hn]]
      simp; omega
  have h1 : ((Go.Proofs.YtlggjgpdiffajaaDoor.PA.trimmed x).toList != []) = !((bytesOf x).all lxDi) := by
    have e : (Go.Proofs.YtlggjgpdiffajaaDoor.PA.trimmed x).toList = Go.Lib.trimS x.data.toList [48, 49, 50, 51, 52, 53, 54, 55, 56, 57] := by
      rw [ByteArray.toList_eq]; unfold Go.Proofs.YtlggjgpdiffajaaDoor.PA.trimmed; simp
    rw [e]
    by_cases h : Go.Lib.trimS x.data.toList [48, 49, 50, 51, 52, 53, 54, 55, 56, 57] = []
    · rw [h]
      have := (trim_nil _ _).1 h
      rw [show (bytesOf x).all lxDi = true from by
        rw [List.all_eq_true]
        intro n hn
        rw [bytesOf, List.mem_map] at hn
        obtain ⟨b, hb, rfl⟩ := hn
        rw [← digit_set]; exact this b hb]
      rfl
    · rw [show (Go.Lib.trimS x.data.toList [48, 49, 50, 51, 52, 53, 54, 55, 56, 57] != []) = true by simp [h]]
      have hn : ¬ (bytesOf x).all lxDi = true := by
        intro ha
        apply h
        rw [trim_nil]
        intro b hb
        rw [digit_set]
        exact List.all_eq_true.1 ha _ (by rw [bytesOf, List.mem_map]; exact ⟨b, hb, rfl⟩)
      simp only [Bool.not_eq_true] at hn
      rw [hn]; rfl
  have h2 : (bt x 0 == 48) = ((bytesOf x).headD 0 == 48) := by
    rw [show (0 : Int) = ((0 : Nat) : Int) from rfl, bt_nat]
    cases bytesOf x <;> rfl
  have h3 : decide ((x.size : Int) > 1) = decide (1 < (bytesOf x).length) := by
    rw [bytesOf_length]; congr 1; apply propext; omega
  have h4 : decide ((x.size : Int) > 9) = !decide ((bytesOf x).length ≤ 9) := by
    rw [bytesOf_length]
    by_cases h : x.size ≤ 9
    · simp [h]; omega
    · simp [h]; omega
  unfold verBad numOk
  rw [h0, h1, h2, h3, h4]
  cases decide (0 < (bytesOf x).length) <;> cases (bytesOf x).all lxDi <;> cases decide (1 < (bytesOf x).length) <;> cases ((bytesOf x).headD 0 == 48) <;> cases decide ((bytesOf x).length ≤ 9) <;> rfl
theorem Version_eq (s : ByteArray) (hs : s.size ≤ 140737488355328) : lex_Version.f s = some (verS (bytesOf s)) := by
  unfold lex_Version.f verS
  rw [if_pos hs]
  have h := pieces_split 46 s.size s (Nat.le_refl _)
  rw [show (46 : Int) = ((46 : UInt8).toNat : Int) from rfl, ← h, List.all_map, List.length_map]
  have : (fun x => !verBad x) = (numOk ∘ bytesOf) := by funext x; exact verBad_eq x
  rw [this]
end Go.Proofs.YtlggjgpdiffajaaDoor.LexM
namespace Go.Proofs.YtlggjgpdiffajaaDoor.Ev
universe u v
/-- From some number of rounds on it tells v. -/
def Evr {α : Type u} (g : Nat → Option α) (v : α) : Prop := ∃ K, ∀ k, K ≤ k → g k = some v
theorem Evr.const {α : Type u} {o : Option α} {v : α} (h : o = some v) : Evr (fun _ => o) v := ⟨0, fun _ _ => h⟩
theorem Evr.ret {α : Type u} {v : α} : Evr (fun _ => some v) v := ⟨0, fun _ _ => rfl⟩
theorem Evr.step {α : Type u} {g h : Nat → Option α} {v : α} (hh : Evr h v) (hs : ∀ k, g (k + 1) = h k) : Evr g v := by
  obtain ⟨K, hK⟩ := hh
  refine ⟨K + 1, fun k hk => ?_⟩
  obtain ⟨k, rfl⟩ : ∃ m, k = m + 1 := ⟨k - 1, by omega⟩
  rw [hs]; exact hK k (by omega)
theorem Evr.eqs {α : Type u} {g h : Nat → Option α} {v : α} (hh : Evr h v) (hs : ∀ k, g k = h k) : Evr g v := by
  obtain ⟨K, hK⟩ := hh
  exact ⟨K, fun k hk => by rw [hs]; exact hK k hk⟩
theorem Evr.bind {α : Type u} {β : Type v} {f : Nat → Option α} {g : Nat → α → Option β} {a : α} {b : β} (hf : Evr f a) (hg : Evr (fun k => g k a) b) : Evr (fun k => (f k).bind (g k)) b := by
  obtain ⟨K, hK⟩ := hf
  obtain ⟨L, hL⟩ := hg
  exact ⟨K + L, fun k hk => by show (f k).bind (g k) = some b; rw [hK k (by omega)]; exact hL k (by omega)⟩
theorem Evr.out {α : Type u} {g : Nat → Option α} {v : α} (h : Evr g v) : ∃ k, g k = some v := by
  obtain ⟨K, hK⟩ := h
  exact ⟨K, hK K (Nat.le_refl K)⟩
end Go.Proofs.YtlggjgpdiffajaaDoor.Ev
namespace Go.Proofs.YtlggjgpdiffajaaDoor.PA
open Go.RowKit Go.Proofs.YtlggjgpdiffajaaDoorW.PrintWords Go.Proofs.YtlggjgpdiffajaaDoorW.PrintLast Go.Proofs.YtlggjgpdiffajaaDoorW.PrintMore
attribute [local go_sem] max2_int min2_int max_two min_two max_three min_three max_four min_four   -- for this text's walks alone
set_option linter.unusedVariables false
set_option linter.unusedSimpArgs false
end Go.Proofs.YtlggjgpdiffajaaDoor.PA
namespace Go.Proofs.YtlggjgpdiffajaaDoor.LexB
set_option linter.unusedVariables false
set_option linter.unusedSimpArgs false
open Go.RowKit Go.Proofs.YtlggjgpdiffajaaDoor.PA Go.Proofs.YtlggjgpdiffajaaDoorW.PrintWords Go.Proofs.YtlggjgpdiffajaaDoorW.PrintLast Go.Proofs.YtlggjgpdiffajaaDoorW.PrintMore
open Go.Proofs.YtlggjgpdiffajaaDoor.Str Go.Proofs.YtlggjgpdiffajaaDoor.Ev Go.Proofs.YtlggjgpdiffajaaDoor.LexM
/-- A blank letter. -/
def isB (c : Int) : Bool := c == 32 || c == 9 || c == 10 || c == 13
/-- How long a remark is from here on, d remarks around it. -/
def remL : Nat → List Int → Option Nat
  | _, [] => none
  | _, [_] => none
  | d, c :: e :: r => if c = 47 ∧ e = 42 then (remL (d + 1) r).map (· + 2) else if c = 42 ∧ e = 47 then (if d = 0 then some 2 else (remL (d - 1) r).map (· + 2)) else (remL d (e :: r)).map (· + 1)
/-- Blanks and remarks: 0 between, 1 in a remark of one line, d + 2 in a remark with d around it. -/
def blL : Nat → List Int → Option Nat
  | 0, [] => some 0
  | 1, [] => some 0
  | _ + 2, [] => none
  | 0, [c] => some (if isB c = true then 1 else 0)
  | 1, [_] => some 1
  | _ + 2, [_] => none
  | 0, c :: e :: r => if isB c = true then (blL 0 (e :: r)).map (· + 1) else if c = 47 ∧ e = 47 then (blL 1 r).map (· + 2) else if c = 47 ∧ e = 42 then (blL 2 r).map (· + 2) else some 0
  | 1, c :: e :: r => (blL (if c = 10 then 0 else 1) (e :: r)).map (· + 1)
  | d + 2, c :: e :: r => if c = 47 ∧ e = 42 then (blL (d + 3) r).map (· + 2) else if c = 42 ∧ e = 47 then (blL (if d = 0 then 0 else d + 1) r).map (· + 2) else (blL (d + 2) (e :: r)).map (· + 1)
theorem bl_one (c : Int) (l : List Int) : blL 1 (c :: l) = (blL (if c = 10 then 0 else 1) l).map (· + 1) := by
  cases l with
  | nil => rw [blL]; split <;> rfl
  | cons e r => rw [blL]
theorem bl_blank (c : Int) (l : List Int) (h : isB c = true) : blL 0 (c :: l) = (blL 0 l).map (· + 1) := by
  cases l with
  | nil => show some (if isB c = true then 1 else 0) = _; rw [if_pos h]; rfl
  | cons e r => rw [blL, if_pos h]
theorem bl_line (l : List Int) (h : (10 : Int) ∉ l) : blL 1 l = some l.length := by
  induction l with
  | nil => rfl
  | cons c l ih =>
    rw [List.mem_cons, not_or] at h
    rw [bl_one, if_neg (fun e => h.1 e.symm), ih h.2]; rfl
theorem bl_line_end (p q : List Int) (h : (10 : Int) ∉ p) : blL 1 (p ++ 10 :: q) = (blL 0 q).map (· + (p.length + 1)) := by
  induction p with
  | nil => rw [List.nil_append, bl_one, if_pos rfl]; rfl
  | cons c p ih =>
    rw [List.mem_cons, not_or] at h
    rw [List.cons_append, bl_one, if_neg (fun e => h.1 e.symm), ih h.2, Option.map_map]
    congr 1
theorem bl_slashes (r : List Int) : blL 0 (47 :: 47 :: r) = blL 1 (47 :: 47 :: r) := by
  rw [blL, if_neg (by decide), if_pos ⟨rfl, rfl⟩, bl_one, if_neg (by decide), bl_one, if_neg (by decide), Option.map_map]
  rfl
theorem bl_rem : ∀ (n : Nat) (l : List Int) (d : Nat), l.length ≤ n → blL (d + 2) l = (remL d l).bind fun n => (blL 0 (l.drop n)).map (· + n) := by
  intro n
  induction n with
  | zero =>
    intro l d hl
    obtain rfl : l = [] := List.length_eq_zero_iff.1 (by omega)
    rfl
  | succ n ih =>
    intro l d hl
    match l with
    | [] => rfl
    | [c] => rfl
    | c :: e :: r =>
      simp only [List.length_cons] at hl
      rw [blL, remL]
      by_cases h1 : c = 47 ∧ e = 42
      · rw [if_pos h1, if_pos h1, show d + 3 = (d + 1) + 2 by omega, ih r (d + 1) (by omega)]
        cases remL (d + 1) r with
        | none => rfl
        | some m => simp [Option.map_map, Function.comp_def, Nat.add_assoc]
      · rw [if_neg h1, if_neg h1]
        by_cases h2 : c = 42 ∧ e = 47
        · rw [if_pos h2, if_pos h2]
          by_cases h3 : d = 0
          · rw [if_pos h3, if_pos h3]; rfl
          · rw [if_neg h3, if_neg h3, show d + 1 = (d - 1) + 2 by omega, ih r (d - 1) (by omega)]
            cases remL (d - 1) r with
            | none => rfl
            | some m => simp [Option.map_map, Function.comp_def, Nat.add_assoc]
        · rw [if_neg h2, if_neg h2, ih (e :: r) d (by simp only [List.length_cons]; omega)]
          cases remL d (e :: r) with
          | none => rfl
          | some m => simp [Option.map_map, Function.comp_def, Nat.add_assoc]
theorem bl_star (r : List Int) : blL 0 (47 :: 42 :: r) = (remL 0 r).bind fun n => (blL 0 (r.drop n)).map (· + (n + 2)) := by
  rw [blL, if_neg (by decide), if_neg (by decide), if_pos ⟨rfl, rfl⟩, bl_rem r.length r 0 (Nat.le_refl _)]
  cases remL 0 r with
  | none => rfl
  | some m => simp [Option.map_map, Function.comp_def, Nat.add_assoc]
theorem bl_other (c e : Int) (r : List Int) (h0 : isB c = false) (h1 : ¬ (c = 47 ∧ e = 47)) (h2 : ¬ (c = 47 ∧ e = 42)) : blL 0 (c :: e :: r) = some 0 := by
  rw [blL, if_neg (by rw [h0]; decide), if_neg h1, if_neg h2]
theorem rem_le : ∀ (n : Nat) (l : List Int) (d m : Nat), l.length ≤ n → remL d l = some m → m ≤ l.length ∧ 2 ≤ m := by
  intro n
  induction n with
  | zero =>
    intro l d m hl h
    obtain rfl : l = [] := List.length_eq_zero_iff.1 (by omega)
    cases h
  | succ n ih =>
    intro l d m hl h
    match l with
    | [] => cases h
    | [c] => cases h
    | c :: e :: r =>
      simp only [List.length_cons] at hl ⊢
      rw [remL] at h
      by_cases h1 : c = 47 ∧ e = 42
      · rw [if_pos h1, Option.map_eq_some_iff] at h
        obtain ⟨q, hq, rfl⟩ := h
        have := ih r (d + 1) q (by omega) hq
        omega
      · rw [if_neg h1] at h
        by_cases h2 : c = 42 ∧ e = 47
        · rw [if_pos h2] at h
          by_cases h3 : d = 0
          · rw [if_pos h3] at h; injection h with h; omega
          · rw [if_neg h3, Option.map_eq_some_iff] at h
            obtain ⟨q, hq, rfl⟩ := h
            have := ih r (d - 1) q (by omega) hq
            omega
        · rw [if_neg h2, Option.map_eq_some_iff] at h
          obtain ⟨q, hq, rfl⟩ := h
          have := ih (e :: r) d q (by simp only [List.length_cons]; omega) hq
          simp only [List.length_cons] at this
          omega
theorem bl_le : ∀ (n : Nat) (l : List Int) (s m : Nat), l.length ≤ n → blL s l = some m → m ≤ l.length := by
  intro n
  induction n with
  | zero =>
    intro l s m hl h
    obtain rfl : l = [] := List.length_eq_zero_iff.1 (by omega)
    match s with
    | 0 => injection h with h; simp; omega
    | 1 => injection h with h; simp; omega
    | s + 2 => cases h
  | succ n ih =>
    intro l s m hl h
    match s, l with
    | 0, [] => injection h with h; simp; omega
    | 1, [] => injection h with h; simp; omega
    | s + 2, [] => cases h
    | 0, [c] => rw [blL] at h; injection h with h; simp; split at h <;> omega
    | 1, [c] => injection h with h; simp; omega
    | s + 2, [c] => cases h
    | 0, c :: e :: r =>
      simp only [List.length_cons] at hl ⊢
      rw [blL] at h
      split at h
      · rw [Option.map_eq_some_iff] at h
        obtain ⟨q, hq, rfl⟩ := h
        have := ih (e :: r) 0 q (by simp only [List.length_cons]; omega) hq
        simp only [List.length_cons] at this; omega
      · split at h
        · rw [Option.map_eq_some_iff] at h
          obtain ⟨q, hq, rfl⟩ := h
          have := ih r 1 q (by omega) hq
          omega
        · split at h
          · rw [Option.map_eq_some_iff] at h
            obtain ⟨q, hq, rfl⟩ := h
            have := ih r 2 q (by omega) hq
            omega
          · injection h with h; omega
    | 1, c :: e :: r =>
      simp only [List.length_cons] at hl ⊢
      rw [blL, Option.map_eq_some_iff] at h
      obtain ⟨q, hq, rfl⟩ := h
      have := ih (e :: r) _ q (by simp only [List.length_cons]; omega) hq
      simp only [List.length_cons] at this; omega
    | s + 2, c :: e :: r =>
      simp only [List.length_cons] at hl ⊢
      rw [blL] at h
      split at h
      · rw [Option.map_eq_some_iff] at h
        obtain ⟨q, hq, rfl⟩ := h
        have := ih r _ q (by omega) hq
        omega
      · split at h
        · rw [Option.map_eq_some_iff] at h
          obtain ⟨q, hq, rfl⟩ := h
          have := ih r _ q (by omega) hq
          omega
        · rw [Option.map_eq_some_iff] at h
          obtain ⟨q, hq, rfl⟩ := h
          have := ih (e :: r) _ q (by simp only [List.length_cons]; omega) hq
          simp only [List.length_cons] at this; omega
/-- Two letters at a place. -/
theorem two_at {l : List Int} {i : Nat} (h : i + 1 < l.length) : l.drop i = l.getD i 0 :: l.getD (i + 1) 0 :: l.drop (i + 2) := by
  rw [drop_cons (by omega), drop_cons (i := i + 1) h]
theorem toList_two (s : ByteArray) (a b : UInt8) : s.toList = ([a, b] : List UInt8) ↔ bytesOf s = [(a.toNat : Int), (b.toNat : Int)] := by
  have ht : (⟨#[a, b]⟩ : ByteArray).toList = [a, b] := ByteArray.toList_eq _
  have hb : bytesOf (⟨#[a, b]⟩ : ByteArray) = [(a.toNat : Int), (b.toNat : Int)] := rfl
  rw [← ht, ← hb, toList_iff]
  exact ⟨fun h => by rw [h], bytes_inj⟩
theorem extract_two (x : ByteArray) (i : Nat) (h : i + 1 < x.size) : bytesOf (x.extract i (i + 2)) = [(bytesOf x).getD i 0, (bytesOf x).getD (i + 1) 0] := by
  have hl : i + 1 < (bytesOf x).length := by rw [bytesOf_length]; exact h
  rw [bytes_extract, List.drop_take, show i + 2 - i = 2 by omega, two_at hl]
  rfl
/-- Does it begin with these two letters? -/
def pre2 (l : List Int) (a b : Int) : Bool := l.getD 0 0 == a && l.getD 1 0 == b && decide (2 ≤ l.length)
theorem pre2_t {l : List Int} {a b : Int} (r : List Int) (h : l = a :: b :: r) : pre2 l a b = true := by subst h; simp [pre2]
theorem pre2_f {l : List Int} {c e a b : Int} (r : List Int) (h : l = c :: e :: r) (hn : ¬ (c = a ∧ e = b)) : pre2 l a b = false := by
  subst h
  unfold pre2
  by_cases h1 : c = a
  · have h2 : ¬ e = b := fun h => hn ⟨h1, h⟩
    simp [h2]
  · simp [h1]
theorem pre2_s {l : List Int} (a b : Int) (h : l.length < 2) : pre2 l a b = false := by
  unfold pre2; rw [decide_eq_false (by omega), Bool.and_false]
theorem HasPrefix_two (x : ByteArray) (a b : UInt8) (hx : x.size ≤ 4611686018427387904) : strings_HasPrefix.f x (⟨#[a, b]⟩ : ByteArray) = some (pre2 (bytesOf x) (a.toNat : Int) (b.toNat : Int)) := by
  have hs : (⟨#[a, b]⟩ : ByteArray).size = 2 := rfl
  have ht : (⟨#[a, b]⟩ : ByteArray).toList = [a, b] := ByteArray.toList_eq _
  have hlen := bytesOf_length x
  unfold strings_HasPrefix.f stringslite_HasPrefix.f
  rw [hs]
  by_cases h : 2 ≤ x.size
  · have e := extract_two x 0 (by omega)
    have d := two_at (l := bytesOf x) (i := 0) (by omega)
    rw [List.drop_zero] at d
    rw [if_pos (by omega), if_pos (by omega), if_pos (by omega), ht, Option.bind_some]
    congr 1
    show ((x.extract 0 2).toList == [a, b]) = _
    by_cases hq : (x.extract 0 2).toList = [a, b]
    · have := (toList_two _ a b).1 hq
      rw [e] at this
      injection this with h1 h2
      injection h2 with h2 _
      rw [h1, h2] at d
      rw [hq, pre2_t _ d]; simp
    · rw [pre2_f _ d (fun ⟨h1, h2⟩ => hq ((toList_two _ a b).2 (by rw [e, h1, h2])))]
      simp [hq]
  · rw [if_neg (by omega), Option.bind_some, pre2_s _ _ (by omega)]
/-- What the program tells of a remark. -/
def remV (i : Nat) : Option Nat → Int
  | some n => ((i + n : Nat) : Int)
  | none => 0
theorem lex_rem (x : ByteArray) (hx : x.size ≤ 4611686018427387904) : ∀ (m i d : Nat), x.size - i ≤ m → i ≤ x.size → d < i → Evr (fun k => lex_remark.l0 k x ((d + 1 : Nat) : Int) (i : Int)) (remV i (remL d ((bytesOf x).drop i))) := by
  intro m
  induction m using Nat.strongRecOn with
  | ind m ih =>
  intro i d hm hi hd
  have hlen := bytesOf_length x
  have hw1 : wrap64 ((i : Int) + 1) = ((i + 1 : Nat) : Int) := wrap_add1 i (by omega)
  have hw2 : wrap64 ((i : Int) + 2) = ((i + 2 : Nat) : Int) := wrap_add2 i (by omega)
  have hwd : wrap64 (((d + 1 : Nat) : Int) + 1) = ((d + 1 + 1 : Nat) : Int) := by rw [wrap64_id (by omega) (by omega)]; omega
  have hwe : wrap64 (((d + 1 : Nat) : Int) - 1) = ((d : Nat) : Int) := by rw [wrap64_id (by omega) (by omega)]; omega
  by_cases h : i + 1 < x.size
  · have e2 := extract_two x i h
    have d2 := two_at (l := bytesOf x) (i := i) (by omega)
    rw [d2]
    generalize hc : (bytesOf x).getD i 0 = c at e2 ⊢
    generalize he : (bytesOf x).getD (i + 1) 0 = e at e2 ⊢
    have q1 : (x.extract (i : Int).toNat (((i + 2 : Nat) : Int)).toNat).toList = ([47, 42] : List UInt8) ↔ (c = 47 ∧ e = 42) := by
      show (x.extract i (i + 2)).toList = _ ↔ _
      rw [toList_two, e2]
      simp only [List.cons.injEq, and_true]
      exact Iff.rfl
    have q2 : (x.extract (i : Int).toNat (((i + 2 : Nat) : Int)).toNat).toList = ([42, 47] : List UInt8) ↔ (c = 42 ∧ e = 47) := by
      show (x.extract i (i + 2)).toList = _ ↔ _
      rw [toList_two, e2]
      simp only [List.cons.injEq, and_true]
      exact Iff.rfl
    rw [remL]
    by_cases h1 : c = 47 ∧ e = 42
    · rw [if_pos h1]
      have hr := ih (m - 2) (by omega) (i + 2) (d + 1) (by omega) (by omega) (by omega)
      refine Evr.step ?_ (fun k => by rw [lex_remark.l0, hw1, if_pos (by omega), if_pos (by omega), hw2, if_pos (by omega), if_pos (by omega), if_pos (q1.2 h1), hwd, if_neg (by omega)])
      have e3 : remV i (Option.map (· + 2) (remL (d + 1) ((bytesOf x).drop (i + 2)))) = remV (i + 2) (remL (d + 1) ((bytesOf x).drop (i + 2))) := by
        cases remL (d + 1) ((bytesOf x).drop (i + 2)) with
        | none => rfl
        | some n => simp only [remV, Option.map_some]; omega
      rw [e3]; exact hr
    · rw [if_neg h1]
      by_cases h2 : c = 42 ∧ e = 47
      · rw [if_pos h2]
        by_cases h3 : d = 0
        · rw [if_pos h3]
          subst h3
          exact Evr.step Evr.ret (fun k => by rw [lex_remark.l0, hw1, if_pos (by omega), if_pos (by omega), hw2, if_pos (by omega), if_pos (by omega), if_neg (fun z => h1 (q1.1 z)), if_pos (q2.2 h2), hwe, if_pos (show ((0 : Nat) : Int) = 0 from rfl)]; rfl)
        · rw [if_neg h3]
          have hr := ih (m - 2) (by omega) (i + 2) (d - 1) (by omega) (by omega) (by omega)
          refine Evr.step ?_ (fun k => by rw [lex_remark.l0, hw1, if_pos (by omega), if_pos (by omega), hw2, if_pos (by omega), if_pos (by omega), if_neg (fun z => h1 (q1.1 z)), if_pos (q2.2 h2), hwe, if_neg (by omega), show ((d : Nat) : Int) = ((d - 1 + 1 : Nat) : Int) by omega])
          have e3 : remV i (Option.map (· + 2) (remL (d - 1) ((bytesOf x).drop (i + 2)))) = remV (i + 2) (remL (d - 1) ((bytesOf x).drop (i + 2))) := by
            cases remL (d - 1) ((bytesOf x).drop (i + 2)) with
            | none => rfl
            | some n => simp only [remV, Option.map_some]; omega
          rw [e3]; exact hr
      · rw [if_neg h2]
        have hr := ih (m - 1) (by omega) (i + 1) d (by omega) (by omega) (by omega)
        refine Evr.step ?_ (fun k => by rw [lex_remark.l0, hw1, if_pos (by omega), if_pos (by omega), hw2, if_pos (by omega), if_pos (by omega), if_neg (fun z => h1 (q1.1 z)), if_neg (fun z => h2 (q2.1 z)), if_neg (by omega)])
        have hd : (bytesOf x).drop (i + 1) = e :: (bytesOf x).drop (i + 2) := by rw [drop_cons (by omega), he]
        rw [hd] at hr
        have e3 : remV i (Option.map (· + 1) (remL d (e :: (bytesOf x).drop (i + 2)))) = remV (i + 1) (remL d (e :: (bytesOf x).drop (i + 2))) := by
          cases remL d (e :: (bytesOf x).drop (i + 2)) with
          | none => rfl
          | some n => simp only [remV, Option.map_some]; omega
        rw [e3]; exact hr
  · have hn : remL d ((bytesOf x).drop i) = none := by
      have hl : ((bytesOf x).drop i).length ≤ 1 := by rw [List.length_drop]; omega
      match hm : (bytesOf x).drop i with
      | [] => rfl
      | [_] => rfl
      | _ :: _ :: _ => rw [hm] at hl; simp only [List.length_cons] at hl; omega
    rw [hn]
    exact Evr.step Evr.ret (fun k => by rw [lex_remark.l0, hw1, if_neg (by omega)]; rfl)
theorem lex_remark_at (x : ByteArray) (hx : x.size ≤ 4611686018427387904) (r : List Int) (h : bytesOf x = 47 :: 42 :: r) : Evr (fun k => lex_remark.f k x) (remV 2 (remL 0 r)) := by
  have hlen := bytesOf_length x
  have hs : 2 ≤ x.size := by rw [← hlen, h]; simp
  have e2 := extract_two x 0 (by omega)
  have q1 : (x.extract (0 : Int).toNat (2 : Int).toNat).toList = ([47, 42] : List UInt8) := by
    show (x.extract 0 2).toList = _
    rw [toList_two, e2, h]; rfl
  have hr := lex_rem x hx x.size 2 0 (by omega) hs (by omega)
  rw [h] at hr
  refine Evr.eqs (h := fun k => lex_remark.l0 k x 0 0) ?_ (fun k => rfl)
  refine Evr.step hr (fun k => ?_)
  rw [lex_remark.l0, show wrap64 ((0 : Int) + 1) = 1 from wrap64_id (by omega) (by omega), if_pos (by omega), if_pos (by omega), show wrap64 ((0 : Int) + 2) = 2 from wrap64_id (by omega) (by omega), if_pos (by omega), if_pos (by omega), if_pos q1, if_neg (by decide)]
  rfl
/-- What the program tells of blanks. -/
def blV (i : Nat) : Option Nat → Int × Bool
  | some n => (((i + n : Nat) : Int), true)
  | none => (0, false)
theorem blV_add (i n : Nat) (o : Option Nat) : blV i (o.map (· + n)) = blV (i + n) o := by
  cases o with
  | none => rfl
  | some m => simp only [blV, Option.map_some]; congr 2; omega
theorem isB_cases (c : Int) : isB c = true ↔ c = 32 ∨ c = 9 ∨ c = 10 ∨ c = 13 := by
  unfold isB
  simp [or_assoc]
theorem lex_bl (x : ByteArray) (hx : x.size ≤ 140737488355328) : ∀ (m i : Nat), x.size ≤ i + m → i ≤ x.size → Evr (fun k => lex_blank.l0 k x (i : Int)) (blV i (blL 0 ((bytesOf x).drop i))) := by
  intro m
  induction m using Nat.strongRecOn with
  | ind m ih =>
  intro i hm hi
  have hlen := bytesOf_length x
  have hw1 : wrap64 ((i : Int) + 1) = ((i + 1 : Nat) : Int) := wrap_add1 i (by omega)
  by_cases hi' : i = x.size
  · rw [List.drop_of_length_le (by omega)]
    exact Evr.step Evr.ret (fun k => by rw [lex_blank.l0, if_neg (by omega)]; rfl)
  · obtain ⟨m, rfl⟩ : ∃ q, m = q + 1 := ⟨m - 1, by omega⟩
    generalize hy : x.extract i x.size = y
    have hyb : bytesOf y = (bytesOf x).drop i := by rw [← hy]; exact bytes_rest x i
    have hys : y.size + i = x.size := by rw [size_bytes, hyb, List.length_drop]; omega
    have d1 : (bytesOf x).drop i = (bytesOf x).getD i 0 :: (bytesOf x).drop (i + 1) := drop_cons (by omega)
    generalize hc : (bytesOf x).getD i 0 = c at d1
    have hb0 : bt y 0 = c := by rw [show (0 : Int) = ((0 : Nat) : Int) from rfl, bt_nat, hyb, d1]; rfl
    have hj : Evr (fun k => lex_blank.j1 k x (i : Int) y (isB c)) (blV i (blL 0 ((bytesOf x).drop i))) := by
      cases hB : isB c with
      | true =>
        rw [d1, bl_blank c _ hB, blV_add]
        exact Evr.step (ih m (Nat.lt_succ_self m) (i + 1) (by omega) (by omega)) (fun k => by rw [lex_blank.j1, if_pos rfl, hw1])
      | false =>
        have p1 := HasPrefix_two y 47 47 (by omega)
        have p2 := HasPrefix_two y 47 42 (by omega)
        have other : ∀ r, (bytesOf x).drop i = r → (strings_HasPrefix.f y (⟨#[47, 47]⟩ : ByteArray) = some false) → (strings_HasPrefix.f y (⟨#[47, 42]⟩ : ByteArray) = some false) → blL 0 r = some 0 → Evr (fun k => lex_blank.j1 k x (i : Int) y false) (blV i (blL 0 r)) := by
          intro r hr f1 f2 hz
          rw [hz]
          exact Evr.step Evr.ret (fun k => by rw [lex_blank.j1, if_neg (by decide), f1, Option.bind_some, if_neg (by decide), f2, Option.bind_some, if_neg (by decide)]; rfl)
        match hd : (bytesOf x).drop i with
        | [] => rw [hd] at d1; cases d1
        | [e] =>
          rw [hd] at d1
          injection d1 with d1 _
          subst d1
          rw [pre2_s _ _ (by rw [hyb, hd]; simp)] at p1 p2
          refine other _ hd p1 p2 ?_
          show some (if isB e = true then 1 else 0) = some 0
          rw [hB]; rfl
        | e :: f :: r =>
          have hyx := hyb.trans hd
          rw [hd] at d1
          injection d1 with d1 d1'
          subst d1
          have d3 : (bytesOf x).drop (i + 2) = r := by
            rw [show i + 2 = (i + 1) + 1 by omega, ← List.drop_drop, ← d1']; rfl
          by_cases h1 : e = 47 ∧ f = 47
          · obtain ⟨rfl, rfl⟩ := h1
            have p1 : strings_HasPrefix.f y (⟨#[47, 47]⟩ : ByteArray) = some true := p1.trans (congrArg some (pre2_t r hyx))
            rw [bl_slashes]
            obtain ⟨s1, s2⟩ := index_split y 10
            have ht := indexByte_lt' y 10
            by_cases hn : Go.Lib.indexByte y.data.toList 10 < 0
            · have h10 := s1 hn
              rw [hyx] at h10
              rw [bl_line _ h10]
              have hl : (47 :: 47 :: r).length = y.size := by rw [← hyx, bytesOf_length]
              refine Evr.step Evr.ret (fun k => ?_)
              rw [lex_blank.j1, if_neg (by decide), p1, Option.bind_some, if_pos rfl, strings_IndexByte.f, Option.bind_some]
              rw [show Go.Lib.indexByte y.data.toList (10 : Int).toNat.toUInt8 = Go.Lib.indexByte y.data.toList 10 from rfl, if_pos hn, hl]
              simp only [blV]
              congr 2; omega
            · obtain ⟨s3, s4⟩ := s2 hn
              generalize ht' : (Go.Lib.indexByte y.data.toList 10).toNat = t at s3 s4
              have hti : Go.Lib.indexByte y.data.toList 10 = (t : Int) := by omega
              rw [hti] at ht
              have hb : i + (t + 1) ≤ x.size := by clear hw1 ih s1 s2 s3 s4 hx hm hti ht'; omega
              have hb2 : x.size ≤ i + (t + 1) + m := by clear hw1 ih s1 s2 s3 s4 hx ht hti ht'; omega
              have hlt : ((bytesOf y).take t).length = t := by rw [List.length_take, bytesOf_length]; omega
              have hdt : (bytesOf y).drop (t + 1) = (bytesOf x).drop (i + (t + 1)) := by rw [hyb, List.drop_drop]
              have e3 : blL 1 (47 :: 47 :: r) = (blL 0 ((bytesOf x).drop (i + (t + 1)))).map (· + (t + 1)) := by
                rw [← hyx, s3, show ((10 : UInt8).toNat : Int) = 10 from rfl, bl_line_end _ _ s4, hlt, hdt]
              rw [e3, blV_add]
              have hwt : wrap64 ((t : Int) + 1) = ((t + 1 : Nat) : Int) := wrap_add1 t (Nat.le_trans (by clear hw1 ih s1 s2 s3 s4 hx hm hti ht' ht hb2 hlt; omega) (Nat.le_trans (Nat.le_trans hb hx) (by decide)))
              have hwi : wrap64 ((i : Int) + ((t + 1 : Nat) : Int)) = ((i + (t + 1) : Nat) : Int) := wrap_add i (t + 1) (Nat.le_trans hb (Nat.le_trans hx (by decide)))
              refine Evr.step (ih m (Nat.lt_succ_self m) (i + (t + 1)) hb2 hb) (fun k => ?_)
              rw [lex_blank.j1, if_neg (by decide), p1, Option.bind_some, if_pos rfl, strings_IndexByte.f, Option.bind_some]
              rw [show Go.Lib.indexByte y.data.toList (10 : Int).toNat.toUInt8 = Go.Lib.indexByte y.data.toList 10 from rfl, hti, if_neg (Int.not_lt.2 (Int.natCast_nonneg t)), hwt, hwi]
          · have p1 : strings_HasPrefix.f y (⟨#[47, 47]⟩ : ByteArray) = some false := p1.trans (congrArg some (pre2_f r hyx h1))
            by_cases h2 : e = 47 ∧ f = 42
            · obtain ⟨rfl, rfl⟩ := h2
              have p2 : strings_HasPrefix.f y (⟨#[47, 42]⟩ : ByteArray) = some true := p2.trans (congrArg some (pre2_t r hyx))
              rw [bl_star]
              have hr := lex_remark_at y (by omega) r hyx
              refine Evr.step ?_ (fun k => by rw [lex_blank.j1, if_neg (by decide), p1, Option.bind_some, if_neg (by decide), p2, Option.bind_some, if_pos rfl])
              refine Evr.bind hr ?_
              cases hq : remL 0 r with
              | none => exact Evr.eqs Evr.ret (fun k => by rw [remV, if_pos rfl]; rfl)
              | some n =>
                have hn := rem_le r.length r 0 n (Nat.le_refl _) hq
                have hl : r.length + 1 + 1 = y.size := by rw [← bytesOf_length y, hyx]; rfl
                have hwi : wrap64 ((i : Int) + ((2 + n : Nat) : Int)) = ((i + (n + 2) : Nat) : Int) := (wrap_add i (2 + n) (by omega)).trans (by rw [Nat.add_comm 2 n])
                rw [Option.bind_some, ← d3, List.drop_drop, blV_add, show i + 2 + n = i + (n + 2) by omega]
                exact Evr.eqs (ih m (Nat.lt_succ_self m) (i + (n + 2)) (by omega) (by omega)) (fun k => by rw [remV, if_neg (by omega), hwi])
            · have p2 : strings_HasPrefix.f y (⟨#[47, 42]⟩ : ByteArray) = some false := p2.trans (congrArg some (pre2_f r hyx h2))
              exact other _ hd p1 p2 (bl_other e f r hB h1 h2)
    refine Evr.step hj (fun k => ?_)
    rw [lex_blank.l0, if_pos (by omega), if_pos (by omega), if_pos (by omega), show (i : Int).toNat = i from rfl, hy, if_pos (by omega), hb0]
    by_cases c1 : c = 32
    · rw [if_pos c1, show isB c = true by rw [isB_cases]; exact .inl c1]
    · rw [if_neg c1]
      by_cases c2 : c = 9
      · rw [if_pos c2, show isB c = true by rw [isB_cases]; exact .inr (.inl c2)]
      · rw [if_neg c2]
        by_cases c3 : c = 10
        · rw [if_pos c3, show isB c = true by rw [isB_cases]; exact .inr (.inr (.inl c3))]
        · rw [if_neg c3]
          have : isB c = (c == 13) := by unfold isB; simp [c1, c2, c3]
          rw [this]
theorem lex_blank_at (x : ByteArray) (hx : x.size ≤ 140737488355328) : Evr (fun k => lex_blank.f k x) (blV 0 (blL 0 (bytesOf x))) := by
  have := lex_bl x hx x.size 0 (by omega) (by omega)
  rw [List.drop_zero] at this
  exact this
end Go.Proofs.YtlggjgpdiffajaaDoor.LexB
namespace Go.Proofs.YtlggjgpdiffajaaDoor.PA
open Go.RowKit Go.Proofs.YtlggjgpdiffajaaDoorW.PrintWords Go.Proofs.YtlggjgpdiffajaaDoorW.PrintLast Go.Proofs.YtlggjgpdiffajaaDoorW.PrintMore
attribute [local go_sem] max2_int min2_int max_two min_two max_three min_three max_four min_four   -- for this text's walks alone
set_option linter.unusedVariables false
set_option linter.unusedSimpArgs false
end Go.Proofs.YtlggjgpdiffajaaDoor.PA
namespace Go.Proofs.YtlggjgpdiffajaaDoor.LexK
set_option linter.unusedVariables false
set_option linter.unusedSimpArgs false
open Go.RowKit Go.Proofs.YtlggjgpdiffajaaDoor.PA Go.Proofs.YtlggjgpdiffajaaDoorW.PrintWords Go.Proofs.YtlggjgpdiffajaaDoorW.PrintLast Go.Proofs.YtlggjgpdiffajaaDoorW.PrintMore
open Go.Proofs.YtlggjgpdiffajaaDoor.Str Go.Proofs.YtlggjgpdiffajaaDoor.Ev Go.Proofs.YtlggjgpdiffajaaDoor.LexM
end Go.Proofs.YtlggjgpdiffajaaDoor.LexK
namespace Go.Proofs.YtlggjgpdiffajaaDoor.PA
set_option maxRecDepth 100000
open Go.Proofs.YtlggjgpdiffajaaDoorW.PrintWords Go.Proofs.YtlggjgpdiffajaaDoor.Ev
theorem awake_at : scarflaw10_awake.f 60 = some true := by decide +kernel
theorem awake_ev : Evr (fun k => scarflaw10_awake.f k) true := ⟨60, fun _ hk => at_rounds scarflaw10_awake.mono hk awake_at⟩
open Go.RowKit Go.Proofs.YtlggjgpdiffajaaDoorW.PrintWords Go.Proofs.YtlggjgpdiffajaaDoorW.PrintLast Go.Proofs.YtlggjgpdiffajaaDoorW.PrintMore
attribute [local go_sem] max2_int min2_int max_two min_two max_three min_three max_four min_four   -- for this text's walks alone
set_option linter.unusedVariables false
set_option linter.unusedSimpArgs false
end Go.Proofs.YtlggjgpdiffajaaDoor.PA
