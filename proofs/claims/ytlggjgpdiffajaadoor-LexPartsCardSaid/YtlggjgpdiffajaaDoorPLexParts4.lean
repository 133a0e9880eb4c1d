/- Several texts, laid into one for a claim: PAx53, Str, LexM, Ev, LexAw, LexP, PureLexParts. -/
import Derived.Test.YtlggjgpdiffajaaDoorPLexParts1
import Derived.Test.YtlggjgpdiffajaaDoorPLexParts3
import Derived.Test.YtlggjgpdiffajaaDoorPLexParts0
import Derived.Test.YtlggjgpdiffajaaDoorPLexParts2
namespace Go.Proofs.YtlggjgpdiffajaaDoor.PA
open Go.RowKit Go.Proofs.YtlggjgpdiffajaaDoorW.PrintWords Go.Proofs.YtlggjgpdiffajaaDoorW.PrintLast Go.Proofs.YtlggjgpdiffajaaDoorW.PrintMore
attribute [local go_sem] max2_int min2_int max_two min_two max_three min_three max_four min_four   -- for this text's walks alone
set_option linter.unusedVariables false
set_option linter.unusedSimpArgs false
mutual
def scarflaw10_LexParts.j0 : Nat → ByteArray → ByteArray → Bool → Option (Bool)
  | 0, _, _, _ => none
  | k + 1, x0, x1, x5 => if x5 = true then (if (wrap64 ((x0.size : Int) + (x1.size : Int))) < 100 then (if x0.size + 1 ≤ 9223372036854775807 then (if (x0 ++ (⟨#[45]⟩ : ByteArray)).size + x1.size ≤ 9223372036854775807 then ((lex_Name.f ((x0 ++ (⟨#[45]⟩ : ByteArray)) ++ x1)).bind fun t234 => (scarflaw10_LexParts.j1 k x0 x1 (!t234))) else (none)) else (none)) else (scarflaw10_LexParts.j1 k x0 x1 false)) else (scarflaw10_LexParts.j1 k x0 x1 false)
def scarflaw10_LexParts.j1 : Nat → ByteArray → ByteArray → Bool → Option (Bool)
  | 0, _, _, _ => none
  | k + 1, x0, x1, x35 => if x35 = true then (some false) else (if x0.size + 2 ≤ 9223372036854775807 then (if (x0 ++ (⟨#[45, 45]⟩ : ByteArray)).size + x1.size ≤ 9223372036854775807 then ((lex_Name.f ((x0 ++ (⟨#[45, 45]⟩ : ByteArray)) ++ x1)).bind fun t235 => (if t235 = true then (some false) else (if x0.size + 1 ≤ 9223372036854775807 then (if (x0 ++ (⟨#[95]⟩ : ByteArray)).size + x1.size ≤ 9223372036854775807 then ((lex_Name.f ((x0 ++ (⟨#[95]⟩ : ByteArray)) ++ x1)).bind fun t236 => (if t236 = true then (some false) else (if 1 + x0.size ≤ 9223372036854775807 then ((lex_Name.f ((⟨#[45]⟩ : ByteArray) ++ x0)).bind fun t237 => (if t237 = true then (some false) else ((lex_Name.f (x0 ++ (⟨#[45]⟩ : ByteArray))).bind fun t238 => (if t238 = true then (some false) else ((lex_Name.f x0).bind fun t239 => (if t239 = true then ((lex_Name.f ((⟨#[49]⟩ : ByteArray) ++ x0)).bind fun t240 => (if t240 = true then (some false) else ((scarflaw10_awake.f k).bind fun t241 => (some t241)))) else ((scarflaw10_awake.f k).bind fun t242 => (some t242)))))))) else (none)))) else (none)) else (none)))) else (none)) else (none))
end
def scarflaw10_LexParts.f (k : Nat) (a0 : ByteArray) (a1 : ByteArray) : Option (Bool) := if (wrap64 ((a0.size : Int) + (a1.size : Int))) > 1000 then ((scarflaw10_awake.f k).bind fun t231 => (some t231)) else ((lex_Name.f a0).bind fun t232 => (if t232 = true then ((lex_Name.f a1).bind fun t233 => (scarflaw10_LexParts.j0 k a0 a1 t233)) else (scarflaw10_LexParts.j0 k a0 a1 false)))
set_option maxHeartbeats 8000000 in
set_option maxRecDepth 100000 in
theorem scarflaw10_LexParts.calls (k : Nat) (a0 : ByteArray) (a1 : ByteArray) (r : Bool) (w : World) (h : scarflaw10_LexParts.f k a0 a1 = some r) :
    Calls Tryd.prog 5 #[.string a0, .string a1] w fun e w' => e = .returned (.bool r) ∧ Below w.heap.size w w' := by
  have HB := Aside0.mk (Below.refl w.heap.size w)
  have H : (if (wrap64 ((a0.size : Int) + (a1.size : Int))) > 1000 then ((scarflaw10_awake.f k).bind fun t231 => (some t231)) else ((lex_Name.f a0).bind fun t232 => (if t232 = true then ((lex_Name.f a1).bind fun t233 => (scarflaw10_LexParts.j0 k a0 a1 t233)) else (scarflaw10_LexParts.j0 k a0 a1 false)))) = some r := h
  clear h
  by_cases c3 : (wrap64 ((a0.size : Int) + (a1.size : Int))) > 1000
  · rw [if_pos c3] at H
    have c3b0 : decide (1000 < (wrap64 ((a0.size : Int) + (a1.size : Int)))) = true := decide_eq_true c3
    clear c3
    replace H := Option.bind_eq_some_iff.mp H
    obtain ⟨t231, A40, H⟩ := H
    replace H : (some t231) = some r := H
    have A4 := Aside0.mk A40
    clear A40
    obtain rfl := Option.some.inj H
    go_enter Tryd.func5, Tryd.ntmps5
    go_wp2_with (first | ((with_reducible refine gate_callee (f := 11) rfl ?_); refine goesL_ (some 12) rfl rfl Tryd.func11 (by kernel_rfl) rfl #[] rfl (by (try simp only [List.map_toArray, List.map_cons, List.map_nil]); first | done | rfl | (simp only [List.length_drop, List.length_take]; rfl)) ?_; (with_reducible refine (scarflaw10_awake.calls k  t231 _ A4.out).mono ?_); rintro e w5 ⟨rfl, hb⟩; refine ⟨_, rfl, ?_⟩; have n0_ := Aside0.mk (below_step (by repeat (first | (with_reducible first | exact HB.out | apply below_alloc | apply pw_below_drewN | apply below_drew1) | exact HB.out)) hb); clear HB; have HB := n0_; clear n0_; (try clear hb); (try clear hb2); (try clear hk); (try clear hi)))
    go_ret
    exact ⟨by first | rfl | (simp [errW_none, errW_some] <;> rfl) | (simp [*, errW_none, errW_some] <;> rfl), by repeat (first | (with_reducible first | exact HB.out | apply below_alloc | apply pw_below_drewN | apply below_drew1) | exact HB.out)⟩
  · rw [if_neg c3] at H
    have c3b0 : decide (1000 < (wrap64 ((a0.size : Int) + (a1.size : Int)))) = false := decide_eq_false c3
    clear c3
    have HC6 := Aside0.mk H
    clear H
    go_enter Tryd.func5, Tryd.ntmps5
    go_upto_region 3 with (fail)
    go_cut [5] (fun v5 wc => ∃ (kq : Nat) (x5_5 : Bool), v5 = .bool x5_5 ∧ Aside0 (scarflaw10_LexParts.j0 kq a0 a1 x5_5 = some r) ∧ Aside0 (kq ≤ k) ∧ Aside0 (Below w.heap.size w wc))
    case first =>
      have H := HC6.out
      clear HC6
      replace H := Option.bind_eq_some_iff.mp H
      obtain ⟨t232, A70, H⟩ := H
      replace H : (if t232 = true then ((lex_Name.f a1).bind fun t233 => (scarflaw10_LexParts.j0 k a0 a1 t233)) else (scarflaw10_LexParts.j0 k a0 a1 false)) = some r := H
      have A7 := Aside0.mk A70
      clear A70
      by_cases c8 : t232 = true
      · subst c8
        have H1 : ((lex_Name.f a1).bind fun t233 => (scarflaw10_LexParts.j0 k a0 a1 t233)) = some r := by rw [if_pos rfl] at H; exact H
        clear H
        have H := H1
        clear H1
        replace H := Option.bind_eq_some_iff.mp H
        obtain ⟨t233, A90, H⟩ := H
        replace H : (scarflaw10_LexParts.j0 k a0 a1 t233) = some r := H
        have A9 := Aside0.mk A90
        clear A90
        have H' := Aside0.mk H
        clear H
        go_wp2_with (first | ((with_reducible refine gate_callee (f := 13) rfl ?_); refine goesL_ (some 14) rfl rfl Tryd.func13 (by kernel_rfl) rfl #[.string a0] rfl (by (try simp only [List.map_toArray, List.map_cons, List.map_nil]); first | done | rfl | (simp only [List.length_drop, List.length_take]; rfl)) ?_; (with_reducible refine (lex_Name.calls a0 true _ A7.out).mono ?_); rintro e w10 ⟨rfl, hb⟩; refine ⟨_, rfl, ?_⟩; have n0_ := Aside0.mk (below_step (by repeat (first | (with_reducible first | exact HB.out | apply below_alloc | apply pw_below_drewN | apply below_drew1) | exact HB.out)) hb); clear HB; have HB := n0_; clear n0_; (try clear hb); (try clear hb2); (try clear hk); (try clear hi)) | (go_at_call 13; (with_reducible refine (lex_Name.calls a1 t233 _ A9.out).mono ?_); rintro e w11 ⟨rfl, hb⟩; have n0_ := Aside0.mk (below_step (by repeat (first | (with_reducible first | exact HB.out | apply below_alloc | apply pw_below_drewN | apply below_drew1) | exact HB.out)) hb); clear HB; have HB := n0_; clear n0_; (try clear hb); (try clear hb2); (try clear hk); (try clear hi)))
        go_meet
        case rel => exact ⟨_, (t233), (by first | rfl | (simp; done) | (simp [*]; done)), H', ⟨by first | omega | exact Nat.le_refl _⟩, ⟨by repeat (first | (with_reducible first | exact HB.out | apply below_alloc | apply pw_below_drewN | apply below_drew1) | exact HB.out)⟩⟩
      · replace c8 := Bool.eq_false_iff.mpr c8
        subst c8
        have H1 : (scarflaw10_LexParts.j0 k a0 a1 false) = some r := by rw [if_neg (show ¬ (false = true) by decide)] at H; exact H
        clear H
        have H := H1
        clear H1
        have H' := Aside0.mk H
        clear H
        go_wp2_with (first | ((with_reducible refine gate_callee (f := 13) rfl ?_); refine goesL_ (some 14) rfl rfl Tryd.func13 (by kernel_rfl) rfl #[.string a0] rfl (by (try simp only [List.map_toArray, List.map_cons, List.map_nil]); first | done | rfl | (simp only [List.length_drop, List.length_take]; rfl)) ?_; (with_reducible refine (lex_Name.calls a0 false _ A7.out).mono ?_); rintro e w12 ⟨rfl, hb⟩; refine ⟨_, rfl, ?_⟩; have n0_ := Aside0.mk (below_step (by repeat (first | (with_reducible first | exact HB.out | apply below_alloc | apply pw_below_drewN | apply below_drew1) | exact HB.out)) hb); clear HB; have HB := n0_; clear n0_; (try clear hb); (try clear hb2); (try clear hk); (try clear hi)))
        go_meet
        case rel => exact ⟨_, (false), (by first | rfl | (simp; done) | (simp [*]; done)), H', ⟨by first | omega | exact Nat.le_refl _⟩, ⟨by repeat (first | (with_reducible first | exact HB.out | apply below_alloc | apply pw_below_drewN | apply below_drew1) | exact HB.out)⟩⟩
    case rest =>
      clear HC6
      try clear c1
      try clear p2
      try clear c3
      try clear c3b0
      try clear c5
      try clear p6
      try clear c8
      try clear c11
      obtain ⟨kq, x5_5, rfl, HA, HJ5, HB⟩ := hcut
      cases kq with
      | zero => exact absurd HA.out (by simp [scarflaw10_LexParts.j0])
      | succ kj5 =>
        have H := HA.out
        clear HA
        simp only [scarflaw10_LexParts.j0] at H
        have HC13 := Aside0.mk H
        clear H
        go_upto_region 4 with (fail)
        go_cut [35] (fun v35 wc => ∃ (kq : Nat) (x35_12 : Bool), v35 = .bool x35_12 ∧ Aside0 (scarflaw10_LexParts.j1 kq a0 a1 x35_12 = some r) ∧ Aside0 (kq ≤ kj5) ∧ Aside0 (Below w.heap.size w wc))
        case first =>
          have H := HC13.out
          clear HC13
          by_cases c14 : x5_5 = true
          · subst c14
            have H1 : (if (wrap64 ((a0.size : Int) + (a1.size : Int))) < 100 then (if a0.size + 1 ≤ 9223372036854775807 then (if (a0 ++ (⟨#[45]⟩ : ByteArray)).size + a1.size ≤ 9223372036854775807 then ((lex_Name.f ((a0 ++ (⟨#[45]⟩ : ByteArray)) ++ a1)).bind fun t234 => (scarflaw10_LexParts.j1 kj5 a0 a1 (!t234))) else (none)) else (none)) else (scarflaw10_LexParts.j1 kj5 a0 a1 false)) = some r := by rw [if_pos rfl] at H; exact H
            clear H
            have H := H1
            clear H1
            by_cases c15 : (wrap64 ((a0.size : Int) + (a1.size : Int))) < 100
            · rw [if_pos c15] at H
              have c15b0 : decide ((wrap64 ((a0.size : Int) + (a1.size : Int))) < 100) = true := decide_eq_true c15
              clear c15
              (first | rw [c15b0] | (simp only [i64_w, i32_w]; rw [c15b0]) | skip)
              by_cases c16 : a0.size + 1 ≤ 9223372036854775807
              · rw [if_pos c16] at H
                have c16b0 := eq_true c16
                have c16b1 : decide (a0.size + 1 ≤ 9223372036854775807) = true := decide_eq_true c16
                try have c16b2 : (9223372036854775807 < a0.size + 1) = False := eq_false (Nat.not_lt.2 c16)
                by_cases c17 : (a0 ++ (⟨#[45]⟩ : ByteArray)).size + a1.size ≤ 9223372036854775807
                · rw [if_pos c17] at H
                  have c17b0 := eq_true c17
                  have c17b1 : decide ((a0 ++ (⟨#[45]⟩ : ByteArray)).size + a1.size ≤ 9223372036854775807) = true := decide_eq_true c17
                  try have c17b2 : (9223372036854775807 < (a0 ++ (⟨#[45]⟩ : ByteArray)).size + a1.size) = False := eq_false (Nat.not_lt.2 c17)
                  replace H := Option.bind_eq_some_iff.mp H
                  obtain ⟨t234, A180, H⟩ := H
                  replace H : (scarflaw10_LexParts.j1 kj5 a0 a1 (!t234)) = some r := H
                  have A18 := Aside0.mk A180
                  clear A180
                  have H' := Aside0.mk H
                  clear H
                  go_wp2_with (first | (go_at_call 13; (with_reducible refine (lex_Name.calls ((a0 ++ (⟨#[45]⟩ : ByteArray)) ++ a1) t234 _ A18.out).mono ?_); rintro e w19 ⟨rfl, hb⟩; have n0_ := Aside0.mk (below_step (by repeat (first | (with_reducible first | exact HB.out | apply below_alloc | apply pw_below_drewN | apply below_drew1) | exact HB.out)) hb); clear HB; have HB := n0_; clear n0_; (try clear hb); (try clear hb2); (try clear hk); (try clear hi)))
                  go_meet
                  case rel => exact ⟨_, (!t234), (by first | rfl | (simp; done) | (simp [*]; done)), H', ⟨by have := HJ5.out; first | omega | exact Nat.le_refl _⟩, ⟨by repeat (first | (with_reducible first | exact HB.out | apply below_alloc | apply pw_below_drewN | apply below_drew1) | exact HB.out)⟩⟩
                · rw [if_neg c17] at H
                  exact absurd H (by simp)
              · rw [if_neg c16] at H
                exact absurd H (by simp)
            · rw [if_neg c15] at H
              have c15b0 : decide ((wrap64 ((a0.size : Int) + (a1.size : Int))) < 100) = false := decide_eq_false c15
              clear c15
              (first | rw [c15b0] | (simp only [i64_w, i32_w]; rw [c15b0]) | skip)
              have H' := Aside0.mk H
              clear H
              go_wp2
              go_meet
              case rel => exact ⟨_, (false), (by first | rfl | (simp; done) | (simp [*]; done)), H', ⟨by have := HJ5.out; first | omega | exact Nat.le_refl _⟩, ⟨by repeat (first | (with_reducible first | exact HB.out | apply below_alloc | apply pw_below_drewN | apply below_drew1) | exact HB.out)⟩⟩
          · replace c14 := Bool.eq_false_iff.mpr c14
            subst c14
            have H1 : (scarflaw10_LexParts.j1 kj5 a0 a1 false) = some r := by rw [if_neg (show ¬ (false = true) by decide)] at H; exact H
            clear H
            have H := H1
            clear H1
            have H' := Aside0.mk H
            clear H
            go_wp2
            go_meet
            case rel => exact ⟨_, (false), (by first | rfl | (simp; done) | (simp [*]; done)), H', ⟨by have := HJ5.out; first | omega | exact Nat.le_refl _⟩, ⟨by repeat (first | (with_reducible first | exact HB.out | apply below_alloc | apply pw_below_drewN | apply below_drew1) | exact HB.out)⟩⟩
        case rest =>
          clear HC13
          try clear c1
          try clear p2
          try clear c3
          try clear c3b0
          try clear c5
          try clear p6
          try clear c8
          try clear c11
          try clear c13
          try clear c14
          try clear c15
          try clear c15b0
          try clear c16
          try clear c16b0
          try clear c16b1
          try clear c16b2
          try clear c17
          try clear c17b0
          try clear c17b1
          try clear c17b2
          try clear p2
          try clear p6
          obtain ⟨kq, x35_12, rfl, HA, HJ12, HB⟩ := hcut
          cases kq with
          | zero => exact absurd HA.out (by simp [scarflaw10_LexParts.j1])
          | succ kj12 =>
            have H := HA.out
            clear HA
            simp only [scarflaw10_LexParts.j1] at H
            by_cases c20 : x35_12 = true
            · subst c20
              have H1 : (some false) = some r := by rw [if_pos rfl] at H; exact H
              clear H
              have H := H1
              clear H1
              obtain rfl := Option.some.inj H
              go_wp2
              go_ret
              exact ⟨by first | rfl | (simp [errW_none, errW_some] <;> rfl) | (simp [*, errW_none, errW_some] <;> rfl), by repeat (first | (with_reducible first | exact HB.out | apply below_alloc | apply pw_below_drewN | apply below_drew1) | exact HB.out)⟩
            · replace c20 := Bool.eq_false_iff.mpr c20
              subst c20
              have H1 : (if a0.size + 2 ≤ 9223372036854775807 then (if (a0 ++ (⟨#[45, 45]⟩ : ByteArray)).size + a1.size ≤ 9223372036854775807 then ((lex_Name.f ((a0 ++ (⟨#[45, 45]⟩ : ByteArray)) ++ a1)).bind fun t235 => (if t235 = true then (some false) else (if a0.size + 1 ≤ 9223372036854775807 then (if (a0 ++ (⟨#[95]⟩ : ByteArray)).size + a1.size ≤ 9223372036854775807 then ((lex_Name.f ((a0 ++ (⟨#[95]⟩ : ByteArray)) ++ a1)).bind fun t236 => (if t236 = true then (some false) else (if 1 + a0.size ≤ 9223372036854775807 then ((lex_Name.f ((⟨#[45]⟩ : ByteArray) ++ a0)).bind fun t237 => (if t237 = true then (some false) else ((lex_Name.f (a0 ++ (⟨#[45]⟩ : ByteArray))).bind fun t238 => (if t238 = true then (some false) else ((lex_Name.f a0).bind fun t239 => (if t239 = true then ((lex_Name.f ((⟨#[49]⟩ : ByteArray) ++ a0)).bind fun t240 => (if t240 = true then (some false) else ((scarflaw10_awake.f kj12).bind fun t241 => (some t241)))) else ((scarflaw10_awake.f kj12).bind fun t242 => (some t242)))))))) else (none)))) else (none)) else (none)))) else (none)) else (none)) = some r := by rw [if_neg (show ¬ (false = true) by decide)] at H; exact H
              clear H
              have H := H1
              clear H1
              by_cases c21 : a0.size + 2 ≤ 9223372036854775807
              · rw [if_pos c21] at H
                have c21b0 := eq_true c21
                have c21b1 : decide (a0.size + 2 ≤ 9223372036854775807) = true := decide_eq_true c21
                try have c21b2 : (9223372036854775807 < a0.size + 2) = False := eq_false (Nat.not_lt.2 c21)
                by_cases c22 : (a0 ++ (⟨#[45, 45]⟩ : ByteArray)).size + a1.size ≤ 9223372036854775807
                · rw [if_pos c22] at H
                  have c22b0 := eq_true c22
                  have c22b1 : decide ((a0 ++ (⟨#[45, 45]⟩ : ByteArray)).size + a1.size ≤ 9223372036854775807) = true := decide_eq_true c22
                  try have c22b2 : (9223372036854775807 < (a0 ++ (⟨#[45, 45]⟩ : ByteArray)).size + a1.size) = False := eq_false (Nat.not_lt.2 c22)
                  replace H := Option.bind_eq_some_iff.mp H
                  obtain ⟨t235, A230, H⟩ := H
                  replace H : (if t235 = true then (some false) else (if a0.size + 1 ≤ 9223372036854775807 then (if (a0 ++ (⟨#[95]⟩ : ByteArray)).size + a1.size ≤ 9223372036854775807 then ((lex_Name.f ((a0 ++ (⟨#[95]⟩ : ByteArray)) ++ a1)).bind fun t236 => (if t236 = true then (some false) else (if 1 + a0.size ≤ 9223372036854775807 then ((lex_Name.f ((⟨#[45]⟩ : ByteArray) ++ a0)).bind fun t237 => (if t237 = true then (some false) else ((lex_Name.f (a0 ++ (⟨#[45]⟩ : ByteArray))).bind fun t238 => (if t238 = true then (some false) else ((lex_Name.f a0).bind fun t239 => (if t239 = true then ((lex_Name.f ((⟨#[49]⟩ : ByteArray) ++ a0)).bind fun t240 => (if t240 = true then (some false) else ((scarflaw10_awake.f kj12).bind fun t241 => (some t241)))) else ((scarflaw10_awake.f kj12).bind fun t242 => (some t242)))))))) else (none)))) else (none)) else (none))) = some r := H
                  have A23 := Aside0.mk A230
                  clear A230
                  by_cases c24 : t235 = true
                  · subst c24
                    have H1 : (some false) = some r := by rw [if_pos rfl] at H; exact H
                    clear H
                    have H := H1
                    clear H1
                    obtain rfl := Option.some.inj H
                    go_wp2_with (first | ((with_reducible refine gate_callee (f := 13) rfl ?_); refine goesL_ (some 40) rfl rfl Tryd.func13 (by kernel_rfl) rfl #[.string ((a0 ++ (⟨#[45, 45]⟩ : ByteArray)) ++ a1)] rfl (by (try simp only [List.map_toArray, List.map_cons, List.map_nil]); first | done | rfl | (simp only [List.length_drop, List.length_take]; rfl)) ?_; (with_reducible refine (lex_Name.calls ((a0 ++ (⟨#[45, 45]⟩ : ByteArray)) ++ a1) true _ A23.out).mono ?_); rintro e w25 ⟨rfl, hb⟩; refine ⟨_, rfl, ?_⟩; have n0_ := Aside0.mk (below_step (by repeat (first | (with_reducible first | exact HB.out | apply below_alloc | apply pw_below_drewN | apply below_drew1) | exact HB.out)) hb); clear HB; have HB := n0_; clear n0_; (try clear hb); (try clear hb2); (try clear hk); (try clear hi)))
                    go_ret
                    exact ⟨by first | rfl | (simp [errW_none, errW_some] <;> rfl) | (simp [*, errW_none, errW_some] <;> rfl), by repeat (first | (with_reducible first | exact HB.out | apply below_alloc | apply pw_below_drewN | apply below_drew1) | exact HB.out)⟩
                  · replace c24 := Bool.eq_false_iff.mpr c24
                    subst c24
                    have H1 : (if a0.size + 1 ≤ 9223372036854775807 then (if (a0 ++ (⟨#[95]⟩ : ByteArray)).size + a1.size ≤ 9223372036854775807 then ((lex_Name.f ((a0 ++ (⟨#[95]⟩ : ByteArray)) ++ a1)).bind fun t236 => (if t236 = true then (some false) else (if 1 + a0.size ≤ 9223372036854775807 then ((lex_Name.f ((⟨#[45]⟩ : ByteArray) ++ a0)).bind fun t237 => (if t237 = true then (some false) else ((lex_Name.f (a0 ++ (⟨#[45]⟩ : ByteArray))).bind fun t238 => (if t238 = true then (some false) else ((lex_Name.f a0).bind fun t239 => (if t239 = true then ((lex_Name.f ((⟨#[49]⟩ : ByteArray) ++ a0)).bind fun t240 => (if t240 = true then (some false) else ((scarflaw10_awake.f kj12).bind fun t241 => (some t241)))) else ((scarflaw10_awake.f kj12).bind fun t242 => (some t242)))))))) else (none)))) else (none)) else (none)) = some r := by rw [if_neg (show ¬ (false = true) by decide)] at H; exact H
                    clear H
                    have H := H1
                    clear H1
                    by_cases c26 : a0.size + 1 ≤ 9223372036854775807
                    · rw [if_pos c26] at H
                      have c26b0 := eq_true c26
                      have c26b1 : decide (a0.size + 1 ≤ 9223372036854775807) = true := decide_eq_true c26
                      try have c26b2 : (9223372036854775807 < a0.size + 1) = False := eq_false (Nat.not_lt.2 c26)
                      by_cases c27 : (a0 ++ (⟨#[95]⟩ : ByteArray)).size + a1.size ≤ 9223372036854775807
                      · rw [if_pos c27] at H
                        have c27b0 := eq_true c27
                        have c27b1 : decide ((a0 ++ (⟨#[95]⟩ : ByteArray)).size + a1.size ≤ 9223372036854775807) = true := decide_eq_true c27
                        try have c27b2 : (9223372036854775807 < (a0 ++ (⟨#[95]⟩ : ByteArray)).size + a1.size) = False := eq_false (Nat.not_lt.2 c27)
                        replace H := Option.bind_eq_some_iff.mp H
                        obtain ⟨t236, A280, H⟩ := H
                        replace H : (if t236 = true then (some false) else (if 1 + a0.size ≤ 9223372036854775807 then ((lex_Name.f ((⟨#[45]⟩ : ByteArray) ++ a0)).bind fun t237 => (if t237 = true then (some false) else ((lex_Name.f (a0 ++ (⟨#[45]⟩ : ByteArray))).bind fun t238 => (if t238 = true then (some false) else ((lex_Name.f a0).bind fun t239 => (if t239 = true then ((lex_Name.f ((⟨#[49]⟩ : ByteArray) ++ a0)).bind fun t240 => (if t240 = true then (some false) else ((scarflaw10_awake.f kj12).bind fun t241 => (some t241)))) else ((scarflaw10_awake.f kj12).bind fun t242 => (some t242)))))))) else (none))) = some r := H
                        have A28 := Aside0.mk A280
                        clear A280
                        by_cases c29 : t236 = true
                        · subst c29
                          have H1 : (some false) = some r := by rw [if_pos rfl] at H; exact H
                          clear H
                          have H := H1
                          clear H1
                          obtain rfl := Option.some.inj H
                          go_wp2_with (first | ((with_reducible refine gate_callee (f := 13) rfl ?_); refine goesL_ (some 40) rfl rfl Tryd.func13 (by kernel_rfl) rfl #[.string ((a0 ++ (⟨#[45, 45]⟩ : ByteArray)) ++ a1)] rfl (by (try simp only [List.map_toArray, List.map_cons, List.map_nil]); first | done | rfl | (simp only [List.length_drop, List.length_take]; rfl)) ?_; (with_reducible refine (lex_Name.calls ((a0 ++ (⟨#[45, 45]⟩ : ByteArray)) ++ a1) false _ A23.out).mono ?_); rintro e w30 ⟨rfl, hb⟩; refine ⟨_, rfl, ?_⟩; have n0_ := Aside0.mk (below_step (by repeat (first | (with_reducible first | exact HB.out | apply below_alloc | apply pw_below_drewN | apply below_drew1) | exact HB.out)) hb); clear HB; have HB := n0_; clear n0_; (try clear hb); (try clear hb2); (try clear hk); (try clear hi)) | (go_at_call 13; (with_reducible refine (lex_Name.calls ((a0 ++ (⟨#[95]⟩ : ByteArray)) ++ a1) true _ A28.out).mono ?_); rintro e w31 ⟨rfl, hb⟩; have n0_ := Aside0.mk (below_step (by repeat (first | (with_reducible first | exact HB.out | apply below_alloc | apply pw_below_drewN | apply below_drew1) | exact HB.out)) hb); clear HB; have HB := n0_; clear n0_; (try clear hb); (try clear hb2); (try clear hk); (try clear hi)))
                          go_ret
                          exact ⟨by first | rfl | (simp [errW_none, errW_some] <;> rfl) | (simp [*, errW_none, errW_some] <;> rfl), by repeat (first | (with_reducible first | exact HB.out | apply below_alloc | apply pw_below_drewN | apply below_drew1) | exact HB.out)⟩
                        · replace c29 := Bool.eq_false_iff.mpr c29
                          subst c29
                          have H1 : (if 1 + a0.size ≤ 9223372036854775807 then ((lex_Name.f ((⟨#[45]⟩ : ByteArray) ++ a0)).bind fun t237 => (if t237 = true then (some false) else ((lex_Name.f (a0 ++ (⟨#[45]⟩ : ByteArray))).bind fun t238 => (if t238 = true then (some false) else ((lex_Name.f a0).bind fun t239 => (if t239 = true then ((lex_Name.f ((⟨#[49]⟩ : ByteArray) ++ a0)).bind fun t240 => (if t240 = true then (some false) else ((scarflaw10_awake.f kj12).bind fun t241 => (some t241)))) else ((scarflaw10_awake.f kj12).bind fun t242 => (some t242)))))))) else (none)) = some r := by rw [if_neg (show ¬ (false = true) by decide)] at H; exact H
                          clear H
                          have H := H1
                          clear H1
                          by_cases c32 : 1 + a0.size ≤ 9223372036854775807
                          · rw [if_pos c32] at H
                            have c32b0 := eq_true c32
                            have c32b1 : decide (1 + a0.size ≤ 9223372036854775807) = true := decide_eq_true c32
                            try have c32b2 : (9223372036854775807 < 1 + a0.size) = False := eq_false (Nat.not_lt.2 c32)
                            replace H := Option.bind_eq_some_iff.mp H
                            obtain ⟨t237, A330, H⟩ := H
                            replace H : (if t237 = true then (some false) else ((lex_Name.f (a0 ++ (⟨#[45]⟩ : ByteArray))).bind fun t238 => (if t238 = true then (some false) else ((lex_Name.f a0).bind fun t239 => (if t239 = true then ((lex_Name.f ((⟨#[49]⟩ : ByteArray) ++ a0)).bind fun t240 => (if t240 = true then (some false) else ((scarflaw10_awake.f kj12).bind fun t241 => (some t241)))) else ((scarflaw10_awake.f kj12).bind fun t242 => (some t242))))))) = some r := H
                            have A33 := Aside0.mk A330
                            clear A330
                            by_cases c34 : t237 = true
                            · subst c34
                              have H1 : (some false) = some r := by rw [if_pos rfl] at H; exact H
                              clear H
                              have H := H1
                              clear H1
                              obtain rfl := Option.some.inj H
                              go_wp2_with (first | ((with_reducible refine gate_callee (f := 13) rfl ?_); refine goesL_ (some 40) rfl rfl Tryd.func13 (by kernel_rfl) rfl #[.string ((a0 ++ (⟨#[45, 45]⟩ : ByteArray)) ++ a1)] rfl (by (try simp only [List.map_toArray, List.map_cons, List.map_nil]); first | done | rfl | (simp only [List.length_drop, List.length_take]; rfl)) ?_; (with_reducible refine (lex_Name.calls ((a0 ++ (⟨#[45, 45]⟩ : ByteArray)) ++ a1) false _ A23.out).mono ?_); rintro e w35 ⟨rfl, hb⟩; refine ⟨_, rfl, ?_⟩; have n0_ := Aside0.mk (below_step (by repeat (first | (with_reducible first | exact HB.out | apply below_alloc | apply pw_below_drewN | apply below_drew1) | exact HB.out)) hb); clear HB; have HB := n0_; clear n0_; (try clear hb); (try clear hb2); (try clear hk); (try clear hi)) | (go_at_call 13; (with_reducible refine (lex_Name.calls ((a0 ++ (⟨#[95]⟩ : ByteArray)) ++ a1) false _ A28.out).mono ?_); rintro e w36 ⟨rfl, hb⟩; have n0_ := Aside0.mk (below_step (by repeat (first | (with_reducible first | exact HB.out | apply below_alloc | apply pw_below_drewN | apply below_drew1) | exact HB.out)) hb); clear HB; have HB := n0_; clear n0_; (try clear hb); (try clear hb2); (try clear hk); (try clear hi)) | (go_at_call 13; (with_reducible refine (lex_Name.calls ((⟨#[45]⟩ : ByteArray) ++ a0) true _ A33.out).mono ?_); rintro e w37 ⟨rfl, hb⟩; have n0_ := Aside0.mk (below_step (by repeat (first | (with_reducible first | exact HB.out | apply below_alloc | apply pw_below_drewN | apply below_drew1) | exact HB.out)) hb); clear HB; have HB := n0_; clear n0_; (try clear hb); (try clear hb2); (try clear hk); (try clear hi)))
                              go_ret
                              exact ⟨by first | rfl | (simp [errW_none, errW_some] <;> rfl) | (simp [*, errW_none, errW_some] <;> rfl), by repeat (first | (with_reducible first | exact HB.out | apply below_alloc | apply pw_below_drewN | apply below_drew1) | exact HB.out)⟩
                            · replace c34 := Bool.eq_false_iff.mpr c34
                              subst c34
                              have H1 : ((lex_Name.f (a0 ++ (⟨#[45]⟩ : ByteArray))).bind fun t238 => (if t238 = true then (some false) else ((lex_Name.f a0).bind fun t239 => (if t239 = true then ((lex_Name.f ((⟨#[49]⟩ : ByteArray) ++ a0)).bind fun t240 => (if t240 = true then (some false) else ((scarflaw10_awake.f kj12).bind fun t241 => (some t241)))) else ((scarflaw10_awake.f kj12).bind fun t242 => (some t242)))))) = some r := by rw [if_neg (show ¬ (false = true) by decide)] at H; exact H
                              clear H
                              have H := H1
                              clear H1
                              replace H := Option.bind_eq_some_iff.mp H
                              obtain ⟨t238, A380, H⟩ := H
                              replace H : (if t238 = true then (some false) else ((lex_Name.f a0).bind fun t239 => (if t239 = true then ((lex_Name.f ((⟨#[49]⟩ : ByteArray) ++ a0)).bind fun t240 => (if t240 = true then (some false) else ((scarflaw10_awake.f kj12).bind fun t241 => (some t241)))) else ((scarflaw10_awake.f kj12).bind fun t242 => (some t242))))) = some r := H
                              have A38 := Aside0.mk A380
                              clear A380
                              by_cases c39 : t238 = true
                              · subst c39
                                have H1 : (some false) = some r := by rw [if_pos rfl] at H; exact H
                                clear H
                                have H := H1
                                clear H1
                                obtain rfl := Option.some.inj H
                                go_wp2_with (first | ((with_reducible refine gate_callee (f := 13) rfl ?_); refine goesL_ (some 40) rfl rfl Tryd.func13 (by kernel_rfl) rfl #[.string ((a0 ++ (⟨#[45, 45]⟩ : ByteArray)) ++ a1)] rfl (by (try simp only [List.map_toArray, List.map_cons, List.map_nil]); first | done | rfl | (simp only [List.length_drop, List.length_take]; rfl)) ?_; (with_reducible refine (lex_Name.calls ((a0 ++ (⟨#[45, 45]⟩ : ByteArray)) ++ a1) false _ A23.out).mono ?_); rintro e w40 ⟨rfl, hb⟩; refine ⟨_, rfl, ?_⟩; have n0_ := Aside0.mk (below_step (by repeat (first | (with_reducible first | exact HB.out | apply below_alloc | apply pw_below_drewN | apply below_drew1) | exact HB.out)) hb); clear HB; have HB := n0_; clear n0_; (try clear hb); (try clear hb2); (try clear hk); (try clear hi)) | (go_at_call 13; (with_reducible refine (lex_Name.calls ((a0 ++ (⟨#[95]⟩ : ByteArray)) ++ a1) false _ A28.out).mono ?_); rintro e w41 ⟨rfl, hb⟩; have n0_ := Aside0.mk (below_step (by repeat (first | (with_reducible first | exact HB.out | apply below_alloc | apply pw_below_drewN | apply below_drew1) | exact HB.out)) hb); clear HB; have HB := n0_; clear n0_; (try clear hb); (try clear hb2); (try clear hk); (try clear hi)) | (go_at_call 13; (with_reducible refine (lex_Name.calls ((⟨#[45]⟩ : ByteArray) ++ a0) false _ A33.out).mono ?_); rintro e w42 ⟨rfl, hb⟩; have n0_ := Aside0.mk (below_step (by repeat (first | (with_reducible first | exact HB.out | apply below_alloc | apply pw_below_drewN | apply below_drew1) | exact HB.out)) hb); clear HB; have HB := n0_; clear n0_; (try clear hb); (try clear hb2); (try clear hk); (try clear hi)) | (go_at_call 13; (with_reducible refine (lex_Name.calls (a0 ++ (⟨#[45]⟩ : ByteArray)) true _ A38.out).mono ?_); rintro e w43 ⟨rfl, hb⟩; have n0_ := Aside0.mk (below_step (by repeat (first | (with_reducible first | exact HB.out | apply below_alloc | apply pw_below_drewN | apply below_drew1) | exact HB.out)) hb); clear HB; have HB := n0_; clear n0_; (try clear hb); (try clear hb2); (try clear hk); (try clear hi)))
                                go_ret
                                exact ⟨by first | rfl | (simp [errW_none, errW_some] <;> rfl) | (simp [*, errW_none, errW_some] <;> rfl), by repeat (first | (with_reducible first | exact HB.out | apply below_alloc | apply pw_below_drewN | apply below_drew1) | exact HB.out)⟩
                              · replace c39 := Bool.eq_false_iff.mpr c39
                                subst c39
                                have H1 : ((lex_Name.f a0).bind fun t239 => (if t239 = true then ((lex_Name.f ((⟨#[49]⟩ : ByteArray) ++ a0)).bind fun t240 => (if t240 = true then (some false) else ((scarflaw10_awake.f kj12).bind fun t241 => (some t241)))) else ((scarflaw10_awake.f kj12).bind fun t242 => (some t242)))) = some r := by rw [if_neg (show ¬ (false = true) by decide)] at H; exact H
                                clear H
                                have H := H1
                                clear H1
                                replace H := Option.bind_eq_some_iff.mp H
                                obtain ⟨t239, A440, H⟩ := H
                                replace H : (if t239 = true then ((lex_Name.f ((⟨#[49]⟩ : ByteArray) ++ a0)).bind fun t240 => (if t240 = true then (some false) else ((scarflaw10_awake.f kj12).bind fun t241 => (some t241)))) else ((scarflaw10_awake.f kj12).bind fun t242 => (some t242))) = some r := H
                                have A44 := Aside0.mk A440
                                clear A440
                                by_cases c45 : t239 = true
                                · subst c45
                                  have H1 : ((lex_Name.f ((⟨#[49]⟩ : ByteArray) ++ a0)).bind fun t240 => (if t240 = true then (some false) else ((scarflaw10_awake.f kj12).bind fun t241 => (some t241)))) = some r := by rw [if_pos rfl] at H; exact H
                                  clear H
                                  have H := H1
                                  clear H1
                                  replace H := Option.bind_eq_some_iff.mp H
                                  obtain ⟨t240, A460, H⟩ := H
                                  replace H : (if t240 = true then (some false) else ((scarflaw10_awake.f kj12).bind fun t241 => (some t241))) = some r := H
                                  have A46 := Aside0.mk A460
                                  clear A460
                                  by_cases c47 : t240 = true
                                  · subst c47
                                    have H1 : (some false) = some r := by rw [if_pos rfl] at H; exact H
                                    clear H
                                    have H := H1
                                    clear H1
                                    obtain rfl := Option.some.inj H
                                    go_wp2_with (first | ((with_reducible refine gate_callee (f := 13) rfl ?_); refine goesL_ (some 40) rfl rfl Tryd.func13 (by kernel_rfl) rfl #[.string ((a0 ++ (⟨#[45, 45]⟩ : ByteArray)) ++ a1)] rfl (by (try simp only [List.map_toArray, List.map_cons, List.map_nil]); first | done | rfl | (simp only [List.length_drop, List.length_take]; rfl)) ?_; (with_reducible refine (lex_Name.calls ((a0 ++ (⟨#[45, 45]⟩ : ByteArray)) ++ a1) false _ A23.out).mono ?_); rintro e w48 ⟨rfl, hb⟩; refine ⟨_, rfl, ?_⟩; have n0_ := Aside0.mk (below_step (by repeat (first | (with_reducible first | exact HB.out | apply below_alloc | apply pw_below_drewN | apply below_drew1) | exact HB.out)) hb); clear HB; have HB := n0_; clear n0_; (try clear hb); (try clear hb2); (try clear hk); (try clear hi)) | (go_at_call 13; (with_reducible refine (lex_Name.calls ((a0 ++ (⟨#[95]⟩ : ByteArray)) ++ a1) false _ A28.out).mono ?_); rintro e w49 ⟨rfl, hb⟩; have n0_ := Aside0.mk (below_step (by repeat (first | (with_reducible first | exact HB.out | apply below_alloc | apply pw_below_drewN | apply below_drew1) | exact HB.out)) hb); clear HB; have HB := n0_; clear n0_; (try clear hb); (try clear hb2); (try clear hk); (try clear hi)) | (go_at_call 13; (with_reducible refine (lex_Name.calls ((⟨#[45]⟩ : ByteArray) ++ a0) false _ A33.out).mono ?_); rintro e w50 ⟨rfl, hb⟩; have n0_ := Aside0.mk (below_step (by repeat (first | (with_reducible first | exact HB.out | apply below_alloc | apply pw_below_drewN | apply below_drew1) | exact HB.out)) hb); clear HB; have HB := n0_; clear n0_; (try clear hb); (try clear hb2); (try clear hk); (try clear hi)) | (go_at_call 13; (with_reducible refine (lex_Name.calls (a0 ++ (⟨#[45]⟩ : ByteArray)) false _ A38.out).mono ?_); rintro e w51 ⟨rfl, hb⟩; have n0_ := Aside0.mk (below_step (by repeat (first | (with_reducible first | exact HB.out | apply below_alloc | apply pw_below_drewN | apply below_drew1) | exact HB.out)) hb); clear HB; have HB := n0_; clear n0_; (try clear hb); (try clear hb2); (try clear hk); (try clear hi)) | (go_at_call 13; (with_reducible refine (lex_Name.calls a0 true _ A44.out).mono ?_); rintro e w52 ⟨rfl, hb⟩; have n0_ := Aside0.mk (below_step (by repeat (first | (with_reducible first | exact HB.out | apply below_alloc | apply pw_below_drewN | apply below_drew1) | exact HB.out)) hb); clear HB; have HB := n0_; clear n0_; (try clear hb); (try clear hb2); (try clear hk); (try clear hi)) | (go_at_call 13; (with_reducible refine (lex_Name.calls ((⟨#[49]⟩ : ByteArray) ++ a0) true _ A46.out).mono ?_); rintro e w53 ⟨rfl, hb⟩; have n0_ := Aside0.mk (below_step (by repeat (first | (with_reducible first | exact HB.out | apply below_alloc | apply pw_below_drewN | apply below_drew1) | exact HB.out)) hb); clear HB; have HB := n0_; clear n0_; (try clear hb); (try clear hb2); (try clear hk); (try clear hi)))
                                    go_ret
                                    exact ⟨by first | rfl | (simp [errW_none, errW_some] <;> rfl) | (simp [*, errW_none, errW_some] <;> rfl), by repeat (first | (with_reducible first | exact HB.out | apply below_alloc | apply pw_below_drewN | apply below_drew1) | exact HB.out)⟩
                                  · replace c47 := Bool.eq_false_iff.mpr c47
                                    subst c47
                                    have H1 : ((scarflaw10_awake.f kj12).bind fun t241 => (some t241)) = some r := by rw [if_neg (show ¬ (false = true) by decide)] at H; exact H
                                    clear H
                                    have H := H1
                                    clear H1
                                    replace H := Option.bind_eq_some_iff.mp H
                                    obtain ⟨t241, A540, H⟩ := H
                                    replace H : (some t241) = some r := H
                                    have A54 := Aside0.mk A540
                                    clear A540
                                    obtain rfl := Option.some.inj H
                                    go_wp2_with (first | ((with_reducible refine gate_callee (f := 13) rfl ?_); refine goesL_ (some 40) rfl rfl Tryd.func13 (by kernel_rfl) rfl #[.string ((a0 ++ (⟨#[45, 45]⟩ : ByteArray)) ++ a1)] rfl (by (try simp only [List.map_toArray, List.map_cons, List.map_nil]); first | done | rfl | (simp only [List.length_drop, List.length_take]; rfl)) ?_; (with_reducible refine (lex_Name.calls ((a0 ++ (⟨#[45, 45]⟩ : ByteArray)) ++ a1) false _ A23.out).mono ?_); rintro e w55 ⟨rfl, hb⟩; refine ⟨_, rfl, ?_⟩; have n0_ := Aside0.mk (below_step (by repeat (first | (with_reducible first | exact HB.out | apply below_alloc | apply pw_below_drewN | apply below_drew1) | exact HB.out)) hb); clear HB; have HB := n0_; clear n0_; (try clear hb); (try clear hb2); (try clear hk); (try clear hi)) | (go_at_call 13; (with_reducible refine (lex_Name.calls ((a0 ++ (⟨#[95]⟩ : ByteArray)) ++ a1) false _ A28.out).mono ?_); rintro e w56 ⟨rfl, hb⟩; have n0_ := Aside0.mk (below_step (by repeat (first | (with_reducible first | exact HB.out | apply below_alloc | apply pw_below_drewN | apply below_drew1) | exact HB.out)) hb); clear HB; have HB := n0_; clear n0_; (try clear hb); (try clear hb2); (try clear hk); (try clear hi)) | (go_at_call 13; (with_reducible refine (lex_Name.calls ((⟨#[45]⟩ : ByteArray) ++ a0) false _ A33.out).mono ?_); rintro e w57 ⟨rfl, hb⟩; have n0_ := Aside0.mk (below_step (by repeat (first | (with_reducible first | exact HB.out | apply below_alloc | apply pw_below_drewN | apply below_drew1) | exact HB.out)) hb); clear HB; have HB := n0_; clear n0_; (try clear hb); (try clear hb2); (try clear hk); (try clear hi)) | (go_at_call 13; (with_reducible refine (lex_Name.calls (a0 ++ (⟨#[45]⟩ : ByteArray)) false _ A38.out).mono ?_); rintro e w58 ⟨rfl, hb⟩; have n0_ := Aside0.mk (below_step (by repeat (first | (with_reducible first | exact HB.out | apply below_alloc | apply pw_below_drewN | apply below_drew1) | exact HB.out)) hb); clear HB; have HB := n0_; clear n0_; (try clear hb); (try clear hb2); (try clear hk); (try clear hi)) | (go_at_call 13; (with_reducible refine (lex_Name.calls a0 true _ A44.out).mono ?_); rintro e w59 ⟨rfl, hb⟩; have n0_ := Aside0.mk (below_step (by repeat (first | (with_reducible first | exact HB.out | apply below_alloc | apply pw_below_drewN | apply below_drew1) | exact HB.out)) hb); clear HB; have HB := n0_; clear n0_; (try clear hb); (try clear hb2); (try clear hk); (try clear hi)) | (go_at_call 13; (with_reducible refine (lex_Name.calls ((⟨#[49]⟩ : ByteArray) ++ a0) false _ A46.out).mono ?_); rintro e w60 ⟨rfl, hb⟩; have n0_ := Aside0.mk (below_step (by repeat (first | (with_reducible first | exact HB.out | apply below_alloc | apply pw_below_drewN | apply below_drew1) | exact HB.out)) hb); clear HB; have HB := n0_; clear n0_; (try clear hb); (try clear hb2); (try clear hk); (try clear hi)) | (go_at_call 11; (with_reducible refine (scarflaw10_awake.calls kj12  t241 _ A54.out).mono ?_); rintro e w61 ⟨rfl, hb⟩; have n0_ := Aside0.mk (below_step (by repeat (first | (with_reducible first | exact HB.out | apply below_alloc | apply pw_below_drewN | apply below_drew1) | exact HB.out)) hb); clear HB; have HB := n0_; clear n0_; (try clear hb); (try clear hb2); (try clear hk); (try clear hi)))
                                    go_ret
                                    exact ⟨by first | rfl | (simp [errW_none, errW_some] <;> rfl) | (simp [*, errW_none, errW_some] <;> rfl), by repeat (first | (with_reducible first | exact HB.out | apply below_alloc | apply pw_below_drewN | apply below_drew1) | exact HB.out)⟩
                                · replace c45 := Bool.eq_false_iff.mpr c45
                                  subst c45
                                  have H1 : ((scarflaw10_awake.f kj12).bind fun t242 => (some t242)) = some r := by rw [if_neg (show ¬ (false = true) by decide)] at H; exact H
                                  clear H
                                  have H := H1
                                  clear H1
                                  replace H := Option.bind_eq_some_iff.mp H
                                  obtain ⟨t242, A620, H⟩ := H
                                  replace H : (some t242) = some r := H
                                  have A62 := Aside0.mk A620
                                  clear A620
                                  obtain rfl := Option.some.inj H
                                  go_wp2_with (first | ((with_reducible refine gate_callee (f := 13) rfl ?_); refine goesL_ (some 40) rfl rfl Tryd.func13 (by kernel_rfl) rfl #[.string ((a0 ++ (⟨#[45, 45]⟩ : ByteArray)) ++ a1)] rfl (by (try simp only [List.map_toArray, List.map_cons, List.map_nil]); first | done | rfl | (simp only [List.length_drop, List.length_take]; rfl)) ?_; (with_reducible refine (lex_Name.calls ((a0 ++ (⟨#[45, 45]⟩ : ByteArray)) ++ a1) false _ A23.out).mono ?_); rintro e w63 ⟨rfl, hb⟩; refine ⟨_, rfl, ?_⟩; have n0_ := Aside0.mk (below_step (by repeat (first | (with_reducible first | exact HB.out | apply below_alloc | apply pw_below_drewN | apply below_drew1) | exact HB.out)) hb); clear HB; have HB := n0_; clear n0_; (try clear hb); (try clear hb2); (try clear hk); (try clear hi)) | (go_at_call 13; (with_reducible refine (lex_Name.calls ((a0 ++ (⟨#[95]⟩ : ByteArray)) ++ a1) false _ A28.out).mono ?_); rintro e w64 ⟨rfl, hb⟩; have n0_ := Aside0.mk (below_step (by repeat (first | (with_reducible first | exact HB.out | apply below_alloc | apply pw_below_drewN | apply below_drew1) | exact HB.out)) hb); clear HB; have HB := n0_; clear n0_; (try clear hb); (try clear hb2); (try clear hk); (try clear hi)) | (go_at_call 13; (with_reducible refine (lex_Name.calls ((⟨#[45]⟩ : ByteArray) ++ a0) false _ A33.out).mono ?_); rintro e w65 ⟨rfl, hb⟩; have n0_ := Aside0.mk (below_step (by repeat (first | (with_reducible first | exact HB.out | apply below_alloc | apply pw_below_drewN | apply below_drew1) | exact HB.out)) hb); clear HB; have HB := n0_; clear n0_; (try clear hb); (try clear hb2); (try clear hk); (try clear hi)) | (go_at_call 13; (with_reducible refine (lex_Name.calls (a0 ++ (⟨#[45]⟩ : ByteArray)) false _ A38.out).mono ?_); rintro e w66 ⟨rfl, hb⟩; have n0_ := Aside0.mk (below_step (by repeat (first | (with_reducible first | exact HB.out | apply below_alloc | apply pw_below_drewN | apply below_drew1) | exact HB.out)) hb); clear HB; have HB := n0_; clear n0_; (try clear hb); (try clear hb2); (try clear hk); (try clear hi)) | (go_at_call 13; (with_reducible refine (lex_Name.calls a0 false _ A44.out).mono ?_); rintro e w67 ⟨rfl, hb⟩; have n0_ := Aside0.mk (below_step (by repeat (first | (with_reducible first | exact HB.out | apply below_alloc | apply pw_below_drewN | apply below_drew1) | exact HB.out)) hb); clear HB; have HB := n0_; clear n0_; (try clear hb); (try clear hb2); (try clear hk); (try clear hi)) | (go_at_call 11; (with_reducible refine (scarflaw10_awake.calls kj12  t242 _ A62.out).mono ?_); rintro e w68 ⟨rfl, hb⟩; have n0_ := Aside0.mk (below_step (by repeat (first | (with_reducible first | exact HB.out | apply below_alloc | apply pw_below_drewN | apply below_drew1) | exact HB.out)) hb); clear HB; have HB := n0_; clear n0_; (try clear hb); (try clear hb2); (try clear hk); (try clear hi)))
                                  go_ret
                                  exact ⟨by first | rfl | (simp [errW_none, errW_some] <;> rfl) | (simp [*, errW_none, errW_some] <;> rfl), by repeat (first | (with_reducible first | exact HB.out | apply below_alloc | apply pw_below_drewN | apply below_drew1) | exact HB.out)⟩
                          · rw [if_neg c32] at H
                            exact absurd H (by simp)
                      · rw [if_neg c27] at H
                        exact absurd H (by simp)
                    · rw [if_neg c26] at H
                      exact absurd H (by simp)
                · rw [if_neg c22] at H
                  exact absurd H (by simp)
              · rw [if_neg c21] at H
                exact absurd H (by simp)
/-- THE ONE PURE STATEMENT of scarflaw10_LexParts: yours. -/
def scarflaw10_LexParts.Pure : Prop := ∀ (a0 : ByteArray) (a1 : ByteArray), a0.size ≤ 140737488351232 → a1.size ≤ 140737488351232 → ∃ k, scarflaw10_LexParts.f k a0 a1 = some true
theorem scarflaw10_LexParts.walk (P : scarflaw10_LexParts.Pure) (a0 : ByteArray) (a1 : ByteArray) (w : World) (w0 : a0.size ≤ 140737488351232) (w1 : a1.size ≤ 140737488351232) :
    Calls Tryd.prog 5 #[.string a0, .string a1] w fun e w' => e = .returned (.bool true) ∧ Below w.heap.size w w' := by
  obtain ⟨k, h⟩ := P a0 a1 w0 w1
  refine (scarflaw10_LexParts.calls k a0 a1 true w h).mono ?_
  rintro e w' ⟨rfl, hd⟩
  exact ⟨rfl, hd⟩
end Go.Proofs.YtlggjgpdiffajaaDoor.PA
namespace Go.Proofs.YtlggjgpdiffajaaDoor.Str
set_option linter.unusedVariables false
set_option linter.unusedSimpArgs false
open Go.RowKit Go.Proofs.YtlggjgpdiffajaaDoorW.PrintWords Go.Proofs.YtlggjgpdiffajaaDoorW.PrintLast Go.Proofs.YtlggjgpdiffajaaDoorW.PrintMore
theorem size_bytes (s : ByteArray) : s.size = (bytesOf s).length := (bytesOf_length s).symm
theorem bytes_append (s t : ByteArray) : bytesOf (s ++ t) = bytesOf s ++ bytesOf t := by
  unfold bytesOf
  rw [ByteArray.data_append, Array.toList_append, List.map_append]
theorem bytes_extract (s : ByteArray) (a b : Nat) : bytesOf (s.extract a b) = ((bytesOf s).take b).drop a := by
  unfold bytesOf
  rw [ByteArray.data_extract, Array.toList_extract]
  simp [List.map_take, List.map_drop, List.take_drop]
  by_cases h : a ≤ b
  · congr 2; omega
  · rw [show b - a = 0 by omega]
    simp
    omega
theorem bytes_rest (s : ByteArray) (a : Nat) : bytesOf (s.extract a s.size) = (bytesOf s).drop a := by
  rw [bytes_extract, size_bytes, List.take_length]
theorem bytes_head (s : ByteArray) (b : Nat) : bytesOf (s.extract 0 b) = (bytesOf s).take b := by
  rw [bytes_extract, List.drop_zero]
theorem bt_get (s : ByteArray) (i : Int) : bt s i = (bytesOf s).getD i.toNat 0 := by
  rw [← rd_bytesOf]; rfl
theorem bt_nat (s : ByteArray) (i : Nat) : bt s (i : Int) = (bytesOf s).getD i 0 := by
  rw [bt_get]; rfl
theorem drop_cons {l : List Int} {i : Nat} (h : i < l.length) : l.drop i = l.getD i 0 :: l.drop (i + 1) := by
  rw [List.drop_eq_getElem_cons h]
  congr 1
  simp [List.getD, List.getElem?_eq_getElem h]
theorem wrap64_id {n : Int} (h0 : -9223372036854775808 ≤ n) (h1 : n < 9223372036854775808) : wrap64 n = n := by
  unfold wrap64; omega
end Go.Proofs.YtlggjgpdiffajaaDoor.Str
namespace Go.Proofs.YtlggjgpdiffajaaDoor.LexM
set_option linter.unusedVariables false
set_option linter.unusedSimpArgs false
open Go.RowKit Go.Proofs.YtlggjgpdiffajaaDoor.PA Go.Proofs.YtlggjgpdiffajaaDoorW.PrintWords Go.Proofs.YtlggjgpdiffajaaDoorW.PrintLast Go.Proofs.YtlggjgpdiffajaaDoorW.PrintMore
open Go.Proofs.YtlggjgpdiffajaaDoor.Str
/-- The pieces of a text between letters c. -/
def splitL (c : Int) : List Int → List (List Int)
  | [] => [[]]
  | b :: l => if b = c then [] :: splitL c l else match splitL c l with
    | [] => [[b]]
    | p :: ps => (b :: p) :: ps
theorem splitL_ne (c : Int) (l : List Int) : ∃ p ps, splitL c l = p :: ps := by
  cases l with
  | nil => exact ⟨_, _, rfl⟩
  | cons b l =>
    unfold splitL
    split
    · exact ⟨_, _, rfl⟩
    · split
      · exact ⟨_, _, rfl⟩
      · exact ⟨_, _, rfl⟩
theorem splitL_one (c : Int) (p : List Int) (h : c ∉ p) : splitL c p = [p] := by
  induction p with
  | nil => rfl
  | cons b p ih =>
    rw [List.mem_cons, not_or] at h
    rw [splitL, if_neg (fun e => h.1 e.symm), ih h.2]
theorem splitL_app (c : Int) (a b : List Int) : splitL c (a ++ c :: b) = splitL c a ++ splitL c b := by
  induction a with
  | nil => simp [splitL]
  | cons x a ih =>
    rw [List.cons_append, splitL]
    by_cases h : x = c
    · rw [if_pos h, ih]
      conv => rhs; rw [splitL, if_pos h]
      rfl
    · obtain ⟨p, ps, e⟩ := splitL_ne c a
      rw [if_neg h, ih, e]
      conv => rhs; rw [splitL, if_neg h, e]
      rfl
theorem indexByte_mem (l : List UInt8) (c : UInt8) : (Go.Lib.indexByte l c < 0 → c ∉ l) ∧ (¬ Go.Lib.indexByte l c < 0 → l = l.take (Go.Lib.indexByte l c).toNat ++ c :: l.drop ((Go.Lib.indexByte l c).toNat + 1) ∧ c ∉ l.take (Go.Lib.indexByte l c).toNat) := by
  induction l with
  | nil => exact ⟨fun _ => by simp, fun h => absurd (show Go.Lib.indexByte [] c < 0 by simp [Go.Lib.indexByte]) h⟩
  | cons b l ih =>
    have hg := Go.Lib.indexByte_ge l c
    rw [Go.Lib.indexByte]
    by_cases hb : (b == c) = true
    · rw [if_pos hb]
      have hbc : b = c := by simpa using hb
      refine ⟨fun h => absurd h (by omega), fun _ => ?_⟩
      simp [hbc]
    · have hbc : ¬ b = c := by simpa using hb
      rw [if_neg hb]
      by_cases hm : (Go.Lib.indexByte l c == -1) = true
      · rw [if_pos hm]
        have hm' : Go.Lib.indexByte l c = -1 := by simpa using hm
        refine ⟨fun _ => ?_, fun h => absurd (show (-1 : Int) < 0 by omega) h⟩
        rw [List.mem_cons, not_or]
        exact ⟨fun e => hbc e.symm, ih.1 (by omega)⟩
      · rw [if_neg hm]
        have hm' : ¬ Go.Lib.indexByte l c = -1 := by simpa using hm
        refine ⟨fun h => absurd h (by omega), fun _ => ?_⟩
        obtain ⟨h1, h2⟩ := ih.2 (by omega)
        have ht : (Go.Lib.indexByte l c + 1).toNat = (Go.Lib.indexByte l c).toNat + 1 := by omega
        rw [ht, List.take_succ_cons, List.drop_succ_cons]
        refine ⟨?_, ?_⟩
        · rw [List.cons_append, ← h1]
        · rw [List.mem_cons, not_or]
          exact ⟨fun e => hbc e.symm, h2⟩
theorem mem_bytes (l : List UInt8) (c : UInt8) : (c.toNat : Int) ∈ l.map (fun b => (b.toNat : Int)) ↔ c ∈ l := by
  rw [List.mem_map]
  constructor
  · rintro ⟨b, hb, e⟩
    have : b = c := UInt8.toNat_inj.1 (by omega)
    exact this ▸ hb
  · intro h; exact ⟨c, h, rfl⟩
theorem index_split (s : ByteArray) (c : UInt8) : (Go.Lib.indexByte s.data.toList c < 0 → (c.toNat : Int) ∉ bytesOf s) ∧ (¬ Go.Lib.indexByte s.data.toList c < 0 → bytesOf s = (bytesOf s).take (Go.Lib.indexByte s.data.toList c).toNat ++ (c.toNat : Int) :: (bytesOf s).drop ((Go.Lib.indexByte s.data.toList c).toNat + 1) ∧ (c.toNat : Int) ∉ (bytesOf s).take (Go.Lib.indexByte s.data.toList c).toNat) := by
  obtain ⟨h1, h2⟩ := indexByte_mem s.data.toList c
  refine ⟨fun h => ?_, fun h => ?_⟩
  · rw [bytesOf, mem_bytes]; exact h1 h
  · obtain ⟨e, m⟩ := h2 h
    refine ⟨?_, ?_⟩
    · conv => lhs; rw [bytesOf, e]
      rw [List.map_append, List.map_cons, List.map_take, List.map_drop]
      rfl
    · rw [bytesOf, ← List.map_take, mem_bytes]; exact m
theorem pieces_split (c : UInt8) : ∀ (n : Nat) (s : ByteArray), s.size ≤ n → (piecesF c s.size s).map bytesOf = splitL (c.toNat : Int) (bytesOf s) := by
  intro n
  induction n with
  | zero =>
    intro s hn
    have hi := indexByte_lt' s c
    have h : Go.Lib.indexByte s.data.toList c < 0 := by omega
    rw [pieces_end c s h, splitL_one _ _ ((index_split s c).1 h)]; rfl
  | succ n ih =>
    intro s hn
    by_cases h : Go.Lib.indexByte s.data.toList c < 0
    · rw [pieces_end c s h, splitL_one _ _ ((index_split s c).1 h)]; rfl
    · obtain ⟨e, m⟩ := (index_split s c).2 h
      have hi := indexByte_lt' s c
      have hz := ByteArray.size_extract (a := s) (b := (Go.Lib.indexByte s.data.toList c).toNat + 1) (e := s.size)
      rw [pieces_more c s h, List.map_cons, ih _ (by omega), bytes_head, bytes_rest]
      conv => rhs; rw [e, splitL_app, splitL_one _ _ m]
      rfl
/-- A part of a name. -/
def partL : List Int → Bool
  | [] => false
  | c :: l => (lxLo c || lxUp c) && (c :: l).all (lxOk (lxLo c))
theorem partAll_eq (t : Bool) (s : ByteArray) : ∀ m i, i + m = s.size → partAll t s m i = ((bytesOf s).drop i).all (lxOk t) := by
  intro m
  induction m with
  | zero => intro i h; rw [List.drop_of_length_le (by rw [bytesOf_length]; omega)]; rfl
  | succ m ih => intro i h; rw [partAll, ih (i + 1) (by omega), bt_nat]; conv => rhs; rw [drop_cons (by rw [bytesOf_length]; omega), List.all_cons]
theorem partB_eq (s : ByteArray) : partB s = partL (bytesOf s) := by
  unfold partB
  rw [partAll_eq _ s s.size 0 (by omega), List.drop_zero, show (0 : Int) = ((0 : Nat) : Int) from rfl, bt_nat, size_bytes]
  cases bytesOf s with
  | nil => rfl
  | cons c l => simp [partL]
/-- A name, without its bounds. -/
def nameS (l : List Int) : Bool := (splitL 45 l).all partL
theorem all_parts (s : ByteArray) : (piecesF 45 s.size s).all partB = nameS (bytesOf s) := by
  have h := pieces_split 45 s.size s (Nat.le_refl _)
  rw [nameS, show (45 : Int) = ((45 : UInt8).toNat : Int) from rfl, ← h, List.all_map]
  congr 1
  funext x
  exact partB_eq x
/-- A name. -/
def nameOk (l : List Int) : Bool := decide (0 < l.length) && decide (l.length ≤ 100) && nameS l
theorem Name_eq (s : ByteArray) : lex_Name.f s = some (nameOk (bytesOf s)) := by
  unfold lex_Name.f nameOk
  rw [all_parts, size_bytes]
  congr 1
  by_cases h0 : (bytesOf s).length = 0
  · rw [if_pos h0]; simp [h0]
  · rw [if_neg h0]
    by_cases h1 : 100 < (bytesOf s).length
    · rw [if_pos h1]; simp; intro _ _; omega
    · rw [if_neg h1, show decide (0 < (bytesOf s).length) = true by simp; omega, show decide ((bytesOf s).length ≤ 100) = true by simp; omega]; simp
theorem nameS_app (a b : List Int) : nameS (a ++ 45 :: b) = (nameS a && nameS b) := by
  unfold nameS; rw [splitL_app, List.all_append]
/-- The same, as a machine: 0 a part begins, 1 in a small one, 2 in a great one. -/
def nameL : Nat → List Int → Bool
  | 0, [] => false
  | _ + 1, [] => true
  | 0, c :: l => if lxLo c = true then nameL 1 l else if lxUp c = true then nameL 2 l else false
  | s + 1, c :: l => if c = 45 then nameL 0 l else if (lxDi c || (if s = 0 then lxLo c else lxUp c)) = true then nameL (s + 1) l else false
theorem lo_def (a : Int) : lxLo a = true ↔ 97 ≤ a ∧ a ≤ 122 := by simp [lxLo]
theorem up_def (a : Int) : lxUp a = true ↔ 65 ≤ a ∧ a ≤ 90 := by simp [lxUp]
theorem up_f (a : Int) : lxUp a = false ↔ ¬ (65 ≤ a ∧ a ≤ 90) := by rw [← up_def]; simp
theorem nameL_split (l : List Int) : ∀ p ps, splitL 45 l = p :: ps → nameL 0 l = (partL p && ps.all partL) ∧ nameL 1 l = (p.all (lxOk true) && ps.all partL) ∧ nameL 2 l = (p.all (lxOk false) && ps.all partL) := by
  induction l with
  | nil =>
    intro p ps h
    rw [splitL] at h
    injection h with h1 h2
    subst h1; subst h2
    exact ⟨rfl, rfl, rfl⟩
  | cons c l ih =>
    intro p ps h
    obtain ⟨q, qs, e⟩ := splitL_ne 45 l
    obtain ⟨i0, i1, i2⟩ := ih q qs e
    rw [splitL] at h
    by_cases hc : c = 45
    · rw [if_pos hc] at h
      injection h with h1 h2
      subst h1; subst h2
      have hl : ¬ lxLo c = true := by rw [lo_def]; omega
      have hu : ¬ lxUp c = true := by rw [up_def]; omega
      rw [e, nameL, nameL, nameL, if_neg hl, if_neg hu, if_pos hc, if_pos hc, i0]
      exact ⟨rfl, by simp, by simp⟩
    · rw [if_neg hc, e] at h
      injection h with h1 h2
      subst h1; subst h2
      have ht : lxOk true c = (lxDi c || lxLo c) := by unfold lxOk; cases hl : lxLo c <;> cases hu : lxUp c <;> simp
      have hf : lxOk false c = (lxDi c || lxUp c) := by
        unfold lxOk
        cases hl : lxLo c
        · simp
        · have hu : lxUp c = false := by rw [up_f]; rw [lo_def] at hl; omega
          simp [hu]
      refine ⟨?_, ?_, ?_⟩
      · rw [nameL, partL, List.all_cons]
        by_cases hl : lxLo c = true
        · rw [if_pos hl, i1, hl, ht, hl]; simp
        · rw [if_neg hl]
          have hl' : lxLo c = false := by simpa using hl
          by_cases hu : lxUp c = true
          · rw [if_pos hu, i2, hu, hl', hf, hu]; simp
          · have hu' : lxUp c = false := by simpa using hu
            rw [if_neg hu, hu', hl']; simp
      · rw [show nameL 1 (c :: l) = (if c = 45 then nameL 0 l else if (lxDi c || (if 0 = 0 then lxLo c else lxUp c)) = true then nameL 1 l else false) from rfl, if_neg hc, if_pos rfl, List.all_cons, ht, i1]
        cases (lxDi c || lxLo c) <;> simp
      · rw [show nameL 2 (c :: l) = (if c = 45 then nameL 0 l else if (lxDi c || (if 1 = 0 then lxLo c else lxUp c)) = true then nameL 2 l else false) from rfl, if_neg hc, if_neg (show ¬ (1 : Nat) = 0 by omega), List.all_cons, hf, i2]
        cases (lxDi c || lxUp c) <;> simp
theorem nameL_eq (l : List Int) : nameL 0 l = nameS l := by
  obtain ⟨p, ps, e⟩ := splitL_ne 45 l
  rw [(nameL_split l p ps e).1, nameS, e, List.all_cons]
end Go.Proofs.YtlggjgpdiffajaaDoor.LexM
namespace Go.Proofs.YtlggjgpdiffajaaDoor.Ev
universe u v
/-- From some number of rounds on it tells v. -/
def Evr {α : Type u} (g : Nat → Option α) (v : α) : Prop := ∃ K, ∀ k, K ≤ k → g k = some v
theorem Evr.ret {α : Type u} {v : α} : Evr (fun _ => some v) v := ⟨0, fun _ _ => rfl⟩
theorem Evr.step {α : Type u} {g h : Nat → Option α} {v : α} (hh : Evr h v) (hs : ∀ k, g (k + 1) = h k) : Evr g v := by
  obtain ⟨K, hK⟩ := hh
  refine ⟨K + 1, fun k hk => ?_⟩
  obtain ⟨k, rfl⟩ : ∃ m, k = m + 1 := ⟨k - 1, by omega⟩
  rw [hs]; exact hK k (by omega)
theorem Evr.eqs {α : Type u} {g h : Nat → Option α} {v : α} (hh : Evr h v) (hs : ∀ k, g k = h k) : Evr g v := by
  obtain ⟨K, hK⟩ := hh
  exact ⟨K, fun k hk => by rw [hs]; exact hK k hk⟩
theorem Evr.bind {α : Type u} {β : Type v} {f : Nat → Option α} {g : Nat → α → Option β} {a : α} {b : β} (hf : Evr f a) (hg : Evr (fun k => g k a) b) : Evr (fun k => (f k).bind (g k)) b := by
  obtain ⟨K, hK⟩ := hf
  obtain ⟨L, hL⟩ := hg
  exact ⟨K + L, fun k hk => by show (f k).bind (g k) = some b; rw [hK k (by omega)]; exact hL k (by omega)⟩
theorem Evr.out {α : Type u} {g : Nat → Option α} {v : α} (h : Evr g v) : ∃ k, g k = some v := by
  obtain ⟨K, hK⟩ := h
  exact ⟨K, hK K (Nat.le_refl K)⟩
end Go.Proofs.YtlggjgpdiffajaaDoor.Ev
namespace Go.Proofs.YtlggjgpdiffajaaDoor.PA
set_option maxRecDepth 100000
open Go.Proofs.YtlggjgpdiffajaaDoorW.PrintWords Go.Proofs.YtlggjgpdiffajaaDoor.Ev
theorem awake_at : scarflaw10_awake.f 60 = some true := by decide +kernel
theorem awake_ev : Evr (fun k => scarflaw10_awake.f k) true := ⟨60, fun _ hk => at_rounds scarflaw10_awake.mono hk awake_at⟩
end Go.Proofs.YtlggjgpdiffajaaDoor.PA
namespace Go.Proofs.YtlggjgpdiffajaaDoor.LexP
set_option linter.unusedVariables false
set_option linter.unusedSimpArgs false
open Go.RowKit Go.Proofs.YtlggjgpdiffajaaDoor.PA Go.Proofs.YtlggjgpdiffajaaDoorW.PrintWords Go.Proofs.YtlggjgpdiffajaaDoorW.PrintLast Go.Proofs.YtlggjgpdiffajaaDoorW.PrintMore
open Go.Proofs.YtlggjgpdiffajaaDoor.Str Go.Proofs.YtlggjgpdiffajaaDoor.Ev Go.Proofs.YtlggjgpdiffajaaDoor.LexM
theorem nameS_nil : nameS [] = false := rfl
theorem nameS_dash (a : List Int) : nameS (45 :: a) = false := by
  have := nameS_app [] a
  rw [List.nil_append] at this
  rw [this, nameS_nil, Bool.false_and]
theorem nameS_dash2 (a b : List Int) : nameS (a ++ 45 :: 45 :: b) = false := by rw [nameS_app, nameS_dash, Bool.and_false]
theorem nameS_end (a : List Int) : nameS (a ++ [45]) = false := by rw [nameS_app, nameS_nil, Bool.and_false]
theorem nameS_mem (l : List Int) (c : Int) (hc : c ∈ l) (h45 : c ≠ 45) (hb : ∀ t, lxOk t c = false) : nameS l = false := by
  induction l with
  | nil => cases hc
  | cons b l ih =>
    rw [← nameL_eq] at ih ⊢
    obtain ⟨p, ps, e⟩ := splitL_ne 45 (b :: l)
    have hm : ∀ (l : List Int) (p ps), splitL 45 l = p :: ps → c ∈ l → c ∈ p ∨ ∃ q ∈ ps, c ∈ q := by
      intro l
      induction l with
      | nil => intro p ps _ h; cases h
      | cons b l ih =>
        intro p ps h hc
        obtain ⟨q, qs, e⟩ := splitL_ne 45 l
        rw [splitL] at h
        by_cases hb : b = 45
        · rw [if_pos hb, e] at h
          injection h with h1 h2
          rcases List.mem_cons.1 hc with hc | hc
          · exact absurd (hc.trans hb) h45
          · rcases ih q qs e hc with h | ⟨r, hr, h⟩
            · exact .inr ⟨q, by rw [← h2]; exact List.mem_cons_self, h⟩
            · exact .inr ⟨r, by rw [← h2]; exact List.mem_cons_of_mem _ hr, h⟩
        · rw [if_neg hb, e] at h
          injection h with h1 h2
          subst h1; subst h2
          rcases List.mem_cons.1 hc with hc | hc
          · exact .inl (by rw [hc]; exact List.mem_cons_self)
          · rcases ih q qs e hc with h | h
            · exact .inl (List.mem_cons_of_mem _ h)
            · exact .inr h
    have hp : ∀ q : List Int, c ∈ q → partL q = false := by
      intro q hq
      cases q with
      | nil => rfl
      | cons d q =>
        rw [partL]
        have : (d :: q).all (lxOk (lxLo d)) = false := by
          rw [List.all_eq_false]
          exact ⟨c, hq, by rw [hb]; decide⟩
        rw [this, Bool.and_false]
    rw [nameL_eq, nameS, e, List.all_cons]
    rcases hm _ _ _ e hc with h | ⟨q, hq, h⟩
    · rw [hp p h, Bool.false_and]
    · have : ps.all partL = false := by
        rw [List.all_eq_false]
        exact ⟨q, hq, by rw [hp q h]; decide⟩
      rw [this, Bool.and_false]
theorem nameOk_false (l : List Int) (h : nameS l = false) : nameOk l = false := by unfold nameOk; rw [h, Bool.and_false]
theorem nameS_one (a : List Int) : nameS (49 :: a) = false := by
  rw [← nameL_eq, nameL]; rfl
theorem lexParts : scarflaw10_LexParts.Pure := by
  intro a b ha hb
  refine Evr.out (v := true) ?_
  have hw : wrap64 ((a.size : Int) + (b.size : Int)) = ((a.size + b.size : Nat) : Int) := by rw [wrap64_id (by omega) (by omega)]; omega
  have s1 : (⟨#[45]⟩ : ByteArray).size = 1 := rfl
  have s2 : (⟨#[45, 45]⟩ : ByteArray).size = 2 := rfl
  have s3 : (⟨#[95]⟩ : ByteArray).size = 1 := rfl
  have b1 : bytesOf (⟨#[45]⟩ : ByteArray) = [45] := rfl
  have b2 : bytesOf (⟨#[45, 45]⟩ : ByteArray) = [45, 45] := rfl
  have b3 : bytesOf (⟨#[95]⟩ : ByteArray) = [95] := rfl
  have b4 : bytesOf (⟨#[49]⟩ : ByteArray) = [49] := rfl
  have n1 : lex_Name.f ((a ++ (⟨#[45, 45]⟩ : ByteArray)) ++ b) = some false := by
    rw [Name_eq, bytes_append, bytes_append, b2, nameOk_false]
    rw [List.append_assoc]; exact nameS_dash2 _ _
  have n2 : lex_Name.f ((a ++ (⟨#[95]⟩ : ByteArray)) ++ b) = some false := by
    rw [Name_eq, bytes_append, bytes_append, b3, nameOk_false]
    refine nameS_mem _ 95 (by simp) (by decide) (fun t => ?_)
    cases t <;> rfl
  have n3 : lex_Name.f ((⟨#[45]⟩ : ByteArray) ++ a) = some false := by
    rw [Name_eq, bytes_append, b1, nameOk_false]; exact nameS_dash _
  have n4 : lex_Name.f (a ++ (⟨#[45]⟩ : ByteArray)) = some false := by
    rw [Name_eq, bytes_append, b1, nameOk_false]; exact nameS_end _
  have n5 : lex_Name.f ((⟨#[49]⟩ : ByteArray) ++ a) = some false := by
    rw [Name_eq, bytes_append, b4, nameOk_false]; exact nameS_one _
  have z1 : (a ++ (⟨#[45, 45]⟩ : ByteArray)).size + b.size ≤ 9223372036854775807 := by rw [ByteArray.size_append, s2]; omega
  have z2 : (a ++ (⟨#[95]⟩ : ByteArray)).size + b.size ≤ 9223372036854775807 := by rw [ByteArray.size_append, s3]; omega
  have z3 : (a ++ (⟨#[45]⟩ : ByteArray)).size + b.size ≤ 9223372036854775807 := by rw [ByteArray.size_append, s1]; omega
  have j1 : Evr (fun k => scarflaw10_LexParts.j1 k a b false) true := by
    refine Evr.step ?_ (fun k => by rw [scarflaw10_LexParts.j1, if_neg (by decide), if_pos (by omega), if_pos z1, n1, Option.bind_some, if_neg (by decide), if_pos (by omega), if_pos z2, n2, Option.bind_some, if_neg (by decide), if_pos (by omega), n3, Option.bind_some, if_neg (by decide), n4, Option.bind_some, if_neg (by decide), n5])
    rw [Name_eq]
    cases nameOk (bytesOf a)
    · exact Evr.eqs (Evr.bind awake_ev Evr.ret) (fun k => by rw [Option.bind_some, if_neg (by decide)])
    · exact Evr.eqs (Evr.bind awake_ev Evr.ret) (fun k => by rw [Option.bind_some, if_pos rfl, Option.bind_some, if_neg (by decide)])
  have j0 : ∀ t, (t = true → nameOk (bytesOf a) = true ∧ nameOk (bytesOf b) = true) → Evr (fun k => scarflaw10_LexParts.j0 k a b t) true := by
    intro t ht
    cases t
    · exact Evr.step j1 (fun k => by rw [scarflaw10_LexParts.j0, if_neg (by decide)])
    · obtain ⟨h1, h2⟩ := ht rfl
      by_cases hs : a.size + b.size < 100
      · have h3 : lex_Name.f ((a ++ (⟨#[45]⟩ : ByteArray)) ++ b) = some true := by
          rw [Name_eq, bytes_append, bytes_append, b1]
          have e : bytesOf a ++ [45] ++ bytesOf b = bytesOf a ++ 45 :: bytesOf b := by simp
          rw [e]
          unfold nameOk at h1 h2 ⊢
          simp only [Bool.and_eq_true, decide_eq_true_eq] at h1 h2
          rw [nameS_app, h1.2, h2.2]
          have hl : (bytesOf a ++ 45 :: bytesOf b).length = a.size + b.size + 1 := by rw [List.length_append, List.length_cons, bytesOf_length, bytesOf_length]; omega
          rw [hl, decide_eq_true (show 0 < a.size + b.size + 1 by omega), decide_eq_true (show a.size + b.size + 1 ≤ 100 by omega)]
          rfl
        exact Evr.step j1 (fun k => by rw [scarflaw10_LexParts.j0, if_pos rfl, hw, if_pos (by omega), if_pos (by omega), if_pos z3, h3]; rfl)
      · exact Evr.step j1 (fun k => by rw [scarflaw10_LexParts.j0, if_pos rfl, hw, if_neg (by omega)])
  by_cases hbig : a.size + b.size > 1000
  · exact Evr.eqs (Evr.bind awake_ev Evr.ret) (fun k => by rw [scarflaw10_LexParts.f, hw, if_pos (by omega)])
  · refine Evr.eqs ?_ (fun k => by rw [scarflaw10_LexParts.f, hw, if_neg (by omega), Name_eq a, Name_eq b, Option.bind_some, Option.bind_some])
    by_cases h1 : nameOk (bytesOf a) = true
    · exact Evr.eqs (j0 (nameOk (bytesOf b)) (fun h => ⟨h1, h⟩)) (fun k => by rw [if_pos h1])
    · exact Evr.eqs (j0 false (fun h => by cases h)) (fun k => by rw [if_neg h1])
end Go.Proofs.YtlggjgpdiffajaaDoor.LexP
namespace Go.Proofs.YtlggjgpdiffajaaDoor.Pure
open Go.RowKit Go.Proofs.YtlggjgpdiffajaaDoor.PA Go.Proofs.YtlggjgpdiffajaaDoorW.PrintWords Go.Proofs.YtlggjgpdiffajaaDoorW.PrintLast
theorem LexParts : scarflaw10_LexParts.Pure :=
  Go.Proofs.YtlggjgpdiffajaaDoor.LexP.lexParts
end Go.Proofs.YtlggjgpdiffajaaDoor.Pure
