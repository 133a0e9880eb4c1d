/- Several texts, laid into one for a claim: PAx56, PAx57, PAx58, PAx59, Str, LexM, Ev, LexK, LexAw, LexN, PureLexNames. -/
import Derived.Test.YtlggjgpdiffajaaDoorPLexNames1
import Derived.Test.YtlggjgpdiffajaaDoorPLexNames2
import Derived.Test.YtlggjgpdiffajaaDoorPLexNames4
import Derived.Test.YtlggjgpdiffajaaDoorPLexNames0
namespace Go.Proofs.YtlggjgpdiffajaaDoor.PA
open Go.RowKit Go.Proofs.YtlggjgpdiffajaaDoorW.PrintWords Go.Proofs.YtlggjgpdiffajaaDoorW.PrintLast Go.Proofs.YtlggjgpdiffajaaDoorW.PrintMore
attribute [local go_sem] max2_int min2_int max_two min_two max_three min_three max_four min_four   -- for this text's walks alone
set_option linter.unusedVariables false
set_option linter.unusedSimpArgs false
def lex_Word.f (a0 : ByteArray) : Option (Bool) := if a0.toList = ([112, 97, 99, 107, 97, 103, 101] : List UInt8) then (some true) else (if a0.toList = ([105, 110, 116, 101, 114, 102, 97, 99, 101] : List UInt8) then (some true) else (if a0.toList = ([119, 111, 114, 108, 100] : List UInt8) then (some true) else (if a0.toList = ([117, 115, 101] : List UInt8) then (some true) else (if a0.toList = ([97, 115] : List UInt8) then (some true) else (if a0.toList = ([105, 109, 112, 111, 114, 116] : List UInt8) then (some true) else (if a0.toList = ([101, 120, 112, 111, 114, 116] : List UInt8) then (some true) else (if a0.toList = ([116, 121, 112, 101] : List UInt8) then (some true) else (if a0.toList = ([114, 101, 99, 111, 114, 100] : List UInt8) then (some true) else (if a0.toList = ([118, 97, 114, 105, 97, 110, 116] : List UInt8) then (some true) else (if a0.toList = ([101, 110, 117, 109] : List UInt8) then (some true) else (if a0.toList = ([102, 108, 97, 103, 115] : List UInt8) then (some true) else (if a0.toList = ([114, 101, 115, 111, 117, 114, 99, 101] : List UInt8) then (some true) else (if a0.toList = ([99, 111, 110, 115, 116, 114, 117, 99, 116, 111, 114] : List UInt8) then (some true) else (if a0.toList = ([115, 116, 97, 116, 105, 99] : List UInt8) then (some true) else (if a0.toList = ([102, 117, 110, 99] : List UInt8) then (some true) else (if a0.toList = ([98, 111, 111, 108] : List UInt8) then (some true) else (if a0.toList = ([115, 56] : List UInt8) then (some true) else (if a0.toList = ([117, 56] : List UInt8) then (some true) else (if a0.toList = ([115, 49, 54] : List UInt8) then (some true) else (if a0.toList = ([117, 49, 54] : List UInt8) then (some true) else (if a0.toList = ([115, 51, 50] : List UInt8) then (some true) else (if a0.toList = ([117, 51, 50] : List UInt8) then (some true) else (if a0.toList = ([115, 54, 52] : List UInt8) then (some true) else (if a0.toList = ([117, 54, 52] : List UInt8) then (some true) else (if a0.toList = ([102, 51, 50] : List UInt8) then (some true) else (if a0.toList = ([102, 54, 52] : List UInt8) then (some true) else (if a0.toList = ([99, 104, 97, 114] : List UInt8) then (some true) else (if a0.toList = ([115, 116, 114, 105, 110, 103] : List UInt8) then (some true) else (if a0.toList = ([108, 105, 115, 116] : List UInt8) then (some true) else (if a0.toList = ([111, 112, 116, 105, 111, 110] : List UInt8) then (some true) else (if a0.toList = ([114, 101, 115, 117, 108, 116] : List UInt8) then (some true) else (if a0.toList = ([116, 117, 112, 108, 101] : List UInt8) then (some true) else (if a0.toList = ([111, 119, 110] : List UInt8) then (some true) else (if a0.toList = ([98, 111, 114, 114, 111, 119] : List UInt8) then (some true) else (some false)))))))))))))))))))))))))))))))))))
set_option maxHeartbeats 8000000 in
set_option maxRecDepth 100000 in
theorem lex_Word.calls (a0 : ByteArray) (r : Bool) (w : World) (h : lex_Word.f a0 = some r) :
    Calls Tryd.prog 17 #[.string a0] w fun e w' => e = .returned (.bool r) ∧ Drawn0 w w' := by
  have H : (if a0.toList = ([112, 97, 99, 107, 97, 103, 101] : List UInt8) then (some true) else (if a0.toList = ([105, 110, 116, 101, 114, 102, 97, 99, 101] : List UInt8) then (some true) else (if a0.toList = ([119, 111, 114, 108, 100] : List UInt8) then (some true) else (if a0.toList = ([117, 115, 101] : List UInt8) then (some true) else (if a0.toList = ([97, 115] : List UInt8) then (some true) else (if a0.toList = ([105, 109, 112, 111, 114, 116] : List UInt8) then (some true) else (if a0.toList = ([101, 120, 112, 111, 114, 116] : List UInt8) then (some true) else (if a0.toList = ([116, 121, 112, 101] : List UInt8) then (some true) else (if a0.toList = ([114, 101, 99, 111, 114, 100] : List UInt8) then (some true) else (if a0.toList = ([118, 97, 114, 105, 97, 110, 116] : List UInt8) then (some true) else (if a0.toList = ([101, 110, 117, 109] : List UInt8) then (some true) else (if a0.toList = ([102, 108, 97, 103, 115] : List UInt8) then (some true) else (if a0.toList = ([114, 101, 115, 111, 117, 114, 99, 101] : List UInt8) then (some true) else (if a0.toList = ([99, 111, 110, 115, 116, 114, 117, 99, 116, 111, 114] : List UInt8) then (some true) else (if a0.toList = ([115, 116, 97, 116, 105, 99] : List UInt8) then (some true) else (if a0.toList = ([102, 117, 110, 99] : List UInt8) then (some true) else (if a0.toList = ([98, 111, 111, 108] : List UInt8) then (some true) else (if a0.toList = ([115, 56] : List UInt8) then (some true) else (if a0.toList = ([117, 56] : List UInt8) then (some true) else (if a0.toList = ([115, 49, 54] : List UInt8) then (some true) else (if a0.toList = ([117, 49, 54] : List UInt8) then (some true) else (if a0.toList = ([115, 51, 50] : List UInt8) then (some true) else (if a0.toList = ([117, 51, 50] : List UInt8) then (some true) else (if a0.toList = ([115, 54, 52] : List UInt8) then (some true) else (if a0.toList = ([117, 54, 52] : List UInt8) then (some true) else (if a0.toList = ([102, 51, 50] : List UInt8) then (some true) else (if a0.toList = ([102, 54, 52] : List UInt8) then (some true) else (if a0.toList = ([99, 104, 97, 114] : List UInt8) then (some true) else (if a0.toList = ([115, 116, 114, 105, 110, 103] : List UInt8) then (some true) else (if a0.toList = ([108, 105, 115, 116] : List UInt8) then (some true) else (if a0.toList = ([111, 112, 116, 105, 111, 110] : List UInt8) then (some true) else (if a0.toList = ([114, 101, 115, 117, 108, 116] : List UInt8) then (some true) else (if a0.toList = ([116, 117, 112, 108, 101] : List UInt8) then (some true) else (if a0.toList = ([111, 119, 110] : List UInt8) then (some true) else (if a0.toList = ([98, 111, 114, 114, 111, 119] : List UInt8) then (some true) else (some false)))))))))))))))))))))))))))))))))))) = some r := h
  clear h
  by_cases c2 : a0.toList = ([112, 97, 99, 107, 97, 103, 101] : List UInt8)
  · rw [if_pos c2] at H
    have c2b0 : (a0.toList == ([112, 97, 99, 107, 97, 103, 101] : List UInt8)) = true := beq_iff_eq.mpr c2
    have c2b1 : (a0.toList != ([112, 97, 99, 107, 97, 103, 101] : List UInt8)) = false := bne_eq_false_iff_eq.mpr c2
    clear c2
    obtain rfl := Option.some.inj H
    go_enter Tryd.func17, Tryd.ntmps17
    go_wp2
    go_ret
    exact ⟨by first | rfl | (simp; done) | (simp [*]; done), by repeat (first | exact Drawn0.refl _ | apply Drawn0.step)⟩
  · rw [if_neg c2] at H
    have c2b0 : (a0.toList == ([112, 97, 99, 107, 97, 103, 101] : List UInt8)) = false := beq_eq_false_iff_ne.mpr c2
    have c2b1 : (a0.toList != ([112, 97, 99, 107, 97, 103, 101] : List UInt8)) = true := bne_iff_ne.mpr c2
    by_cases c3 : a0.toList = ([105, 110, 116, 101, 114, 102, 97, 99, 101] : List UInt8)
    · rw [if_pos c3] at H
      have c3b0 : (a0.toList == ([105, 110, 116, 101, 114, 102, 97, 99, 101] : List UInt8)) = true := beq_iff_eq.mpr c3
      have c3b1 : (a0.toList != ([105, 110, 116, 101, 114, 102, 97, 99, 101] : List UInt8)) = false := bne_eq_false_iff_eq.mpr c3
      clear c3
      obtain rfl := Option.some.inj H
      go_enter Tryd.func17, Tryd.ntmps17
      go_wp2
      go_ret
      exact ⟨by first | rfl | (simp; done) | (simp [*]; done), by repeat (first | exact Drawn0.refl _ | apply Drawn0.step)⟩
    · rw [if_neg c3] at H
      have c3b0 : (a0.toList == ([105, 110, 116, 101, 114, 102, 97, 99, 101] : List UInt8)) = false := beq_eq_false_iff_ne.mpr c3
      have c3b1 : (a0.toList != ([105, 110, 116, 101, 114, 102, 97, 99, 101] : List UInt8)) = true := bne_iff_ne.mpr c3
      by_cases c4 : a0.toList = ([119, 111, 114, 108, 100] : List UInt8)
      · rw [if_pos c4] at H
        have c4b0 : (a0.toList == ([119, 111, 114, 108, 100] : List UInt8)) = true := beq_iff_eq.mpr c4
        have c4b1 : (a0.toList != ([119, 111, 114, 108, 100] : List UInt8)) = false := bne_eq_false_iff_eq.mpr c4
        clear c4
        obtain rfl := Option.some.inj H
        go_enter Tryd.func17, Tryd.ntmps17
        go_wp2
        go_ret
        exact ⟨by first | rfl | (simp; done) | (simp [*]; done), by repeat (first | exact Drawn0.refl _ | apply Drawn0.step)⟩
      · rw [if_neg c4] at H
        have c4b0 : (a0.toList == ([119, 111, 114, 108, 100] : List UInt8)) = false := beq_eq_false_iff_ne.mpr c4
        have c4b1 : (a0.toList != ([119, 111, 114, 108, 100] : List UInt8)) = true := bne_iff_ne.mpr c4
        by_cases c5 : a0.toList = ([117, 115, 101] : List UInt8)
        · rw [if_pos c5] at H
          have c5b0 : (a0.toList == ([117, 115, 101] : List UInt8)) = true := beq_iff_eq.mpr c5
          have c5b1 : (a0.toList != ([117, 115, 101] : List UInt8)) = false := bne_eq_false_iff_eq.mpr c5
          clear c5
          obtain rfl := Option.some.inj H
          go_enter Tryd.func17, Tryd.ntmps17
          go_wp2
          go_ret
          exact ⟨by first | rfl | (simp; done) | (simp [*]; done), by repeat (first | exact Drawn0.refl _ | apply Drawn0.step)⟩
        · rw [if_neg c5] at H
          have c5b0 : (a0.toList == ([117, 115, 101] : List UInt8)) = false := beq_eq_false_iff_ne.mpr c5
          have c5b1 : (a0.toList != ([117, 115, 101] : List UInt8)) = true := bne_iff_ne.mpr c5
          by_cases c6 : a0.toList = ([97, 115] : List UInt8)
          · rw [if_pos c6] at H
            have c6b0 : (a0.toList == ([97, 115] : List UInt8)) = true := beq_iff_eq.mpr c6
            have c6b1 : (a0.toList != ([97, 115] : List UInt8)) = false := bne_eq_false_iff_eq.mpr c6
            clear c6
            obtain rfl := Option.some.inj H
            go_enter Tryd.func17, Tryd.ntmps17
            go_wp2
            go_ret
            exact ⟨by first | rfl | (simp; done) | (simp [*]; done), by repeat (first | exact Drawn0.refl _ | apply Drawn0.step)⟩
          · rw [if_neg c6] at H
            have c6b0 : (a0.toList == ([97, 115] : List UInt8)) = false := beq_eq_false_iff_ne.mpr c6
            have c6b1 : (a0.toList != ([97, 115] : List UInt8)) = true := bne_iff_ne.mpr c6
            by_cases c7 : a0.toList = ([105, 109, 112, 111, 114, 116] : List UInt8)
            · rw [if_pos c7] at H
              have c7b0 : (a0.toList == ([105, 109, 112, 111, 114, 116] : List UInt8)) = true := beq_iff_eq.mpr c7
              have c7b1 : (a0.toList != ([105, 109, 112, 111, 114, 116] : List UInt8)) = false := bne_eq_false_iff_eq.mpr c7
              clear c7
              obtain rfl := Option.some.inj H
              go_enter Tryd.func17, Tryd.ntmps17
              go_wp2
              go_ret
              exact ⟨by first | rfl | (simp; done) | (simp [*]; done), by repeat (first | exact Drawn0.refl _ | apply Drawn0.step)⟩
            · rw [if_neg c7] at H
              have c7b0 : (a0.toList == ([105, 109, 112, 111, 114, 116] : List UInt8)) = false := beq_eq_false_iff_ne.mpr c7
              have c7b1 : (a0.toList != ([105, 109, 112, 111, 114, 116] : List UInt8)) = true := bne_iff_ne.mpr c7
              by_cases c8 : a0.toList = ([101, 120, 112, 111, 114, 116] : List UInt8)
              · rw [if_pos c8] at H
                have c8b0 : (a0.toList == ([101, 120, 112, 111, 114, 116] : List UInt8)) = true := beq_iff_eq.mpr c8
                have c8b1 : (a0.toList != ([101, 120, 112, 111, 114, 116] : List UInt8)) = false := bne_eq_false_iff_eq.mpr c8
                clear c8
                obtain rfl := Option.some.inj H
                go_enter Tryd.func17, Tryd.ntmps17
                go_wp2
                go_ret
                exact ⟨by first | rfl | (simp; done) | (simp [*]; done), by repeat (first | exact Drawn0.refl _ | apply Drawn0.step)⟩
              · rw [if_neg c8] at H
                have c8b0 : (a0.toList == ([101, 120, 112, 111, 114, 116] : List UInt8)) = false := beq_eq_false_iff_ne.mpr c8
                have c8b1 : (a0.toList != ([101, 120, 112, 111, 114, 116] : List UInt8)) = true := bne_iff_ne.mpr c8
                by_cases c9 : a0.toList = ([116, 121, 112, 101] : List UInt8)
                · rw [if_pos c9] at H
                  have c9b0 : (a0.toList == ([116, 121, 112, 101] : List UInt8)) = true := beq_iff_eq.mpr c9
                  have c9b1 : (a0.toList != ([116, 121, 112, 101] : List UInt8)) = false := bne_eq_false_iff_eq.mpr c9
                  clear c9
                  obtain rfl := Option.some.inj H
                  go_enter Tryd.func17, Tryd.ntmps17
                  go_wp2
                  go_ret
                  exact ⟨by first | rfl | (simp; done) | (simp [*]; done), by repeat (first | exact Drawn0.refl _ | apply Drawn0.step)⟩
                · rw [if_neg c9] at H
                  have c9b0 : (a0.toList == ([116, 121, 112, 101] : List UInt8)) = false := beq_eq_false_iff_ne.mpr c9
                  have c9b1 : (a0.toList != ([116, 121, 112, 101] : List UInt8)) = true := bne_iff_ne.mpr c9
                  by_cases c10 : a0.toList = ([114, 101, 99, 111, 114, 100] : List UInt8)
                  · rw [if_pos c10] at H
                    have c10b0 : (a0.toList == ([114, 101, 99, 111, 114, 100] : List UInt8)) = true := beq_iff_eq.mpr c10
                    have c10b1 : (a0.toList != ([114, 101, 99, 111, 114, 100] : List UInt8)) = false := bne_eq_false_iff_eq.mpr c10
                    clear c10
                    obtain rfl := Option.some.inj H
                    go_enter Tryd.func17, Tryd.ntmps17
                    go_wp2
                    go_ret
                    exact ⟨by first | rfl | (simp; done) | (simp [*]; done), by repeat (first | exact Drawn0.refl _ | apply Drawn0.step)⟩
                  · rw [if_neg c10] at H
                    have c10b0 : (a0.toList == ([114, 101, 99, 111, 114, 100] : List UInt8)) = false := beq_eq_false_iff_ne.mpr c10
                    have c10b1 : (a0.toList != ([114, 101, 99, 111, 114, 100] : List UInt8)) = true := bne_iff_ne.mpr c10
                    by_cases c11 : a0.toList = ([118, 97, 114, 105, 97, 110, 116] : List UInt8)
                    · rw [if_pos c11] at H
                      have c11b0 : (a0.toList == ([118, 97, 114, 105, 97, 110, 116] : List UInt8)) = true := beq_iff_eq.mpr c11
                      have c11b1 : (a0.toList != ([118, 97, 114, 105, 97, 110, 116] : List UInt8)) = false := bne_eq_false_iff_eq.mpr c11
                      clear c11
                      obtain rfl := Option.some.inj H
                      go_enter Tryd.func17, Tryd.ntmps17
                      go_wp2
                      go_ret
                      exact ⟨by first | rfl | (simp; done) | (simp [*]; done), by repeat (first | exact Drawn0.refl _ | apply Drawn0.step)⟩
                    · rw [if_neg c11] at H
                      have c11b0 : (a0.toList == ([118, 97, 114, 105, 97, 110, 116] : List UInt8)) = false := beq_eq_false_iff_ne.mpr c11
                      have c11b1 : (a0.toList != ([118, 97, 114, 105, 97, 110, 116] : List UInt8)) = true := bne_iff_ne.mpr c11
                      by_cases c12 : a0.toList = ([101, 110, 117, 109] : List UInt8)
                      · rw [if_pos c12] at H
                        have c12b0 : (a0.toList == ([101, 110, 117, 109] : List UInt8)) = true := beq_iff_eq.mpr c12
                        have c12b1 : (a0.toList != ([101, 110, 117, 109] : List UInt8)) = false := bne_eq_false_iff_eq.mpr c12
                        clear c12
                        obtain rfl := Option.some.inj H
                        go_enter Tryd.func17, Tryd.ntmps17
                        go_wp2
                        go_ret
                        exact ⟨by first | rfl | (simp; done) | (simp [*]; done), by repeat (first | exact Drawn0.refl _ | apply Drawn0.step)⟩
                      · rw [if_neg c12] at H
                        have c12b0 : (a0.toList == ([101, 110, 117, 109] : List UInt8)) = false := beq_eq_false_iff_ne.mpr c12
                        have c12b1 : (a0.toList != ([101, 110, 117, 109] : List UInt8)) = true := bne_iff_ne.mpr c12
                        by_cases c13 : a0.toList = ([102, 108, 97, 103, 115] : List UInt8)
                        · rw [if_pos c13] at H
                          have c13b0 : (a0.toList == ([102, 108, 97, 103, 115] : List UInt8)) = true := beq_iff_eq.mpr c13
                          have c13b1 : (a0.toList != ([102, 108, 97, 103, 115] : List UInt8)) = false := bne_eq_false_iff_eq.mpr c13
                          clear c13
                          obtain rfl := Option.some.inj H
                          go_enter Tryd.func17, Tryd.ntmps17
                          go_wp2
                          go_ret
                          exact ⟨by first | rfl | (simp; done) | (simp [*]; done), by repeat (first | exact Drawn0.refl _ | apply Drawn0.step)⟩
                        · rw [if_neg c13] at H
                          have c13b0 : (a0.toList == ([102, 108, 97, 103, 115] : List UInt8)) = false := beq_eq_false_iff_ne.mpr c13
                          have c13b1 : (a0.toList != ([102, 108, 97, 103, 115] : List UInt8)) = true := bne_iff_ne.mpr c13
                          by_cases c14 : a0.toList = ([114, 101, 115, 111, 117, 114, 99, 101] : List UInt8)
                          · rw [if_pos c14] at H
                            have c14b0 : (a0.toList == ([114, 101, 115, 111, 117, 114, 99, 101] : List UInt8)) = true := beq_iff_eq.mpr c14
                            have c14b1 : (a0.toList != ([114, 101, 115, 111, 117, 114, 99, 101] : List UInt8)) = false := bne_eq_false_iff_eq.mpr c14
                            clear c14
                            obtain rfl := Option.some.inj H
                            go_enter Tryd.func17, Tryd.ntmps17
                            go_wp2
                            go_ret
                            exact ⟨by first | rfl | (simp; done) | (simp [*]; done), by repeat (first | exact Drawn0.refl _ | apply Drawn0.step)⟩
                          · rw [if_neg c14] at H
                            have c14b0 : (a0.toList == ([114, 101, 115, 111, 117, 114, 99, 101] : List UInt8)) = false := beq_eq_false_iff_ne.mpr c14
                            have c14b1 : (a0.toList != ([114, 101, 115, 111, 117, 114, 99, 101] : List UInt8)) = true := bne_iff_ne.mpr c14
                            by_cases c15 : a0.toList = ([99, 111, 110, 115, 116, 114, 117, 99, 116, 111, 114] : List UInt8)
                            · rw [if_pos c15] at H
                              have c15b0 : (a0.toList == ([99, 111, 110, 115, 116, 114, 117, 99, 116, 111, 114] : List UInt8)) = true := beq_iff_eq.mpr c15
                              have c15b1 : (a0.toList != ([99, 111, 110, 115, 116, 114, 117, 99, 116, 111, 114] : List UInt8)) = false := bne_eq_false_iff_eq.mpr c15
                              clear c15
                              obtain rfl := Option.some.inj H
                              go_enter Tryd.func17, Tryd.ntmps17
                              go_wp2
                              go_ret
                              exact ⟨by first | rfl | (simp; done) | (simp [*]; done), by repeat (first | exact Drawn0.refl _ | apply Drawn0.step)⟩
                            · rw [if_neg c15] at H
                              have c15b0 : (a0.toList == ([99, 111, 110, 115, 116, 114, 117, 99, 116, 111, 114] : List UInt8)) = false := beq_eq_false_iff_ne.mpr c15
                              have c15b1 : (a0.toList != ([99, 111, 110, 115, 116, 114, 117, 99, 116, 111, 114] : List UInt8)) = true := bne_iff_ne.mpr c15
                              by_cases c16 : a0.toList = ([115, 116, 97, 116, 105, 99] : List UInt8)
                              · rw [if_pos c16] at H
                                have c16b0 : (a0.toList == ([115, 116, 97, 116, 105, 99] : List UInt8)) = true := beq_iff_eq.mpr c16
                                have c16b1 : (a0.toList != ([115, 116, 97, 116, 105, 99] : List UInt8)) = false := bne_eq_false_iff_eq.mpr c16
                                clear c16
                                obtain rfl := Option.some.inj H
                                go_enter Tryd.func17, Tryd.ntmps17
                                go_wp2
                                go_ret
                                exact ⟨by first | rfl | (simp; done) | (simp [*]; done), by repeat (first | exact Drawn0.refl _ | apply Drawn0.step)⟩
                              · rw [if_neg c16] at H
                                have c16b0 : (a0.toList == ([115, 116, 97, 116, 105, 99] : List UInt8)) = false := beq_eq_false_iff_ne.mpr c16
                                have c16b1 : (a0.toList != ([115, 116, 97, 116, 105, 99] : List UInt8)) = true := bne_iff_ne.mpr c16
                                by_cases c17 : a0.toList = ([102, 117, 110, 99] : List UInt8)
                                · rw [if_pos c17] at H
                                  have c17b0 : (a0.toList == ([102, 117, 110, 99] : List UInt8)) = true := beq_iff_eq.mpr c17
                                  have c17b1 : (a0.toList != ([102, 117, 110, 99] : List UInt8)) = false := bne_eq_false_iff_eq.mpr c17
                                  clear c17
                                  obtain rfl := Option.some.inj H
                                  go_enter Tryd.func17, Tryd.ntmps17
                                  go_wp2
                                  go_ret
                                  exact ⟨by first | rfl | (simp; done) | (simp [*]; done), by repeat (first | exact Drawn0.refl _ | apply Drawn0.step)⟩
                                · rw [if_neg c17] at H
                                  have c17b0 : (a0.toList == ([102, 117, 110, 99] : List UInt8)) = false := beq_eq_false_iff_ne.mpr c17
                                  have c17b1 : (a0.toList != ([102, 117, 110, 99] : List UInt8)) = true := bne_iff_ne.mpr c17
                                  by_cases c18 : a0.toList = ([98, 111, 111, 108] : List UInt8)
                                  · rw [if_pos c18] at H
                                    have c18b0 : (a0.toList == ([98, 111, 111, 108] : List UInt8)) = true := beq_iff_eq.mpr c18
                                    have c18b1 : (a0.toList != ([98, 111, 111, 108] : List UInt8)) = false := bne_eq_false_iff_eq.mpr c18
                                    clear c18
                                    obtain rfl := Option.some.inj H
                                    go_enter Tryd.func17, Tryd.ntmps17
                                    go_wp2
                                    go_ret
                                    exact ⟨by first | rfl | (simp; done) | (simp [*]; done), by repeat (first | exact Drawn0.refl _ | apply Drawn0.step)⟩
                                  · rw [if_neg c18] at H
                                    have c18b0 : (a0.toList == ([98, 111, 111, 108] : List UInt8)) = false := beq_eq_false_iff_ne.mpr c18
                                    have c18b1 : (a0.toList != ([98, 111, 111, 108] : List UInt8)) = true := bne_iff_ne.mpr c18
                                    by_cases c19 : a0.toList = ([115, 56] : List UInt8)
                                    · rw [if_pos c19] at H
                                      have c19b0 : (a0.toList == ([115, 56] : List UInt8)) = true := beq_iff_eq.mpr c19
                                      have c19b1 : (a0.toList != ([115, 56] : List UInt8)) = false := bne_eq_false_iff_eq.mpr c19
                                      clear c19
                                      obtain rfl := Option.some.inj H
                                      go_enter Tryd.func17, Tryd.ntmps17
                                      go_wp2
                                      go_ret
                                      exact ⟨by first | rfl | (simp; done) | (simp [*]; done), by repeat (first | exact Drawn0.refl _ | apply Drawn0.step)⟩
                                    · rw [if_neg c19] at H
                                      have c19b0 : (a0.toList == ([115, 56] : List UInt8)) = false := beq_eq_false_iff_ne.mpr c19
                                      have c19b1 : (a0.toList != ([115, 56] : List UInt8)) = true := bne_iff_ne.mpr c19
                                      by_cases c20 : a0.toList = ([117, 56] : List UInt8)
                                      · rw [if_pos c20] at H
                                        have c20b0 : (a0.toList == ([117, 56] : List UInt8)) = true := beq_iff_eq.mpr c20
                                        have c20b1 : (a0.toList != ([117, 56] : List UInt8)) = false := bne_eq_false_iff_eq.mpr c20
                                        clear c20
                                        obtain rfl := Option.some.inj H
                                        go_enter Tryd.func17, Tryd.ntmps17
                                        go_wp2
                                        go_ret
                                        exact ⟨by first | rfl | (simp; done) | (simp [*]; done), by repeat (first | exact Drawn0.refl _ | apply Drawn0.step)⟩
                                      · rw [if_neg c20] at H
                                        have c20b0 : (a0.toList == ([117, 56] : List UInt8)) = false := beq_eq_false_iff_ne.mpr c20
                                        have c20b1 : (a0.toList != ([117, 56] : List UInt8)) = true := bne_iff_ne.mpr c20
                                        by_cases c21 : a0.toList = ([115, 49, 54] : List UInt8)
                                        · rw [if_pos c21] at H
                                          have c21b0 : (a0.toList == ([115, 49, 54] : List UInt8)) = true := beq_iff_eq.mpr c21
                                          have c21b1 : (a0.toList != ([115, 49, 54] : List UInt8)) = false := bne_eq_false_iff_eq.mpr c21
                                          clear c21
                                          obtain rfl := Option.some.inj H
                                          go_enter Tryd.func17, Tryd.ntmps17
                                          go_wp2
                                          go_ret
                                          exact ⟨by first | rfl | (simp; done) | (simp [*]; done), by repeat (first | exact Drawn0.refl _ | apply Drawn0.step)⟩
                                        · rw [if_neg c21] at H
                                          have c21b0 : (a0.toList == ([115, 49, 54] : List UInt8)) = false := beq_eq_false_iff_ne.mpr c21
                                          have c21b1 : (a0.toList != ([115, 49, 54] : List UInt8)) = true := bne_iff_ne.mpr c21
                                          by_cases c22 : a0.toList = ([117, 49, 54] : List UInt8)
                                          · rw [if_pos c22] at H
                                            have c22b0 : (a0.toList == ([117, 49, 54] : List UInt8)) = true := beq_iff_eq.mpr c22
                                            have c22b1 : (a0.toList != ([117, 49, 54] : List UInt8)) = false := bne_eq_false_iff_eq.mpr c22
                                            clear c22
                                            obtain rfl := Option.some.inj H
                                            go_enter Tryd.func17, Tryd.ntmps17
                                            go_wp2
                                            go_ret
                                            exact ⟨by first | rfl | (simp; done) | (simp [*]; done), by repeat (first | exact Drawn0.refl _ | apply Drawn0.step)⟩
                                          · rw [if_neg c22] at H
                                            have c22b0 : (a0.toList == ([117, 49, 54] : List UInt8)) = false := beq_eq_false_iff_ne.mpr c22
                                            have c22b1 : (a0.toList != ([117, 49, 54] : List UInt8)) = true := bne_iff_ne.mpr c22
                                            by_cases c23 : a0.toList = ([115, 51, 50] : List UInt8)
                                            · rw [if_pos c23] at H
                                              have c23b0 : (a0.toList == ([115, 51, 50] : List UInt8)) = true := beq_iff_eq.mpr c23
                                              have c23b1 : (a0.toList != ([115, 51, 50] : List UInt8)) = false := bne_eq_false_iff_eq.mpr c23
                                              clear c23
                                              obtain rfl := Option.some.inj H
                                              go_enter Tryd.func17, Tryd.ntmps17
                                              go_wp2
                                              go_ret
                                              exact ⟨by first | rfl | (simp; done) | (simp [*]; done), by repeat (first | exact Drawn0.refl _ | apply Drawn0.step)⟩
                                            · rw [if_neg c23] at H
                                              have c23b0 : (a0.toList == ([115, 51, 50] : List UInt8)) = false := beq_eq_false_iff_ne.mpr c23
                                              have c23b1 : (a0.toList != ([115, 51, 50] : List UInt8)) = true := bne_iff_ne.mpr c23
                                              by_cases c24 : a0.toList = ([117, 51, 50] : List UInt8)
                                              · rw [if_pos c24] at H
                                                have c24b0 : (a0.toList == ([117, 51, 50] : List UInt8)) = true := beq_iff_eq.mpr c24
                                                have c24b1 : (a0.toList != ([117, 51, 50] : List UInt8)) = false := bne_eq_false_iff_eq.mpr c24
                                                clear c24
                                                obtain rfl := Option.some.inj H
                                                go_enter Tryd.func17, Tryd.ntmps17
                                                go_wp2
                                                go_ret
                                                exact ⟨by first | rfl | (simp; done) | (simp [*]; done), by repeat (first | exact Drawn0.refl _ | apply Drawn0.step)⟩
                                              · rw [if_neg c24] at H
                                                have c24b0 : (a0.toList == ([117, 51, 50] : List UInt8)) = false := beq_eq_false_iff_ne.mpr c24
                                                have c24b1 : (a0.toList != ([117, 51, 50] : List UInt8)) = true := bne_iff_ne.mpr c24
                                                by_cases c25 : a0.toList = ([115, 54, 52] : List UInt8)
                                                · rw [if_pos c25] at H
                                                  have c25b0 : (a0.toList == ([115, 54, 52] : List UInt8)) = true := beq_iff_eq.mpr c25
                                                  have c25b1 : (a0.toList != ([115, 54, 52] : List UInt8)) = false := bne_eq_false_iff_eq.mpr c25
                                                  clear c25
                                                  obtain rfl := Option.some.inj H
                                                  go_enter Tryd.func17, Tryd.ntmps17
                                                  go_wp2
                                                  go_ret
                                                  exact ⟨by first | rfl | (simp; done) | (simp [*]; done), by repeat (first | exact Drawn0.refl _ | apply Drawn0.step)⟩
                                                · rw [if_neg c25] at H
                                                  have c25b0 : (a0.toList == ([115, 54, 52] : List UInt8)) = false := beq_eq_false_iff_ne.mpr c25
                                                  have c25b1 : (a0.toList != ([115, 54, 52] : List UInt8)) = true := bne_iff_ne.mpr c25
                                                  by_cases c26 : a0.toList = ([117, 54, 52] : List UInt8)
                                                  · rw [if_pos c26] at H
                                                    have c26b0 : (a0.toList == ([117, 54, 52] : List UInt8)) = true := beq_iff_eq.mpr c26
                                                    have c26b1 : (a0.toList != ([117, 54, 52] : List UInt8)) = false := bne_eq_false_iff_eq.mpr c26
                                                    clear c26
                                                    obtain rfl := Option.some.inj H
                                                    go_enter Tryd.func17, Tryd.ntmps17
                                                    go_wp2
                                                    go_ret
                                                    exact ⟨by first | rfl | (simp; done) | (simp [*]; done), by repeat (first | exact Drawn0.refl _ | apply Drawn0.step)⟩
                                                  · rw [if_neg c26] at H
                                                    have c26b0 : (a0.toList == ([117, 54, 52] : List UInt8)) = false := beq_eq_false_iff_ne.mpr c26
                                                    have c26b1 : (a0.toList != ([117, 54, 52] : List UInt8)) = true := bne_iff_ne.mpr c26
                                                    by_cases c27 : a0.toList = ([102, 51, 50] : List UInt8)
                                                    · rw [if_pos c27] at H
                                                      have c27b0 : (a0.toList == ([102, 51, 50] : List UInt8)) = true := beq_iff_eq.mpr c27
                                                      have c27b1 : (a0.toList != ([102, 51, 50] : List UInt8)) = false := bne_eq_false_iff_eq.mpr c27
                                                      clear c27
                                                      obtain rfl := Option.some.inj H
                                                      go_enter Tryd.func17, Tryd.ntmps17
                                                      go_wp2
                                                      go_ret
                                                      exact ⟨by first | rfl | (simp; done) | (simp [*]; done), by repeat (first | exact Drawn0.refl _ | apply Drawn0.step)⟩
                                                    · rw [if_neg c27] at H
                                                      have c27b0 : (a0.toList == ([102, 51, 50] : List UInt8)) = false := beq_eq_false_iff_ne.mpr c27
                                                      have c27b1 : (a0.toList != ([102, 51, 50] : List UInt8)) = true := bne_iff_ne.mpr c27
                                                      by_cases c28 : a0.toList = ([102, 54, 52] : List UInt8)
                                                      · rw [if_pos c28] at H
                                                        have c28b0 : (a0.toList == ([102, 54, 52] : List UInt8)) = true := beq_iff_eq.mpr c28
                                                        have c28b1 : (a0.toList != ([102, 54, 52] : List UInt8)) = false := bne_eq_false_iff_eq.mpr c28
                                                        clear c28
                                                        obtain rfl := Option.some.inj H
                                                        go_enter Tryd.func17, Tryd.ntmps17
                                                        go_wp2
                                                        go_ret
                                                        exact ⟨by first | rfl | (simp; done) | (simp [*]; done), by repeat (first | exact Drawn0.refl _ | apply Drawn0.step)⟩
                                                      · rw [if_neg c28] at H
                                                        have c28b0 : (a0.toList == ([102, 54, 52] : List UInt8)) = false := beq_eq_false_iff_ne.mpr c28
                                                        have c28b1 : (a0.toList != ([102, 54, 52] : List UInt8)) = true := bne_iff_ne.mpr c28
                                                        by_cases c29 : a0.toList = ([99, 104, 97, 114] : List UInt8)
                                                        · rw [if_pos c29] at H
                                                          have c29b0 : (a0.toList == ([99, 104, 97, 114] : List UInt8)) = true := beq_iff_eq.mpr c29
                                                          have c29b1 : (a0.toList != ([99, 104, 97, 114] : List UInt8)) = false := bne_eq_false_iff_eq.mpr c29
                                                          clear c29
                                                          obtain rfl := Option.some.inj H
                                                          go_enter Tryd.func17, Tryd.ntmps17
                                                          go_wp2
                                                          go_ret
                                                          exact ⟨by first | rfl | (simp; done) | (simp [*]; done), by repeat (first | exact Drawn0.refl _ | apply Drawn0.step)⟩
                                                        · rw [if_neg c29] at H
                                                          have c29b0 : (a0.toList == ([99, 104, 97, 114] : List UInt8)) = false := beq_eq_false_iff_ne.mpr c29
                                                          have c29b1 : (a0.toList != ([99, 104, 97, 114] : List UInt8)) = true := bne_iff_ne.mpr c29
                                                          by_cases c30 : a0.toList = ([115, 116, 114, 105, 110, 103] : List UInt8)
                                                          · rw [if_pos c30] at H
                                                            have c30b0 : (a0.toList == ([115, 116, 114, 105, 110, 103] : List UInt8)) = true := beq_iff_eq.mpr c30
                                                            have c30b1 : (a0.toList != ([115, 116, 114, 105, 110, 103] : List UInt8)) = false := bne_eq_false_iff_eq.mpr c30
                                                            clear c30
                                                            obtain rfl := Option.some.inj H
                                                            go_enter Tryd.func17, Tryd.ntmps17
                                                            go_wp2
                                                            go_ret
                                                            exact ⟨by first | rfl | (simp; done) | (simp [*]; done), by repeat (first | exact Drawn0.refl _ | apply Drawn0.step)⟩
                                                          · rw [if_neg c30] at H
                                                            have c30b0 : (a0.toList == ([115, 116, 114, 105, 110, 103] : List UInt8)) = false := beq_eq_false_iff_ne.mpr c30
                                                            have c30b1 : (a0.toList != ([115, 116, 114, 105, 110, 103] : List UInt8)) = true := bne_iff_ne.mpr c30
                                                            by_cases c31 : a0.toList = ([108, 105, 115, 116] : List UInt8)
                                                            · rw [if_pos c31] at H
                                                              have c31b0 : (a0.toList == ([108, 105, 115, 116] : List UInt8)) = true := beq_iff_eq.mpr c31
                                                              have c31b1 : (a0.toList != ([108, 105, 115, 116] : List UInt8)) = false := bne_eq_false_iff_eq.mpr c31
                                                              clear c31
                                                              obtain rfl := Option.some.inj H
                                                              go_enter Tryd.func17, Tryd.ntmps17
                                                              go_wp2
                                                              go_ret
                                                              exact ⟨by first | rfl | (simp; done) | (simp [*]; done), by repeat (first | exact Drawn0.refl _ | apply Drawn0.step)⟩
                                                            · rw [if_neg c31] at H
                                                              have c31b0 : (a0.toList == ([108, 105, 115, 116] : List UInt8)) = false := beq_eq_false_iff_ne.mpr c31
                                                              have c31b1 : (a0.toList != ([108, 105, 115, 116] : List UInt8)) = true := bne_iff_ne.mpr c31
                                                              by_cases c32 : a0.toList = ([111, 112, 116, 105, 111, 110] : List UInt8)
                                                              · rw [if_pos c32] at H
                                                                have c32b0 : (a0.toList == ([111, 112, 116, 105, 111, 110] : List UInt8)) = true := beq_iff_eq.mpr c32
                                                                have c32b1 : (a0.toList != ([111, 112, 116, 105, 111, 110] : List UInt8)) = false := bne_eq_false_iff_eq.mpr c32
                                                                clear c32
                                                                obtain rfl := Option.some.inj H
                                                                go_enter Tryd.func17, Tryd.ntmps17
                                                                go_wp2
                                                                go_ret
                                                                exact ⟨by first | rfl | (simp; done) | (simp [*]; done), by repeat (first | exact Drawn0.refl _ | apply Drawn0.step)⟩
                                                              · rw [if_neg c32] at H
                                                                have c32b0 : (a0.toList == ([111, 112, 116, 105, 111, 110] : List UInt8)) = false := beq_eq_false_iff_ne.mpr c32
                                                                have c32b1 : (a0.toList != ([111, 112, 116, 105, 111, 110] : List UInt8)) = true := bne_iff_ne.mpr c32
                                                                by_cases c33 : a0.toList = ([114, 101, 115, 117, 108, 116] : List UInt8)
                                                                · rw [if_pos c33] at H
                                                                  have c33b0 : (a0.toList == ([114, 101, 115, 117, 108, 116] : List UInt8)) = true := beq_iff_eq.mpr c33
                                                                  have c33b1 : (a0.toList != ([114, 101, 115, 117, 108, 116] : List UInt8)) = false := bne_eq_false_iff_eq.mpr c33
                                                                  clear c33
                                                                  obtain rfl := Option.some.inj H
                                                                  go_enter Tryd.func17, Tryd.ntmps17
                                                                  go_wp2
                                                                  go_ret
                                                                  exact ⟨by first | rfl | (simp; done) | (simp [*]; done), by repeat (first | exact Drawn0.refl _ | apply Drawn0.step)⟩
                                                                · rw [if_neg c33] at H
                                                                  have c33b0 : (a0.toList == ([114, 101, 115, 117, 108, 116] : List UInt8)) = false := beq_eq_false_iff_ne.mpr c33
                                                                  have c33b1 : (a0.toList != ([114, 101, 115, 117, 108, 116] : List UInt8)) = true := bne_iff_ne.mpr c33
                                                                  by_cases c34 : a0.toList = ([116, 117, 112, 108, 101] : List UInt8)
                                                                  · rw [if_pos c34] at H
                                                                    have c34b0 : (a0.toList == ([116, 117, 112, 108, 101] : List UInt8)) = true := beq_iff_eq.mpr c34
                                                                    have c34b1 : (a0.toList != ([116, 117, 112, 108, 101] : List UInt8)) = false := bne_eq_false_iff_eq.mpr c34
                                                                    clear c34
                                                                    obtain rfl := Option.some.inj H
                                                                    go_enter Tryd.func17, Tryd.ntmps17
                                                                    go_wp2
                                                                    go_ret
                                                                    exact ⟨by first | rfl | (simp; done) | (simp [*]; done), by repeat (first | exact Drawn0.refl _ | apply Drawn0.step)⟩
                                                                  · rw [if_neg c34] at H
                                                                    have c34b0 : (a0.toList == ([116, 117, 112, 108, 101] : List UInt8)) = false := beq_eq_false_iff_ne.mpr c34
                                                                    have c34b1 : (a0.toList != ([116, 117, 112, 108, 101] : List UInt8)) = true := bne_iff_ne.mpr c34
                                                                    by_cases c35 : a0.toList = ([111, 119, 110] : List UInt8)
                                                                    · rw [if_pos c35] at H
                                                                      have c35b0 : (a0.toList == ([111, 119, 110] : List UInt8)) = true := beq_iff_eq.mpr c35
                                                                      have c35b1 : (a0.toList != ([111, 119, 110] : List UInt8)) = false := bne_eq_false_iff_eq.mpr c35
                                                                      clear c35
                                                                      obtain rfl := Option.some.inj H
                                                                      go_enter Tryd.func17, Tryd.ntmps17
                                                                      go_wp2
                                                                      go_ret
                                                                      exact ⟨by first | rfl | (simp; done) | (simp [*]; done), by repeat (first | exact Drawn0.refl _ | apply Drawn0.step)⟩
                                                                    · rw [if_neg c35] at H
                                                                      have c35b0 : (a0.toList == ([111, 119, 110] : List UInt8)) = false := beq_eq_false_iff_ne.mpr c35
                                                                      have c35b1 : (a0.toList != ([111, 119, 110] : List UInt8)) = true := bne_iff_ne.mpr c35
                                                                      by_cases c36 : a0.toList = ([98, 111, 114, 114, 111, 119] : List UInt8)
                                                                      · rw [if_pos c36] at H
                                                                        have c36b0 : (a0.toList == ([98, 111, 114, 114, 111, 119] : List UInt8)) = true := beq_iff_eq.mpr c36
                                                                        have c36b1 : (a0.toList != ([98, 111, 114, 114, 111, 119] : List UInt8)) = false := bne_eq_false_iff_eq.mpr c36
                                                                        clear c36
                                                                        obtain rfl := Option.some.inj H
                                                                        go_enter Tryd.func17, Tryd.ntmps17
                                                                        go_wp2
                                                                        go_ret
                                                                        exact ⟨by first | rfl | (simp; done) | (simp [*]; done), by repeat (first | exact Drawn0.refl _ | apply Drawn0.step)⟩
                                                                      · rw [if_neg c36] at H
                                                                        have c36b0 : (a0.toList == ([98, 111, 114, 114, 111, 119] : List UInt8)) = false := beq_eq_false_iff_ne.mpr c36
                                                                        have c36b1 : (a0.toList != ([98, 111, 114, 114, 111, 119] : List UInt8)) = true := bne_iff_ne.mpr c36
                                                                        obtain rfl := Option.some.inj H
                                                                        go_enter Tryd.func17, Tryd.ntmps17
                                                                        go_wp2
                                                                        go_ret
                                                                        exact ⟨by first | rfl | (simp; done) | (simp [*]; done), by repeat (first | exact Drawn0.refl _ | apply Drawn0.step)⟩
def scarfref10_words.f  : Option (List ByteArray) := some (([(⟨#[112, 97, 99, 107, 97, 103, 101]⟩ : ByteArray), (⟨#[105, 110, 116, 101, 114, 102, 97, 99, 101]⟩ : ByteArray), (⟨#[119, 111, 114, 108, 100]⟩ : ByteArray), (⟨#[117, 115, 101]⟩ : ByteArray), (⟨#[97, 115]⟩ : ByteArray), (⟨#[105, 109, 112, 111, 114, 116]⟩ : ByteArray), (⟨#[101, 120, 112, 111, 114, 116]⟩ : ByteArray), (⟨#[116, 121, 112, 101]⟩ : ByteArray), (⟨#[114, 101, 99, 111, 114, 100]⟩ : ByteArray), (⟨#[118, 97, 114, 105, 97, 110, 116]⟩ : ByteArray), (⟨#[101, 110, 117, 109]⟩ : ByteArray), (⟨#[102, 108, 97, 103, 115]⟩ : ByteArray), (⟨#[114, 101, 115, 111, 117, 114, 99, 101]⟩ : ByteArray), (⟨#[99, 111, 110, 115, 116, 114, 117, 99, 116, 111, 114]⟩ : ByteArray), (⟨#[115, 116, 97, 116, 105, 99]⟩ : ByteArray), (⟨#[102, 117, 110, 99]⟩ : ByteArray), (⟨#[98, 111, 111, 108]⟩ : ByteArray), (⟨#[115, 56]⟩ : ByteArray), (⟨#[117, 56]⟩ : ByteArray), (⟨#[115, 49, 54]⟩ : ByteArray), (⟨#[117, 49, 54]⟩ : ByteArray), (⟨#[115, 51, 50]⟩ : ByteArray), (⟨#[117, 51, 50]⟩ : ByteArray), (⟨#[115, 54, 52]⟩ : ByteArray), (⟨#[117, 54, 52]⟩ : ByteArray), (⟨#[102, 51, 50]⟩ : ByteArray), (⟨#[102, 54, 52]⟩ : ByteArray), (⟨#[99, 104, 97, 114]⟩ : ByteArray), (⟨#[115, 116, 114, 105, 110, 103]⟩ : ByteArray), (⟨#[108, 105, 115, 116]⟩ : ByteArray), (⟨#[111, 112, 116, 105, 111, 110]⟩ : ByteArray), (⟨#[114, 101, 115, 117, 108, 116]⟩ : ByteArray), (⟨#[116, 117, 112, 108, 101]⟩ : ByteArray), (⟨#[111, 119, 110]⟩ : ByteArray), (⟨#[98, 111, 114, 114, 111, 119]⟩ : ByteArray)] : List ByteArray))
set_option maxHeartbeats 8000000 in
set_option maxRecDepth 100000 in
theorem scarfref10_words.calls  (r : List ByteArray) (w : World) (h : scarfref10_words.f  = some r) :
    Calls Tryd.prog 28 #[] w fun e w' => ∃ v0_ : Value, e = .returned (v0_) ∧ Kd.R Kd.string 9 w' w.heap.size (fun _ => True) v0_ r ∧ Below w.heap.size w w' := by
  have HB := Aside0.mk (Below.refl w.heap.size w)
  have H : (some (([(⟨#[112, 97, 99, 107, 97, 103, 101]⟩ : ByteArray), (⟨#[105, 110, 116, 101, 114, 102, 97, 99, 101]⟩ : ByteArray), (⟨#[119, 111, 114, 108, 100]⟩ : ByteArray), (⟨#[117, 115, 101]⟩ : ByteArray), (⟨#[97, 115]⟩ : ByteArray), (⟨#[105, 109, 112, 111, 114, 116]⟩ : ByteArray), (⟨#[101, 120, 112, 111, 114, 116]⟩ : ByteArray), (⟨#[116, 121, 112, 101]⟩ : ByteArray), (⟨#[114, 101, 99, 111, 114, 100]⟩ : ByteArray), (⟨#[118, 97, 114, 105, 97, 110, 116]⟩ : ByteArray), (⟨#[101, 110, 117, 109]⟩ : ByteArray), (⟨#[102, 108, 97, 103, 115]⟩ : ByteArray), (⟨#[114, 101, 115, 111, 117, 114, 99, 101]⟩ : ByteArray), (⟨#[99, 111, 110, 115, 116, 114, 117, 99, 116, 111, 114]⟩ : ByteArray), (⟨#[115, 116, 97, 116, 105, 99]⟩ : ByteArray), (⟨#[102, 117, 110, 99]⟩ : ByteArray), (⟨#[98, 111, 111, 108]⟩ : ByteArray), (⟨#[115, 56]⟩ : ByteArray), (⟨#[117, 56]⟩ : ByteArray), (⟨#[115, 49, 54]⟩ : ByteArray), (⟨#[117, 49, 54]⟩ : ByteArray), (⟨#[115, 51, 50]⟩ : ByteArray), (⟨#[117, 51, 50]⟩ : ByteArray), (⟨#[115, 54, 52]⟩ : ByteArray), (⟨#[117, 54, 52]⟩ : ByteArray), (⟨#[102, 51, 50]⟩ : ByteArray), (⟨#[102, 54, 52]⟩ : ByteArray), (⟨#[99, 104, 97, 114]⟩ : ByteArray), (⟨#[115, 116, 114, 105, 110, 103]⟩ : ByteArray), (⟨#[108, 105, 115, 116]⟩ : ByteArray), (⟨#[111, 112, 116, 105, 111, 110]⟩ : ByteArray), (⟨#[114, 101, 115, 117, 108, 116]⟩ : ByteArray), (⟨#[116, 117, 112, 108, 101]⟩ : ByteArray), (⟨#[111, 119, 110]⟩ : ByteArray), (⟨#[98, 111, 114, 114, 111, 119]⟩ : ByteArray)] : List ByteArray))) = some r := h
  clear h
  obtain ⟨y267, hy267⟩ : ∃ y_ : List ByteArray, y_ = (([(⟨#[112, 97, 99, 107, 97, 103, 101]⟩ : ByteArray), (⟨#[105, 110, 116, 101, 114, 102, 97, 99, 101]⟩ : ByteArray), (⟨#[119, 111, 114, 108, 100]⟩ : ByteArray), (⟨#[117, 115, 101]⟩ : ByteArray), (⟨#[97, 115]⟩ : ByteArray), (⟨#[105, 109, 112, 111, 114, 116]⟩ : ByteArray), (⟨#[101, 120, 112, 111, 114, 116]⟩ : ByteArray), (⟨#[116, 121, 112, 101]⟩ : ByteArray), (⟨#[114, 101, 99, 111, 114, 100]⟩ : ByteArray), (⟨#[118, 97, 114, 105, 97, 110, 116]⟩ : ByteArray), (⟨#[101, 110, 117, 109]⟩ : ByteArray), (⟨#[102, 108, 97, 103, 115]⟩ : ByteArray), (⟨#[114, 101, 115, 111, 117, 114, 99, 101]⟩ : ByteArray), (⟨#[99, 111, 110, 115, 116, 114, 117, 99, 116, 111, 114]⟩ : ByteArray), (⟨#[115, 116, 97, 116, 105, 99]⟩ : ByteArray), (⟨#[102, 117, 110, 99]⟩ : ByteArray), (⟨#[98, 111, 111, 108]⟩ : ByteArray), (⟨#[115, 56]⟩ : ByteArray), (⟨#[117, 56]⟩ : ByteArray), (⟨#[115, 49, 54]⟩ : ByteArray), (⟨#[117, 49, 54]⟩ : ByteArray), (⟨#[115, 51, 50]⟩ : ByteArray), (⟨#[117, 51, 50]⟩ : ByteArray), (⟨#[115, 54, 52]⟩ : ByteArray), (⟨#[117, 54, 52]⟩ : ByteArray), (⟨#[102, 51, 50]⟩ : ByteArray), (⟨#[102, 54, 52]⟩ : ByteArray), (⟨#[99, 104, 97, 114]⟩ : ByteArray), (⟨#[115, 116, 114, 105, 110, 103]⟩ : ByteArray), (⟨#[108, 105, 115, 116]⟩ : ByteArray), (⟨#[111, 112, 116, 105, 111, 110]⟩ : ByteArray), (⟨#[114, 101, 115, 117, 108, 116]⟩ : ByteArray), (⟨#[116, 117, 112, 108, 101]⟩ : ByteArray), (⟨#[111, 119, 110]⟩ : ByteArray), (⟨#[98, 111, 114, 114, 111, 119]⟩ : ByteArray)] : List ByteArray)) := ⟨_, rfl⟩
  replace H : (some y267) = some r := by first | (rw [hy267]; with_reducible exact H) | (have H2_ := (Option.bind_some _ _).symm.trans H; rw [hy267]; with_reducible exact H2_) | (have H2_ := (Option.bind_some _ _).symm.trans H; with_reducible exact H2_) | with_reducible exact H | (rw [hy267]; exact H) | exact H
  have Ny267 := Aside0.mk hy267
  clear hy267
  obtain rfl := Option.some.inj H
  go_enter Tryd.func28, Tryd.ntmps28
  go_wp2_with (first | ((with_reducible refine gate_dst (N := 1) rfl ?_); refine Kd.R_lit Kd.string _ 9 ?hg (N := 1) ?hd (xs := ([(⟨#[112, 97, 99, 107, 97, 103, 101]⟩ : ByteArray), (⟨#[105, 110, 116, 101, 114, 102, 97, 99, 101]⟩ : ByteArray), (⟨#[119, 111, 114, 108, 100]⟩ : ByteArray), (⟨#[117, 115, 101]⟩ : ByteArray), (⟨#[97, 115]⟩ : ByteArray), (⟨#[105, 109, 112, 111, 114, 116]⟩ : ByteArray), (⟨#[101, 120, 112, 111, 114, 116]⟩ : ByteArray), (⟨#[116, 121, 112, 101]⟩ : ByteArray), (⟨#[114, 101, 99, 111, 114, 100]⟩ : ByteArray), (⟨#[118, 97, 114, 105, 97, 110, 116]⟩ : ByteArray), (⟨#[101, 110, 117, 109]⟩ : ByteArray), (⟨#[102, 108, 97, 103, 115]⟩ : ByteArray), (⟨#[114, 101, 115, 111, 117, 114, 99, 101]⟩ : ByteArray), (⟨#[99, 111, 110, 115, 116, 114, 117, 99, 116, 111, 114]⟩ : ByteArray), (⟨#[115, 116, 97, 116, 105, 99]⟩ : ByteArray), (⟨#[102, 117, 110, 99]⟩ : ByteArray), (⟨#[98, 111, 111, 108]⟩ : ByteArray), (⟨#[115, 56]⟩ : ByteArray), (⟨#[117, 56]⟩ : ByteArray), (⟨#[115, 49, 54]⟩ : ByteArray), (⟨#[117, 49, 54]⟩ : ByteArray), (⟨#[115, 51, 50]⟩ : ByteArray), (⟨#[117, 51, 50]⟩ : ByteArray), (⟨#[115, 54, 52]⟩ : ByteArray), (⟨#[117, 54, 52]⟩ : ByteArray), (⟨#[102, 51, 50]⟩ : ByteArray), (⟨#[102, 54, 52]⟩ : ByteArray), (⟨#[99, 104, 97, 114]⟩ : ByteArray), (⟨#[115, 116, 114, 105, 110, 103]⟩ : ByteArray), (⟨#[108, 105, 115, 116]⟩ : ByteArray), (⟨#[111, 112, 116, 105, 111, 110]⟩ : ByteArray), (⟨#[114, 101, 115, 117, 108, 116]⟩ : ByteArray), (⟨#[116, 117, 112, 108, 101]⟩ : ByteArray), (⟨#[111, 119, 110]⟩ : ByteArray), (⟨#[98, 111, 114, 114, 111, 119]⟩ : ByteArray)] : List ByteArray)) (inner := [.string (⟨#[112, 97, 99, 107, 97, 103, 101]⟩ : ByteArray), .string (⟨#[105, 110, 116, 101, 114, 102, 97, 99, 101]⟩ : ByteArray), .string (⟨#[119, 111, 114, 108, 100]⟩ : ByteArray), .string (⟨#[117, 115, 101]⟩ : ByteArray), .string (⟨#[97, 115]⟩ : ByteArray), .string (⟨#[105, 109, 112, 111, 114, 116]⟩ : ByteArray), .string (⟨#[101, 120, 112, 111, 114, 116]⟩ : ByteArray), .string (⟨#[116, 121, 112, 101]⟩ : ByteArray), .string (⟨#[114, 101, 99, 111, 114, 100]⟩ : ByteArray), .string (⟨#[118, 97, 114, 105, 97, 110, 116]⟩ : ByteArray), .string (⟨#[101, 110, 117, 109]⟩ : ByteArray), .string (⟨#[102, 108, 97, 103, 115]⟩ : ByteArray), .string (⟨#[114, 101, 115, 111, 117, 114, 99, 101]⟩ : ByteArray), .string (⟨#[99, 111, 110, 115, 116, 114, 117, 99, 116, 111, 114]⟩ : ByteArray), .string (⟨#[115, 116, 97, 116, 105, 99]⟩ : ByteArray), .string (⟨#[102, 117, 110, 99]⟩ : ByteArray), .string (⟨#[98, 111, 111, 108]⟩ : ByteArray), .string (⟨#[115, 56]⟩ : ByteArray), .string (⟨#[117, 56]⟩ : ByteArray), .string (⟨#[115, 49, 54]⟩ : ByteArray), .string (⟨#[117, 49, 54]⟩ : ByteArray), .string (⟨#[115, 51, 50]⟩ : ByteArray), .string (⟨#[117, 51, 50]⟩ : ByteArray), .string (⟨#[115, 54, 52]⟩ : ByteArray), .string (⟨#[117, 54, 52]⟩ : ByteArray), .string (⟨#[102, 51, 50]⟩ : ByteArray), .string (⟨#[102, 54, 52]⟩ : ByteArray), .string (⟨#[99, 104, 97, 114]⟩ : ByteArray), .string (⟨#[115, 116, 114, 105, 110, 103]⟩ : ByteArray), .string (⟨#[108, 105, 115, 116]⟩ : ByteArray), .string (⟨#[111, 112, 116, 105, 111, 110]⟩ : ByteArray), .string (⟨#[114, 101, 115, 117, 108, 116]⟩ : ByteArray), .string (⟨#[116, 117, 112, 108, 101]⟩ : ByteArray), .string (⟨#[111, 119, 110]⟩ : ByteArray), .string (⟨#[98, 111, 114, 114, 111, 119]⟩ : ByteArray)]) (ok := fun _ => True) (okp := fun _ => True) ?hr ?hp (fun _ hk => hk) trivial (Below.refl _ _) (Nat.le_refl _) (by simp) ?_; (case hd => rfl); (case hg => rfl); (case hr => first | (go_simp; done) | (go_simp; rfl)); (case hp => exact (Reps.one (show Kd.M Kd.string _ _ _ (⟨#[112, 97, 99, 107, 97, 103, 101]⟩ : ByteArray) [.string (⟨#[112, 97, 99, 107, 97, 103, 101]⟩ : ByteArray)] from rfl) (Reps.one (show Kd.M Kd.string _ _ _ (⟨#[105, 110, 116, 101, 114, 102, 97, 99, 101]⟩ : ByteArray) [.string (⟨#[105, 110, 116, 101, 114, 102, 97, 99, 101]⟩ : ByteArray)] from rfl) (Reps.one (show Kd.M Kd.string _ _ _ (⟨#[119, 111, 114, 108, 100]⟩ : ByteArray) [.string (⟨#[119, 111, 114, 108, 100]⟩ : ByteArray)] from rfl) (Reps.one (show Kd.M Kd.string _ _ _ (⟨#[117, 115, 101]⟩ : ByteArray) [.string (⟨#[117, 115, 101]⟩ : ByteArray)] from rfl) (Reps.one (show Kd.M Kd.string _ _ _ (⟨#[97, 115]⟩ : ByteArray) [.string (⟨#[97, 115]⟩ : ByteArray)] from rfl) (Reps.one (show Kd.M Kd.string _ _ _ (⟨#[105, 109, 112, 111, 114, 116]⟩ : ByteArray) [.string (⟨#[105, 109, 112, 111, 114, 116]⟩ : ByteArray)] from rfl) (Reps.one (show Kd.M Kd.string _ _ _ (⟨#[101, 120, 112, 111, 114, 116]⟩ : ByteArray) [.string (⟨#[101, 120, 112, 111, 114, 116]⟩ : ByteArray)] from rfl) (Reps.one (show Kd.M Kd.string _ _ _ (⟨#[116, 121, 112, 101]⟩ : ByteArray) [.string (⟨#[116, 121, 112, 101]⟩ : ByteArray)] from rfl) (Reps.one (show Kd.M Kd.string _ _ _ (⟨#[114, 101, 99, 111, 114, 100]⟩ : ByteArray) [.string (⟨#[114, 101, 99, 111, 114, 100]⟩ : ByteArray)] from rfl) (Reps.one (show Kd.M Kd.string _ _ _ (⟨#[118, 97, 114, 105, 97, 110, 116]⟩ : ByteArray) [.string (⟨#[118, 97, 114, 105, 97, 110, 116]⟩ : ByteArray)] from rfl) (Reps.one (show Kd.M Kd.string _ _ _ (⟨#[101, 110, 117, 109]⟩ : ByteArray) [.string (⟨#[101, 110, 117, 109]⟩ : ByteArray)] from rfl) (Reps.one (show Kd.M Kd.string _ _ _ (⟨#[102, 108, 97, 103, 115]⟩ : ByteArray) [.string (⟨#[102, 108, 97, 103, 115]⟩ : ByteArray)] from rfl) (Reps.one (show Kd.M Kd.string _ _ _ (⟨#[114, 101, 115, 111, 117, 114, 99, 101]⟩ : ByteArray) [.string (⟨#[114, 101, 115, 111, 117, 114, 99, 101]⟩ : ByteArray)] from rfl) (Reps.one (show Kd.M Kd.string _ _ _ (⟨#[99, 111, 110, 115, 116, 114, 117, 99, 116, 111, 114]⟩ : ByteArray) [.string (⟨#[99, 111, 110, 115, 116, 114, 117, 99, 116, 111, 114]⟩ : ByteArray)] from rfl) (Reps.one (show Kd.M Kd.string _ _ _ (⟨#[115, 116, 97, 116, 105, 99]⟩ : ByteArray) [.string (⟨#[115, 116, 97, 116, 105, 99]⟩ : ByteArray)] from rfl) (Reps.one (show Kd.M Kd.string _ _ _ (⟨#[102, 117, 110, 99]⟩ : ByteArray) [.string (⟨#[102, 117, 110, 99]⟩ : ByteArray)] from rfl) (Reps.one (show Kd.M Kd.string _ _ _ (⟨#[98, 111, 111, 108]⟩ : ByteArray) [.string (⟨#[98, 111, 111, 108]⟩ : ByteArray)] from rfl) (Reps.one (show Kd.M Kd.string _ _ _ (⟨#[115, 56]⟩ : ByteArray) [.string (⟨#[115, 56]⟩ : ByteArray)] from rfl) (Reps.one (show Kd.M Kd.string _ _ _ (⟨#[117, 56]⟩ : ByteArray) [.string (⟨#[117, 56]⟩ : ByteArray)] from rfl) (Reps.one (show Kd.M Kd.string _ _ _ (⟨#[115, 49, 54]⟩ : ByteArray) [.string (⟨#[115, 49, 54]⟩ : ByteArray)] from rfl) (Reps.one (show Kd.M Kd.string _ _ _ (⟨#[117, 49, 54]⟩ : ByteArray) [.string (⟨#[117, 49, 54]⟩ : ByteArray)] from rfl) (Reps.one (show Kd.M Kd.string _ _ _ (⟨#[115, 51, 50]⟩ : ByteArray) [.string (⟨#[115, 51, 50]⟩ : ByteArray)] from rfl) (Reps.one (show Kd.M Kd.string _ _ _ (⟨#[117, 51, 50]⟩ : ByteArray) [.string (⟨#[117, 51, 50]⟩ : ByteArray)] from rfl) (Reps.one (show Kd.M Kd.string _ _ _ (⟨#[115, 54, 52]⟩ : ByteArray) [.string (⟨#[115, 54, 52]⟩ : ByteArray)] from rfl) (Reps.one (show Kd.M Kd.string _ _ _ (⟨#[117, 54, 52]⟩ : ByteArray) [.string (⟨#[117, 54, 52]⟩ : ByteArray)] from rfl) (Reps.one (show Kd.M Kd.string _ _ _ (⟨#[102, 51, 50]⟩ : ByteArray) [.string (⟨#[102, 51, 50]⟩ : ByteArray)] from rfl) (Reps.one (show Kd.M Kd.string _ _ _ (⟨#[102, 54, 52]⟩ : ByteArray) [.string (⟨#[102, 54, 52]⟩ : ByteArray)] from rfl) (Reps.one (show Kd.M Kd.string _ _ _ (⟨#[99, 104, 97, 114]⟩ : ByteArray) [.string (⟨#[99, 104, 97, 114]⟩ : ByteArray)] from rfl) (Reps.one (show Kd.M Kd.string _ _ _ (⟨#[115, 116, 114, 105, 110, 103]⟩ : ByteArray) [.string (⟨#[115, 116, 114, 105, 110, 103]⟩ : ByteArray)] from rfl) (Reps.one (show Kd.M Kd.string _ _ _ (⟨#[108, 105, 115, 116]⟩ : ByteArray) [.string (⟨#[108, 105, 115, 116]⟩ : ByteArray)] from rfl) (Reps.one (show Kd.M Kd.string _ _ _ (⟨#[111, 112, 116, 105, 111, 110]⟩ : ByteArray) [.string (⟨#[111, 112, 116, 105, 111, 110]⟩ : ByteArray)] from rfl) (Reps.one (show Kd.M Kd.string _ _ _ (⟨#[114, 101, 115, 117, 108, 116]⟩ : ByteArray) [.string (⟨#[114, 101, 115, 117, 108, 116]⟩ : ByteArray)] from rfl) (Reps.one (show Kd.M Kd.string _ _ _ (⟨#[116, 117, 112, 108, 101]⟩ : ByteArray) [.string (⟨#[116, 117, 112, 108, 101]⟩ : ByteArray)] from rfl) (Reps.one (show Kd.M Kd.string _ _ _ (⟨#[111, 119, 110]⟩ : ByteArray) [.string (⟨#[111, 119, 110]⟩ : ByteArray)] from rfl) (Reps.one (show Kd.M Kd.string _ _ _ (⟨#[98, 111, 114, 114, 111, 119]⟩ : ByteArray) [.string (⟨#[98, 111, 114, 114, 111, 119]⟩ : ByteArray)] from rfl) (Reps.none _ _))))))))))))))))))))))))))))))))))))); intro v268 w1 ho2 hb hg_ hnew_; clear hg_ hnew_; (first | rw [← Ny267.out] at ho2 | (simp only [Int.reduceToNat] at ho2; rw [← Ny267.out] at ho2)); have n0_ := Aside0.mk (Kd.R_lower ho2 (below_size (by repeat (first | (with_reducible first | exact HB.out | apply below_alloc | apply pw_below_drewN | apply below_drew1) | exact HB.out)))); have n1_ := Aside0.mk (below_step (by repeat (first | (with_reducible first | exact HB.out | apply below_alloc | apply pw_below_drewN | apply below_drew1) | exact HB.out)) hb); clear HB; have HO269 := n0_; have HB := n1_; clear n0_ n1_; clear hb ho2))
  go_ret
  exact ⟨_, by first | rfl | (simp [errW_none, errW_some] <;> rfl) | (simp [*, errW_none, errW_some] <;> rfl), by (with_reducible repeat (first | apply Kd.R_alloc | apply Kd.R_drewN | apply Kd.R_drew)); exact HO269.out, by repeat (first | (with_reducible first | exact HB.out | apply below_alloc | apply pw_below_drewN | apply below_drew1) | exact HB.out)⟩
def scarfref10_Word.l0 : Nat → ByteArray → List ByteArray → Int → Option (Bool)
  | 0, _, _, _ => none
  | k + 1, x0, x3, x4 => if x4 < (x3.length : Int) then (if 0 ≤ x4 then (if (rdOf ByteArray.empty x3 x4).toList = x0.toList then (some true) else (scarfref10_Word.l0 k x0 x3 (wrap64 (x4 + 1)))) else (none)) else (some false)
def scarfref10_Word.f (k : Nat) (a0 : ByteArray) : Option (Bool) := (scarfref10_words.f).bind fun t270 => (scarfref10_Word.l0 k a0 t270 0)
set_option maxHeartbeats 8000000 in
set_option maxRecDepth 100000 in
theorem scarfref10_Word.calls (k : Nat) (a0 : ByteArray) (r : Bool) (w : World) (h : scarfref10_Word.f k a0 = some r) :
    Calls Tryd.prog 18 #[.string a0] w fun e w' => e = .returned (.bool r) ∧ Below w.heap.size w w' := by
  have HB := Aside0.mk (Below.refl w.heap.size w)
  have H : ((scarfref10_words.f).bind fun t270 => (scarfref10_Word.l0 k a0 t270 0)) = some r := h
  clear h
  replace H := Option.bind_eq_some_iff.mp H
  obtain ⟨t270, A20, H⟩ := H
  replace H : (scarfref10_Word.l0 k a0 t270 0) = some r := H
  have A2 := Aside0.mk A20
  clear A20
  have H' := Aside0.mk H
  clear H
  go_enter Tryd.func18, Tryd.ntmps18
  go_wp2_with (first | ((with_reducible refine gate_callee (f := 28) rfl ?_); refine goesL_ (some 5) rfl rfl Tryd.func28 (by kernel_rfl) rfl #[] rfl (by (try simp only [List.map_toArray, List.map_cons, List.map_nil]); first | done | rfl | (simp only [List.length_drop, List.length_take]; rfl)) ?_; (with_reducible refine (scarfref10_words.calls  t270 _ A2.out).mono ?_); rintro e w3 ⟨v271, rfl, ho0, hb⟩; refine ⟨_, rfl, ?_⟩; have n0_ := Aside0.mk (Kd.R_lower ho0 (below_size (by repeat (first | (with_reducible first | exact HB.out | apply below_alloc | apply pw_below_drewN | apply below_drew1) | exact HB.out)))); have n1_ := Aside0.mk (below_step (by repeat (first | (with_reducible first | exact HB.out | apply below_alloc | apply pw_below_drewN | apply below_drew1) | exact HB.out)) hb); clear HB; have HO272 := n0_; have HB := n1_; clear n0_ n1_; (try clear hb); (try clear hb2); (try clear hk); (try clear hi); (try clear ho0)))
  go_loopg [4] k (fun kq v4 w' => ∃ (x4_1 : Int), v4 = .int .i64 x4_1 ∧ Aside0 (scarfref10_Word.l0 kq a0 t270 x4_1 = some r) ∧ Aside0 (kq ≤ k) ∧ Aside0 (Kd.R Kd.string 9 w' w.heap.size (fun _ => True) v271 t270) ∧ Aside0 (Below w.heap.size w w'))
  case atStart => exact ⟨(0), (by first | rfl | (simp; done) | (simp [*]; done)), H', ⟨Nat.le_refl _⟩, ⟨by (with_reducible repeat (first | apply Kd.R_alloc | apply Kd.R_drewN | apply Kd.R_drew)); exact HO272.out⟩, ⟨by repeat (first | (with_reducible first | exact HB.out | apply below_alloc | apply pw_below_drewN | apply below_drew1) | exact HB.out)⟩⟩
  case round =>
    clear H'
    try clear c1
    try clear c2
    try clear p2
    obtain ⟨x4_1, rfl, HA, HK1, HO_3, HB⟩ := hrel
    cases gk with
    | zero => exact absurd HA.out (by simp [scarfref10_Word.l0])
    | succ k1 =>
      have H := HA.out
      clear HA
      simp only [scarfref10_Word.l0] at H
      by_cases c4 : x4_1 < (t270.length : Int)
      · rw [if_pos c4] at H
        have c4b0 : decide (x4_1 < (t270.length : Int)) = true := decide_eq_true c4
        clear c4
        by_cases c5 : 0 ≤ x4_1
        · rw [if_pos c5] at H
          have c5b0 : decide (0 ≤ x4_1) = true := decide_eq_true c5
          clear c5
          by_cases c6 : (rdOf ByteArray.empty t270 x4_1).toList = a0.toList
          · rw [if_pos c6] at H
            have c6b0 : ((rdOf ByteArray.empty t270 x4_1).toList == a0.toList) = true := beq_iff_eq.mpr c6
            have c6b1 : ((rdOf ByteArray.empty t270 x4_1).toList != a0.toList) = false := bne_eq_false_iff_eq.mpr c6
            clear c6
            obtain rfl := Option.some.inj H
            obtain ⟨Ao7, co7, eo7⟩ := Kd.R_slice HO_3.out
            subst eo7
            have p273 : 0 ≤ (x4_1 : Int) := of_decide_eq_true (by first | (with_reducible assumption) | assumption)
            have q273 : x4_1 < (t270.length : Int) := of_decide_eq_true (by first | (with_reducible assumption) | assumption)
            obtain ⟨ad273, e273, hx273_0⟩ := Kd.at_string (Kd.R_reads' HO_3.out).2.2 x4_1 p273 q273
            cases e273
            replace p273 := eq_true p273
            replace q273 := eq_true q273
            go_wp2
            go_ret
            exact ⟨by first | rfl | (simp [errW_none, errW_some] <;> rfl) | (simp [*, errW_none, errW_some] <;> rfl), by repeat (first | (with_reducible first | exact HB.out | apply below_alloc | apply pw_below_drewN | apply below_drew1) | exact HB.out)⟩
          · rw [if_neg c6] at H
            have c6b0 : ((rdOf ByteArray.empty t270 x4_1).toList == a0.toList) = false := beq_eq_false_iff_ne.mpr c6
            have c6b1 : ((rdOf ByteArray.empty t270 x4_1).toList != a0.toList) = true := bne_iff_ne.mpr c6
            have H' := Aside0.mk H
            clear H
            obtain ⟨Ao8, co8, eo8⟩ := Kd.R_slice HO_3.out
            subst eo8
            have p273 : 0 ≤ (x4_1 : Int) := of_decide_eq_true (by first | (with_reducible assumption) | assumption)
            have q273 : x4_1 < (t270.length : Int) := of_decide_eq_true (by first | (with_reducible assumption) | assumption)
            obtain ⟨ad273, e273, hx273_0⟩ := Kd.at_string (Kd.R_reads' HO_3.out).2.2 x4_1 p273 q273
            cases e273
            replace p273 := eq_true p273
            replace q273 := eq_true q273
            go_wp2
            go_roundg k1
            case measure => have := HK1.out; omega
            case rel => exact ⟨(wrap64 (x4_1 + 1)), (by first | rfl | (simp; done) | (simp [*]; done)), H', ⟨by have := HK1.out; omega⟩, ⟨by (with_reducible repeat (first | apply Kd.R_alloc | apply Kd.R_drewN | apply Kd.R_drew)); exact HO_3.out⟩, ⟨by repeat (first | (with_reducible first | exact HB.out | apply below_alloc | apply pw_below_drewN | apply below_drew1) | exact HB.out)⟩⟩
        · rw [if_neg c5] at H
          exact absurd H (by simp)
      · rw [if_neg c4] at H
        have c4b0 : decide (x4_1 < (t270.length : Int)) = false := decide_eq_false c4
        clear c4
        obtain rfl := Option.some.inj H
        obtain ⟨Ao9, co9, eo9⟩ := Kd.R_slice HO_3.out
        subst eo9
        go_wp2
        go_ret
        exact ⟨by first | rfl | (simp [errW_none, errW_some] <;> rfl) | (simp [*, errW_none, errW_some] <;> rfl), by repeat (first | (with_reducible first | exact HB.out | apply below_alloc | apply pw_below_drewN | apply below_drew1) | exact HB.out)⟩
def scarflaw10_LexNames.f (k : Nat) (a0 : ByteArray) : Option (Bool) := (lex_Name.f a0).bind fun t274 => ((scarfref10_Name.f k a0).bind fun t275 => (if (t274 == t275) = true then ((lex_Word.f a0).bind fun t276 => ((scarfref10_Word.f k a0).bind fun t277 => (if (t276 == t277) = true then ((lex_Version.f a0).bind fun t278 => ((scarfref10_Version.f k a0).bind fun t279 => (if (t278 == t279) = true then ((scarflaw10_awake.f k).bind fun t280 => (some t280)) else (some false)))) else (some false)))) else (some false)))
set_option maxHeartbeats 8000000 in
set_option maxRecDepth 100000 in
theorem scarflaw10_LexNames.calls (k : Nat) (a0 : ByteArray) (r : Bool) (w : World) (h : scarflaw10_LexNames.f k a0 = some r) :
    Calls Tryd.prog 7 #[.string a0] w fun e w' => e = .returned (.bool r) ∧ Below w.heap.size w w' := by
  have HB := Aside0.mk (Below.refl w.heap.size w)
  have H : ((lex_Name.f a0).bind fun t274 => ((scarfref10_Name.f k a0).bind fun t275 => (if (t274 == t275) = true then ((lex_Word.f a0).bind fun t276 => ((scarfref10_Word.f k a0).bind fun t277 => (if (t276 == t277) = true then ((lex_Version.f a0).bind fun t278 => ((scarfref10_Version.f k a0).bind fun t279 => (if (t278 == t279) = true then ((scarflaw10_awake.f k).bind fun t280 => (some t280)) else (some false)))) else (some false)))) else (some false)))) = some r := h
  clear h
  replace H := Option.bind_eq_some_iff.mp H
  obtain ⟨t274, A20, H⟩ := H
  replace H : ((scarfref10_Name.f k a0).bind fun t275 => (if (t274 == t275) = true then ((lex_Word.f a0).bind fun t276 => ((scarfref10_Word.f k a0).bind fun t277 => (if (t276 == t277) = true then ((lex_Version.f a0).bind fun t278 => ((scarfref10_Version.f k a0).bind fun t279 => (if (t278 == t279) = true then ((scarflaw10_awake.f k).bind fun t280 => (some t280)) else (some false)))) else (some false)))) else (some false))) = some r := H
  have A2 := Aside0.mk A20
  clear A20
  replace H := Option.bind_eq_some_iff.mp H
  obtain ⟨t275, A30, H⟩ := H
  replace H : (if (t274 == t275) = true then ((lex_Word.f a0).bind fun t276 => ((scarfref10_Word.f k a0).bind fun t277 => (if (t276 == t277) = true then ((lex_Version.f a0).bind fun t278 => ((scarfref10_Version.f k a0).bind fun t279 => (if (t278 == t279) = true then ((scarflaw10_awake.f k).bind fun t280 => (some t280)) else (some false)))) else (some false)))) else (some false)) = some r := H
  have A3 := Aside0.mk A30
  clear A30
  by_cases c4 : (t274 == t275) = true
  · rw [if_pos c4] at H
    have c4b0 : (t274 == t275) = true := c4
    (try (have c4b1 : decide (t274 = t275) = true := by simpa using c4))
    (try (have c4b2 : (t274 == t275) = true := by simpa using c4))
    clear c4
    replace H := Option.bind_eq_some_iff.mp H
    obtain ⟨t276, A50, H⟩ := H
    replace H : ((scarfref10_Word.f k a0).bind fun t277 => (if (t276 == t277) = true then ((lex_Version.f a0).bind fun t278 => ((scarfref10_Version.f k a0).bind fun t279 => (if (t278 == t279) = true then ((scarflaw10_awake.f k).bind fun t280 => (some t280)) else (some false)))) else (some false))) = some r := H
    have A5 := Aside0.mk A50
    clear A50
    replace H := Option.bind_eq_some_iff.mp H
    obtain ⟨t277, A60, H⟩ := H
    replace H : (if (t276 == t277) = true then ((lex_Version.f a0).bind fun t278 => ((scarfref10_Version.f k a0).bind fun t279 => (if (t278 == t279) = true then ((scarflaw10_awake.f k).bind fun t280 => (some t280)) else (some false)))) else (some false)) = some r := H
    have A6 := Aside0.mk A60
    clear A60
    by_cases c7 : (t276 == t277) = true
    · rw [if_pos c7] at H
      have c7b0 : (t276 == t277) = true := c7
      (try (have c7b1 : decide (t276 = t277) = true := by simpa using c7))
      (try (have c7b2 : (t276 == t277) = true := by simpa using c7))
      clear c7
      replace H := Option.bind_eq_some_iff.mp H
      obtain ⟨t278, A80, H⟩ := H
      replace H : ((scarfref10_Version.f k a0).bind fun t279 => (if (t278 == t279) = true then ((scarflaw10_awake.f k).bind fun t280 => (some t280)) else (some false))) = some r := H
      have A8 := Aside0.mk A80
      clear A80
      replace H := Option.bind_eq_some_iff.mp H
      obtain ⟨t279, A90, H⟩ := H
      replace H : (if (t278 == t279) = true then ((scarflaw10_awake.f k).bind fun t280 => (some t280)) else (some false)) = some r := H
      have A9 := Aside0.mk A90
      clear A90
      by_cases c10 : (t278 == t279) = true
      · rw [if_pos c10] at H
        have c10b0 : (t278 == t279) = true := c10
        (try (have c10b1 : decide (t278 = t279) = true := by simpa using c10))
        (try (have c10b2 : (t278 == t279) = true := by simpa using c10))
        clear c10
        replace H := Option.bind_eq_some_iff.mp H
        obtain ⟨t280, A110, H⟩ := H
        replace H : (some t280) = some r := H
        have A11 := Aside0.mk A110
        clear A110
        obtain rfl := Option.some.inj H
        go_enter Tryd.func7, Tryd.ntmps7
        go_wp2_with (first | ((with_reducible refine gate_callee (f := 13) rfl ?_); refine goesL_ (some 4) rfl rfl Tryd.func13 (by kernel_rfl) rfl #[.string a0] rfl (by (try simp only [List.map_toArray, List.map_cons, List.map_nil]); first | done | rfl | (simp only [List.length_drop, List.length_take]; rfl)) ?_; (with_reducible refine (lex_Name.calls a0 t274 _ A2.out).mono ?_); rintro e w12 ⟨rfl, hb⟩; refine ⟨_, rfl, ?_⟩; have n0_ := Aside0.mk (below_step (by repeat (first | (with_reducible first | exact HB.out | apply below_alloc | apply pw_below_drewN | apply below_drew1) | exact HB.out)) hb); clear HB; have HB := n0_; clear n0_; (try clear hb); (try clear hb2); (try clear hk); (try clear hi)) | ((with_reducible refine gate_callee (f := 16) rfl ?_); refine goesL_ (some 6) rfl rfl Tryd.func16 (by kernel_rfl) rfl #[.string a0] rfl (by (try simp only [List.map_toArray, List.map_cons, List.map_nil]); first | done | rfl | (simp only [List.length_drop, List.length_take]; rfl)) ?_; (with_reducible refine (scarfref10_Name.calls k a0 t275 _ A3.out).mono ?_); rintro e w' ⟨rfl, ⟨nd, rfl⟩⟩; refine ⟨_, rfl, ?_⟩) | (go_at_call 17; (with_reducible refine (lex_Word.calls a0 t276 _ A5.out).mono ?_); rintro e w' ⟨rfl, ⟨nd, rfl⟩⟩) | (go_at_call 18; (with_reducible refine (scarfref10_Word.calls k a0 t277 _ A6.out).mono ?_); rintro e w13 ⟨rfl, hb⟩; have n0_ := Aside0.mk (below_step (by repeat (first | (with_reducible first | exact HB.out | apply below_alloc | apply pw_below_drewN | apply below_drew1) | exact HB.out)) hb); clear HB; have HB := n0_; clear n0_; (try clear hb); (try clear hb2); (try clear hk); (try clear hi)) | (go_at_call 15; (with_reducible refine (lex_Version.calls a0 t278 _ A8.out).mono ?_); rintro e w14 ⟨rfl, hb⟩; have n0_ := Aside0.mk (below_step (by repeat (first | (with_reducible first | exact HB.out | apply below_alloc | apply pw_below_drewN | apply below_drew1) | exact HB.out)) hb); clear HB; have HB := n0_; clear n0_; (try clear hb); (try clear hb2); (try clear hk); (try clear hi)) | (go_at_call 19; (with_reducible refine (scarfref10_Version.calls k a0 t279 _ A9.out).mono ?_); rintro e w' ⟨rfl, ⟨nd, rfl⟩⟩) | (go_at_call 11; (with_reducible refine (scarflaw10_awake.calls k  t280 _ A11.out).mono ?_); rintro e w15 ⟨rfl, hb⟩; have n0_ := Aside0.mk (below_step (by repeat (first | (with_reducible first | exact HB.out | apply below_alloc | apply pw_below_drewN | apply below_drew1) | exact HB.out)) hb); clear HB; have HB := n0_; clear n0_; (try clear hb); (try clear hb2); (try clear hk); (try clear hi)))
        go_ret
        exact ⟨by first | rfl | (simp [errW_none, errW_some] <;> rfl) | (simp [*, errW_none, errW_some] <;> rfl), by repeat (first | (with_reducible first | exact HB.out | apply below_alloc | apply pw_below_drewN | apply below_drew1) | exact HB.out)⟩
      · rw [if_neg c10] at H
        have c10b0 : (t278 == t279) = false := by simpa using c10
        (try (have c10b1 : decide (t278 = t279) = false := by simpa using c10))
        (try (have c10b2 : (t278 == t279) = false := by simpa using c10))
        (try (have c10b3 : ¬ (t278 = t279) := by simpa using c10))
        clear c10
        obtain rfl := Option.some.inj H
        go_enter Tryd.func7, Tryd.ntmps7
        go_wp2_with (first | ((with_reducible refine gate_callee (f := 13) rfl ?_); refine goesL_ (some 4) rfl rfl Tryd.func13 (by kernel_rfl) rfl #[.string a0] rfl (by (try simp only [List.map_toArray, List.map_cons, List.map_nil]); first | done | rfl | (simp only [List.length_drop, List.length_take]; rfl)) ?_; (with_reducible refine (lex_Name.calls a0 t274 _ A2.out).mono ?_); rintro e w16 ⟨rfl, hb⟩; refine ⟨_, rfl, ?_⟩; have n0_ := Aside0.mk (below_step (by repeat (first | (with_reducible first | exact HB.out | apply below_alloc | apply pw_below_drewN | apply below_drew1) | exact HB.out)) hb); clear HB; have HB := n0_; clear n0_; (try clear hb); (try clear hb2); (try clear hk); (try clear hi)) | ((with_reducible refine gate_callee (f := 16) rfl ?_); refine goesL_ (some 6) rfl rfl Tryd.func16 (by kernel_rfl) rfl #[.string a0] rfl (by (try simp only [List.map_toArray, List.map_cons, List.map_nil]); first | done | rfl | (simp only [List.length_drop, List.length_take]; rfl)) ?_; (with_reducible refine (scarfref10_Name.calls k a0 t275 _ A3.out).mono ?_); rintro e w' ⟨rfl, ⟨nd, rfl⟩⟩; refine ⟨_, rfl, ?_⟩) | (go_at_call 17; (with_reducible refine (lex_Word.calls a0 t276 _ A5.out).mono ?_); rintro e w' ⟨rfl, ⟨nd, rfl⟩⟩) | (go_at_call 18; (with_reducible refine (scarfref10_Word.calls k a0 t277 _ A6.out).mono ?_); rintro e w17 ⟨rfl, hb⟩; have n0_ := Aside0.mk (below_step (by repeat (first | (with_reducible first | exact HB.out | apply below_alloc | apply pw_below_drewN | apply below_drew1) | exact HB.out)) hb); clear HB; have HB := n0_; clear n0_; (try clear hb); (try clear hb2); (try clear hk); (try clear hi)) | (go_at_call 15; (with_reducible refine (lex_Version.calls a0 t278 _ A8.out).mono ?_); rintro e w18 ⟨rfl, hb⟩; have n0_ := Aside0.mk (below_step (by repeat (first | (with_reducible first | exact HB.out | apply below_alloc | apply pw_below_drewN | apply below_drew1) | exact HB.out)) hb); clear HB; have HB := n0_; clear n0_; (try clear hb); (try clear hb2); (try clear hk); (try clear hi)) | (go_at_call 19; (with_reducible refine (scarfref10_Version.calls k a0 t279 _ A9.out).mono ?_); rintro e w' ⟨rfl, ⟨nd, rfl⟩⟩))
        go_ret
        exact ⟨by first | rfl | (simp [errW_none, errW_some] <;> rfl) | (simp [*, errW_none, errW_some] <;> rfl), by repeat (first | (with_reducible first | exact HB.out | apply below_alloc | apply pw_below_drewN | apply below_drew1) | exact HB.out)⟩
    · rw [if_neg c7] at H
      have c7b0 : (t276 == t277) = false := by simpa using c7
      (try (have c7b1 : decide (t276 = t277) = false := by simpa using c7))
      (try (have c7b2 : (t276 == t277) = false := by simpa using c7))
      (try (have c7b3 : ¬ (t276 = t277) := by simpa using c7))
      clear c7
      obtain rfl := Option.some.inj H
      go_enter Tryd.func7, Tryd.ntmps7
      go_wp2_with (first | ((with_reducible refine gate_callee (f := 13) rfl ?_); refine goesL_ (some 4) rfl rfl Tryd.func13 (by kernel_rfl) rfl #[.string a0] rfl (by (try simp only [List.map_toArray, List.map_cons, List.map_nil]); first | done | rfl | (simp only [List.length_drop, List.length_take]; rfl)) ?_; (with_reducible refine (lex_Name.calls a0 t274 _ A2.out).mono ?_); rintro e w19 ⟨rfl, hb⟩; refine ⟨_, rfl, ?_⟩; have n0_ := Aside0.mk (below_step (by repeat (first | (with_reducible first | exact HB.out | apply below_alloc | apply pw_below_drewN | apply below_drew1) | exact HB.out)) hb); clear HB; have HB := n0_; clear n0_; (try clear hb); (try clear hb2); (try clear hk); (try clear hi)) | ((with_reducible refine gate_callee (f := 16) rfl ?_); refine goesL_ (some 6) rfl rfl Tryd.func16 (by kernel_rfl) rfl #[.string a0] rfl (by (try simp only [List.map_toArray, List.map_cons, List.map_nil]); first | done | rfl | (simp only [List.length_drop, List.length_take]; rfl)) ?_; (with_reducible refine (scarfref10_Name.calls k a0 t275 _ A3.out).mono ?_); rintro e w' ⟨rfl, ⟨nd, rfl⟩⟩; refine ⟨_, rfl, ?_⟩) | (go_at_call 17; (with_reducible refine (lex_Word.calls a0 t276 _ A5.out).mono ?_); rintro e w' ⟨rfl, ⟨nd, rfl⟩⟩) | (go_at_call 18; (with_reducible refine (scarfref10_Word.calls k a0 t277 _ A6.out).mono ?_); rintro e w20 ⟨rfl, hb⟩; have n0_ := Aside0.mk (below_step (by repeat (first | (with_reducible first | exact HB.out | apply below_alloc | apply pw_below_drewN | apply below_drew1) | exact HB.out)) hb); clear HB; have HB := n0_; clear n0_; (try clear hb); (try clear hb2); (try clear hk); (try clear hi)))
      go_ret
      exact ⟨by first | rfl | (simp [errW_none, errW_some] <;> rfl) | (simp [*, errW_none, errW_some] <;> rfl), by repeat (first | (with_reducible first | exact HB.out | apply below_alloc | apply pw_below_drewN | apply below_drew1) | exact HB.out)⟩
  · rw [if_neg c4] at H
    have c4b0 : (t274 == t275) = false := by simpa using c4
    (try (have c4b1 : decide (t274 = t275) = false := by simpa using c4))
    (try (have c4b2 : (t274 == t275) = false := by simpa using c4))
    (try (have c4b3 : ¬ (t274 = t275) := by simpa using c4))
    clear c4
    obtain rfl := Option.some.inj H
    go_enter Tryd.func7, Tryd.ntmps7
    go_wp2_with (first | ((with_reducible refine gate_callee (f := 13) rfl ?_); refine goesL_ (some 4) rfl rfl Tryd.func13 (by kernel_rfl) rfl #[.string a0] rfl (by (try simp only [List.map_toArray, List.map_cons, List.map_nil]); first | done | rfl | (simp only [List.length_drop, List.length_take]; rfl)) ?_; (with_reducible refine (lex_Name.calls a0 t274 _ A2.out).mono ?_); rintro e w21 ⟨rfl, hb⟩; refine ⟨_, rfl, ?_⟩; have n0_ := Aside0.mk (below_step (by repeat (first | (with_reducible first | exact HB.out | apply below_alloc | apply pw_below_drewN | apply below_drew1) | exact HB.out)) hb); clear HB; have HB := n0_; clear n0_; (try clear hb); (try clear hb2); (try clear hk); (try clear hi)) | ((with_reducible refine gate_callee (f := 16) rfl ?_); refine goesL_ (some 6) rfl rfl Tryd.func16 (by kernel_rfl) rfl #[.string a0] rfl (by (try simp only [List.map_toArray, List.map_cons, List.map_nil]); first | done | rfl | (simp only [List.length_drop, List.length_take]; rfl)) ?_; (with_reducible refine (scarfref10_Name.calls k a0 t275 _ A3.out).mono ?_); rintro e w' ⟨rfl, ⟨nd, rfl⟩⟩; refine ⟨_, rfl, ?_⟩))
    go_ret
    exact ⟨by first | rfl | (simp [errW_none, errW_some] <;> rfl) | (simp [*, errW_none, errW_some] <;> rfl), by repeat (first | (with_reducible first | exact HB.out | apply below_alloc | apply pw_below_drewN | apply below_drew1) | exact HB.out)⟩
/-- THE ONE PURE STATEMENT of scarflaw10_LexNames: yours. -/
def scarflaw10_LexNames.Pure : Prop := ∀ (a0 : ByteArray), a0.size ≤ 140737488351232 → ∃ k, scarflaw10_LexNames.f k a0 = some true
theorem scarflaw10_LexNames.walk (P : scarflaw10_LexNames.Pure) (a0 : ByteArray) (w : World) (w0 : a0.size ≤ 140737488351232) :
    Calls Tryd.prog 7 #[.string a0] w fun e w' => e = .returned (.bool true) ∧ Below w.heap.size w w' := by
  obtain ⟨k, h⟩ := P a0 w0
  refine (scarflaw10_LexNames.calls k a0 true w h).mono ?_
  rintro e w' ⟨rfl, hd⟩
  exact ⟨rfl, hd⟩
end Go.Proofs.YtlggjgpdiffajaaDoor.PA
namespace Go.Proofs.YtlggjgpdiffajaaDoor.Str
set_option linter.unusedVariables false
set_option linter.unusedSimpArgs false
open Go.RowKit Go.Proofs.YtlggjgpdiffajaaDoorW.PrintWords Go.Proofs.YtlggjgpdiffajaaDoorW.PrintLast Go.Proofs.YtlggjgpdiffajaaDoorW.PrintMore
theorem size_bytes (s : ByteArray) : s.size = (bytesOf s).length := (bytesOf_length s).symm
theorem bytes_extract (s : ByteArray) (a b : Nat) : bytesOf (s.extract a b) = ((bytesOf s).take b).drop a := by
  unfold bytesOf
  rw [ByteArray.data_extract, Array.toList_extract]
  simp [List.map_take, List.map_drop, List.take_drop]
  by_cases h : a ≤ b
  · congr 2; omega
  · rw [show b - a = 0 by omega]
    simp
    omega
theorem bytes_rest (s : ByteArray) (a : Nat) : bytesOf (s.extract a s.size) = (bytesOf s).drop a := by
  rw [bytes_extract, size_bytes, List.take_length]
theorem bytes_head (s : ByteArray) (b : Nat) : bytesOf (s.extract 0 b) = (bytesOf s).take b := by
  rw [bytes_extract, List.drop_zero]
theorem bt_get (s : ByteArray) (i : Int) : bt s i = (bytesOf s).getD i.toNat 0 := by
  rw [← rd_bytesOf]; rfl
theorem bt_nat (s : ByteArray) (i : Nat) : bt s (i : Int) = (bytesOf s).getD i 0 := by
  rw [bt_get]; rfl
theorem drop_cons {l : List Int} {i : Nat} (h : i < l.length) : l.drop i = l.getD i 0 :: l.drop (i + 1) := by
  rw [List.drop_eq_getElem_cons h]
  congr 1
  simp [List.getD, List.getElem?_eq_getElem h]
theorem wrap64_id {n : Int} (h0 : -9223372036854775808 ≤ n) (h1 : n < 9223372036854775808) : wrap64 n = n := by
  unfold wrap64; omega
end Go.Proofs.YtlggjgpdiffajaaDoor.Str
namespace Go.Proofs.YtlggjgpdiffajaaDoor.LexM
set_option linter.unusedVariables false
set_option linter.unusedSimpArgs false
open Go.RowKit Go.Proofs.YtlggjgpdiffajaaDoor.PA Go.Proofs.YtlggjgpdiffajaaDoorW.PrintWords Go.Proofs.YtlggjgpdiffajaaDoorW.PrintLast Go.Proofs.YtlggjgpdiffajaaDoorW.PrintMore
open Go.Proofs.YtlggjgpdiffajaaDoor.Str
/-- The pieces of a text between letters c. -/
def splitL (c : Int) : List Int → List (List Int)
  | [] => [[]]
  | b :: l => if b = c then [] :: splitL c l else match splitL c l with
    | [] => [[b]]
    | p :: ps => (b :: p) :: ps
theorem splitL_ne (c : Int) (l : List Int) : ∃ p ps, splitL c l = p :: ps := by
  cases l with
  | nil => exact ⟨_, _, rfl⟩
  | cons b l =>
    unfold splitL
    split
    · exact ⟨_, _, rfl⟩
    · split
      · exact ⟨_, _, rfl⟩
      · exact ⟨_, _, rfl⟩
theorem splitL_one (c : Int) (p : List Int) (h : c ∉ p) : splitL c p = [p] := by
  induction p with
  | nil => rfl
  | cons b p ih =>
    rw [List.mem_cons, not_or] at h
    rw [splitL, if_neg (fun e => h.1 e.symm), ih h.2]
theorem splitL_app (c : Int) (a b : List Int) : splitL c (a ++ c :: b) = splitL c a ++ splitL c b := by
  induction a with
  | nil => simp [splitL]
  | cons x a ih =>
    rw [List.cons_append, splitL]
    by_cases h : x = c
    · rw [if_pos h, ih]
      conv => rhs; rw [splitL, if_pos h]
      rfl
    · obtain ⟨p, ps, e⟩ := splitL_ne c a
      rw [if_neg h, ih, e]
      conv => rhs; rw [splitL, if_neg h, e]
      rfl
theorem indexByte_mem (l : List UInt8) (c : UInt8) : (Go.Lib.indexByte l c < 0 → c ∉ l) ∧ (¬ Go.Lib.indexByte l c < 0 → l = l.take (Go.Lib.indexByte l c).toNat ++ c :: l.drop ((Go.Lib.indexByte l c).toNat + 1) ∧ c ∉ l.take (Go.Lib.indexByte l c).toNat) := by
  induction l with
  | nil => exact ⟨fun _ => by simp, fun h => absurd (show Go.Lib.indexByte [] c < 0 by simp [Go.Lib.indexByte]) h⟩
  | cons b l ih =>
    have hg := Go.Lib.indexByte_ge l c
    rw [Go.Lib.indexByte]
    by_cases hb : (b == c) = true
    · rw [if_pos hb]
      have hbc : b = c := by simpa using hb
      refine ⟨fun h => absurd h (by omega), fun _ => ?_⟩
      simp [hbc]
    · have hbc : ¬ b = c := by simpa using hb
      rw [if_neg hb]
      by_cases hm : (Go.Lib.indexByte l c == -1) = true
      · rw [if_pos hm]
        have hm' : Go.Lib.indexByte l c = -1 := by simpa using hm
        refine ⟨fun _ => ?_, fun h => absurd (show (-1 : Int) < 0 by omega) h⟩
        rw [List.mem_cons, not_or]
        exact ⟨fun e => hbc e.symm, ih.1 (by omega)⟩
      · rw [if_neg hm]
        have hm' : ¬ Go.Lib.indexByte l c = -1 := by simpa using hm
        refine ⟨fun h => absurd h (by omega), fun _ => ?_⟩
        obtain ⟨h1, h2⟩ := ih.2 (by omega)
        have ht : (Go.Lib.indexByte l c + 1).toNat = (Go.Lib.indexByte l c).toNat + 1 := by omega
        rw [ht, List.take_succ_cons, List.drop_succ_cons]
        refine ⟨?_, ?_⟩
        · rw [List.cons_append, ← h1]
        · rw [List.mem_cons, not_or]
          exact ⟨fun e => hbc e.symm, h2⟩
theorem mem_bytes (l : List UInt8) (c : UInt8) : (c.toNat : Int) ∈ l.map (fun b => (b.toNat : Int)) ↔ c ∈ l := by
  rw [List.mem_map]
  constructor
  · rintro ⟨b, hb, e⟩
    have : b = c := UInt8.toNat_inj.1 (by omega)
    exact this ▸ hb
  · intro h; exact ⟨c, h, rfl⟩
theorem index_split (s : ByteArray) (c : UInt8) : (Go.Lib.indexByte s.data.toList c < 0 → (c.toNat : Int) ∉ bytesOf s) ∧ (¬ Go.Lib.indexByte s.data.toList c < 0 → bytesOf s = (bytesOf s).take (Go.Lib.indexByte s.data.toList c).toNat ++ (c.toNat : Int) :: (bytesOf s).drop ((Go.Lib.indexByte s.data.toList c).toNat + 1) ∧ (c.toNat : Int) ∉ (bytesOf s).take (Go.Lib.indexByte s.data.toList c).toNat) := by
  obtain ⟨h1, h2⟩ := indexByte_mem s.data.toList c
  refine ⟨fun h => ?_, fun h => ?_⟩
  · rw [bytesOf, mem_bytes]; exact h1 h
  · obtain ⟨e, m⟩ := h2 h
    refine ⟨?_, ?_⟩
    · conv => lhs; rw [bytesOf, e]
      rw [List.map_append, List.map_cons, List.map_take, List.map_drop]
      rfl
    · rw [bytesOf, ← List.map_take, mem_bytes]; exact m
theorem pieces_split (c : UInt8) : ∀ (n : Nat) (s : ByteArray), s.size ≤ n → (piecesF c s.size s).map bytesOf = splitL (c.toNat : Int) (bytesOf s) := by
  intro n
  induction n with
  | zero =>
    intro s hn
    have hi := indexByte_lt' s c
    have h : Go.Lib.indexByte s.data.toList c < 0 := by omega
    rw [pieces_end c s h, splitL_one _ _ ((index_split s c).1 h)]; rfl
  | succ n ih =>
    intro s hn
    by_cases h : Go.Lib.indexByte s.data.toList c < 0
    · rw [pieces_end c s h, splitL_one _ _ ((index_split s c).1 h)]; rfl
    · obtain ⟨e, m⟩ := (index_split s c).2 h
      have hi := indexByte_lt' s c
      have hz := ByteArray.size_extract (a := s) (b := (Go.Lib.indexByte s.data.toList c).toNat + 1) (e := s.size)
      rw [pieces_more c s h, List.map_cons, ih _ (by omega), bytes_head, bytes_rest]
      conv => rhs; rw [e, splitL_app, splitL_one _ _ m]
      rfl
/-- A part of a name. -/
def partL : List Int → Bool
  | [] => false
  | c :: l => (lxLo c || lxUp c) && (c :: l).all (lxOk (lxLo c))
theorem partAll_eq (t : Bool) (s : ByteArray) : ∀ m i, i + m = s.size → partAll t s m i = ((bytesOf s).drop i).all (lxOk t) := by
  intro m
  induction m with
  | zero => intro i h; rw [List.drop_of_length_le (by rw [bytesOf_length]; omega)]; rfl
  | succ m ih => intro i h; rw [partAll, ih (i + 1) (by omega), bt_nat]; conv => rhs; rw [drop_cons (by rw [bytesOf_length]; omega), List.all_cons]
theorem partB_eq (s : ByteArray) : partB s = partL (bytesOf s) := by
  unfold partB
  rw [partAll_eq _ s s.size 0 (by omega), List.drop_zero, show (0 : Int) = ((0 : Nat) : Int) from rfl, bt_nat, size_bytes]
  cases bytesOf s with
  | nil => rfl
  | cons c l => simp [partL]
/-- A name, without its bounds. -/
def nameS (l : List Int) : Bool := (splitL 45 l).all partL
theorem all_parts (s : ByteArray) : (piecesF 45 s.size s).all partB = nameS (bytesOf s) := by
  have h := pieces_split 45 s.size s (Nat.le_refl _)
  rw [nameS, show (45 : Int) = ((45 : UInt8).toNat : Int) from rfl, ← h, List.all_map]
  congr 1
  funext x
  exact partB_eq x
/-- A name. -/
def nameOk (l : List Int) : Bool := decide (0 < l.length) && decide (l.length ≤ 100) && nameS l
theorem Name_eq (s : ByteArray) : lex_Name.f s = some (nameOk (bytesOf s)) := by
  unfold lex_Name.f nameOk
  rw [all_parts, size_bytes]
  congr 1
  by_cases h0 : (bytesOf s).length = 0
  · rw [if_pos h0]; simp [h0]
  · rw [if_neg h0]
    by_cases h1 : 100 < (bytesOf s).length
    · rw [if_pos h1]; simp; intro _ _; omega
    · rw [if_neg h1, show decide (0 < (bytesOf s).length) = true by simp; omega, show decide ((bytesOf s).length ≤ 100) = true by simp; omega]; simp
/-- The same, as a machine: 0 a part begins, 1 in a small one, 2 in a great one. -/
def nameL : Nat → List Int → Bool
  | 0, [] => false
  | _ + 1, [] => true
  | 0, c :: l => if lxLo c = true then nameL 1 l else if lxUp c = true then nameL 2 l else false
  | s + 1, c :: l => if c = 45 then nameL 0 l else if (lxDi c || (if s = 0 then lxLo c else lxUp c)) = true then nameL (s + 1) l else false
theorem lo_def (a : Int) : lxLo a = true ↔ 97 ≤ a ∧ a ≤ 122 := by simp [lxLo]
theorem up_def (a : Int) : lxUp a = true ↔ 65 ≤ a ∧ a ≤ 90 := by simp [lxUp]
theorem di_def (a : Int) : lxDi a = true ↔ 48 ≤ a ∧ a ≤ 57 := by simp [lxDi]
theorem lo_f (a : Int) : lxLo a = false ↔ ¬ (97 ≤ a ∧ a ≤ 122) := by rw [← lo_def]; simp
theorem up_f (a : Int) : lxUp a = false ↔ ¬ (65 ≤ a ∧ a ≤ 90) := by rw [← up_def]; simp
theorem di_f (a : Int) : lxDi a = false ↔ ¬ (48 ≤ a ∧ a ≤ 57) := by rw [← di_def]; simp
theorem nameL_split (l : List Int) : ∀ p ps, splitL 45 l = p :: ps → nameL 0 l = (partL p && ps.all partL) ∧ nameL 1 l = (p.all (lxOk true) && ps.all partL) ∧ nameL 2 l = (p.all (lxOk false) && ps.all partL) := by
  induction l with
  | nil =>
    intro p ps h
    rw [splitL] at h
    injection h with h1 h2
    subst h1; subst h2
    exact ⟨rfl, rfl, rfl⟩
  | cons c l ih =>
    intro p ps h
    obtain ⟨q, qs, e⟩ := splitL_ne 45 l
    obtain ⟨i0, i1, i2⟩ := ih q qs e
    rw [splitL] at h
    by_cases hc : c = 45
    · rw [if_pos hc] at h
      injection h with h1 h2
      subst h1; subst h2
      have hl : ¬ lxLo c = true := by rw [lo_def]; omega
      have hu : ¬ lxUp c = true := by rw [up_def]; omega
      rw [e, nameL, nameL, nameL, if_neg hl, if_neg hu, if_pos hc, if_pos hc, i0]
      exact ⟨rfl, by simp, by simp⟩
    · rw [if_neg hc, e] at h
      injection h with h1 h2
      subst h1; subst h2
      have ht : lxOk true c = (lxDi c || lxLo c) := by unfold lxOk; cases hl : lxLo c <;> cases hu : lxUp c <;> simp
      have hf : lxOk false c = (lxDi c || lxUp c) := by
        unfold lxOk
        cases hl : lxLo c
        · simp
        · have hu : lxUp c = false := by rw [up_f]; rw [lo_def] at hl; omega
          simp [hu]
      refine ⟨?_, ?_, ?_⟩
      · rw [nameL, partL, List.all_cons]
        by_cases hl : lxLo c = true
        · rw [if_pos hl, i1, hl, ht, hl]; simp
        · rw [if_neg hl]
          have hl' : lxLo c = false := by simpa using hl
          by_cases hu : lxUp c = true
          · rw [if_pos hu, i2, hu, hl', hf, hu]; simp
          · have hu' : lxUp c = false := by simpa using hu
            rw [if_neg hu, hu', hl']; simp
      · rw [show nameL 1 (c :: l) = (if c = 45 then nameL 0 l else if (lxDi c || (if 0 = 0 then lxLo c else lxUp c)) = true then nameL 1 l else false) from rfl, if_neg hc, if_pos rfl, List.all_cons, ht, i1]
        cases (lxDi c || lxLo c) <;> simp
      · rw [show nameL 2 (c :: l) = (if c = 45 then nameL 0 l else if (lxDi c || (if 1 = 0 then lxLo c else lxUp c)) = true then nameL 2 l else false) from rfl, if_neg hc, if_neg (show ¬ (1 : Nat) = 0 by omega), List.all_cons, hf, i2]
        cases (lxDi c || lxUp c) <;> simp
theorem nameL_eq (l : List Int) : nameL 0 l = nameS l := by
  obtain ⟨p, ps, e⟩ := splitL_ne 45 l
  rw [(nameL_split l p ps e).1, nameS, e, List.all_cons]
/-- A number of a version. -/
def numOk (x : List Int) : Bool := decide (0 < x.length) && x.all lxDi && !(decide (1 < x.length) && x.headD 0 == 48) && decide (x.length ≤ 9)
/-- A version. -/
def verS (l : List Int) : Bool := (splitL 46 l).all numOk && (splitL 46 l).length == 3
theorem dw_nil {α : Type} (q : α → Bool) (l : List α) : List.dropWhile q l = [] ↔ ∀ b ∈ l, q b = true := by
  induction l with
  | nil => simp
  | cons a l ih =>
    rw [List.dropWhile_cons]
    by_cases h : q a = true
    · rw [if_pos h, ih]; simp [h]
    · rw [if_neg h]; simp [h]
theorem trim_nil (l : List UInt8) (cs : List UInt8) : Go.Lib.trimS l cs = [] ↔ ∀ b ∈ l, cs.contains b = true := by
  unfold Go.Lib.trimS Go.Lib.trimLeftS Go.Lib.trimRightS
  constructor
  · intro h b hb
    rw [dw_nil] at h
    by_cases hc : cs.contains b = true
    · exact hc
    · exfalso
      apply hc
      have hs := List.takeWhile_append_dropWhile (p := fun x => cs.contains x) (l := l.reverse)
      have hb' : b ∈ l.reverse := List.mem_reverse.2 hb
      rw [← hs, List.mem_append] at hb'
      rcases hb' with hb' | hb'
      · have := List.all_eq_true.1 (List.all_takeWhile (p := fun x => cs.contains x) (l := l.reverse)) b hb'
        exact this
      · exact h b (List.mem_reverse.2 hb')
  · intro h
    have : List.dropWhile (fun x => cs.contains x) l.reverse = [] := by
      rw [dw_nil]
      intro b hb
      exact h b (List.mem_reverse.1 hb)
    rw [this]; rfl
theorem digit_set (b : UInt8) : ([48, 49, 50, 51, 52, 53, 54, 55, 56, 57] : List UInt8).contains b = lxDi (b.toNat : Int) := by
  have h0 : ∀ n : Nat, n < 256 → ([48, 49, 50, 51, 52, 53, 54, 55, 56, 57] : List UInt8).contains (UInt8.ofNat n) = (decide (48 ≤ n) && decide (n ≤ 57)) := by decide +kernel
  have h1 := h0 b.toNat b.toNat_lt
  rw [UInt8.ofNat_toNat] at h1
  rw [h1]
  unfold lxDi
  rw [show decide ((48 : Int) ≤ (b.toNat : Int)) = decide (48 ≤ b.toNat) by congr 1; apply propext; omega, show decide ((b.toNat : Int) ≤ 57) = decide (b.toNat ≤ 57) by congr 1; apply propext; omega]
theorem verBad_eq (x : ByteArray) : (!verBad x) = numOk (bytesOf x) := by
  have h0 : (x.toList == []) = !decide (0 < (bytesOf x).length) := by
    rw [bytesOf_length]
    by_cases h : x.size = 0
    · rw [(str_empty x).2 h]; simp [h]
    · have hn : ¬ x.toList = [] := fun e => h ((str_empty x).1 e)
      rw [show (x.toList == []) = false by simp [hn]]
      simp; omega
  have h1 : ((Go.Proofs.YtlggjgpdiffajaaDoor.PA.trimmed x).toList != []) = !((bytesOf x).all lxDi) := by
    have e : (Go.Proofs.YtlggjgpdiffajaaDoor.PA.trimmed x).toList = Go.Lib.trimS x.data.toList [48, 49, 50, 51, 52, 53, 54, 55, 56, 57] := by
      rw [ByteArray.toList_eq]; unfold Go.Proofs.YtlggjgpdiffajaaDoor.PA.trimmed; simp
    rw [e]
    by_cases h : Go.Lib.trimS x.data.toList [48, 49, 50, 51, 52, 53, 54, 55, 56, 57] = []
    · rw [h]
      have := (trim_nil _ _).1 h
      rw [show (bytesOf x).all lxDi = true from by
        rw [List.all_eq_true]
        intro n hn
        rw [bytesOf, List.mem_map] at hn
        obtain ⟨b, hb, rfl⟩ := hn
        rw [← digit_set]; exact this b hb]
      rfl
    · rw [show (Go.Lib.trimS x.data.toList [48, 49, 50, 51, 52, 53, 54, 55, 56, 57] != []) = true by simp [h]]
      have hn : ¬ (bytesOf x).all lxDi = true := by
        intro ha
        apply h
        rw [trim_nil]
        intro b hb
        rw [digit_set]
        exact List.all_eq_true.1 ha _ (by rw [bytesOf, List.mem_map]; exact ⟨b, hb, rfl⟩)
      simp only [Bool.not_eq_true] at hn
      rw [hn]; rfl
  have h2 : (bt x 0 == 48) = ((bytesOf x).headD 0 == 48) := by
    rw [show (0 : Int) = ((0 : Nat) : Int) from rfl, bt_nat]
    cases bytesOf x <;> rfl
  have h3 : decide ((x.size : Int) > 1) = decide (1 < (bytesOf x).length) := by
    rw [bytesOf_length]; congr 1; apply propext; omega
  have h4 : decide ((x.size : Int) > 9) = !decide ((bytesOf x).length ≤ 9) := by
    rw [bytesOf_length]
    by_cases h : x.size ≤ 9
    · simp [h]; omega
    · simp [h]; omega
  unfold verBad numOk
  rw [h0, h1, h2, h3, h4]
  cases decide (0 < (bytesOf x).length) <;> cases (bytesOf x).all lxDi <;> cases decide (1 < (bytesOf x).length) <;> cases ((bytesOf x).headD 0 == 48) <;> cases decide ((bytesOf x).length ≤ 9) <;> rfl
theorem Version_eq (s : ByteArray) (hs : s.size ≤ 140737488355328) : lex_Version.f s = some (verS (bytesOf s)) := by
  unfold lex_Version.f verS
  rw [if_pos hs]
  have h := pieces_split 46 s.size s (Nat.le_refl _)
  rw [show (46 : Int) = ((46 : UInt8).toNat : Int) from rfl, ← h, List.all_map, List.length_map]
  have : (fun x => !verBad x) = (numOk ∘ bytesOf) := by funext x; exact verBad_eq x
  rw [this]
end Go.Proofs.YtlggjgpdiffajaaDoor.LexM
namespace Go.Proofs.YtlggjgpdiffajaaDoor.Ev
universe u v
/-- From some number of rounds on it tells v. -/
def Evr {α : Type u} (g : Nat → Option α) (v : α) : Prop := ∃ K, ∀ k, K ≤ k → g k = some v
theorem Evr.const {α : Type u} {o : Option α} {v : α} (h : o = some v) : Evr (fun _ => o) v := ⟨0, fun _ _ => h⟩
theorem Evr.ret {α : Type u} {v : α} : Evr (fun _ => some v) v := ⟨0, fun _ _ => rfl⟩
theorem Evr.step {α : Type u} {g h : Nat → Option α} {v : α} (hh : Evr h v) (hs : ∀ k, g (k + 1) = h k) : Evr g v := by
  obtain ⟨K, hK⟩ := hh
  refine ⟨K + 1, fun k hk => ?_⟩
  obtain ⟨k, rfl⟩ : ∃ m, k = m + 1 := ⟨k - 1, by omega⟩
  rw [hs]; exact hK k (by omega)
theorem Evr.eqs {α : Type u} {g h : Nat → Option α} {v : α} (hh : Evr h v) (hs : ∀ k, g k = h k) : Evr g v := by
  obtain ⟨K, hK⟩ := hh
  exact ⟨K, fun k hk => by rw [hs]; exact hK k hk⟩
theorem Evr.bind {α : Type u} {β : Type v} {f : Nat → Option α} {g : Nat → α → Option β} {a : α} {b : β} (hf : Evr f a) (hg : Evr (fun k => g k a) b) : Evr (fun k => (f k).bind (g k)) b := by
  obtain ⟨K, hK⟩ := hf
  obtain ⟨L, hL⟩ := hg
  exact ⟨K + L, fun k hk => by show (f k).bind (g k) = some b; rw [hK k (by omega)]; exact hL k (by omega)⟩
theorem Evr.out {α : Type u} {g : Nat → Option α} {v : α} (h : Evr g v) : ∃ k, g k = some v := by
  obtain ⟨K, hK⟩ := h
  exact ⟨K, hK K (Nat.le_refl K)⟩
end Go.Proofs.YtlggjgpdiffajaaDoor.Ev
namespace Go.Proofs.YtlggjgpdiffajaaDoor.LexK
set_option linter.unusedVariables false
set_option linter.unusedSimpArgs false
open Go.RowKit Go.Proofs.YtlggjgpdiffajaaDoor.PA Go.Proofs.YtlggjgpdiffajaaDoorW.PrintWords Go.Proofs.YtlggjgpdiffajaaDoorW.PrintLast Go.Proofs.YtlggjgpdiffajaaDoorW.PrintMore
open Go.Proofs.YtlggjgpdiffajaaDoor.Str Go.Proofs.YtlggjgpdiffajaaDoor.Ev Go.Proofs.YtlggjgpdiffajaaDoor.LexM
/-- The kind of a letter. -/
def kindL (c : Int) : Int := if lxLo c = true then 1 else if lxUp c = true then 2 else if lxDi c = true then 3 else if c = 45 then 4 else if c = 46 then 5 else 0
theorem kind_at (c : Int) (k : Nat) (hk : 3 ≤ k) : scarfref10_kind.f k c = some (kindL c) := by
  obtain ⟨k, rfl⟩ : ∃ m, k = m + 3 := ⟨k - 3, by omega⟩
  unfold scarfref10_kind.f kindL
  have h2 : ∀ b : Bool, scarfref10_kind.j2 (k + 1) c b = some (if b = true then 3 else if c = 45 then 4 else if c = 46 then 5 else 0) := by
    intro b
    rw [scarfref10_kind.j2]
    cases b
    · simp only [Bool.false_eq_true, if_false]
      split
      · rfl
      · split <;> rfl
    · rfl
  have h1 : ∀ b : Bool, scarfref10_kind.j1 (k + 2) c b = some (if b = true then 2 else if lxDi c = true then 3 else if c = 45 then 4 else if c = 46 then 5 else 0) := by
    intro b
    rw [scarfref10_kind.j1]
    cases b
    · simp only [Bool.false_eq_true, if_false]
      by_cases h : c ≥ 48
      · rw [if_pos h, h2]
        have : lxDi c = decide (c ≤ 57) := by unfold lxDi; simp [show (48 : Int) ≤ c from h]
        rw [this]
      · rw [if_neg h, h2]
        have : lxDi c = false := by rw [di_f]; omega
        rw [this]
    · rfl
  have h0 : ∀ b : Bool, scarfref10_kind.j0 (k + 3) c b = some (if b = true then 1 else if lxUp c = true then 2 else if lxDi c = true then 3 else if c = 45 then 4 else if c = 46 then 5 else 0) := by
    intro b
    rw [scarfref10_kind.j0]
    cases b
    · simp only [Bool.false_eq_true, if_false]
      by_cases h : c ≥ 65
      · rw [if_pos h, h1]
        have : lxUp c = decide (c ≤ 90) := by unfold lxUp; simp [show (65 : Int) ≤ c from h]
        rw [this]
      · rw [if_neg h, h1]
        have : lxUp c = false := by rw [up_f]; omega
        rw [this]
    · rfl
  by_cases h : c ≥ 97
  · rw [if_pos h, h0]
    have : lxLo c = decide (c ≤ 122) := by unfold lxLo; simp [show (97 : Int) ≤ c from h]
    rw [this]
  · rw [if_neg h, h0]
    have : lxLo c = false := by rw [lo_f]; omega
    rw [this]
theorem kind_ev (c : Int) : Evr (fun k => scarfref10_kind.f k c) (kindL c) := ⟨3, fun k hk => kind_at c k hk⟩
theorem kind_cases (c : Int) : (kindL c = 1 ∧ lxLo c = true) ∨ (kindL c = 2 ∧ lxLo c = false ∧ lxUp c = true) ∨ (kindL c = 3 ∧ lxLo c = false ∧ lxUp c = false ∧ lxDi c = true) ∨ (kindL c = 4 ∧ c = 45) ∨ (kindL c = 5 ∧ c = 46) ∨ (kindL c = 0 ∧ lxLo c = false ∧ lxUp c = false ∧ lxDi c = false ∧ c ≠ 45 ∧ c ≠ 46) := by
  unfold kindL
  by_cases h1 : lxLo c = true
  · exact .inl ⟨if_pos h1, h1⟩
  · rw [if_neg h1]
    have h1' : lxLo c = false := by simpa using h1
    by_cases h2 : lxUp c = true
    · exact .inr (.inl ⟨if_pos h2, h1', h2⟩)
    · rw [if_neg h2]
      have h2' : lxUp c = false := by simpa using h2
      by_cases h3 : lxDi c = true
      · exact .inr (.inr (.inl ⟨if_pos h3, h1', h2', h3⟩))
      · rw [if_neg h3]
        have h3' : lxDi c = false := by simpa using h3
        by_cases h4 : c = 45
        · exact .inr (.inr (.inr (.inl ⟨if_pos h4, h4⟩)))
        · rw [if_neg h4]
          by_cases h5 : c = 46
          · exact .inr (.inr (.inr (.inr (.inl ⟨if_pos h5, h5⟩))))
          · exact .inr (.inr (.inr (.inr (.inr ⟨if_neg h5, h1', h2', h3', h4, h5⟩))))
theorem kind_num (c : Int) : (kindL c = 1 ↔ lxLo c = true) ∧ (kindL c = 2 ↔ lxUp c = true) ∧ (kindL c = 3 ↔ lxDi c = true) ∧ (kindL c = 4 ↔ c = 45) ∧ (kindL c = 5 ↔ c = 46) := by
  have H := kind_cases c
  have hl := lo_def c
  have hu := up_def c
  have hd := di_def c
  have hl' := lo_f c
  have hu' := up_f c
  have hd' := di_f c
  refine ⟨⟨fun h => ?_, fun h => ?_⟩, ⟨fun h => ?_, fun h => ?_⟩, ⟨fun h => ?_, fun h => ?_⟩, ⟨fun h => ?_, fun h => ?_⟩, ⟨fun h => ?_, fun h => ?_⟩⟩ <;>
    (rcases H with ⟨e, H1⟩ | ⟨e, H1, H2⟩ | ⟨e, H1, H2, H3⟩ | ⟨e, H1⟩ | ⟨e, H1⟩ | ⟨e, H1, H2, H3, H4⟩) <;>
    simp_all <;> omega
theorem kind_lo (c : Int) : kindL c = 1 ↔ lxLo c = true := (kind_num c).1
theorem kind_up (c : Int) : kindL c = 2 ↔ lxUp c = true := (kind_num c).2.1
theorem kind_di (c : Int) : kindL c = 3 ↔ lxDi c = true := (kind_num c).2.2.1
theorem kind_45 (c : Int) : kindL c = 4 ↔ c = 45 := (kind_num c).2.2.2.1
/-- What the reference's loop holds of the letters before. -/
def St (l : List Int) (i : Nat) (size : Int) (s : Nat) : Prop :=
  ((i = 0 ∨ l.getD (i - 1) 0 = 45) ∧ s = 0) ∨ (0 < i ∧ l.getD (i - 1) 0 ≠ 45 ∧ (size = 1 ∧ s = 1 ∨ size = 2 ∧ s = 2))
theorem name_l0 (x : ByteArray) (hx : x.size ≤ 4611686018427387904) (h0 : 0 < x.size) : ∀ m i size s, i + m = x.size → St (bytesOf x) i size s → Evr (fun k => scarfref10_Name.l0 k x size (i : Int)) (nameL s ((bytesOf x).drop i)) := by
  intro m
  induction m with
  | zero =>
    intro i size s hi hst
    have hw : wrap64 ((x.size : Int) - 1) = ((x.size - 1 : Nat) : Int) := by rw [wrap64_id (by omega) (by omega)]; omega
    refine Evr.step ?_ (fun k => by rw [scarfref10_Name.l0, if_neg (by omega), if_pos (by rw [hw]; omega), if_pos (by rw [hw]; omega), hw, bt_nat])
    refine Evr.const ?_
    rw [List.drop_of_length_le (by rw [bytesOf_length]; omega)]
    have hi' : i - 1 = x.size - 1 := by omega
    rcases hst with ⟨h, rfl⟩ | ⟨_, hne, h⟩
    · rcases h with h | h
      · omega
      · rw [hi'] at h; rw [h]; rfl
    · rw [hi'] at hne
      have : nameL s [] = true := by rcases h with ⟨_, rfl⟩ | ⟨_, rfl⟩ <;> rfl
      rw [this]; simpa using hne
  | succ m ih =>
    intro i size s hi hst
    have hl : i < (bytesOf x).length := by rw [bytesOf_length]; omega
    have hw : wrap64 ((i : Int) + 1) = ((i + 1 : Nat) : Int) := by rw [wrap64_id (by omega) (by omega)]; omega
    rw [drop_cons hl]
    generalize hc : (bytesOf x).getD i 0 = c
    have hn : ∀ size' s', (c = 45 ∧ s' = 0 ∨ c ≠ 45 ∧ (size' = 1 ∧ s' = 1 ∨ size' = 2 ∧ s' = 2)) → Evr (fun k => scarfref10_Name.l0 k x size' (wrap64 ((i : Int) + 1))) (nameL s' ((bytesOf x).drop (i + 1))) := by
      intro size' s' h
      rw [hw]
      refine ih (i + 1) size' s' (by omega) ?_
      unfold St
      rw [show i + 1 - 1 = i by omega, hc]
      rcases h with ⟨h1, h2⟩ | ⟨h1, h2⟩
      · exact .inl ⟨.inr h1, h2⟩
      · exact .inr ⟨by omega, h1, h2⟩
    have hj1 : s = 0 → Evr (fun k => scarfref10_Name.j2 k x size (i : Int) (kindL c) true) (nameL s (c :: (bytesOf x).drop (i + 1))) := by
      rintro rfl
      rw [nameL]
      by_cases hl : lxLo c = true
      · have hk := (kind_lo c).2 hl
        rw [if_pos hl]
        refine Evr.step (hn 1 1 (.inr ⟨by rw [lo_def] at hl; omega, .inl ⟨rfl, rfl⟩⟩)) (fun k => by rw [scarfref10_Name.j2, if_pos rfl, if_pos hk, hk])
      · rw [if_neg hl]
        have hk1 : ¬ kindL c = 1 := fun h => hl ((kind_lo c).1 h)
        by_cases hu : lxUp c = true
        · have hk := (kind_up c).2 hu
          rw [if_pos hu]
          refine Evr.step (hn 2 2 (.inr ⟨by rw [up_def] at hu; omega, .inr ⟨rfl, rfl⟩⟩)) (fun k => by rw [scarfref10_Name.j2, if_pos rfl, if_neg hk1, if_pos hk, hk])
        · rw [if_neg hu]
          have hk2 : ¬ kindL c = 2 := fun h => hu ((kind_up c).1 h)
          refine Evr.step Evr.ret (fun k => by rw [scarfref10_Name.j2, if_pos rfl, if_neg hk1, if_neg hk2])
    have hj2 : (size = 1 ∧ s = 1 ∨ size = 2 ∧ s = 2) → Evr (fun k => scarfref10_Name.j2 k x size (i : Int) (kindL c) false) (nameL s (c :: (bytesOf x).drop (i + 1))) := by
      intro hs
      have e : nameL s (c :: (bytesOf x).drop (i + 1)) = (if c = 45 then nameL 0 ((bytesOf x).drop (i + 1)) else if (lxDi c || kindL c == size) = true then nameL s ((bytesOf x).drop (i + 1)) else false) := by
        rcases hs with ⟨rfl, rfl⟩ | ⟨rfl, rfl⟩
        · rw [nameL, if_pos rfl]
          have : (kindL c == 1) = lxLo c := by have := kind_lo c; cases h : lxLo c <;> simp [h] at this ⊢ <;> exact this
          rw [this]
        · rw [nameL, if_neg (show ¬ (1 : Nat) = 0 by omega)]
          have : (kindL c == 2) = lxUp c := by have := kind_up c; cases h : lxUp c <;> simp [h] at this ⊢ <;> exact this
          rw [this]
      rw [e]
      by_cases h45 : c = 45
      · have hk := (kind_45 c).2 h45
        rw [if_pos h45]
        refine Evr.step (hn size 0 (.inl ⟨h45, rfl⟩)) (fun k => by rw [scarfref10_Name.j2, if_neg (by decide), if_neg (by rw [hk]; omega), if_neg (by rw [hk]; omega), if_pos hk])
      · rw [if_neg h45]
        have h4 : ¬ kindL c = 4 := fun h => h45 ((kind_45 c).1 h)
        by_cases hs1 : kindL c = size
        · rw [if_pos (by simp [hs1])]
          exact Evr.step (hn size s (.inr ⟨h45, hs⟩)) (fun k => by rw [scarfref10_Name.j2, if_neg (by decide), if_pos hs1])
        · by_cases hd : lxDi c = true
          · rw [if_pos (by simp [hd])]
            exact Evr.step (hn size s (.inr ⟨h45, hs⟩)) (fun k => by rw [scarfref10_Name.j2, if_neg (by decide), if_neg hs1, if_pos ((kind_di c).2 hd)])
          · rw [if_neg (by simp [hd, hs1])]
            exact Evr.step Evr.ret (fun k => by rw [scarfref10_Name.j2, if_neg (by decide), if_neg hs1, if_neg (fun h => hd ((kind_di c).1 h)), if_neg h4])
    by_cases hz : i = 0
    · subst hz
      have hs0 : s = 0 := by rcases hst with ⟨_, h⟩ | ⟨h, _⟩
                             · exact h
                             · omega
      refine Evr.step ?_ (fun k => by rw [scarfref10_Name.l0, if_pos (by omega), if_pos (by omega), bt_nat, hc])
      refine Evr.bind (kind_ev c) ?_
      exact Evr.eqs (hj1 hs0) (fun k => by rw [if_pos (show ((0 : Nat) : Int) = 0 from rfl)])
    · have hw1 : wrap64 ((i : Int) - 1) = ((i - 1 : Nat) : Int) := by rw [wrap64_id (by omega) (by omega)]; omega
      refine Evr.step ?_ (fun k => by rw [scarfref10_Name.l0, if_pos (by omega), if_pos (by omega), bt_nat, hc])
      refine Evr.bind (kind_ev c) ?_
      rcases hst with ⟨h, hs0⟩ | ⟨_, hne, h⟩
      · rcases h with h | h
        · exact absurd h hz
        · exact Evr.eqs (hj1 hs0) (fun k => by rw [if_neg (by omega), if_pos (by rw [hw1]; omega), if_pos (by rw [hw1]; omega), hw1, bt_nat, h]; rfl)
      · exact Evr.eqs (hj2 h) (fun k => by rw [if_neg (by omega), if_pos (by rw [hw1]; omega), if_pos (by rw [hw1]; omega), hw1, bt_nat, show ((bytesOf x).getD (i - 1) 0 == 45) = false by simpa using hne])
theorem Name_ref (x : ByteArray) (hx : x.size ≤ 4611686018427387904) : Evr (fun k => scarfref10_Name.f k x) (nameOk (bytesOf x)) := by
  have hlen := bytesOf_length x
  by_cases h0 : x.size = 0
  · refine Evr.eqs (h := fun k => scarfref10_Name.j0 k x true) ?_ (fun k => by rw [scarfref10_Name.f, if_pos (by omega)])
    refine Evr.step ?_ (fun k => by rw [scarfref10_Name.j0, if_pos rfl])
    refine Evr.const ?_
    unfold nameOk
    rw [show decide (0 < (bytesOf x).length) = false from decide_eq_false (by omega)]; rfl
  · by_cases h1 : x.size > 100
    · refine Evr.eqs (h := fun k => scarfref10_Name.j0 k x true) ?_ (fun k => by rw [scarfref10_Name.f, if_neg (by omega), show decide ((x.size : Int) > 100) = true by simp; omega])
      refine Evr.step ?_ (fun k => by rw [scarfref10_Name.j0, if_pos rfl])
      refine Evr.const ?_
      unfold nameOk
      rw [show decide ((bytesOf x).length ≤ 100) = false by simp; omega]; simp
    · refine Evr.eqs (h := fun k => scarfref10_Name.j0 k x false) ?_ (fun k => by rw [scarfref10_Name.f, if_neg (by omega), show decide ((x.size : Int) > 100) = false by simp; omega])
      refine Evr.step ?_ (fun k => by rw [scarfref10_Name.j0, if_neg (by decide)])
      have := name_l0 x hx (by omega) x.size 0 0 0 (by omega) (.inl ⟨.inl rfl, rfl⟩)
      rw [List.drop_zero, nameL_eq] at this
      unfold nameOk
      rw [show decide (0 < (bytesOf x).length) = true by simp; omega, show decide ((bytesOf x).length ≤ 100) = true by simp; omega]
      exact this
/-- What is left of a number whose first d digits were, beginning with a 0 (z). -/
def goodFrom (d : Nat) (z : Bool) (x : List Int) : Bool := x.all lxDi && decide (d + x.length ≤ 9) && decide (0 < d + x.length) && !((if d = 0 then x.headD 0 == 48 else z) && decide (1 < d + x.length))
theorem goodFrom_zero (z : Bool) (x : List Int) : goodFrom 0 z x = numOk x := by
  unfold goodFrom numOk
  rw [if_pos rfl, Nat.zero_add]
  cases x.all lxDi <;> cases decide (x.length ≤ 9) <;> cases decide (0 < x.length) <;> cases (x.headD 0 == 48) <;> cases decide (1 < x.length) <;> rfl
/-- The reference's machine. -/
def verL : Nat → Nat → Bool → List Int → Bool
  | p, d, _, [] => decide (p = 2) && decide (0 < d)
  | p, d, z, c :: l => if c = 46 then (if d = 0 then false else verL (p + 1) 0 false l) else if lxDi c = false then false else if d = 9 then false else if d = 1 ∧ z = true then false else verL p (d + 1) (if d = 0 then c == 48 else z) l
theorem verL_split (l : List Int) : ∀ (p d : Nat) (z : Bool) (x : List Int) (xs : List (List Int)), splitL 46 l = x :: xs → d ≤ 9 → ¬ (1 < d ∧ z = true) → verL p d z l = (goodFrom d z x && xs.all numOk && decide (p + xs.length = 2)) := by
  induction l with
  | nil =>
    intro p d z x xs h hd hz
    rw [splitL] at h
    injection h with h1 h2
    subst h1; subst h2
    rw [verL]
    unfold goodFrom
    simp only [List.all_nil, List.length_nil, Nat.add_zero, Bool.true_and, Bool.and_true]
    by_cases h2 : p = 2
    · by_cases h0 : 0 < d
      · simp only [h2, h0, decide_true, Bool.and_true, Bool.true_and, hd]
        rw [if_neg (by omega)]
        cases z with
        | false => simp
        | true =>
          have : ¬ 1 < d := fun h => hz ⟨h, rfl⟩
          simp [this]
      · simp [h0, h2]
    · simp [h2]
  | cons c l ih =>
    intro p d z x xs h hd hz
    obtain ⟨q, qs, e⟩ := splitL_ne 46 l
    rw [splitL] at h
    rw [verL]
    by_cases hc : c = 46
    · rw [if_pos hc] at h ⊢
      injection h with h1 h2
      subst h1; subst h2
      by_cases h0 : d = 0
      · rw [if_pos h0]; simp [goodFrom, h0]
      · rw [if_neg h0, ih (p + 1) 0 false q qs e (by omega) (by omega), goodFrom_zero, e]
        have hg : goodFrom d z [] = true := by
          unfold goodFrom
          rw [if_neg h0]
          simp only [List.all_nil, List.length_nil, Nat.add_zero, Bool.true_and, hd, decide_true, show 0 < d by omega]
          cases z with
          | false => simp
          | true =>
            have : ¬ 1 < d := fun h => hz ⟨h, rfl⟩
            simp [this]
        rw [hg, Bool.true_and, List.all_cons, List.length_cons, show p + 1 + qs.length = p + (qs.length + 1) by omega]
    · rw [if_neg hc] at h ⊢
      rw [e] at h
      injection h with h1 h2
      subst h1; subst h2
      by_cases hdi : lxDi c = false
      · rw [if_pos hdi]; simp [goodFrom, hdi]
      · rw [if_neg hdi]
        have hdi' : lxDi c = true := by simpa using hdi
        by_cases h9 : d = 9
        · rw [if_pos h9]
          have : decide (d + (c :: q).length ≤ 9) = false := by simp; omega
          unfold goodFrom; rw [this]; simp
        · rw [if_neg h9]
          by_cases h1 : d = 1 ∧ z = true
          · rw [if_pos h1]
            unfold goodFrom
            rw [if_neg (by omega), h1.2, show decide (1 < d + (c :: q).length) = true by simp; omega]; simp
          · rw [if_neg h1, ih p (d + 1) (if d = 0 then c == 48 else z) q qs e (by omega) (by
              rintro ⟨h2, h3⟩
              by_cases h0 : d = 0
              · omega
              · rw [if_neg h0] at h3
                exact (if h4 : d = 1 then h1 ⟨h4, h3⟩ else hz ⟨by omega, h3⟩))]
            congr 2
            unfold goodFrom
            rw [List.all_cons, hdi', Bool.true_and, List.length_cons, show d + 1 + q.length = d + (q.length + 1) by omega, if_neg (show ¬ d + 1 = 0 by omega)]
            by_cases h0 : d = 0
            · rw [if_pos h0, if_pos h0]; rfl
            · rw [if_neg h0, if_neg h0]
theorem verL_eq (l : List Int) : verL 0 0 false l = verS l := by
  obtain ⟨p, ps, e⟩ := splitL_ne 46 l
  rw [verL_split l 0 0 false p ps e (by omega) (by omega), goodFrom_zero, verS, e, List.all_cons, List.length_cons]
  congr 1
  rw [show (ps.length + 1 == 3) = decide (ps.length + 1 = 3) from rfl]
  congr 1
  apply propext
  omega
theorem ver_l0 (x : ByteArray) (hx : x.size ≤ 4611686018427387904) : ∀ m (i p d : Nat) (z : Bool), i + m = x.size → p ≤ i → d ≤ i → (0 < d → z = ((bytesOf x).getD (i - d) 0 == 48)) → Evr (fun k => scarfref10_Version.l0 k x (p : Int) (d : Int) (i : Int)) (verL p d z ((bytesOf x).drop i)) := by
  intro m
  induction m with
  | zero =>
    intro i p d z hi hp hd hz
    rw [List.drop_of_length_le (by rw [bytesOf_length]; omega), verL]
    by_cases h2 : p = 2
    · refine Evr.step ?_ (fun k => by rw [scarfref10_Version.l0, if_neg (by omega), if_pos (by omega)])
      refine Evr.const ?_
      subst h2
      simp
    · refine Evr.step ?_ (fun k => by rw [scarfref10_Version.l0, if_neg (by omega), if_neg (by omega)])
      refine Evr.const ?_
      simp [h2]
  | succ m ih =>
    intro i p d z hi hp hd hz
    have hl : i < (bytesOf x).length := by rw [bytesOf_length]; omega
    have hw : wrap64 ((i : Int) + 1) = ((i + 1 : Nat) : Int) := by rw [wrap64_id (by omega) (by omega)]; omega
    have hwp : wrap64 ((p : Int) + 1) = ((p + 1 : Nat) : Int) := by rw [wrap64_id (by omega) (by omega)]; omega
    have hwd : wrap64 ((d : Int) + 1) = ((d + 1 : Nat) : Int) := by rw [wrap64_id (by omega) (by omega)]; omega
    rw [drop_cons hl, verL]
    generalize hc : (bytesOf x).getD i 0 = c
    by_cases h46 : c = 46
    · rw [if_pos h46]
      by_cases h0 : d = 0
      · rw [if_pos h0]
        exact Evr.step Evr.ret (fun k => by rw [scarfref10_Version.l0, if_pos (by omega), if_pos (by omega), bt_nat, hc, if_pos h46, if_pos (by omega)])
      · rw [if_neg h0]
        have := ih (i + 1) (p + 1) 0 false (by omega) (by omega) (by omega) (by omega)
        exact Evr.step this (fun k => by rw [scarfref10_Version.l0, if_pos (by omega), if_pos (by omega), bt_nat, hc, if_pos h46, if_neg (by omega), hw, hwp]; rfl)
    · rw [if_neg h46]
      refine Evr.step ?_ (fun k => by rw [scarfref10_Version.l0, if_pos (by omega), if_pos (by omega), bt_nat, hc, if_neg h46])
      refine Evr.bind (kind_ev c) ?_
      by_cases hdi : lxDi c = false
      · rw [if_pos hdi]
        refine Evr.eqs Evr.ret (fun k => by rw [if_neg (by rw [kind_di, hdi]; decide)])
      · rw [if_neg hdi]
        have hdi' : lxDi c = true := by simpa using hdi
        refine Evr.eqs ?_ (fun k => by rw [if_pos ((kind_di c).2 hdi')])
        by_cases h9 : d = 9
        · rw [if_pos h9]
          exact Evr.eqs Evr.ret (fun k => by rw [if_pos (by omega)])
        · rw [if_neg h9]
          by_cases h1 : d = 1
          · have hw1 : wrap64 ((i : Int) - 1) = ((i - 1 : Nat) : Int) := by rw [wrap64_id (by omega) (by omega)]; omega
            have hz1 := hz (by omega)
            rw [h1] at hz1
            by_cases h48 : (bytesOf x).getD (i - 1) 0 = 48
            · rw [if_pos ⟨h1, by rw [hz1]; simpa using h48⟩]
              exact Evr.eqs Evr.ret (fun k => by rw [if_neg (by omega), if_pos (by omega), if_pos (by rw [hw1]; omega), if_pos (by rw [hw1]; omega), hw1, bt_nat, if_pos h48])
            · rw [if_neg (by rintro ⟨_, h⟩; rw [hz1] at h; exact h48 (by simpa using h)), if_neg (by omega)]
              have := ih (i + 1) p (d + 1) z (by omega) (by omega) (by omega) (fun _ => by rw [hz (by omega)]; congr 2; omega)
              exact Evr.eqs this (fun k => by rw [if_neg (by omega), if_pos (by omega), if_pos (by rw [hw1]; omega), if_pos (by rw [hw1]; omega), hw1, bt_nat, if_neg h48, hw, hwd])
          · rw [if_neg (fun h => h1 h.1)]
            have := ih (i + 1) p (d + 1) (if d = 0 then c == 48 else z) (by omega) (by omega) (by omega) (fun _ => by
              by_cases h0 : d = 0
              · rw [if_pos h0, h0, show i + 1 - (0 + 1) = i by omega, hc]
              · rw [if_neg h0, hz (by omega)]; congr 2; omega)
            exact Evr.eqs this (fun k => by rw [if_neg (by omega), if_neg (by omega), hw, hwd])
theorem Version_ref (x : ByteArray) (hx : x.size ≤ 4611686018427387904) : Evr (fun k => scarfref10_Version.f k x) (verS (bytesOf x)) := by
  have := ver_l0 x hx x.size 0 0 0 false (by omega) (by omega) (by omega) (by omega)
  rw [List.drop_zero, verL_eq] at this
  exact this
end Go.Proofs.YtlggjgpdiffajaaDoor.LexK
namespace Go.Proofs.YtlggjgpdiffajaaDoor.PA
set_option maxRecDepth 100000
open Go.Proofs.YtlggjgpdiffajaaDoorW.PrintWords Go.Proofs.YtlggjgpdiffajaaDoor.Ev
theorem awake_at : scarflaw10_awake.f 60 = some true := by decide +kernel
theorem awake_ev : Evr (fun k => scarflaw10_awake.f k) true := ⟨60, fun _ hk => at_rounds scarflaw10_awake.mono hk awake_at⟩
end Go.Proofs.YtlggjgpdiffajaaDoor.PA
namespace Go.Proofs.YtlggjgpdiffajaaDoor.LexN
set_option linter.unusedVariables false
set_option linter.unusedSimpArgs false
open Go.RowKit Go.Proofs.YtlggjgpdiffajaaDoor.PA Go.Proofs.YtlggjgpdiffajaaDoorW.PrintWords Go.Proofs.YtlggjgpdiffajaaDoorW.PrintLast Go.Proofs.YtlggjgpdiffajaaDoorW.PrintMore
open Go.Proofs.YtlggjgpdiffajaaDoor.Str Go.Proofs.YtlggjgpdiffajaaDoor.Ev Go.Proofs.YtlggjgpdiffajaaDoor.LexM Go.Proofs.YtlggjgpdiffajaaDoor.LexK
theorem rdOf_nat (l : List ByteArray) (i : Nat) (b : ByteArray) (r : List ByteArray) (h : l.drop i = b :: r) : rdOf ByteArray.empty l (i : Int) = b ∧ i < l.length ∧ l.drop (i + 1) = r := by
  have hi : i < l.length := by
    by_cases hi : i < l.length
    · exact hi
    · rw [List.drop_of_length_le (by omega)] at h; cases h
  rw [List.drop_eq_getElem_cons hi] at h
  injection h with h1 h2
  refine ⟨?_, hi, h2⟩
  rw [← h1]
  simp [rdOf, List.getD, List.getElem?_eq_getElem hi]
theorem word_l0 (x : ByteArray) (l : List ByteArray) (hl : l.length ≤ 4611686018427387904) : ∀ (r : List ByteArray) (i : Nat), l.drop i = r → Evr (fun k => scarfref10_Word.l0 k x l (i : Int)) (r.any fun b => decide (b.toList = x.toList)) := by
  intro r
  induction r with
  | nil =>
    intro i h
    have hi : l.length ≤ i := by rw [List.drop_eq_nil_iff] at h; exact h
    exact Evr.step Evr.ret (fun k => by rw [scarfref10_Word.l0, if_neg (by omega)]; rfl)
  | cons b r ih =>
    intro i h
    obtain ⟨h1, h2, h3⟩ := rdOf_nat l i b r h
    have hw : wrap64 ((i : Int) + 1) = ((i + 1 : Nat) : Int) := by rw [wrap64_id (by omega) (by omega)]; omega
    rw [List.any_cons]
    by_cases hb : b.toList = x.toList
    · rw [show decide (b.toList = x.toList) = true by simp [hb], Bool.true_or]
      exact Evr.step Evr.ret (fun k => by rw [scarfref10_Word.l0, if_pos (by omega), if_pos (by omega), h1, if_pos hb])
    · rw [show decide (b.toList = x.toList) = false by simp [hb], Bool.false_or]
      exact Evr.step (ih (i + 1) h3) (fun k => by rw [scarfref10_Word.l0, if_pos (by omega), if_pos (by omega), h1, if_neg hb, hw])
theorem Word_same (x : ByteArray) : ∃ b, lex_Word.f x = some b ∧ Evr (fun k => scarfref10_Word.f k x) b := by
  obtain ⟨l, hl⟩ : ∃ l, scarfref10_words.f = some l := ⟨_, rfl⟩
  have hr : Evr (fun k => scarfref10_Word.f k x) (l.any fun b => decide (b.toList = x.toList)) := by
    have hn : l.length ≤ 4611686018427387904 := by
      have := hl
      unfold scarfref10_words.f at this
      injection this with this
      rw [← this]; decide
    refine Evr.eqs (h := fun k => scarfref10_Word.l0 k x l 0) (word_l0 x l hn l 0 rfl) (fun k => by rw [scarfref10_Word.f, hl]; rfl)
  refine ⟨_, ?_, hr⟩
  unfold scarfref10_words.f at hl
  injection hl with hl
  rw [← hl]
  simp only [List.any_cons, List.any_nil, Bool.or_false, ByteArray.toList_eq]
  have flip : ∀ (a b : List UInt8), decide (a = b) = decide (b = a) := fun a b => by congr 1; exact propext eq_comm
  unfold lex_Word.f
  have hx : x.toList = x.data.toList := ByteArray.toList_eq x
  rw [hx]
  generalize x.data.toList = y
  have or_step : ∀ (p : Prop) [Decidable p] (b : Bool) (o : Option Bool), o = some b → (if p then some true else o) = some (decide p || b) := by
    intro p _ b o h
    by_cases hp : p
    · rw [if_pos hp]; simp [hp]
    · rw [if_neg hp, h]; simp [hp]
  have last : ∀ (p : Prop) [Decidable p], (if p then some true else some false) = some (decide p) := by
    intro p _
    by_cases hp : p <;> simp [hp]
  simp only [flip _ y]
  repeat (first | exact last _ | refine or_step _ _ _ ?_)
theorem lexNames : scarflaw10_LexNames.Pure := by
  intro a0 h0
  obtain ⟨b, hw, hr⟩ := Word_same a0
  refine Evr.out (v := true) ?_
  refine Evr.eqs ?_ (fun k => by rw [scarflaw10_LexNames.f, Name_eq, Option.bind_some])
  refine Evr.bind (Name_ref a0 (by omega)) ?_
  refine Evr.eqs ?_ (fun k => by rw [if_pos (by simp), hw, Option.bind_some])
  refine Evr.bind hr ?_
  refine Evr.eqs ?_ (fun k => by rw [if_pos (by simp), Version_eq a0 (by omega), Option.bind_some])
  refine Evr.bind (Version_ref a0 (by omega)) ?_
  refine Evr.eqs ?_ (fun k => by rw [if_pos (by simp)])
  exact Evr.bind (awake_ev) Evr.ret
end Go.Proofs.YtlggjgpdiffajaaDoor.LexN
namespace Go.Proofs.YtlggjgpdiffajaaDoor.Pure
open Go.RowKit Go.Proofs.YtlggjgpdiffajaaDoor.PA Go.Proofs.YtlggjgpdiffajaaDoorW.PrintWords Go.Proofs.YtlggjgpdiffajaaDoorW.PrintLast
theorem LexNames : scarflaw10_LexNames.Pure :=
  Go.Proofs.YtlggjgpdiffajaaDoor.LexN.lexNames
end Go.Proofs.YtlggjgpdiffajaaDoor.Pure
