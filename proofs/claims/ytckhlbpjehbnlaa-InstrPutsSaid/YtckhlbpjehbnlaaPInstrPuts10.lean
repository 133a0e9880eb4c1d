/- Several texts, laid into one for a claim: PBx55, PBx56, Str, LebS, InstrL, InstrLr, PBx43, InstrSh, InstrAw, InstrShl, PBx57, PBx58, InstrB, InstrN, Reads, InstrRd, InstrK, InstrF, InstrC, InstrG, InstrH, InstrS. -/
import Derived.Test.YtckhlbpjehbnlaaPInstrPuts1
import Derived.Test.YtckhlbpjehbnlaaPInstrPuts8
import Derived.Test.YtckhlbpjehbnlaaPInstrPuts9
import Derived.Test.YtckhlbpjehbnlaaPInstrPuts2
import Derived.Test.YtckhlbpjehbnlaaPInstrPuts3
import Derived.Test.YtckhlbpjehbnlaaPInstrPuts4
import Derived.Test.YtckhlbpjehbnlaaPInstrPuts0
import Derived.Test.YtckhlbpjehbnlaaPInstrPuts6
import Derived.Test.YtckhlbpjehbnlaaPInstrPuts7
import Derived.ChangeArms
import Derived.ChangeShapes
import Derived.DataReads
import Derived.SizedLaws
namespace Go.Proofs.Ytckhlbpjehbnlaa.PB
open Go.RowKit Go.Proofs.YtckhlbpjehbnlaaW.PrintWords Go.Proofs.YtckhlbpjehbnlaaW.PrintLast Go.Proofs.YtckhlbpjehbnlaaW.PrintMore
attribute [local go_sem] max2_int min2_int max_two min_two max_three min_three max_four min_four   -- for this text's walks alone
set_option linter.unusedVariables false
set_option linter.unusedSimpArgs false
def scarfref05_Put.f (k : Nat) (l0 : List (S54)) : Option (ByteArray × Int) := (scarfref05_Count.f k l0 0).bind fun t352 => (if t352 < 0 then (some ((⟨#[]⟩ : ByteArray), 1)) else ((scarfref05_text.f l0).bind fun t353 => ((scarfref05_byte1.f 11).bind fun t354 => (if t353.size + t354.size ≤ 9223372036854775807 then (some (t353 ++ t354, 0)) else (none)))))
set_option maxHeartbeats 8000000 in
set_option maxRecDepth 100000 in
theorem scarfref05_Put.calls (k : Nat) (A0 : Option Addr) (c0 : Nat) (l0 : List (S54)) (r1 : ByteArray) (r2 : Int) (w : World) (hr0 : Kd.C k54 w A0 l0.length l0) (hc0 : l0.length ≤ c0) (h : scarfref05_Put.f k l0 = some (r1, r2)) :
 Calls Try.prog 16 #[.slice A0 l0.length c0] w fun e w' => e = .returned (.tuple #[.string r1, .int .i64 r2]) ∧ Below w.heap.size w w' := by
 have HR0 := Aside0.mk hr0; have HC0 := Aside0.mk hc0; clear hr0 hc0; have HB := Aside0.mk (Below.refl w.heap.size w); have H : ((scarfref05_Count.f k l0 0).bind fun t352 => (if t352 < 0 then (some ((⟨#[]⟩ : ByteArray), 1)) else ((scarfref05_text.f l0).bind fun t353 => ((scarfref05_byte1.f 11).bind fun t354 => (if t353.size + t354.size ≤ 9223372036854775807 then (some (t353 ++ t354, 0)) else (none)))))) = some (r1, r2) := h; clear h; replace H := Option.bind_eq_some_iff.mp H; obtain ⟨t352, A20, H⟩ := H; replace H : (if t352 < 0 then (some ((⟨#[]⟩ : ByteArray), 1)) else ((scarfref05_text.f l0).bind fun t353 => ((scarfref05_byte1.f 11).bind fun t354 => (if t353.size + t354.size ≤ 9223372036854775807 then (some (t353 ++ t354, 0)) else (none))))) = some (r1, r2) := H; have A2 := Aside0.mk A20; clear A20; by_cases c3 : t352 < 0
 ·rw [if_pos c3] at H; have c3b0 : decide (t352 < 0) = true := decide_eq_true c3; clear c3; simp only [Option.some.injEq, Prod.mk.injEq] at H; obtain ⟨rfl, rfl⟩ := H; go_enter Try.func16, Try.ntmps16; go_wp2_with (first | ((with_reducible refine gate_callee (f := 18) rfl ?_); refine goesL_ (some 5) rfl rfl Try.func18 (by kernel_rfl) rfl #[.slice A0 l0.length c0, .int .i64 0] rfl (by (try simp only [List.map_toArray, List.map_cons, List.map_nil]); first | done | rfl | (simp only [List.length_drop, List.length_take]; rfl)) ?_; (with_reducible refine (scarfref05_Count.calls k _ _ l0 0 t352 _ ?side1 ?side2 A2.out).mono ?_); (case side1 => repeat (first | exact HR0.out | (with_reducible refine Kd.C_alloc ?_ _) | (with_reducible refine Kd.C_drewN ?_ _) | (with_reducible refine Kd.C_drew ?_))); (case side2 => exact HC0.out); rintro e w4 ⟨rfl, hb⟩; refine ⟨_, rfl, ?_⟩; have n0_ := Aside0.mk (below_step (by repeat (first | (with_reducible first | exact HB.out | apply below_alloc | apply pw_below_drewN | apply below_drew1) | exact HB.out)) hb); clear HB; have HB := n0_; clear n0_; (try clear hb); (try clear hb2); (try clear hk); (try clear hi)))
  go_ret2
  exact ⟨by first | rfl | (simp [errW_none, errW_some] <;> rfl) | (simp [*, errW_none, errW_some] <;> rfl), by repeat (first | (with_reducible first | exact HB.out | apply below_alloc | apply pw_below_drewN | apply below_drew1) | exact HB.out)⟩
 ·rw [if_neg c3] at H; have c3b0 : decide (t352 < 0) = false := decide_eq_false c3; clear c3; replace H := Option.bind_eq_some_iff.mp H; obtain ⟨t353, A50, H⟩ := H; replace H : ((scarfref05_byte1.f 11).bind fun t354 => (if t353.size + t354.size ≤ 9223372036854775807 then (some (t353 ++ t354, 0)) else (none))) = some (r1, r2) := H; have A5 := Aside0.mk A50; clear A50; replace H := Option.bind_eq_some_iff.mp H; obtain ⟨t354, A60, H⟩ := H; replace H : (if t353.size + t354.size ≤ 9223372036854775807 then (some (t353 ++ t354, 0)) else (none)) = some (r1, r2) := H; have A6 := Aside0.mk A60; clear A60; by_cases c7 : t353.size + t354.size ≤ 9223372036854775807
  ·rw [if_pos c7] at H; have c7b0 := eq_true c7; have c7b1 : decide (t353.size + t354.size ≤ 9223372036854775807) = true := decide_eq_true c7; try have c7b2 : (9223372036854775807 < t353.size + t354.size) = False := eq_false (Nat.not_lt.2 c7)
   simp only [Option.some.injEq, Prod.mk.injEq] at H; obtain ⟨rfl, rfl⟩ := H; go_enter Try.func16, Try.ntmps16; go_wp2_with (first | ((with_reducible refine gate_callee (f := 18) rfl ?_); refine goesL_ (some 5) rfl rfl Try.func18 (by kernel_rfl) rfl #[.slice A0 l0.length c0, .int .i64 0] rfl (by (try simp only [List.map_toArray, List.map_cons, List.map_nil]); first | done | rfl | (simp only [List.length_drop, List.length_take]; rfl)) ?_; (with_reducible refine (scarfref05_Count.calls k _ _ l0 0 t352 _ ?side1 ?side2 A2.out).mono ?_); (case side1 => repeat (first | exact HR0.out | (with_reducible refine Kd.C_alloc ?_ _) | (with_reducible refine Kd.C_drewN ?_ _) | (with_reducible refine Kd.C_drew ?_))); (case side2 => exact HC0.out); rintro e w8 ⟨rfl, hb⟩; refine ⟨_, rfl, ?_⟩; have n0_ := Aside0.mk (below_step (by repeat (first | (with_reducible first | exact HB.out | apply below_alloc | apply pw_below_drewN | apply below_drew1) | exact HB.out)) hb); clear HB; have HB := n0_; clear n0_; (try clear hb); (try clear hb2); (try clear hk); (try clear hi)) | ((with_reducible refine gate_callee (f := 31) rfl ?_); refine goesL_ (some 8) rfl rfl Try.func31 (by kernel_rfl) rfl #[.slice A0 l0.length c0] rfl (by (try simp only [List.map_toArray, List.map_cons, List.map_nil]); first | done | rfl | (simp only [List.length_drop, List.length_take]; rfl)) ?_; (with_reducible refine (scarfref05_text.calls _ _ l0 t353 _ ?side1 ?side2 A5.out).mono ?_); (case side1 => repeat (first | exact (Kd.C_below HR0.out HB.out) | (with_reducible refine Kd.C_alloc ?_ _) | (with_reducible refine Kd.C_drewN ?_ _) | (with_reducible refine Kd.C_drew ?_))); (case side2 => exact HC0.out); rintro e w9 ⟨rfl, hb⟩; refine ⟨_, rfl, ?_⟩; have n0_ := Aside0.mk (below_step (by repeat (first | (with_reducible first | exact HB.out | apply below_alloc | apply pw_below_drewN | apply below_drew1) | exact HB.out)) hb); clear HB; have HB := n0_; clear n0_; (try clear hb); (try clear hb2); (try clear hk); (try clear hi)) | ((with_reducible refine gate_callee (f := 32) rfl ?_); refine goesL_ (some 9) rfl rfl Try.func32 (by kernel_rfl) rfl #[.int .i64 11] rfl (by (try simp only [List.map_toArray, List.map_cons, List.map_nil]); first | done | rfl | (simp only [List.length_drop, List.length_take]; rfl)) ?_; (with_reducible refine (scarfref05_byte1.calls 11 t354 _ A6.out).mono ?_); rintro e w10 ⟨rfl, hb⟩; refine ⟨_, rfl, ?_⟩; have n0_ := Aside0.mk (below_step (by repeat (first | (with_reducible first | exact HB.out | apply below_alloc | apply pw_below_drewN | apply below_drew1) | exact HB.out)) hb); clear HB; have HB := n0_; clear n0_; (try clear hb); (try clear hb2); (try clear hk); (try clear hi)))
   go_ret2
   exact ⟨by first | rfl | (simp [errW_none, errW_some] <;> rfl) | (simp [*, errW_none, errW_some] <;> rfl), by repeat (first | (with_reducible first | exact HB.out | apply below_alloc | apply pw_below_drewN | apply below_drew1) | exact HB.out)⟩
  ·rw [if_neg c7] at H; exact absurd H (by simp)
def scarflaw05_InstrPuts.f (k : Nat) (l0 : List (S54)) : Option (Bool) := (instr_Put.f l0).bind fun bt355 => ((scarfref05_Put.f k l0).bind fun bt357 => ((instr_Count.f k l0).bind fun bt359 => ((scarfref05_Count.f k l0 0).bind fun t361 => (if bt355.1.toList = bt357.1.toList then (if bt355.2 = bt357.2 then (if bt359.1 = (mx t361 0) then (if (bt359.2 == (decide (t361 ≥ 0))) = true then ((scarflaw05_awake.f k).bind fun t362 => (some t362)) else (some false)) else (some false)) else (some false)) else (some false)))))
set_option maxHeartbeats 8000000 in
set_option maxRecDepth 100000 in
theorem scarflaw05_InstrPuts.calls (k : Nat) (A0 : Option Addr) (c0 : Nat) (l0 : List (S54)) (r : Bool) (w : World) (hr0 : Kd.C k54 w A0 l0.length l0) (hc0 : l0.length ≤ c0) (h : scarflaw05_InstrPuts.f k l0 = some r) :
 Calls Try.prog 4 #[.slice A0 l0.length c0] w fun e w' => e = .returned (.bool r) ∧ Below w.heap.size w w' := by
 have HR0 := Aside0.mk hr0; have HC0 := Aside0.mk hc0; clear hr0 hc0; have HB := Aside0.mk (Below.refl w.heap.size w); have H : ((instr_Put.f l0).bind fun bt355 => ((scarfref05_Put.f k l0).bind fun bt357 => ((instr_Count.f k l0).bind fun bt359 => ((scarfref05_Count.f k l0 0).bind fun t361 => (if bt355.1.toList = bt357.1.toList then (if bt355.2 = bt357.2 then (if bt359.1 = (mx t361 0) then (if (bt359.2 == (decide (t361 ≥ 0))) = true then ((scarflaw05_awake.f k).bind fun t362 => (some t362)) else (some false)) else (some false)) else (some false)) else (some false)))))) = some r := h; clear h; replace H := Option.bind_eq_some_iff.mp H; obtain ⟨⟨t355, t356⟩, A20, H⟩ := H; replace H : ((scarfref05_Put.f k l0).bind fun bt357 => ((instr_Count.f k l0).bind fun bt359 => ((scarfref05_Count.f k l0 0).bind fun t361 => (if t355.toList = bt357.1.toList then (if t356 = bt357.2 then (if bt359.1 = (mx t361 0) then (if (bt359.2 == (decide (t361 ≥ 0))) = true then ((scarflaw05_awake.f k).bind fun t362 => (some t362)) else (some false)) else (some false)) else (some false)) else (some false))))) = some r := H; have A2 := Aside0.mk A20; clear A20; replace H := Option.bind_eq_some_iff.mp H; obtain ⟨⟨t357, t358⟩, A30, H⟩ := H; replace H : ((instr_Count.f k l0).bind fun bt359 => ((scarfref05_Count.f k l0 0).bind fun t361 => (if t355.toList = t357.toList then (if t356 = t358 then (if bt359.1 = (mx t361 0) then (if (bt359.2 == (decide (t361 ≥ 0))) = true then ((scarflaw05_awake.f k).bind fun t362 => (some t362)) else (some false)) else (some false)) else (some false)) else (some false)))) = some r := H; have A3 := Aside0.mk A30; clear A30; replace H := Option.bind_eq_some_iff.mp H; obtain ⟨⟨t359, t360⟩, A40, H⟩ := H; replace H : ((scarfref05_Count.f k l0 0).bind fun t361 => (if t355.toList = t357.toList then (if t356 = t358 then (if t359 = (mx t361 0) then (if (t360 == (decide (t361 ≥ 0))) = true then ((scarflaw05_awake.f k).bind fun t362 => (some t362)) else (some false)) else (some false)) else (some false)) else (some false))) = some r := H; have A4 := Aside0.mk A40; clear A40; replace H := Option.bind_eq_some_iff.mp H; obtain ⟨t361, A50, H⟩ := H; replace H : (if t355.toList = t357.toList then (if t356 = t358 then (if t359 = (mx t361 0) then (if (t360 == (decide (t361 ≥ 0))) = true then ((scarflaw05_awake.f k).bind fun t362 => (some t362)) else (some false)) else (some false)) else (some false)) else (some false)) = some r := H; have A5 := Aside0.mk A50; clear A50; by_cases c6 : t355.toList = t357.toList
 ·rw [if_pos c6] at H; have c6b0 : (t355.toList == t357.toList) = true := beq_iff_eq.mpr c6; have c6b1 : (t355.toList != t357.toList) = false := bne_eq_false_iff_eq.mpr c6; clear c6; by_cases c7 : t356 = t358
  ·rw [if_pos c7] at H; have c7b0 : (t356 == t358) = true := beq_iff_eq.mpr c7; have c7b1 : (t356 != t358) = false := bne_eq_false_iff_eq.mpr c7; clear c7; obtain ⟨ji8, hji8⟩ : ∃ j_ : Int, (mx t361 0) = j_ := ⟨_, rfl⟩
   replace H : (if t359 = (ji8) then (if (t360 == (decide (t361 ≥ 0))) = true then ((scarflaw05_awake.f k).bind fun t362 => (some t362)) else (some false)) else (some false)) = some r := by first | (rw [hji8] at H; exact H) | (simp only [hji8] at H ⊢; exact H)
   (try rw [hji8] at A2); (try rw [hji8] at A3); (try rw [hji8] at A4); (try rw [hji8] at A5); (try (have hji8l : 0 ≤ ji8 := by (rw [← hji8]; unfold mx; (repeat' split) <;> omega))); (try (have hji8m : 0 ≤ ji8 := by omega)); have hji8_ : (if t361 < 0 then 0 else t361) = ji8 := hji8; by_cases c9 : t359 = (ji8)
   ·rw [if_pos c9] at H; have c9b0 : (t359 == (ji8)) = true := beq_iff_eq.mpr c9; have c9b1 : (t359 != (ji8)) = false := bne_eq_false_iff_eq.mpr c9; clear c9; by_cases c10 : (t360 == (decide (t361 ≥ 0))) = true
    ·rw [if_pos c10] at H; have c10b0 : (t360 == (decide (t361 ≥ 0))) = true := c10; (try (have c10b1 : decide (t360 = (decide (t361 ≥ 0))) = true := by simpa using c10)); (try (have c10b2 : (t360 == (decide (t361 ≥ 0))) = true := by simpa using c10)); clear c10; replace H := Option.bind_eq_some_iff.mp H; obtain ⟨t362, A110, H⟩ := H; replace H : (some t362) = some r := H; have A11 := Aside0.mk A110; clear A110; obtain rfl := Option.some.inj H; go_enter Try.func4, Try.ntmps4; go_wp2_with (first | ((with_reducible refine gate_callee (f := 15) rfl ?_); refine goesL_ (some 12) rfl rfl Try.func15 (by kernel_rfl) rfl #[.slice A0 l0.length c0] rfl (by (try simp only [List.map_toArray, List.map_cons, List.map_nil]); first | done | rfl | (simp only [List.length_drop, List.length_take]; rfl)) ?_; (with_reducible refine (instr_Put.calls _ _ l0 t355 t356 _ ?side1 ?side2 A2.out).mono ?_); (case side1 => repeat (first | exact HR0.out | (with_reducible refine Kd.C_alloc ?_ _) | (with_reducible refine Kd.C_drewN ?_ _) | (with_reducible refine Kd.C_drew ?_))); (case side2 => exact HC0.out); rintro e w12 ⟨rfl, hb⟩; refine ⟨_, rfl, ?_⟩; have n0_ := Aside0.mk (below_step (by repeat (first | (with_reducible first | exact HB.out | apply below_alloc | apply pw_below_drewN | apply below_drew1) | exact HB.out)) hb); clear HB; have HB := n0_; clear n0_; (try clear hb); (try clear hb2); (try clear hk); (try clear hi)) | ((with_reducible refine gate_callee (f := 16) rfl ?_); refine goesL_ (some 17) rfl rfl Try.func16 (by kernel_rfl) rfl #[.slice A0 l0.length c0] rfl (by (try simp only [List.map_toArray, List.map_cons, List.map_nil]); first | done | rfl | (simp only [List.length_drop, List.length_take]; rfl)) ?_; (with_reducible refine (scarfref05_Put.calls k _ _ l0 t357 t358 _ ?side1 ?side2 A3.out).mono ?_); (case side1 => repeat (first | exact (Kd.C_below HR0.out HB.out) | (with_reducible refine Kd.C_alloc ?_ _) | (with_reducible refine Kd.C_drewN ?_ _) | (with_reducible refine Kd.C_drew ?_))); (case side2 => exact HC0.out); rintro e w13 ⟨rfl, hb⟩; refine ⟨_, rfl, ?_⟩; have n0_ := Aside0.mk (below_step (by repeat (first | (with_reducible first | exact HB.out | apply below_alloc | apply pw_below_drewN | apply below_drew1) | exact HB.out)) hb); clear HB; have HB := n0_; clear n0_; (try clear hb); (try clear hb2); (try clear hk); (try clear hi)) | ((with_reducible refine gate_callee (f := 17) rfl ?_); refine goesL_ (some 22) rfl rfl Try.func17 (by kernel_rfl) rfl #[.slice A0 l0.length c0] rfl (by (try simp only [List.map_toArray, List.map_cons, List.map_nil]); first | done | rfl | (simp only [List.length_drop, List.length_take]; rfl)) ?_; (with_reducible refine (instr_Count.calls k _ _ l0 t359 t360 _ ?side1 ?side2 A4.out).mono ?_); (case side1 => repeat (first | exact (Kd.C_below HR0.out HB.out) | (with_reducible refine Kd.C_alloc ?_ _) | (with_reducible refine Kd.C_drewN ?_ _) | (with_reducible refine Kd.C_drew ?_))); (case side2 => exact HC0.out); rintro e w14 ⟨rfl, hb⟩; refine ⟨_, rfl, ?_⟩; have n0_ := Aside0.mk (below_step (by repeat (first | (with_reducible first | exact HB.out | apply below_alloc | apply pw_below_drewN | apply below_drew1) | exact HB.out)) hb); clear HB; have HB := n0_; clear n0_; (try clear hb); (try clear hb2); (try clear hk); (try clear hi)) | ((with_reducible refine gate_callee (f := 18) rfl ?_); refine goesL_ (some 26) rfl rfl Try.func18 (by kernel_rfl) rfl #[.slice A0 l0.length c0, .int .i64 0] rfl (by (try simp only [List.map_toArray, List.map_cons, List.map_nil]); first | done | rfl | (simp only [List.length_drop, List.length_take]; rfl)) ?_; (with_reducible refine (scarfref05_Count.calls k _ _ l0 0 t361 _ ?side1 ?side2 A5.out).mono ?_); (case side1 => repeat (first | exact (Kd.C_below HR0.out HB.out) | (with_reducible refine Kd.C_alloc ?_ _) | (with_reducible refine Kd.C_drewN ?_ _) | (with_reducible refine Kd.C_drew ?_))); (case side2 => exact HC0.out); rintro e w15 ⟨rfl, hb⟩; refine ⟨_, rfl, ?_⟩; have n0_ := Aside0.mk (below_step (by repeat (first | (with_reducible first | exact HB.out | apply below_alloc | apply pw_below_drewN | apply below_drew1) | exact HB.out)) hb); clear HB; have HB := n0_; clear n0_; (try clear hb); (try clear hb2); (try clear hk); (try clear hi)) | (go_at_call 14; (with_reducible refine (scarflaw05_awake.calls k  t362 _ A11.out).mono ?_); rintro e w16 ⟨rfl, hb⟩; have n0_ := Aside0.mk (below_step (by repeat (first | (with_reducible first | exact HB.out | apply below_alloc | apply pw_below_drewN | apply below_drew1) | exact HB.out)) hb); clear HB; have HB := n0_; clear n0_; (try clear hb); (try clear hb2); (try clear hk); (try clear hi)))
     go_ret
     exact ⟨by first | rfl | (simp [errW_none, errW_some] <;> rfl) | (simp only [← hji8]; first | rfl | (simp [errW_none, errW_some] <;> rfl)) | (simp [*, errW_none, errW_some] <;> rfl), by repeat (first | (with_reducible first | exact HB.out | apply below_alloc | apply pw_below_drewN | apply below_drew1) | exact HB.out)⟩
    ·rw [if_neg c10] at H; have c10b0 : (t360 == (decide (t361 ≥ 0))) = false := by simpa using c10
     (try (have c10b1 : decide (t360 = (decide (t361 ≥ 0))) = false := by simpa using c10)); (try (have c10b2 : (t360 == (decide (t361 ≥ 0))) = false := by simpa using c10)); (try (have c10b3 : ¬ (t360 = (decide (t361 ≥ 0))) := by simpa using c10)); clear c10; obtain rfl := Option.some.inj H; go_enter Try.func4, Try.ntmps4; go_wp2_with (first | ((with_reducible refine gate_callee (f := 15) rfl ?_); refine goesL_ (some 12) rfl rfl Try.func15 (by kernel_rfl) rfl #[.slice A0 l0.length c0] rfl (by (try simp only [List.map_toArray, List.map_cons, List.map_nil]); first | done | rfl | (simp only [List.length_drop, List.length_take]; rfl)) ?_; (with_reducible refine (instr_Put.calls _ _ l0 t355 t356 _ ?side1 ?side2 A2.out).mono ?_); (case side1 => repeat (first | exact HR0.out | (with_reducible refine Kd.C_alloc ?_ _) | (with_reducible refine Kd.C_drewN ?_ _) | (with_reducible refine Kd.C_drew ?_))); (case side2 => exact HC0.out); rintro e w17 ⟨rfl, hb⟩; refine ⟨_, rfl, ?_⟩; have n0_ := Aside0.mk (below_step (by repeat (first | (with_reducible first | exact HB.out | apply below_alloc | apply pw_below_drewN | apply below_drew1) | exact HB.out)) hb); clear HB; have HB := n0_; clear n0_; (try clear hb); (try clear hb2); (try clear hk); (try clear hi)) | ((with_reducible refine gate_callee (f := 16) rfl ?_); refine goesL_ (some 17) rfl rfl Try.func16 (by kernel_rfl) rfl #[.slice A0 l0.length c0] rfl (by (try simp only [List.map_toArray, List.map_cons, List.map_nil]); first | done | rfl | (simp only [List.length_drop, List.length_take]; rfl)) ?_; (with_reducible refine (scarfref05_Put.calls k _ _ l0 t357 t358 _ ?side1 ?side2 A3.out).mono ?_); (case side1 => repeat (first | exact (Kd.C_below HR0.out HB.out) | (with_reducible refine Kd.C_alloc ?_ _) | (with_reducible refine Kd.C_drewN ?_ _) | (with_reducible refine Kd.C_drew ?_))); (case side2 => exact HC0.out); rintro e w18 ⟨rfl, hb⟩; refine ⟨_, rfl, ?_⟩; have n0_ := Aside0.mk (below_step (by repeat (first | (with_reducible first | exact HB.out | apply below_alloc | apply pw_below_drewN | apply below_drew1) | exact HB.out)) hb); clear HB; have HB := n0_; clear n0_; (try clear hb); (try clear hb2); (try clear hk); (try clear hi)) | ((with_reducible refine gate_callee (f := 17) rfl ?_); refine goesL_ (some 22) rfl rfl Try.func17 (by kernel_rfl) rfl #[.slice A0 l0.length c0] rfl (by (try simp only [List.map_toArray, List.map_cons, List.map_nil]); first | done | rfl | (simp only [List.length_drop, List.length_take]; rfl)) ?_; (with_reducible refine (instr_Count.calls k _ _ l0 t359 t360 _ ?side1 ?side2 A4.out).mono ?_); (case side1 => repeat (first | exact (Kd.C_below HR0.out HB.out) | (with_reducible refine Kd.C_alloc ?_ _) | (with_reducible refine Kd.C_drewN ?_ _) | (with_reducible refine Kd.C_drew ?_))); (case side2 => exact HC0.out); rintro e w19 ⟨rfl, hb⟩; refine ⟨_, rfl, ?_⟩; have n0_ := Aside0.mk (below_step (by repeat (first | (with_reducible first | exact HB.out | apply below_alloc | apply pw_below_drewN | apply below_drew1) | exact HB.out)) hb); clear HB; have HB := n0_; clear n0_; (try clear hb); (try clear hb2); (try clear hk); (try clear hi)) | ((with_reducible refine gate_callee (f := 18) rfl ?_); refine goesL_ (some 26) rfl rfl Try.func18 (by kernel_rfl) rfl #[.slice A0 l0.length c0, .int .i64 0] rfl (by (try simp only [List.map_toArray, List.map_cons, List.map_nil]); first | done | rfl | (simp only [List.length_drop, List.length_take]; rfl)) ?_; (with_reducible refine (scarfref05_Count.calls k _ _ l0 0 t361 _ ?side1 ?side2 A5.out).mono ?_); (case side1 => repeat (first | exact (Kd.C_below HR0.out HB.out) | (with_reducible refine Kd.C_alloc ?_ _) | (with_reducible refine Kd.C_drewN ?_ _) | (with_reducible refine Kd.C_drew ?_))); (case side2 => exact HC0.out); rintro e w20 ⟨rfl, hb⟩; refine ⟨_, rfl, ?_⟩; have n0_ := Aside0.mk (below_step (by repeat (first | (with_reducible first | exact HB.out | apply below_alloc | apply pw_below_drewN | apply below_drew1) | exact HB.out)) hb); clear HB; have HB := n0_; clear n0_; (try clear hb); (try clear hb2); (try clear hk); (try clear hi)))
     go_ret
     exact ⟨by first | rfl | (simp [errW_none, errW_some] <;> rfl) | (simp only [← hji8]; first | rfl | (simp [errW_none, errW_some] <;> rfl)) | (simp [*, errW_none, errW_some] <;> rfl), by repeat (first | (with_reducible first | exact HB.out | apply below_alloc | apply pw_below_drewN | apply below_drew1) | exact HB.out)⟩
   ·rw [if_neg c9] at H; have c9b0 : (t359 == (ji8)) = false := beq_eq_false_iff_ne.mpr c9; have c9b1 : (t359 != (ji8)) = true := bne_iff_ne.mpr c9; obtain rfl := Option.some.inj H; go_enter Try.func4, Try.ntmps4; go_wp2_with (first | ((with_reducible refine gate_callee (f := 15) rfl ?_); refine goesL_ (some 12) rfl rfl Try.func15 (by kernel_rfl) rfl #[.slice A0 l0.length c0] rfl (by (try simp only [List.map_toArray, List.map_cons, List.map_nil]); first | done | rfl | (simp only [List.length_drop, List.length_take]; rfl)) ?_; (with_reducible refine (instr_Put.calls _ _ l0 t355 t356 _ ?side1 ?side2 A2.out).mono ?_); (case side1 => repeat (first | exact HR0.out | (with_reducible refine Kd.C_alloc ?_ _) | (with_reducible refine Kd.C_drewN ?_ _) | (with_reducible refine Kd.C_drew ?_))); (case side2 => exact HC0.out); rintro e w21 ⟨rfl, hb⟩; refine ⟨_, rfl, ?_⟩; have n0_ := Aside0.mk (below_step (by repeat (first | (with_reducible first | exact HB.out | apply below_alloc | apply pw_below_drewN | apply below_drew1) | exact HB.out)) hb); clear HB; have HB := n0_; clear n0_; (try clear hb); (try clear hb2); (try clear hk); (try clear hi)) | ((with_reducible refine gate_callee (f := 16) rfl ?_); refine goesL_ (some 17) rfl rfl Try.func16 (by kernel_rfl) rfl #[.slice A0 l0.length c0] rfl (by (try simp only [List.map_toArray, List.map_cons, List.map_nil]); first | done | rfl | (simp only [List.length_drop, List.length_take]; rfl)) ?_; (with_reducible refine (scarfref05_Put.calls k _ _ l0 t357 t358 _ ?side1 ?side2 A3.out).mono ?_); (case side1 => repeat (first | exact (Kd.C_below HR0.out HB.out) | (with_reducible refine Kd.C_alloc ?_ _) | (with_reducible refine Kd.C_drewN ?_ _) | (with_reducible refine Kd.C_drew ?_))); (case side2 => exact HC0.out); rintro e w22 ⟨rfl, hb⟩; refine ⟨_, rfl, ?_⟩; have n0_ := Aside0.mk (below_step (by repeat (first | (with_reducible first | exact HB.out | apply below_alloc | apply pw_below_drewN | apply below_drew1) | exact HB.out)) hb); clear HB; have HB := n0_; clear n0_; (try clear hb); (try clear hb2); (try clear hk); (try clear hi)) | ((with_reducible refine gate_callee (f := 17) rfl ?_); refine goesL_ (some 22) rfl rfl Try.func17 (by kernel_rfl) rfl #[.slice A0 l0.length c0] rfl (by (try simp only [List.map_toArray, List.map_cons, List.map_nil]); first | done | rfl | (simp only [List.length_drop, List.length_take]; rfl)) ?_; (with_reducible refine (instr_Count.calls k _ _ l0 t359 t360 _ ?side1 ?side2 A4.out).mono ?_); (case side1 => repeat (first | exact (Kd.C_below HR0.out HB.out) | (with_reducible refine Kd.C_alloc ?_ _) | (with_reducible refine Kd.C_drewN ?_ _) | (with_reducible refine Kd.C_drew ?_))); (case side2 => exact HC0.out); rintro e w23 ⟨rfl, hb⟩; refine ⟨_, rfl, ?_⟩; have n0_ := Aside0.mk (below_step (by repeat (first | (with_reducible first | exact HB.out | apply below_alloc | apply pw_below_drewN | apply below_drew1) | exact HB.out)) hb); clear HB; have HB := n0_; clear n0_; (try clear hb); (try clear hb2); (try clear hk); (try clear hi)) | ((with_reducible refine gate_callee (f := 18) rfl ?_); refine goesL_ (some 26) rfl rfl Try.func18 (by kernel_rfl) rfl #[.slice A0 l0.length c0, .int .i64 0] rfl (by (try simp only [List.map_toArray, List.map_cons, List.map_nil]); first | done | rfl | (simp only [List.length_drop, List.length_take]; rfl)) ?_; (with_reducible refine (scarfref05_Count.calls k _ _ l0 0 t361 _ ?side1 ?side2 A5.out).mono ?_); (case side1 => repeat (first | exact (Kd.C_below HR0.out HB.out) | (with_reducible refine Kd.C_alloc ?_ _) | (with_reducible refine Kd.C_drewN ?_ _) | (with_reducible refine Kd.C_drew ?_))); (case side2 => exact HC0.out); rintro e w24 ⟨rfl, hb⟩; refine ⟨_, rfl, ?_⟩; have n0_ := Aside0.mk (below_step (by repeat (first | (with_reducible first | exact HB.out | apply below_alloc | apply pw_below_drewN | apply below_drew1) | exact HB.out)) hb); clear HB; have HB := n0_; clear n0_; (try clear hb); (try clear hb2); (try clear hk); (try clear hi)))
    go_ret
    exact ⟨by first | rfl | (simp [errW_none, errW_some] <;> rfl) | (simp only [← hji8]; first | rfl | (simp [errW_none, errW_some] <;> rfl)) | (simp [*, errW_none, errW_some] <;> rfl), by repeat (first | (with_reducible first | exact HB.out | apply below_alloc | apply pw_below_drewN | apply below_drew1) | exact HB.out)⟩
  ·rw [if_neg c7] at H; have c7b0 : (t356 == t358) = false := beq_eq_false_iff_ne.mpr c7; have c7b1 : (t356 != t358) = true := bne_iff_ne.mpr c7; obtain rfl := Option.some.inj H; go_enter Try.func4, Try.ntmps4; go_wp2_with (first | ((with_reducible refine gate_callee (f := 15) rfl ?_); refine goesL_ (some 12) rfl rfl Try.func15 (by kernel_rfl) rfl #[.slice A0 l0.length c0] rfl (by (try simp only [List.map_toArray, List.map_cons, List.map_nil]); first | done | rfl | (simp only [List.length_drop, List.length_take]; rfl)) ?_; (with_reducible refine (instr_Put.calls _ _ l0 t355 t356 _ ?side1 ?side2 A2.out).mono ?_); (case side1 => repeat (first | exact HR0.out | (with_reducible refine Kd.C_alloc ?_ _) | (with_reducible refine Kd.C_drewN ?_ _) | (with_reducible refine Kd.C_drew ?_))); (case side2 => exact HC0.out); rintro e w25 ⟨rfl, hb⟩; refine ⟨_, rfl, ?_⟩; have n0_ := Aside0.mk (below_step (by repeat (first | (with_reducible first | exact HB.out | apply below_alloc | apply pw_below_drewN | apply below_drew1) | exact HB.out)) hb); clear HB; have HB := n0_; clear n0_; (try clear hb); (try clear hb2); (try clear hk); (try clear hi)) | ((with_reducible refine gate_callee (f := 16) rfl ?_); refine goesL_ (some 17) rfl rfl Try.func16 (by kernel_rfl) rfl #[.slice A0 l0.length c0] rfl (by (try simp only [List.map_toArray, List.map_cons, List.map_nil]); first | done | rfl | (simp only [List.length_drop, List.length_take]; rfl)) ?_; (with_reducible refine (scarfref05_Put.calls k _ _ l0 t357 t358 _ ?side1 ?side2 A3.out).mono ?_); (case side1 => repeat (first | exact (Kd.C_below HR0.out HB.out) | (with_reducible refine Kd.C_alloc ?_ _) | (with_reducible refine Kd.C_drewN ?_ _) | (with_reducible refine Kd.C_drew ?_))); (case side2 => exact HC0.out); rintro e w26 ⟨rfl, hb⟩; refine ⟨_, rfl, ?_⟩; have n0_ := Aside0.mk (below_step (by repeat (first | (with_reducible first | exact HB.out | apply below_alloc | apply pw_below_drewN | apply below_drew1) | exact HB.out)) hb); clear HB; have HB := n0_; clear n0_; (try clear hb); (try clear hb2); (try clear hk); (try clear hi)) | ((with_reducible refine gate_callee (f := 17) rfl ?_); refine goesL_ (some 22) rfl rfl Try.func17 (by kernel_rfl) rfl #[.slice A0 l0.length c0] rfl (by (try simp only [List.map_toArray, List.map_cons, List.map_nil]); first | done | rfl | (simp only [List.length_drop, List.length_take]; rfl)) ?_; (with_reducible refine (instr_Count.calls k _ _ l0 t359 t360 _ ?side1 ?side2 A4.out).mono ?_); (case side1 => repeat (first | exact (Kd.C_below HR0.out HB.out) | (with_reducible refine Kd.C_alloc ?_ _) | (with_reducible refine Kd.C_drewN ?_ _) | (with_reducible refine Kd.C_drew ?_))); (case side2 => exact HC0.out); rintro e w27 ⟨rfl, hb⟩; refine ⟨_, rfl, ?_⟩; have n0_ := Aside0.mk (below_step (by repeat (first | (with_reducible first | exact HB.out | apply below_alloc | apply pw_below_drewN | apply below_drew1) | exact HB.out)) hb); clear HB; have HB := n0_; clear n0_; (try clear hb); (try clear hb2); (try clear hk); (try clear hi)) | ((with_reducible refine gate_callee (f := 18) rfl ?_); refine goesL_ (some 26) rfl rfl Try.func18 (by kernel_rfl) rfl #[.slice A0 l0.length c0, .int .i64 0] rfl (by (try simp only [List.map_toArray, List.map_cons, List.map_nil]); first | done | rfl | (simp only [List.length_drop, List.length_take]; rfl)) ?_; (with_reducible refine (scarfref05_Count.calls k _ _ l0 0 t361 _ ?side1 ?side2 A5.out).mono ?_); (case side1 => repeat (first | exact (Kd.C_below HR0.out HB.out) | (with_reducible refine Kd.C_alloc ?_ _) | (with_reducible refine Kd.C_drewN ?_ _) | (with_reducible refine Kd.C_drew ?_))); (case side2 => exact HC0.out); rintro e w28 ⟨rfl, hb⟩; refine ⟨_, rfl, ?_⟩; have n0_ := Aside0.mk (below_step (by repeat (first | (with_reducible first | exact HB.out | apply below_alloc | apply pw_below_drewN | apply below_drew1) | exact HB.out)) hb); clear HB; have HB := n0_; clear n0_; (try clear hb); (try clear hb2); (try clear hk); (try clear hi)))
   go_ret
   exact ⟨by first | rfl | (simp [errW_none, errW_some] <;> rfl) | (simp [*, errW_none, errW_some] <;> rfl), by repeat (first | (with_reducible first | exact HB.out | apply below_alloc | apply pw_below_drewN | apply below_drew1) | exact HB.out)⟩
 ·rw [if_neg c6] at H; have c6b0 : (t355.toList == t357.toList) = false := beq_eq_false_iff_ne.mpr c6; have c6b1 : (t355.toList != t357.toList) = true := bne_iff_ne.mpr c6; obtain rfl := Option.some.inj H; go_enter Try.func4, Try.ntmps4; go_wp2_with (first | ((with_reducible refine gate_callee (f := 15) rfl ?_); refine goesL_ (some 12) rfl rfl Try.func15 (by kernel_rfl) rfl #[.slice A0 l0.length c0] rfl (by (try simp only [List.map_toArray, List.map_cons, List.map_nil]); first | done | rfl | (simp only [List.length_drop, List.length_take]; rfl)) ?_; (with_reducible refine (instr_Put.calls _ _ l0 t355 t356 _ ?side1 ?side2 A2.out).mono ?_); (case side1 => repeat (first | exact HR0.out | (with_reducible refine Kd.C_alloc ?_ _) | (with_reducible refine Kd.C_drewN ?_ _) | (with_reducible refine Kd.C_drew ?_))); (case side2 => exact HC0.out); rintro e w29 ⟨rfl, hb⟩; refine ⟨_, rfl, ?_⟩; have n0_ := Aside0.mk (below_step (by repeat (first | (with_reducible first | exact HB.out | apply below_alloc | apply pw_below_drewN | apply below_drew1) | exact HB.out)) hb); clear HB; have HB := n0_; clear n0_; (try clear hb); (try clear hb2); (try clear hk); (try clear hi)) | ((with_reducible refine gate_callee (f := 16) rfl ?_); refine goesL_ (some 17) rfl rfl Try.func16 (by kernel_rfl) rfl #[.slice A0 l0.length c0] rfl (by (try simp only [List.map_toArray, List.map_cons, List.map_nil]); first | done | rfl | (simp only [List.length_drop, List.length_take]; rfl)) ?_; (with_reducible refine (scarfref05_Put.calls k _ _ l0 t357 t358 _ ?side1 ?side2 A3.out).mono ?_); (case side1 => repeat (first | exact (Kd.C_below HR0.out HB.out) | (with_reducible refine Kd.C_alloc ?_ _) | (with_reducible refine Kd.C_drewN ?_ _) | (with_reducible refine Kd.C_drew ?_))); (case side2 => exact HC0.out); rintro e w30 ⟨rfl, hb⟩; refine ⟨_, rfl, ?_⟩; have n0_ := Aside0.mk (below_step (by repeat (first | (with_reducible first | exact HB.out | apply below_alloc | apply pw_below_drewN | apply below_drew1) | exact HB.out)) hb); clear HB; have HB := n0_; clear n0_; (try clear hb); (try clear hb2); (try clear hk); (try clear hi)) | ((with_reducible refine gate_callee (f := 17) rfl ?_); refine goesL_ (some 22) rfl rfl Try.func17 (by kernel_rfl) rfl #[.slice A0 l0.length c0] rfl (by (try simp only [List.map_toArray, List.map_cons, List.map_nil]); first | done | rfl | (simp only [List.length_drop, List.length_take]; rfl)) ?_; (with_reducible refine (instr_Count.calls k _ _ l0 t359 t360 _ ?side1 ?side2 A4.out).mono ?_); (case side1 => repeat (first | exact (Kd.C_below HR0.out HB.out) | (with_reducible refine Kd.C_alloc ?_ _) | (with_reducible refine Kd.C_drewN ?_ _) | (with_reducible refine Kd.C_drew ?_))); (case side2 => exact HC0.out); rintro e w31 ⟨rfl, hb⟩; refine ⟨_, rfl, ?_⟩; have n0_ := Aside0.mk (below_step (by repeat (first | (with_reducible first | exact HB.out | apply below_alloc | apply pw_below_drewN | apply below_drew1) | exact HB.out)) hb); clear HB; have HB := n0_; clear n0_; (try clear hb); (try clear hb2); (try clear hk); (try clear hi)) | ((with_reducible refine gate_callee (f := 18) rfl ?_); refine goesL_ (some 26) rfl rfl Try.func18 (by kernel_rfl) rfl #[.slice A0 l0.length c0, .int .i64 0] rfl (by (try simp only [List.map_toArray, List.map_cons, List.map_nil]); first | done | rfl | (simp only [List.length_drop, List.length_take]; rfl)) ?_; (with_reducible refine (scarfref05_Count.calls k _ _ l0 0 t361 _ ?side1 ?side2 A5.out).mono ?_); (case side1 => repeat (first | exact (Kd.C_below HR0.out HB.out) | (with_reducible refine Kd.C_alloc ?_ _) | (with_reducible refine Kd.C_drewN ?_ _) | (with_reducible refine Kd.C_drew ?_))); (case side2 => exact HC0.out); rintro e w32 ⟨rfl, hb⟩; refine ⟨_, rfl, ?_⟩; have n0_ := Aside0.mk (below_step (by repeat (first | (with_reducible first | exact HB.out | apply below_alloc | apply pw_below_drewN | apply below_drew1) | exact HB.out)) hb); clear HB; have HB := n0_; clear n0_; (try clear hb); (try clear hb2); (try clear hk); (try clear hi)))
  go_ret
  exact ⟨by first | rfl | (simp [errW_none, errW_some] <;> rfl) | (simp [*, errW_none, errW_some] <;> rfl), by repeat (first | (with_reducible first | exact HB.out | apply below_alloc | apply pw_below_drewN | apply below_drew1) | exact HB.out)⟩
end Go.Proofs.Ytckhlbpjehbnlaa.PB
namespace Go.Proofs.Ytckhlbpjehbnlaa.Str
set_option linter.unusedVariables false
set_option linter.unusedSimpArgs false
open Go.RowKit Go.Proofs.YtckhlbpjehbnlaaW.PrintWords Go.Proofs.YtckhlbpjehbnlaaW.PrintLast Go.Proofs.YtckhlbpjehbnlaaW.PrintMore
theorem data_inj {s t : ByteArray} (h : s.data.toList = t.data.toList) : s = t := by
  cases s; cases t
  simp only [ByteArray.mk.injEq]
  exact Array.toList_inj.1 h
theorem drop_cons {l : List Int} {i : Nat} (h : i < l.length) : l.drop i = l.getD i 0 :: l.drop (i + 1) := by
  rw [List.drop_eq_getElem_cons h]
  congr 1
  simp [List.getD, List.getElem?_eq_getElem h]
theorem getD_mem {l : List Int} {i : Nat} (h : i < l.length) : l.getD i 0 ∈ l := by
  simp [List.getD, List.getElem?_eq_getElem h]
theorem strOfNums_append (l m : List Int) : strOfNums (l ++ m) = strOfNums l ++ strOfNums m := by
  apply data_inj
  rw [ByteArray.data_append, Array.toList_append, strOfNums_data, strOfNums_data, strOfNums_data, List.map_append]
/-- Whole numbers of 64 bits. -/
theorem wf64 {n : Int} (h : (Lit.int .i64 n).wf = true) : -9223372036854775808 ≤ n ∧ n < 9223372036854775808 := by
  simp [Lit.wf, IntKind.min, IntKind.max, IntKind.bits, IntKind.signed] at h
  omega
theorem wrap64_id {n : Int} (h0 : -9223372036854775808 ≤ n) (h1 : n < 9223372036854775808) : wrap64 n = n := by
  unfold wrap64; omega
end Go.Proofs.Ytckhlbpjehbnlaa.Str
namespace Go.Proofs.Ytckhlbpjehbnlaa.LebS
set_option linter.unusedVariables false
set_option linter.unusedSimpArgs false
open Go.Proofs.Ytckhlbpjehbnlaa.Str
/-- The unsigned encoding. -/
def pu (n : Nat) : List Int := if n < 128 then [(n : Int)] else ((n % 128 + 128 : Nat) : Int) :: pu (n / 128)
termination_by n
decreasing_by omega
/-- The signed encoding. -/
def ps (n : Int) : List Int := if -64 ≤ n ∧ n < 64 then [n % 128] else (n % 128 + 128) :: ps (n / 128)
termination_by n.natAbs
decreasing_by omega
/-- How many bytes the number has with which the list begins, at most so many; 0: none. -/
def len : List Int → Nat → Nat
  | _, 0 => 0
  | [], _ + 1 => 0
  | c :: l, m + 1 => if c < 128 then 1 else if len l m = 0 then 0 else len l m + 1
/-- The number of these groups, the sign being t. -/
def sv (t : Int) : List Int → Int
  | [] => t
  | c :: l => c % 128 + 128 * sv t l
abbrev uv : List Int → Int := sv 0
def sgn (l : List Int) : Int := if l.getD (l.length - 1) 0 % 128 ≥ 64 then -1 else 0
def fitsS (bits v : Int) : Prop := bits = 64 ∨ (bits = 33 ∧ -4294967296 ≤ v ∧ v < 4294967296) ∨ (bits = 32 ∧ -2147483648 ≤ v ∧ v < 2147483648)
instance (bits v : Int) : Decidable (fitsS bits v) := by unfold fitsS; infer_instance
theorem pu_small {n : Nat} (h : n < 128) : pu n = [(n : Int)] := by rw [pu, if_pos h]
theorem pu_big {n : Nat} (h : ¬ n < 128) : pu n = ((n % 128 + 128 : Nat) : Int) :: pu (n / 128) := by rw [pu, if_neg h]
theorem ps_small {n : Int} (h : -64 ≤ n ∧ n < 64) : ps n = [n % 128] := by rw [ps, if_pos h]
theorem ps_big {n : Int} (h : ¬ (-64 ≤ n ∧ n < 64)) : ps n = (n % 128 + 128) :: ps (n / 128) := by rw [ps, if_neg h]
theorem pu_range (n : Nat) : ∀ x ∈ pu n, 0 ≤ x ∧ x < 256 := by
  induction n using Nat.strongRecOn with
  | _ n ih =>
    by_cases h : n < 128
    · rw [pu_small h]
      intro x hx
      simp only [List.mem_singleton] at hx
      omega
    · rw [pu_big h]
      intro x hx
      rcases List.mem_cons.1 hx with rfl | hx
      · omega
      · exact ih (n / 128) (by omega) x hx
theorem ps_range : ∀ (m : Nat) (n : Int), n.natAbs ≤ m → ∀ x ∈ ps n, 0 ≤ x ∧ x < 256 := by
  intro m
  induction m with
  | zero =>
    intro n hn
    rw [ps_small (by omega)]
    intro x hx
    simp only [List.mem_singleton] at hx
    omega
  | succ m ih =>
    intro n hn
    by_cases h : -64 ≤ n ∧ n < 64
    · rw [ps_small h]
      intro x hx
      simp only [List.mem_singleton] at hx
      omega
    · rw [ps_big h]
      intro x hx
      rcases List.mem_cons.1 hx with rfl | hx
      · omega
      · exact ih (n / 128) (by omega) x hx
theorem pu_len : ∀ (j n : Nat), n < 128 ^ (j + 1) → (pu n).length ≤ j + 1 := by
  intro j
  induction j with
  | zero => intro n h; rw [pu_small (by omega)]; simp
  | succ j ih =>
    intro n h
    by_cases h1 : n < 128
    · rw [pu_small h1]; simp
    · rw [pu_big h1]
      have := ih (n / 128) (by rw [Nat.pow_succ] at h; omega)
      simp only [List.length_cons]
      omega
theorem ps_len : ∀ (j : Nat) (n : Int), -(64 * 128 ^ j) ≤ n → n < 64 * 128 ^ j → (ps n).length ≤ j + 1 := by
  intro j
  induction j with
  | zero => intro n h0 h1; rw [ps_small (by omega)]; simp
  | succ j ih =>
    intro n h0 h1
    by_cases h : -64 ≤ n ∧ n < 64
    · rw [ps_small h]; simp
    · rw [ps_big h]
      rw [Int.pow_succ] at h0 h1
      have := ih (n / 128) (by omega) (by omega)
      simp only [List.length_cons]
      omega
/-- A list that is a whole number's, with whatever behind it. -/
inductive Whole : List Int → Prop
  | one {c : Int} (h : c < 128) : Whole [c]
  | more {c : Int} {l : List Int} (h : ¬ c < 128) (k : Whole l) : Whole (c :: l)
theorem Whole.pos {l : List Int} (h : Whole l) : 1 ≤ l.length := by cases h <;> simp
theorem Whole.len {l : List Int} (h : Whole l) (more : List Int) : ∀ m, len (l ++ more) m = if l.length ≤ m then l.length else 0 := by
  induction h with
  | one h =>
    intro m
    cases m with
    | zero => simp [LebS.len]
    | succ m => simp [LebS.len, h]
  | more h k ih =>
    intro m
    cases m with
    | zero => simp [LebS.len]
    | succ m =>
      have hp := k.pos
      simp only [List.cons_append, LebS.len, if_neg h, ih m, List.length_cons]
      rename_i c' l'
      by_cases hm : l'.length ≤ m
      · rw [if_pos hm, if_neg (by omega), if_pos (by omega)]
      · rw [if_neg hm, if_pos rfl, if_neg (by omega)]
theorem sv_uv (t : Int) (l : List Int) : sv t l = uv l + t * 128 ^ l.length := by
  induction l with
  | nil => simp [sv]
  | cons c l ih =>
    have e : t * 128 ^ (c :: l).length = 128 * (t * 128 ^ l.length) := by
      rw [List.length_cons, Int.pow_succ, ← Int.mul_assoc, Int.mul_comm]
    rw [e]
    simp only [sv]
    rw [ih]
    simp only [uv]
    omega
theorem uv_range (l : List Int) : 0 ≤ uv l ∧ uv l < 128 ^ l.length := by
  induction l with
  | nil => simp [sv]
  | cons c l ih =>
    rw [List.length_cons, Int.pow_succ]
    simp only [uv, sv] at ih ⊢
    omega
theorem uv_append (l m : List Int) : uv (l ++ m) = uv l + 128 ^ l.length * uv m := by
  induction l with
  | nil => simp [sv]
  | cons c l ih =>
    have e : 128 ^ (c :: l).length * uv m = 128 * (128 ^ l.length * uv m) := by
      rw [List.length_cons, Int.pow_succ, Int.mul_comm (128 ^ l.length) 128, Int.mul_assoc]
    rw [e]
    simp only [uv, sv, List.cons_append] at ih ⊢
    omega
end Go.Proofs.Ytckhlbpjehbnlaa.LebS
namespace Go.Proofs.Ytckhlbpjehbnlaa.LebF
set_option linter.unusedVariables false
set_option linter.unusedSimpArgs false
open Go.RowKit Go.Proofs.Ytckhlbpjehbnlaa.PB Go.Proofs.YtckhlbpjehbnlaaW.PrintWords Go.Proofs.YtckhlbpjehbnlaaW.PrintLast Go.Proofs.YtckhlbpjehbnlaaW.PrintMore
open Go.Proofs.Ytckhlbpjehbnlaa.Str Go.Proofs.Ytckhlbpjehbnlaa.LebS
theorem or128 (x : Int) : Go.bits .or .u8 (x % 256) 128 = x % 128 + 128 := by
  have h : ∀ y : Fin 256, Go.bits .or .u8 (y.val : Int) 128 = (y.val : Int) % 128 + 128 := by decide +kernel
  have := h ⟨(x % 256).toNat, by omega⟩
  simp only at this
  rw [show (((x % 256).toNat : Nat) : Int) = x % 256 by omega] at this
  rw [this]
  omega
theorem and127 (x : Int) (h0 : 0 ≤ x) (h1 : x < 256) : Go.bits .and .u8 x 127 = x % 128 := by
  have h : ∀ y : Fin 256, Go.bits .and .u8 (y.val : Int) 127 = (y.val : Int) % 128 := by decide +kernel
  have := h ⟨x.toNat, by omega⟩
  simp only at this
  rw [show ((x.toNat : Nat) : Int) = x by omega] at this
  exact this
theorem PutU_l0 : ∀ (j n : Nat) (acc : List Int) (k : Nat), n < 128 ^ (j + 1) → j + 1 ≤ k → acc.length + j + 1 ≤ 1000 → leb_PutU.l0 k (n : Int) acc = some (strOfNums (acc ++ pu n)) := by
  intro j
  induction j with
  | zero =>
    intro n acc k hn hk ha
    obtain ⟨k, rfl⟩ : ∃ m, k = m + 1 := ⟨k - 1, by omega⟩
    simp only [leb_PutU.l0]
    rw [if_neg (by omega), if_pos (by omega), pu_small (by omega), show (n : Int) % 256 = n by omega]
  | succ j ih =>
    intro n acc k hn hk ha
    obtain ⟨k, rfl⟩ : ∃ m, k = m + 1 := ⟨k - 1, by omega⟩
    simp only [leb_PutU.l0]
    by_cases h : n < 128
    · rw [if_neg (by omega), if_pos (by omega), pu_small h, show (n : Int) % 256 = n by omega]
    · rw [Nat.pow_succ] at hn
      rw [if_pos (by omega), if_pos (by omega), pu_big h, or128, show (n : Int) / 128 = ((n / 128 : Nat) : Int) by omega,
        ih (n / 128) _ k (by omega) (by omega) (by simp only [List.length_append, List.length_singleton]; omega)]
      simp only [List.append_assoc, List.singleton_append]
      congr 4
/-- What PutU answers. -/
def puZ (n : Int) : List Int := if n < 0 then [] else pu n.toNat
theorem puZ_len (n : Int) (h1 : n < 9223372036854775808) : (puZ n).length ≤ 9 := by
  unfold puZ
  split
  · simp
  · exact pu_len 8 _ (by omega)
theorem PutU_eq (n : Int) (h1 : n < 9223372036854775808) (k : Nat) (hk : 12 ≤ k) : leb_PutU.f k n = some (strOfNums (puZ n)) := by
  unfold leb_PutU.f puZ
  by_cases h : n < 0
  · rw [if_pos h, if_pos h]; rfl
  · rw [if_neg h, if_neg h]
    have := PutU_l0 9 n.toNat [] k (by omega) (by omega) (by simp)
    rw [show ((n.toNat : Nat) : Int) = n by omega] at this
    rw [this, List.nil_append]
theorem PutS_l0 : ∀ (j : Nat) (n : Int) (acc : List Int) (k : Nat), -(64 * 128 ^ j) ≤ n → n < 64 * 128 ^ j → j + 1 ≤ k → acc.length + j + 1 ≤ 1000 → leb_PutS.l0 k n acc = some (strOfNums (acc ++ ps n)) := by
  intro j
  induction j with
  | zero =>
    intro n acc k h0 h1 hk ha
    obtain ⟨k, rfl⟩ : ∃ m, k = m + 1 := ⟨k - 1, by omega⟩
    simp only [leb_PutS.l0]
    rw [if_neg (by omega), if_neg (by omega), if_pos (by omega), ps_small (by omega), and127 _ (by omega) (by omega), show n % 256 % 128 = n % 128 by omega]
  | succ j ih =>
    intro n acc k h0 h1 hk ha
    obtain ⟨k, rfl⟩ : ∃ m, k = m + 1 := ⟨k - 1, by omega⟩
    simp only [leb_PutS.l0]
    by_cases h : -64 ≤ n ∧ n < 64
    · rw [if_neg (by omega), if_neg (by omega), if_pos (by omega), ps_small h, and127 _ (by omega) (by omega), show n % 256 % 128 = n % 128 by omega]
    · rw [Int.pow_succ] at h0 h1
      have go : leb_PutS.l0 k (n / 128) (acc ++ [Go.bits .or .u8 (n % 256) 128]) = some (strOfNums (acc ++ ps n)) := by
        rw [ps_big h, or128, ih (n / 128) _ k (by omega) (by omega) (by omega) (by simp only [List.length_append, List.length_singleton]; omega)]
        simp only [List.append_assoc, List.singleton_append]
      by_cases h2 : n < -64
      · rw [if_pos h2, if_pos (by omega), go]
      · rw [if_neg h2, if_pos (by omega), if_pos (by omega), go]
theorem PutS_eq (n : Int) (h0 : -9223372036854775808 ≤ n) (h1 : n < 9223372036854775808) (k : Nat) (hk : 12 ≤ k) : leb_PutS.f k n = some (strOfNums (ps n)) := by
  unfold leb_PutS.f
  rw [PutS_l0 9 n [] k (by omega) (by omega) (by omega) (by simp), List.nil_append]
/-- Ten groups, of which the last one is 0 or 127. -/
theorem ten (l : List Int) (hl : l.length = 10) (h : l.getD 9 0 = 0 ∨ l.getD 9 0 = 127) : wrap64 (uv l % 18446744073709551616) = sv (sgn l) l ∧ -9223372036854775808 ≤ sv (sgn l) l ∧ sv (sgn l) l < 9223372036854775808 := by
  have hd : l = l.take 9 ++ [l.getD 9 0] := by
    have := List.take_append_drop 9 l
    rw [drop_cons (by omega)] at this
    rw [List.drop_eq_nil_of_le (by omega)] at this
    exact this.symm
  have hu : uv l = uv (l.take 9) + 128 ^ 9 * (l.getD 9 0 % 128) := by
    conv => lhs; rw [hd]
    rw [uv_append, List.length_take, Nat.min_eq_left (by omega)]
    simp [sv]
  have hr2 := uv_range (l.take 9)
  rw [List.length_take, Nat.min_eq_left (by omega)] at hr2
  rw [sv_uv, hu, hl]
  unfold sgn wrap64
  rw [hl]
  rcases h with h | h <;> simp only [Nat.add_one_sub_one, h] <;> simp <;> omega
/-- Numbers laid one behind the other. -/
def puA : List Int → List Int
  | [] => []
  | x :: l => puZ x ++ puA l
theorem puA_len (l : List Int) (hl : ∀ x ∈ l, (Lit.int .i64 x).wf = true) : (puA l).length ≤ 9 * l.length := by
  induction l with
  | nil => simp [puA]
  | cons a l ih =>
    have := puZ_len a (wf64 (hl a (by simp))).2
    have := ih (fun x hx => hl x (by simp [hx]))
    simp only [puA, List.length_append, List.length_cons]
    omega
theorem PutAll_l0 (l : List Int) (hl : ∀ x ∈ l, (Lit.int .i64 x).wf = true) (hn : l.length ≤ 1000000) :
    ∀ (m i : Nat) (acc : List Int) (k : Nat), i + m = l.length → acc.length + 9 * m ≤ 100000000 → m + 20 ≤ k →
      leb_PutAll.l0 k (strOfNums acc) l (l.length : Int) (i : Int) = some (strOfNums (acc ++ puA (l.drop i))) := by
  intro m
  induction m with
  | zero =>
    intro i acc k hi ha hk
    obtain ⟨k, rfl⟩ : ∃ m, k = m + 1 := ⟨k - 1, by omega⟩
    rw [leb_PutAll.l0, if_neg (by omega), List.drop_eq_nil_of_le (by omega), puA, List.append_nil]
  | succ m ih =>
    intro i acc k hi ha hk
    obtain ⟨k, rfl⟩ : ∃ m, k = m + 1 := ⟨k - 1, by omega⟩
    have hlt : i < l.length := by omega
    have hw := wf64 (hl _ (getD_mem hlt))
    have hz := puZ_len (l.getD i 0) hw.2
    have e : rd l (i : Int) = l.getD i 0 := by simp [rd]
    have hi1 : wrap64 ((i : Int) + 1) = ((i + 1 : Nat) : Int) := by rw [wrap64_id (by omega) (by omega)]; omega
    rw [leb_PutAll.l0, if_pos (by omega), if_pos (by omega), if_pos (by omega), e, PutU_eq _ hw.2 k (by omega)]
    simp only [Option.bind_some]
    rw [if_pos (by rw [strOfNums_size, strOfNums_size]; omega), ← strOfNums_append, hi1, ih (i + 1) _ k (by omega) (by rw [List.length_append]; omega) (by omega), drop_cons hlt, puA, List.append_assoc]
theorem PutAll_eq (l : List Int) (hl : ∀ x ∈ l, (Lit.int .i64 x).wf = true) (hn : l.length ≤ 1000000) (k : Nat) (hk : l.length + 20 ≤ k) :
    leb_PutAll.f k l = some (strOfNums (pu l.length ++ puA l)) := by
  unfold leb_PutAll.f
  have e : puZ (l.length : Int) = pu l.length := by unfold puZ; rw [if_neg (by omega)]; rfl
  have hz := puZ_len (l.length : Int) (by omega)
  rw [PutU_eq _ (by omega) k (by omega)]
  simp only [Option.bind_some]
  have := PutAll_l0 l hl hn l.length 0 (puZ (l.length : Int)) k (by omega) (by omega) (by omega)
  rw [show ((0 : Nat) : Int) = 0 from rfl] at this
  rw [this, e, List.drop_zero]
theorem lone_eq (n : Int) (h0 : 0 ≤ n) (h1 : n < 256) : scarfref01_one.f n = some (strOfNums [n]) := by
  unfold scarfref01_one.f
  rw [show n % 256 = n by omega]
theorem rPutU_nat : ∀ (j n : Nat) (k : Nat), n < 128 ^ (j + 1) → n < 9223372036854775808 → j + 1 ≤ k → j ≤ 100 → scarfref01_PutU.f k (n : Int) = some (strOfNums (pu n)) := by
  intro j
  induction j with
  | zero =>
    intro n k hn _ hk _
    obtain ⟨k, rfl⟩ : ∃ m, k = m + 1 := ⟨k - 1, by omega⟩
    simp only [scarfref01_PutU.f]
    rw [if_neg (by omega), if_pos (by omega), lone_eq _ (by omega) (by omega), pu_small (by omega)]
    rfl
  | succ j ih =>
    intro n k hn hb hk hj
    obtain ⟨k, rfl⟩ : ∃ m, k = m + 1 := ⟨k - 1, by omega⟩
    simp only [scarfref01_PutU.f]
    rw [if_neg (by omega)]
    by_cases h : n < 128
    · rw [if_pos (by omega), lone_eq _ (by omega) (by omega), pu_small h]
      rfl
    · rw [Nat.pow_succ] at hn
      have e1 : wrap64 (128 + Int.tmod (n : Int) 128) = ((n % 128 + 128 : Nat) : Int) := by
        rw [Int.tmod_eq_emod_of_nonneg (by omega), wrap64_id (by omega) (by omega)]
        omega
      have e2 : wrap64 (Int.tdiv (n : Int) 128) = ((n / 128 : Nat) : Int) := by
        rw [Int.tdiv_eq_ediv_of_nonneg (by omega), wrap64_id (by omega) (by omega)]
        omega
      have hl : (pu (n / 128)).length ≤ j + 1 := pu_len j _ (by omega)
      rw [if_neg (by omega), e1, e2, lone_eq _ (by omega) (by omega), ih (n / 128) k (by omega) (by omega) (by omega) (by omega), pu_big h]
      simp only [Option.bind_some]
      rw [if_pos (by rw [strOfNums_size, strOfNums_size, List.length_singleton]; omega), ← strOfNums_append]
      rfl
theorem rPutU_eq (n : Int) (h1 : n < 9223372036854775808) (k : Nat) (hk : 12 ≤ k) : scarfref01_PutU.f k n = some (strOfNums (puZ n)) := by
  unfold puZ
  by_cases h : n < 0
  · obtain ⟨k, rfl⟩ : ∃ m, k = m + 1 := ⟨k - 1, by omega⟩
    simp only [scarfref01_PutU.f]
    rw [if_pos h, if_pos h]; rfl
  · rw [if_neg h]
    have := rPutU_nat 9 n.toNat k (by omega) (by omega) (by omega) (by omega)
    rwa [show ((n.toNat : Nat) : Int) = n by omega] at this
theorem floor_eq (n : Int) (h0 : -9223372036854775808 ≤ n) (h1 : n < 9223372036854775808) : scarfref01_floor.f n = some (n / 128) := by
  unfold scarfref01_floor.f
  by_cases h : n ≥ 0
  · rw [if_pos h, Int.tdiv_eq_ediv_of_nonneg h, wrap64_id (by omega) (by omega)]
  · rw [if_neg h, wrap64_id (n := n + 1) (by omega) (by omega), wrap64_id (n := -(n + 1)) (by omega) (by omega), Int.tdiv_eq_ediv_of_nonneg (by omega),
      wrap64_id (n := -(n + 1) / 128) (by omega) (by omega), wrap64_id (n := -(n + 1) / 128 + 1) (by omega) (by omega), wrap64_id (by omega) (by omega)]
    congr 1
    omega
theorem rPutS_eq' : ∀ (j : Nat) (n : Int) (k : Nat), -9223372036854775808 ≤ n → n < 9223372036854775808 → -(64 * 128 ^ j) ≤ n → n < 64 * 128 ^ j → 2 * j + 2 ≤ k → j ≤ 100 → scarfref01_PutS.f k n = some (strOfNums (ps n)) := by
  intro j
  have small : ∀ (n : Int) (k : Nat), -64 ≤ n ∧ n < 64 → 2 ≤ k → scarfref01_PutS.f k n = some (strOfNums (ps n)) := by
    intro n k h hk
    obtain ⟨k, rfl⟩ : ∃ m, k = m + 2 := ⟨k - 2, by omega⟩
    simp only [scarfref01_PutS.f, scarfref01_PutS.j0]
    rw [if_pos (by omega), if_pos (by simp; omega), wrap64_id (by omega) (by omega), Int.tmod_eq_emod_of_nonneg (by omega), lone_eq _ (by omega) (by omega), ps_small h, show (n + 128) % 128 = n % 128 by omega]
    rfl
  induction j with
  | zero =>
    intro n k _ _ h0 h1 hk _
    exact small n k (by omega) (by omega)
  | succ j ih =>
    intro n k hb0 hb1 h0 h1 hk hj
    by_cases h : -64 ≤ n ∧ n < 64
    · exact small n k h (by omega)
    · obtain ⟨k, rfl⟩ : ∃ m, k = m + 2 := ⟨k - 2, by omega⟩
      rw [Int.pow_succ] at h0 h1
      have e1 : wrap64 (128 + Int.tmod (wrap64 (Int.tmod n 128 + 128)) 128) = n % 128 + 128 := by
        have hm : Int.tmod n 128 = n % 128 ∨ Int.tmod n 128 = n % 128 - 128 := by
          rw [Int.tmod_eq_emod]
          split <;> simp <;> omega
        have : wrap64 (Int.tmod n 128 + 128) = Int.tmod n 128 + 128 := wrap64_id (by omega) (by omega)
        rw [this, Int.tmod_eq_emod_of_nonneg (by omega), wrap64_id (by omega) (by omega)]
        omega
      have hl : (ps (n / 128)).length ≤ j + 1 := ps_len j _ (by omega) (by omega)
      have go : ∀ b : Bool, b = false → scarfref01_PutS.j0 (k + 1) n b = some (strOfNums (ps n)) := by
        intro b hb
        subst hb
        simp only [scarfref01_PutS.j0]
        rw [if_neg (by simp), e1, lone_eq _ (by omega) (by omega), floor_eq n hb0 hb1]
        simp only [Option.bind_some]
        rw [ih (n / 128) k (by omega) (by omega) (by omega) (by omega) (by omega) (by omega), ps_big h]
        simp only [Option.bind_some]
        rw [if_pos (by rw [strOfNums_size, strOfNums_size, List.length_singleton]; omega), ← strOfNums_append]
        rfl
      rw [scarfref01_PutS.f]
      by_cases h2 : n ≥ -64
      · rw [if_pos h2, go _ (by simp; omega)]
      · rw [if_neg h2, go _ rfl]
theorem rPutS_eq (n : Int) (h0 : -9223372036854775808 ≤ n) (h1 : n < 9223372036854775808) (k : Nat) (hk : 22 ≤ k) : scarfref01_PutS.f k n = some (strOfNums (ps n)) :=
  rPutS_eq' 9 n k h0 h1 (by omega) (by omega) (by omega) (by omega)
theorem rPutAll_l0 (l : List Int) (hl : ∀ x ∈ l, (Lit.int .i64 x).wf = true) (hn : l.length ≤ 1000000) :
    ∀ (m i : Nat) (acc : List Int) (k : Nat), i + m = l.length → acc.length + 9 * m ≤ 100000000 → m + 20 ≤ k →
      scarfref01_PutAll.l0 k l (strOfNums acc) (i : Int) = some (strOfNums (acc ++ puA (l.drop i))) := by
  intro m
  induction m with
  | zero =>
    intro i acc k hi ha hk
    obtain ⟨k, rfl⟩ : ∃ m, k = m + 1 := ⟨k - 1, by omega⟩
    rw [scarfref01_PutAll.l0, if_neg (by omega), List.drop_eq_nil_of_le (by omega), puA, List.append_nil]
  | succ m ih =>
    intro i acc k hi ha hk
    obtain ⟨k, rfl⟩ : ∃ m, k = m + 1 := ⟨k - 1, by omega⟩
    have hlt : i < l.length := by omega
    have hw := wf64 (hl _ (getD_mem hlt))
    have hz := puZ_len (l.getD i 0) hw.2
    have e : rd l (i : Int) = l.getD i 0 := by simp [rd]
    have hi1 : wrap64 ((i : Int) + 1) = ((i + 1 : Nat) : Int) := by rw [wrap64_id (by omega) (by omega)]; omega
    rw [scarfref01_PutAll.l0, if_pos (by omega), if_pos (by omega), e, rPutU_eq _ hw.2 k (by omega)]
    simp only [Option.bind_some]
    rw [if_pos (by rw [strOfNums_size, strOfNums_size]; omega), ← strOfNums_append, hi1, ih (i + 1) _ k (by omega) (by rw [List.length_append]; omega) (by omega), drop_cons hlt, puA, List.append_assoc]
theorem rPutAll_eq (l : List Int) (hl : ∀ x ∈ l, (Lit.int .i64 x).wf = true) (hn : l.length ≤ 1000000) (k : Nat) (hk : l.length + 20 ≤ k) :
    scarfref01_PutAll.f k l = some (strOfNums (pu l.length ++ puA l)) := by
  unfold scarfref01_PutAll.f
  have e : puZ (l.length : Int) = pu l.length := by unfold puZ; rw [if_neg (by omega)]; rfl
  have hz := puZ_len (l.length : Int) (by omega)
  rw [rPutU_eq _ (by omega) k (by omega)]
  simp only [Option.bind_some]
  have := rPutAll_l0 l hl hn l.length 0 (puZ (l.length : Int)) k (by omega) (by omega) (by omega)
  rw [show ((0 : Nat) : Int) = 0 from rfl] at this
  rw [this, e, List.drop_zero]
end Go.Proofs.Ytckhlbpjehbnlaa.LebF
namespace Go.Proofs.Ytckhlbpjehbnlaa.PB
open Go.RowKit Go.Proofs.YtckhlbpjehbnlaaW.PrintWords Go.Proofs.YtckhlbpjehbnlaaW.PrintLast Go.Proofs.YtckhlbpjehbnlaaW.PrintMore
attribute [local go_sem] max2_int min2_int max_two min_two max_three min_three max_four min_four   -- for this text's walks alone
set_option linter.unusedVariables false
set_option linter.unusedSimpArgs false
open Go.Proofs.Ytckhlbpjehbnlaa.Str
theorem beq_no {a b : Int} (h : a ≠ b) : (a == b) = false := by simpa using h
def Out (op : Int) : Prop := op < 0 ∨ (255 < op ∧ op < 64512) ∨ 64529 < op
theorem Out.ne {op : Int} (h : Out op) (c : Int) (hc : (0 ≤ c ∧ c ≤ 255) ∨ (64512 ≤ c ∧ c ≤ 64529)) : op ≠ c := by unfold Out at h; omega
theorem Out.nb {op : Int} (h : Out op) (c : Int) (hc : (0 ≤ c ∧ c ≤ 255) ∨ (64512 ≤ c ∧ c ≤ 64529)) : (op == c) = false := beq_no (h.ne c hc)
theorem wid_out (op : Int) (h : Out op) (k : Nat) : mem_Width.f (k + 5) op = some (0, 0, false) := by
  have e : ∀ c : Int, (0 ≤ c ∧ c ≤ 255) → (op = c) = False := fun c hc => eq_false (h.ne c (.inl hc))
  have b : ∀ c : Int, (0 ≤ c ∧ c ≤ 255) → (op == c) = false := fun c hc => h.nb c (.inl hc)
  have j4 : ∀ k, mem_Width.j4 (k + 1) op false = some (0, 0, false) := fun k => by
    simp only [mem_Width.j4, Bool.false_eq_true, if_false, e 54 (by decide), e 55 (by decide), e 58 (by decide), e 59 (by decide), e 60 (by decide), e 61 (by decide), e 62 (by decide)]
  have j3 : ∀ k, mem_Width.j3 (k + 2) op false = some (0, 0, false) := fun k => by
    simp only [mem_Width.j3, Bool.false_eq_true, if_false, e 52 (by decide), b 53 (by decide), j4]
  have j2 : ∀ k, mem_Width.j2 (k + 3) op false = some (0, 0, false) := fun k => by
    simp only [mem_Width.j2, Bool.false_eq_true, if_false, e 50 (by decide), b 51 (by decide), j3]
  have j1 : ∀ k, mem_Width.j1 (k + 4) op false = some (0, 0, false) := fun k => by
    simp only [mem_Width.j1, Bool.false_eq_true, if_false, e 48 (by decide), b 49 (by decide), j2]
  simp only [mem_Width.f, mem_Width.j0, Bool.false_eq_true, if_false, e 40 (by decide), e 41 (by decide), e 44 (by decide), b 45 (by decide), e 46 (by decide), b 47 (by decide), j1]
theorem sig_out (op : Int) (h : Out op) (k : Nat) : num_Sig.f (k + 6) op = some (0, 0, 0) := by
  have e : ∀ c : Int, (0 ≤ c ∧ c ≤ 255) → (op = c) = False := fun c hc => eq_false (h.ne c (.inl hc))
  have b : ∀ c : Int, (0 ≤ c ∧ c ≤ 255) → (op == c) = false := fun c hc => h.nb c (.inl hc)
  have d : ∀ c x : Int, (0 ≤ c ∧ c ≤ 255) → (0 ≤ x ∧ x ≤ 255) → op ≥ c → decide (op ≤ x) = false := fun c x hc hx hg => decide_eq_false (by unfold Out at h; omega)
  have d' : ∀ c x : Int, (0 ≤ c ∧ c ≤ 255) → (0 ≤ x ∧ x ≤ 255) → op ≥ c → decide (op < x) = false := fun c x hc hx hg => decide_eq_false (by unfold Out at h; omega)
  have n : ∀ c x : Int, (0 ≤ c ∧ c ≤ 255) → (0 ≤ x ∧ x ≤ 255) → op ≥ c → ¬ (op < x) := fun c x hc hx hg => by unfold Out at h; omega
  have n' : ∀ c x : Int, (0 ≤ c ∧ c ≤ 255) → (0 ≤ x ∧ x ≤ 255) → op ≥ c → ¬ (op ≤ x) := fun c x hc hx hg => by unfold Out at h; omega
  have j5 : ∀ k, num_Sig.j5 (k + 1) op false = some (0, 0, 0) := fun k => by
    simp only [num_Sig.j5, Bool.false_eq_true, if_false]
    split
    · rename_i q; rw [if_neg (n' 124 138 (by decide) (by decide) q)]
    · rfl
  have j4 : ∀ k, num_Sig.j4 (k + 2) op false = some (0, 0, 0) := fun k => by
    simp only [num_Sig.j4, Bool.false_eq_true, if_false]
    split
    · rename_i q; rw [d 81 90 (by decide) (by decide) q, j5]
    · exact j5 k
  have j3 : ∀ k, num_Sig.j3 (k + 3) op false = some (0, 0, 0) := fun k => by
    simp only [num_Sig.j3, Bool.false_eq_true, if_false]
    have m : (if op ≥ 106 then num_Sig.j4 (k + 2) op (decide (op < 121)) else num_Sig.j4 (k + 2) op false) = some (0, 0, 0) := by
      split
      · rename_i q; rw [d' 106 121 (by decide) (by decide) q, j4]
      · exact j4 k
    split
    · rename_i q; rw [if_neg (n 70 80 (by decide) (by decide) q), m]
    · exact m
  have j2 : ∀ k, num_Sig.j2 (k + 4) op false = some (0, 0, 0) := fun k => by
    simp only [num_Sig.j2, Bool.false_eq_true, if_false, e 172 (by decide), b 173 (by decide), j3]
  have j1 : ∀ k, num_Sig.j1 (k + 5) op false = some (0, 0, 0) := fun k => by
    simp only [num_Sig.j1, Bool.false_eq_true, if_false]
    have m : (if op ≥ 194 then num_Sig.j2 (k + 4) op (decide (op ≤ 196)) else num_Sig.j2 (k + 4) op false) = some (0, 0, 0) := by
      split
      · rename_i q; rw [d 194 196 (by decide) (by decide) q, j2]
      · exact j2 k
    split
    · rename_i q; rw [if_neg (n 121 124 (by decide) (by decide) q), m]
    · exact m
  have j0 : ∀ k, num_Sig.j0 (k + 6) op false = some (0, 0, 0) := fun k => by
    simp only [num_Sig.j0, Bool.false_eq_true, if_false, e 80 (by decide), b 167 (by decide), j1]
  simp only [num_Sig.f, e 69 (by decide), e 192 (by decide), b 193 (by decide), if_false, j0]
  split
  · rename_i q; rw [if_neg (n 103 106 (by decide) (by decide) q)]
  · rfl
theorem flo_out (op : Int) (h : Out op) (k : Nat) : instr_float.f (k + 4) op = some false := by
  have e : ∀ c : Int, (0 ≤ c ∧ c ≤ 255) → (op = c) = False := fun c hc => eq_false (h.ne c (.inl hc))
  have d : ∀ c x : Int, (0 ≤ c ∧ c ≤ 255) → (0 ≤ x ∧ x ≤ 255) → op ≥ c → decide (op ≤ x) = false := fun c x hc hx hg => decide_eq_false (by unfold Out at h; omega)
  have j3 : ∀ k, instr_float.j3 (k + 1) op false = some false := fun k => by
    simp only [instr_float.j3, Bool.false_eq_true, if_false]
    split
    · rw [if_neg (by unfold Out at h; omega)]
    · rfl
  have j2 : ∀ k, instr_float.j2 (k + 2) op false = some false := fun k => by
    simp only [instr_float.j2, Bool.false_eq_true, if_false]
    split
    · rename_i q; rw [d 174 191 (by decide) (by decide) q, j3]
    · exact j3 k
  have j1 : ∀ k, instr_float.j1 (k + 3) op false = some false := fun k => by
    simp only [instr_float.j1, Bool.false_eq_true, if_false]
    split
    · rename_i q; rw [d 168 171 (by decide) (by decide) q, j2]
    · exact j2 k
  have j0 : ∀ k, instr_float.j0 (k + 4) op false = some false := fun k => by
    simp only [instr_float.j0, Bool.false_eq_true, if_false]
    split
    · rename_i q; rw [d 139 166 (by decide) (by decide) q, j1]
    · exact j1 k
  simp only [instr_float.f, e 42 (by decide), e 43 (by decide), e 56 (by decide), e 57 (by decide), e 67 (by decide), e 68 (by decide), if_false]
  split
  · rename_i q; rw [d 91 102 (by decide) (by decide) q, j0]
  · exact j0 k
theorem shp_out (op : Int) (h : Out op) : instr_Shape.f 40 op = some (0, 5) := by
  have e : ∀ c : Int, (0 ≤ c ∧ c ≤ 255) ∨ (64512 ≤ c ∧ c ≤ 64529) → (op = c) = False := fun c hc => eq_false (h.ne c hc)
  have b : ∀ c : Int, (0 ≤ c ∧ c ≤ 255) ∨ (64512 ≤ c ∧ c ≤ 64529) → (op == c) = false := fun c hc => h.nb c hc
  have j5 : instr_Shape.j5 35 op op false = some (0, 5) := by
    simp only [instr_Shape.j5, Bool.false_eq_true, if_false, e 208 (by decide), wid_out op h 29, sig_out op h 28, flo_out op h 30, Option.bind_some, e 253 (by decide), Int.lt_irrefl, gt_iff_lt]
  have j4 : instr_Shape.j4 36 op op false = some (0, 5) := by
    simp only [instr_Shape.j4, Bool.false_eq_true, if_false, e 65 (by decide), b 66 (by decide), j5]
  have j3 : instr_Shape.j3 37 op op false = some (0, 5) := by
    simp only [instr_Shape.j3, Bool.false_eq_true, if_false, e 64522 (by decide), b 64526 (by decide), j4]
  have j2 : instr_Shape.j2 38 op op false = some (0, 5) := by
    simp only [instr_Shape.j2, Bool.false_eq_true, if_false, e 14 (by decide), e 17 (by decide), e 28 (by decide), e 37 (by decide), e 38 (by decide), e 63 (by decide), e 64 (by decide), e 64523 (by decide), e 64527 (by decide), e 64528 (by decide), b 64529 (by decide), j3]
  have j1 : instr_Shape.j1 39 op op false = some (0, 5) := by
    simp only [instr_Shape.j1, Bool.false_eq_true, if_false, e 12 (by decide), e 13 (by decide), e 16 (by decide), e 32 (by decide), e 33 (by decide), e 34 (by decide), e 35 (by decide), e 36 (by decide), b 210 (by decide), j2]
  have j0 : instr_Shape.j0 40 op op false = some (0, 5) := by
    simp only [instr_Shape.j0, Bool.false_eq_true, if_false, e 2 (by decide), e 3 (by decide), b 4 (by decide), j1]
  simp only [instr_Shape.f, e 0 (by decide), e 1 (by decide), e 15 (by decide), e 26 (by decide), e 27 (by decide), b 209 (by decide), if_false, j0]
/-- What there is to know of an opcode's shape. -/
def shB (op s e : Int) : Bool :=
  (e == 0 && decide (1 ≤ s) && decide (s ≤ 11) && ((s == 2) == (decide (2 ≤ op) && decide (op ≤ 4))) && (s != 10 || (op == 65 || op == 66)) && op != 5 && op != 11 && op != 252)
  || (s == 0 && (e == 3 || e == 4 || e == 5) && !(decide (2 ≤ op) && decide (op ≤ 4)))
def shC (op : Int) : Bool := match instr_Shape.f 40 op with
  | some (s, e) => shB op s e
  | none => false
theorem shC_low : ∀ i : Fin 256, shC (i.val : Int) = true := by decide +kernel
theorem shC_high : ∀ i : Fin 18, shC ((i.val : Int) + 64512) = true := by decide +kernel
structure ShOk (op s : Int) : Prop where
  s1 : 1 ≤ s
  s11 : s ≤ 11
  two : s = 2 ↔ 2 ≤ op ∧ op ≤ 4
  ten : s = 10 → op = 65 ∨ op = 66
  n5 : op ≠ 5
  n11 : op ≠ 11
  n252 : op ≠ 252
  range : (0 ≤ op ∧ op ≤ 255) ∨ (64512 ≤ op ∧ op ≤ 64529)
theorem shp_any (op : Int) : ∃ s e, instr_Shape.f 40 op = some (s, e) ∧ ((e = 0 ∧ ShOk op s) ∨ (s = 0 ∧ (e = 3 ∨ e = 4 ∨ e = 5) ∧ ¬ (2 ≤ op ∧ op ≤ 4))) := by
  by_cases h : Out op
  · exact ⟨0, 5, shp_out op h, .inr ⟨rfl, .inr (.inr rfl), by unfold Out at h; omega⟩⟩
  · have hr : (0 ≤ op ∧ op ≤ 255) ∨ (64512 ≤ op ∧ op ≤ 64529) := by unfold Out at h; omega
    have hc : shC op = true := by
      rcases hr with hr | hr
      · have := shC_low ⟨op.toNat, by omega⟩
        simpa [show ((op.toNat : Nat) : Int) = op by omega] using this
      · have := shC_high ⟨(op - 64512).toNat, by omega⟩
        have e : (((op - 64512).toNat : Nat) : Int) + 64512 = op := by omega
        simp only [e] at this
        exact this
    unfold shC at hc
    cases hs : instr_Shape.f 40 op with
    | none => rw [hs] at hc; cases hc
    | some p =>
      obtain ⟨s, e⟩ := p
      rw [hs] at hc
      refine ⟨s, e, rfl, ?_⟩
      simp only [shB, Bool.or_eq_true, Bool.and_eq_true, beq_iff_eq, decide_eq_true_eq, bne_iff_ne, ne_eq, Bool.not_eq_true', Bool.and_eq_false_iff, decide_eq_false_iff_not] at hc
      rcases hc with ⟨⟨⟨⟨⟨⟨⟨h1, h2⟩, h3⟩, h4⟩, h5⟩, h6⟩, h7⟩, h8⟩ | ⟨⟨h1, h2⟩, h3⟩
      · refine .inl ⟨h1, ⟨h2, h3, ?_, fun h => by omega, h6, h7, h8, hr⟩⟩
        have h4' := (Bool.eq_iff_iff.mp h4)
        simpa using h4'
      · exact .inr ⟨h1, by omega, by omega⟩
theorem shp_ok {op s : Int} (h : instr_Shape.f 40 op = some (s, 0)) : ShOk op s := by
  obtain ⟨s', e, h', hk⟩ := shp_any op
  rw [h'] at h
  obtain ⟨rfl, rfl⟩ := Prod.mk.inj (Option.some.inj h)
  rcases hk with ⟨_, hk⟩ | ⟨_, hk, _⟩
  · exact hk
  · omega
theorem ty_at (c : Int) : ∃ t e, instr_Type.f 5 c = some (t, e) ∧ ((e = 0 ∧ t = c ∧ (c = 127 ∨ c = 126 ∨ c = 112)) ∨ (t = 0 ∧ e ≠ 0 ∧ ¬ (c = 127 ∨ c = 126 ∨ c = 112))) := by
  by_cases h1 : c = 127
  · subst h1; exact ⟨127, 0, by decide +kernel, .inl ⟨rfl, rfl, by omega⟩⟩
  by_cases h2 : c = 126
  · subst h2; exact ⟨126, 0, by decide +kernel, .inl ⟨rfl, rfl, by omega⟩⟩
  by_cases h3 : c = 112
  · subst h3; exact ⟨112, 0, by decide +kernel, .inl ⟨rfl, rfl, by omega⟩⟩
  by_cases h4 : c = 125
  · subst h4; exact ⟨0, 3, by decide +kernel, .inr ⟨rfl, by decide, by omega⟩⟩
  by_cases h5 : c = 124
  · subst h5; exact ⟨0, 3, by decide +kernel, .inr ⟨rfl, by decide, by omega⟩⟩
  by_cases h6 : c = 123
  · subst h6; exact ⟨0, 4, by decide +kernel, .inr ⟨rfl, by decide, by omega⟩⟩
  exact ⟨0, 2, by simp [instr_Type.f, instr_Type.j0, instr_Type.j1, h1, h2, h3, h4, h5, h6], .inr ⟨rfl, by decide, by omega⟩⟩
def aw1 : List S54 := [(⟨65, (-1), 0, 0, ([] : List Int), ([] : List (S54)), ([] : List (S54))⟩ : S54), (⟨26, 0, 0, 0, ([] : List Int), ([] : List (S54)), ([] : List (S54))⟩ : S54)]
def aw2 : List S54 := [(⟨4, (-64), 0, 0, ([] : List Int), (([(⟨1, 0, 0, 0, ([] : List Int), ([] : List (S54)), ([] : List (S54))⟩ : S54)] : List (S54))), (([(⟨15, 0, 0, 0, ([] : List Int), ([] : List (S54)), ([] : List (S54))⟩ : S54)] : List (S54)))⟩ : S54)]
theorem aw_c1 : instr_Count.f 1000000 aw1 = some (2, true) := at_rounds (instr_Count.mono aw1) (k := 60) (by omega) (by decide +kernel)
theorem aw_c2 : instr_Count.f 1000000 aw2 = some (3, true) := at_rounds (instr_Count.mono aw2) (k := 60) (by omega) (by decide +kernel)
theorem aw_p1 : putF 60 aw1 = some (strOfNums [65, 127, 26]) := by decide +kernel
theorem aw_p2 : putF 60 aw2 = some (strOfNums [4, 64, 1, 5, 15, 11]) := by decide +kernel
theorem aw_q1 : instr_Put.f aw1 = some (strOfNums [65, 127, 26, 11], 0) := by
  unfold instr_Put.f
  rw [aw_c1, Option.bind_some, if_pos rfl, aw_p1, Option.bind_some]
  decide +kernel
theorem aw_q2 : instr_Put.f aw2 = some (strOfNums [4, 64, 1, 5, 15, 11, 11], 0) := by
  unfold instr_Put.f
  rw [aw_c2, Option.bind_some, if_pos rfl, aw_p2, Option.bind_some]
  decide +kernel
theorem aw_t1 : ∃ x, instr_Take.f (⟨#[67, 0, 0, 0, 0, 11]⟩ : ByteArray) = some x ∧ x.2.2 = 3 := by
  have h : (instr_Take.f (⟨#[67, 0, 0, 0, 0, 11]⟩ : ByteArray)).map (fun x => x.2.2) = some 3 := by decide +kernel
  obtain ⟨x, h1, h2⟩ := Option.map_eq_some_iff.mp h
  exact ⟨x, h1, h2⟩
theorem aw_t2 : ∃ x, instr_Take.f (strOfNums [65, 127, 26, 11] ++ (⟨#[122]⟩ : ByteArray)) = some x ∧ x.1.length = 2 ∧ x.2.1.toList = ([122] : List UInt8) ∧ x.2.2 = 0 := by
  have h : (instr_Take.f (strOfNums [65, 127, 26, 11] ++ (⟨#[122]⟩ : ByteArray))).map (fun x => (x.1.length, x.2.1.toList, x.2.2)) = some (2, ([122] : List UInt8), 0) := by decide +kernel
  obtain ⟨x, h1, h2⟩ := Option.map_eq_some_iff.mp h
  simp only [Prod.mk.injEq] at h2
  exact ⟨x, h1, h2⟩
theorem awake_ok (k : Nat) : scarflaw05_awake.f (k + 1) = some true := by
  obtain ⟨x1, h1, e1⟩ := aw_t1
  obtain ⟨x2, h2, e2, e3, e4⟩ := aw_t2
  have b1 : (strOfNums [65, 127, 26, 11]).toList = ([65, 127, 26, 11] : List UInt8) := by decide +kernel
  have b2 : (strOfNums [4, 64, 1, 5, 15, 11, 11]).toList = ([4, 64, 1, 5, 15, 11, 11] : List UInt8) := by decide +kernel
  have b3 : (strOfNums [65, 127, 26, 11]).size + 1 ≤ 9223372036854775807 := by decide +kernel
  have q1 := aw_q1
  have q2 := aw_q2
  unfold aw1 at q1
  unfold aw2 at q2
  unfold scarflaw05_awake.f
  rw [q1, Option.bind_some, q2, Option.bind_some, h1, Option.bind_some]
  simp only [b3, if_true, h2, Option.bind_some, b1, b2, e1, e2, e3, e4, scarflaw05_awake.j0]
  rfl
theorem one_l0 (op : Int) (l : List Int) (hlen : l.length ≤ 1000) : ∀ (ys : List Int) (i k : Nat), l.drop i = ys → ys.length + 1 ≤ k → scarfref05_one.l0 k op l (i : Int) = some (decide (op ∈ ys)) := by
  intro ys
  induction ys with
  | nil =>
    intro i k hd hk
    obtain ⟨k, rfl⟩ : ∃ m, k = m + 1 := ⟨k - 1, by simp at hk; omega⟩
    have := List.drop_eq_nil_iff.mp hd
    rw [scarfref05_one.l0, if_neg (by omega)]
    simp
  | cons y ys ih =>
    intro i k hd hk
    simp only [List.length_cons] at hk
    obtain ⟨k, rfl⟩ : ∃ m, k = m + 1 := ⟨k - 1, by omega⟩
    have hi : i < l.length := by
      rcases Nat.lt_or_ge i l.length with h1 | h1
      · exact h1
      · rw [List.drop_eq_nil_of_le h1] at hd; cases hd
    have hy := drop_cons (l := l) hi
    rw [hd] at hy
    obtain ⟨e1, e2⟩ := List.cons.inj hy
    have hr : rd l (i : Int) = y := by rw [e1]; unfold rd; simp
    rw [scarfref05_one.l0, if_pos (by omega), if_pos (by omega), hr]
    by_cases h : y = op
    · rw [if_pos h]; simp [h]
    · rw [if_neg h, wrap64_id (by omega) (by omega), show (i : Int) + 1 = ((i + 1 : Nat) : Int) by omega, ih (i + 1) k e2.symm (by omega)]
      have : ¬ op = y := fun e => h e.symm
      simp [this]
theorem one_eq (op : Int) (l : List Int) (hlen : l.length ≤ 1000) (k : Nat) (hk : l.length + 1 ≤ k) : scarfref05_one.f k op l = some (decide (op ∈ l)) := by
  unfold scarfref05_one.f
  have := one_l0 op l hlen l 0 k (by simp) hk
  rwa [show ((0 : Nat) : Int) = 0 from rfl] at this
theorem wid_l0 (op : Int) (l a b : List Int) (hlen : l.length ≤ 1000) (hno : ∀ x ∈ l, x ≠ op) : ∀ (m i k : Nat), l.length - i = m → m + 1 ≤ k → scarfref04_Width.l0 k op l a b (i : Int) = some (0, 0, false) := by
  intro m
  induction m with
  | zero =>
    intro i k hm hk
    obtain ⟨k, rfl⟩ : ∃ m, k = m + 1 := ⟨k - 1, by omega⟩
    rw [scarfref04_Width.l0, if_neg (by omega)]
  | succ m ih =>
    intro i k hm hk
    obtain ⟨k, rfl⟩ : ∃ m, k = m + 1 := ⟨k - 1, by omega⟩
    have hi : i < l.length := by omega
    have hr : rd l (i : Int) ∈ l := by unfold rd; rw [Int.toNat_natCast]; exact getD_mem hi
    rw [scarfref04_Width.l0, if_pos (by omega), if_pos (by omega), if_neg (hno _ hr), wrap64_id (by omega) (by omega), show (i : Int) + 1 = ((i + 1 : Nat) : Int) by omega]
    exact ih (i + 1) k (by omega) (by omega)
theorem rwid_out (op : Int) (h : Out op) (k : Nat) (hk : 20 ≤ k) : scarfref04_Width.f k op = some (0, 0, false) := by
  unfold scarfref04_Width.f
  have := wid_l0 op [40, 41, 44, 45, 46, 47, 48, 49, 50, 51, 52, 53, 54, 55, 58, 59, 60, 61, 62] [4, 8, 1, 1, 2, 2, 1, 1, 2, 2, 4, 4, 4, 8, 1, 2, 1, 2, 4] [127, 126, 127, 127, 127, 127, 126, 126, 126, 126, 126, 126, 127, 126, 127, 127, 126, 126, 126] (by decide) (by
    intro x hx
    have hb : ∀ x ∈ ([40, 41, 44, 45, 46, 47, 48, 49, 50, 51, 52, 53, 54, 55, 58, 59, 60, 61, 62] : List Int), 0 ≤ x ∧ x ≤ 255 := by decide
    exact fun e => h.ne x (.inl (hb x hx)) e.symm) 19 0 k (by rfl) (by omega)
  rwa [show ((0 : Nat) : Int) = 0 from rfl] at this
theorem rsig_out (op : Int) (h : Out op) (k : Nat) : scarfref03_Sig.f (k + 6) op = some (0, 0, 0) := by
  have e : ∀ c : Int, (0 ≤ c ∧ c ≤ 255) → (op = c) = False := fun c hc => eq_false (h.ne c (.inl hc))
  have b : ∀ c : Int, (0 ≤ c ∧ c ≤ 255) → (op == c) = false := fun c hc => h.nb c (.inl hc)
  have d : ∀ c x : Int, (0 ≤ c ∧ c ≤ 255) → (0 ≤ x ∧ x ≤ 255) → op ≥ c → decide (op ≤ x) = false := fun c x hc hx hg => decide_eq_false (by unfold Out at h; omega)
  have d' : ∀ c x : Int, (0 ≤ c ∧ c ≤ 255) → (0 ≤ x ∧ x ≤ 255) → op ≥ c → decide (op < x) = false := fun c x hc hx hg => decide_eq_false (by unfold Out at h; omega)
  have n : ∀ c x : Int, (0 ≤ c ∧ c ≤ 255) → (0 ≤ x ∧ x ≤ 255) → op ≥ c → ¬ (op < x) := fun c x hc hx hg => by unfold Out at h; omega
  have n' : ∀ c x : Int, (0 ≤ c ∧ c ≤ 255) → (0 ≤ x ∧ x ≤ 255) → op ≥ c → ¬ (op ≤ x) := fun c x hc hx hg => by unfold Out at h; omega
  have j5 : ∀ k, scarfref03_Sig.j5 (k + 1) op false = some (0, 0, 0) := fun k => by
    simp only [scarfref03_Sig.j5, Bool.false_eq_true, if_false]
    split
    · rename_i q; rw [if_neg (n' 124 138 (by decide) (by decide) q)]
    · rfl
  have j4 : ∀ k, scarfref03_Sig.j4 (k + 2) op false = some (0, 0, 0) := fun k => by
    simp only [scarfref03_Sig.j4, Bool.false_eq_true, if_false]
    split
    · rename_i q; rw [d 81 90 (by decide) (by decide) q, j5]
    · exact j5 k
  have j3 : ∀ k, scarfref03_Sig.j3 (k + 3) op false = some (0, 0, 0) := fun k => by
    simp only [scarfref03_Sig.j3, Bool.false_eq_true, if_false]
    have m : (if op ≥ 106 then scarfref03_Sig.j4 (k + 2) op (decide (op ≤ 120)) else scarfref03_Sig.j4 (k + 2) op false) = some (0, 0, 0) := by
      split
      · rename_i q; rw [d 106 120 (by decide) (by decide) q, j4]
      · exact j4 k
    split
    · rename_i q; rw [if_neg (n' 70 79 (by decide) (by decide) q), m]
    · exact m
  have j2 : ∀ k, scarfref03_Sig.j2 (k + 4) op false = some (0, 0, 0) := fun k => by
    simp only [scarfref03_Sig.j2, Bool.false_eq_true, if_false, e 172 (by decide), b 173 (by decide), j3]
  have j1 : ∀ k, scarfref03_Sig.j1 (k + 5) op false = some (0, 0, 0) := fun k => by
    simp only [scarfref03_Sig.j1, Bool.false_eq_true, if_false]
    have m : (if op ≥ 194 then scarfref03_Sig.j2 (k + 4) op (decide (op ≤ 196)) else scarfref03_Sig.j2 (k + 4) op false) = some (0, 0, 0) := by
      split
      · rename_i q; rw [d 194 196 (by decide) (by decide) q, j2]
      · exact j2 k
    split
    · rename_i q; rw [if_neg (n' 121 123 (by decide) (by decide) q), m]
    · exact m
  have j0 : ∀ k, scarfref03_Sig.j0 (k + 6) op false = some (0, 0, 0) := fun k => by
    simp only [scarfref03_Sig.j0, Bool.false_eq_true, if_false, e 80 (by decide), b 167 (by decide), j1]
  simp only [scarfref03_Sig.f, e 69 (by decide), e 192 (by decide), b 193 (by decide), if_false, j0]
  split
  · rename_i q; rw [if_neg (n' 103 105 (by decide) (by decide) q)]
  · rfl
theorem one_out (op : Int) (h : Out op) (l : List Int) (hlen : l.length ≤ 1000) (k : Nat) (hk : l.length + 1 ≤ k) (hb : ∀ x ∈ l, (0 ≤ x ∧ x ≤ 255) ∨ (64512 ≤ x ∧ x ≤ 64529)) : scarfref05_one.f k op l = some false := by
  rw [one_eq op l hlen k hk, decide_eq_false (fun hm => h.ne op (hb op hm) rfl)]
theorem rshp_out (op : Int) (h : Out op) : scarfref05_Shape.f 60 op = some (0, 5) := by
  have e : ∀ c : Int, (0 ≤ c ∧ c ≤ 255) ∨ (64512 ≤ c ∧ c ≤ 64529) → (op = c) = False := fun c hc => eq_false (h.ne c hc)
  have b : ∀ c : Int, (0 ≤ c ∧ c ≤ 255) ∨ (64512 ≤ c ∧ c ≤ 64529) → (op == c) = false := fun c hc => h.nb c hc
  have n : ∀ c x : Int, (0 ≤ c ∧ c ≤ 255) → (0 ≤ x ∧ x ≤ 255) → op ≥ c → ¬ (op ≤ x) := fun c x hc hx hg => by unfold Out at h; omega
  have j3 : scarfref05_Shape.j3 57 op false = some (0, 5) := by
    simp only [scarfref05_Shape.j3, Bool.false_eq_true, if_false, e 253 (by decide)]
  have f4 : (if op ≥ 64512 then scarfref05_Shape.j3 57 op (decide (op ≤ 64519)) else scarfref05_Shape.j3 57 op false) = some (0, 5) := by
    split
    · rw [decide_eq_false (by unfold Out at h; omega), j3]
    · exact j3
  have f3 : (if op ≥ 174 then (if op ≤ 191 then scarfref05_Shape.j3 57 op true else (if op ≥ 64512 then scarfref05_Shape.j3 57 op (decide (op ≤ 64519)) else scarfref05_Shape.j3 57 op false)) else (if op ≥ 64512 then scarfref05_Shape.j3 57 op (decide (op ≤ 64519)) else scarfref05_Shape.j3 57 op false)) = some (0, 5) := by
    split
    · rename_i q; rw [if_neg (n 174 191 (by decide) (by decide) q), f4]
    · exact f4
  have j2 : scarfref05_Shape.j2 58 op false = some (0, 5) := by
    rw [scarfref05_Shape.j2]
    simp only [Bool.false_eq_true, if_false, e 208 (by decide)]
    rw [one_out op h [42, 43, 56, 57, 67, 68] (by decide) 57 (by decide) (by decide)]
    simp only [Option.bind_some, Bool.false_eq_true, if_false, f3]
    have n102 := n 91 102 (by decide) (by decide)
    have n166 := n 139 166 (by decide) (by decide)
    have n171 := n 168 171 (by decide) (by decide)
    by_cases h1 : op ≥ 91
    · rw [if_pos h1, if_neg (n102 h1)]
      by_cases h2 : op ≥ 139
      · rw [if_pos h2, if_neg (n166 h2)]
        by_cases h3 : op ≥ 168
        · rw [if_pos h3, if_neg (n171 h3)]
        · rw [if_neg h3]
      · rw [if_neg h2]
        by_cases h3 : op ≥ 168
        · rw [if_pos h3, if_neg (n171 h3)]
        · rw [if_neg h3]
    · rw [if_neg h1]
      by_cases h2 : op ≥ 139
      · rw [if_pos h2, if_neg (n166 h2)]
        by_cases h3 : op ≥ 168
        · rw [if_pos h3, if_neg (n171 h3)]
        · rw [if_neg h3]
      · rw [if_neg h2]
        by_cases h3 : op ≥ 168
        · rw [if_pos h3, if_neg (n171 h3)]
        · rw [if_neg h3]
  have j1 : scarfref05_Shape.j1 59 op false = some (0, 5) := by
    rw [scarfref05_Shape.j1]
    simp only [Bool.false_eq_true, if_false, e 65 (by decide), b 66 (by decide), j2]
  have j0 : scarfref05_Shape.j0 60 op 0 false = some (0, 5) := by
    rw [scarfref05_Shape.j0]
    simp only [Bool.false_eq_true, if_false]
    rw [one_out op h [2, 3, 4] (by decide) 59 (by decide) (by decide)]
    simp only [Option.bind_some, Bool.false_eq_true, if_false]
    rw [one_out op h [12, 13, 16, 32, 33, 34, 35, 36, 210] (by decide) 59 (by decide) (by decide)]
    simp only [Option.bind_some, Bool.false_eq_true, if_false, e 14 (by decide), e 17 (by decide), e 28 (by decide), Int.lt_irrefl, gt_iff_lt]
    rw [one_out op h [37, 38, 63, 64, 64523, 64527, 64528, 64529] (by decide) 59 (by decide) (by decide)]
    simp only [Option.bind_some, Bool.false_eq_true, if_false, e 64522 (by decide), b 64526 (by decide), j1]
  unfold scarfref05_Shape.f
  rw [rwid_out op h 60 (by decide), Option.bind_some, rsig_out op h 54, Option.bind_some]
  simp only [Int.lt_irrefl, gt_iff_lt, if_false]
  rw [one_out op h [0, 1, 15, 26, 27, 209] (by decide) 60 (by decide) (by decide)]
  exact j0
theorem shp_low : ∀ i : Fin 256, instr_Shape.f 60 (i.val : Int) = scarfref05_Shape.f 60 (i.val : Int) ∧ (scarfref05_Shape.f 60 (i.val : Int)).isSome = true := by decide +kernel
theorem shp_high : ∀ i : Fin 18, instr_Shape.f 60 ((i.val : Int) + 64512) = scarfref05_Shape.f 60 ((i.val : Int) + 64512) ∧ (scarfref05_Shape.f 60 ((i.val : Int) + 64512)).isSome = true := by decide +kernel
/-- Shape is the document's. -/
theorem shp_same (op : Int) : ∃ r, instr_Shape.f 60 op = some r ∧ scarfref05_Shape.f 60 op = some r := by
  by_cases h : Out op
  · exact ⟨(0, 5), at_rounds (instr_Shape.mono op) (by omega) (shp_out op h), rshp_out op h⟩
  · have hr : (0 ≤ op ∧ op ≤ 255) ∨ (64512 ≤ op ∧ op ≤ 64529) := by unfold Out at h; omega
    have hc : instr_Shape.f 60 op = scarfref05_Shape.f 60 op ∧ (scarfref05_Shape.f 60 op).isSome = true := by
      rcases hr with hr | hr
      · have := shp_low ⟨op.toNat, by omega⟩
        simpa [show ((op.toNat : Nat) : Int) = op by omega] using this
      · have := shp_high ⟨(op - 64512).toNat, by omega⟩
        have e : (((op - 64512).toNat : Nat) : Int) + 64512 = op := by omega
        simp only [e] at this
        exact this
    obtain ⟨r, hr2⟩ := Option.isSome_iff_exists.mp hc.2
    exact ⟨r, by rw [hc.1, hr2], hr2⟩
def styS (c : Int) : Int × Int := if c = 127 ∨ c = 126 ∨ c = 112 then (c, 0) else if c = 125 ∨ c = 124 then (0, 3) else if c = 123 then (0, 4) else (0, 2)
theorem sty1 (c : Int) : instr_Type.f 60 c = some (styS c) := by
  by_cases h1 : c = 127
  · subst h1; decide +kernel
  by_cases h2 : c = 126
  · subst h2; decide +kernel
  by_cases h3 : c = 112
  · subst h3; decide +kernel
  by_cases h4 : c = 125
  · subst h4; decide +kernel
  by_cases h5 : c = 124
  · subst h5; decide +kernel
  by_cases h6 : c = 123
  · subst h6; decide +kernel
  simp [instr_Type.f, instr_Type.j0, instr_Type.j1, styS, h1, h2, h3, h4, h5, h6]
theorem sone3 (c : Int) (h1 : ¬ c = 127) (h2 : ¬ c = 126) (h3 : ¬ c = 112) : scarfref05_one.f 60 c [127, 126, 112] = some false := by
  have q1 : ¬ (127 : Int) = c := fun h => h1 h.symm
  have q2 : ¬ (126 : Int) = c := fun h => h2 h.symm
  have q3 : ¬ (112 : Int) = c := fun h => h3 h.symm
  simp [scarfref05_one.f, scarfref05_one.l0, rd, wrap64, q1, q2, q3]
theorem sty2 (c : Int) : scarfref05_Type.f 60 c = some (styS c) := by
  by_cases h1 : c = 127
  · subst h1; decide +kernel
  by_cases h2 : c = 126
  · subst h2; decide +kernel
  by_cases h3 : c = 112
  · subst h3; decide +kernel
  by_cases h4 : c = 125
  · subst h4; decide +kernel
  by_cases h5 : c = 124
  · subst h5; decide +kernel
  by_cases h6 : c = 123
  · subst h6; decide +kernel
  simp [scarfref05_Type.f, scarfref05_Type.j0, sone3 c h1 h2 h3, styS, h1, h2, h3, h4, h5, h6]
def scarfref01_Same.l0 : Nat → List Int → List Int → Int → Option (Bool)
 | 0, _, _, _ => none
 | k + 1, x0, x1, x5 => if x5 < (x0.length : Int) then (if 0 ≤ x5 then (if x5 < (x1.length : Int) then (if (rd x0 x5) = (rd x1 x5) then (scarfref01_Same.l0 k x0 x1 (wrap64 (x5 + 1))) else (some false)) else (none)) else (none)) else (some true)
def scarfref01_Same.f (k : Nat) (l0 : List Int) (l1 : List Int) : Option (Bool) := if (l0.length : Int) = (l1.length : Int) then (scarfref01_Same.l0 k l0 l1 0) else (some false)
theorem scarfref01_Same.mono_l : ∀ k, (∀ y0 y1 y2, LeO (scarfref01_Same.l0 k y0 y1 y2) (scarfref01_Same.l0 (k + 1) y0 y1 y2))
 | 0 => fun _ _ _ r h => by simp [scarfref01_Same.l0] at h
 | k + 1 => by
  have ih0 := scarfref01_Same.mono_l k
  ·intro y0 y1 y2; unfold scarfref01_Same.l0; repeat' first
   | (with_reducible exact ih0 _ _ _)
   | (with_reducible exact LeO.refl _)
   | (with_reducible exact LeO.none _)
   | (with_reducible refine LeO.ite ?_ ?_)
   | (with_reducible refine LeO.bind ?_ (fun _ => ?_))
   | exact ih0 _ _ _
   | exact LeO.none _
   | refine LeO.ite ?_ ?_
   | refine LeO.bind ?_ (fun _ => ?_)
theorem scarfref01_Same.mono : ∀ a0 a1 k, LeO (scarfref01_Same.f k a0 a1) (scarfref01_Same.f (k + 1) a0 a1) := by
 intro a0 a1 k; have ih0 := scarfref01_Same.mono_l k; unfold scarfref01_Same.f; repeat' first
  | (with_reducible exact ih0 _ _ _)
  | (with_reducible exact LeO.refl _)
  | (with_reducible exact LeO.none _)
  | (with_reducible refine LeO.ite ?_ ?_)
  | (with_reducible refine LeO.bind ?_ (fun _ => ?_))
  | exact ih0 _ _ _
  | exact LeO.none _
  | refine LeO.ite ?_ ?_
  | refine LeO.bind ?_ (fun _ => ?_)
mutual
def scarfref05_Same.l0 : Nat → List (S54) → List (S54) → Int → Option (Bool)
 | 0, _, _, _ => none
 | k + 1, x0, x1, x5 => if x5 < (x0.length : Int) then (if 0 ≤ x5 then (if x5 < (x1.length : Int) then (if ((rd_T54 x0 x5).f0) = ((rd_T54 x1 x5).f0) then (if ((rd_T54 x0 x5).f1) = ((rd_T54 x1 x5).f1) then (if ((rd_T54 x0 x5).f2) = ((rd_T54 x1 x5).f2) then (if ((rd_T54 x0 x5).f3) = ((rd_T54 x1 x5).f3) then ((scarfref01_Same.f k ((rd_T54 x0 x5).f4) ((rd_T54 x1 x5).f4)).bind fun t369 => (if t369 = true then ((scarfref05_Same.f k ((rd_T54 x0 x5).f5) ((rd_T54 x1 x5).f5)).bind fun t370 => (if t370 = true then ((scarfref05_Same.f k ((rd_T54 x0 x5).f6) ((rd_T54 x1 x5).f6)).bind fun t371 => (if t371 = true then (scarfref05_Same.l0 k x0 x1 (wrap64 (x5 + 1))) else (some false))) else (some false))) else (some false))) else (some false)) else (some false)) else (some false)) else (some false)) else (none)) else (none)) else (some true)
def scarfref05_Same.f : Nat → List (S54) → List (S54) → Option (Bool)
 | 0, _, _ => none
 | k + 1, l0, l1 => if (l0.length : Int) = (l1.length : Int) then (scarfref05_Same.l0 k l0 l1 0) else (some false)
end
theorem scarfref05_Same.mono_l : ∀ k, (∀ y0 y1, LeO (scarfref05_Same.f k y0 y1) (scarfref05_Same.f (k + 1) y0 y1)) ∧ (∀ y0 y1 y2, LeO (scarfref05_Same.l0 k y0 y1 y2) (scarfref05_Same.l0 (k + 1) y0 y1 y2))
 | 0 => ⟨fun _ _ r h => by simp [scarfref05_Same.f] at h, fun _ _ _ r h => by simp [scarfref05_Same.l0] at h⟩
 | k + 1 => by
  obtain ⟨ih0, ih1⟩ := scarfref05_Same.mono_l k; refine ⟨?_, ?_⟩
  ·intro y0 y1; unfold scarfref05_Same.f; repeat' first
   | (with_reducible exact ih0 _ _)
   | (with_reducible exact ih1 _ _ _)
   | (with_reducible exact scarfref01_Same.mono _ _ _)
   | (with_reducible exact LeO.refl _)
   | (with_reducible exact LeO.none _)
   | (with_reducible refine LeO.ite ?_ ?_)
   | (with_reducible refine LeO.bind ?_ (fun _ => ?_))
   | exact ih0 _ _
   | exact ih1 _ _ _
   | exact scarfref01_Same.mono _ _ _
   | exact LeO.none _
   | refine LeO.ite ?_ ?_
   | refine LeO.bind ?_ (fun _ => ?_)
  ·intro y0 y1 y2; unfold scarfref05_Same.l0; repeat' first
   | (with_reducible exact ih0 _ _)
   | (with_reducible exact ih1 _ _ _)
   | (with_reducible exact scarfref01_Same.mono _ _ _)
   | (with_reducible exact LeO.refl _)
   | (with_reducible exact LeO.none _)
   | (with_reducible refine LeO.ite ?_ ?_)
   | (with_reducible refine LeO.bind ?_ (fun _ => ?_))
   | exact ih0 _ _
   | exact ih1 _ _ _
   | exact scarfref01_Same.mono _ _ _
   | exact LeO.none _
   | refine LeO.ite ?_ ?_
   | refine LeO.bind ?_ (fun _ => ?_)
theorem scarfref05_Same.mono : ∀ a0 a1 k, LeO (scarfref05_Same.f k a0 a1) (scarfref05_Same.f (k + 1) a0 a1) := by
 intro a0 a1 k; obtain ⟨ih0, ih1⟩ := scarfref05_Same.mono_l k; exact ih0 a0 a1
open Go.Proofs.Ytckhlbpjehbnlaa.Str Go.Proofs.Ytckhlbpjehbnlaa.LebS Go.Proofs.Ytckhlbpjehbnlaa.LebF
def Rng (l : List Int) : Prop := ∀ x ∈ l, 0 ≤ x ∧ x < 256
theorem Rng.nil : Rng [] := fun x hx => by cases hx
theorem Rng.cons {c : Int} {l : List Int} (h0 : 0 ≤ c ∧ c < 256) (h : Rng l) : Rng (c :: l) := fun x hx => (List.mem_cons.mp hx).elim (fun e => e ▸ h0) (h x)
theorem Rng.drop {l : List Int} (h : Rng l) (n : Nat) : Rng (l.drop n) := fun x hx => h x (List.mem_of_mem_drop hx)
theorem Rng.pu (n : Nat) : Rng (pu n) := pu_range n
theorem Rng.ps (n : Int) : Rng (ps n) := ps_range _ n (Nat.le_refl _)
theorem str_nil : strOfNums [] = (⟨#[]⟩ : ByteArray) := by decide +kernel
theorem ty_more {c : Int} {r : Int × Int} (h : instr_Type.f 5 c = some r) (k : Nat) (hk : 5 ≤ k) : instr_Type.f k c = some r := at_rounds (instr_Type.mono c) hk h
/-- An instruction's own numbers' bytes, by its shape. -/
def body (s : Int) (x : S54) : List Int :=
  if s = 2 then ps x.f1
  else if s = 3 then pu x.f1.toNat
  else if s = 4 then pu x.f4.length ++ (puA x.f4 ++ pu x.f1.toNat)
  else if s = 5 then pu x.f1.toNat ++ pu x.f3.toNat
  else if s = 6 then [1, x.f1]
  else if s = 7 then (if x.f3 > 0 then pu (x.f2 + 64).toNat ++ (pu x.f3.toNat ++ pu x.f1.toNat) else pu x.f2.toNat ++ pu x.f1.toNat)
  else if s = 8 then pu x.f3.toNat
  else if s = 9 then pu x.f3.toNat ++ pu x.f1.toNat
  else if s = 10 then ps x.f1
  else if s = 11 then [112]
  else []
theorem inx_iff {n : Int} : inx n = true ↔ 0 ≤ n ∧ n < 4294967296 := by simp [inx]
theorem ty_ok {c t e : Int} (h : instr_Type.f 5 c = some (t, e)) (he : e = 0) : t = c ∧ (c = 127 ∨ c = 126 ∨ c = 112) := by
  obtain ⟨t', e', h', hk⟩ := ty_at c
  rw [h'] at h
  obtain ⟨rfl, rfl⟩ := Prod.mk.inj (Option.some.inj h)
  rcases hk with ⟨_, h1, h2⟩ | ⟨_, h2, _⟩
  · exact ⟨h1, h2⟩
  · exact absurd he h2
theorem s_cases {op s : Int} (h : ShOk op s) : s = 1 ∨ s = 2 ∨ s = 3 ∨ s = 4 ∨ s = 5 ∨ s = 6 ∨ s = 7 ∨ s = 8 ∨ s = 9 ∨ s = 10 ∨ s = 11 := by
  have := h.s1
  have := h.s11
  omega
end Go.Proofs.Ytckhlbpjehbnlaa.PB
namespace Go.Proofs.Ytckhlbpjehbnlaa.Reads
open Go.RowKit Go.Proofs.YtckhlbpjehbnlaaW.PrintWords
section
variable {H : Type} {enc : TypeId × Value → H} {P : Program} {w : World} {α β : Type}
/-- Whatever reads as a value of the type t, with at most n steps, is of the kind d. -/
def Opn (enc : TypeId × Value → H) (P : Program) (w : World) (d : Kd α) (t : TypeId) (wf : α → Prop) (n : Nat) : Prop :=
  ∀ m, m ≤ n → ∀ cs x, DataW.trod enc P w 0 (fun _ => true) true m t cs = some x → (∀ q ∈ x.1.weights P t, q ≤ reachBytes) → ∃ a, d.K w a cs ∧ wf a
theorem weights_mem {P : Program} {e : TypeId} {H : Type} : ∀ {ds : List (DataW H)} {d : DataW H}, d ∈ ds → ∀ q ∈ d.weights P e, q ∈ DataW.weightsAll P e ds
  | d0 :: ds, d, hd, q, hq => by
    simp only [DataW.weightsAll, List.mem_append]
    rcases List.mem_cons.mp hd with rfl | h
    · exact .inl hq
    · exact .inr (weights_mem h q hq)
theorem Opn.le {d : Kd α} {t : TypeId} {wf : α → Prop} {n m : Nat} (h : Opn enc P w d t wf n) (hm : m ≤ n) : Opn enc P w d t wf m := fun q hq => h q (by omega)
theorem Opn.imp {d : Kd α} {t : TypeId} {wf wf' : α → Prop} {n : Nat} (h : Opn enc P w d t wf n) (hi : ∀ a, wf a → wf' a) : Opn enc P w d t wf' n := fun m hm cs x hx hz => by
  obtain ⟨a, h1, h2⟩ := h m hm cs x hx hz
  exact ⟨a, h1, hi a h2⟩
theorem opn_int {t : TypeId} {k : IntKind} (ht : P.underlying t = some (.int k)) (n : Nat) : Opn enc P w (Kd.int k) t (fun x => (Lit.int k x).wf = true) n := by
  intro m _ cs x hx hz
  cases m with
  | zero => simp [DataW.trod] at hx
  | succ m =>
    unfold DataW.trod at hx
    rw [ht] at hx
    split at hx <;> simp_all
    obtain ⟨⟨rfl, hwf⟩, rfl⟩ := hx
    exact ⟨_, rfl, hwf⟩
theorem add_add' (a : Addr) (i j : Nat) : (a.add i).add j = a.add (i + j) := by
  unfold Addr.add
  by_cases hi : i = 0 <;> by_cases hj : j = 0 <;> simp [hi, hj, Nat.add_assoc]
theorem choose_list {p : Nat → α → Prop} : ∀ {n : Nat}, (∀ i, i < n → ∃ x, p i x) → ∃ l : List α, l.length = n ∧ ∀ i x, l[i]? = some x → p i x := by
  intro n
  induction n with
  | zero => intro _; exact ⟨[], rfl, fun i x h => by simp at h⟩
  | succ n ih =>
    intro h
    obtain ⟨l, hl, hp⟩ := ih (fun i hi => h i (by omega))
    obtain ⟨x, hx⟩ := h n (by omega)
    refine ⟨l ++ [x], by simp [hl], fun i y hy => ?_⟩
    by_cases hi : i < n
    · rw [List.getElem?_append_left (by omega)] at hy
      exact hp i y hy
    · rw [List.getElem?_append_right (by omega)] at hy
      have e : i = n := by
        have := List.getElem?_eq_some_iff.mp hy
        obtain ⟨h1, _⟩ := this
        simp at h1
        omega
      subst e
      rw [hl] at hy
      simp at hy
      exact hy ▸ hx
theorem opn_slice {t e : TypeId} {d : Kd α} {wf : α → Prop} {n : Nat} (q : Nat) (ht : P.underlying t = some (.slice e)) (hc : P.cellsOf e = d.sz) (h : Opn enc P w d e wf n) :
    Opn enc P w (Kd.slice q d) t (fun l => l.length * P.bytesOf e ≤ reachBytes ∧ ∀ x ∈ l, wf x) (n + 1) := by
  intro m hm cs x hx hz
  rcases DataW.trod_slice ht hx with ⟨rfl, _⟩ | ⟨a, len, cap, elems, rest, m', rfl, rfl, rfl, _, hl, hcap, hlen, hel, _, _⟩
  · exact ⟨[], ⟨none, 0, rfl, Nat.le_refl _, rfl, by simp, fun h => by simp at h⟩, by simp, by simp⟩
  · have hwt : (DataW.slice (elems.map (·.1)) (rest.map (·.1))).weights P t = (elems.length + rest.length) * P.bytesOf e :: (DataW.weightsAll P e (elems.map (·.1)) ++ DataW.weightsAll P e (rest.map (·.1))) := by
      simp [DataW.weights, ht]
    rw [hwt] at hz
    have key : ∀ i, i < len → ∃ y : α, wf y ∧ ∃ c, w.cells? 0 (a.add (i * P.cellsOf e)) (P.cellsOf e) = some c ∧ d.K w y c := by
      intro i hi
      have h1 := hel i hi
      rw [List.getElem?_eq_getElem (by omega)] at h1
      obtain ⟨c, hc1, hc2⟩ := Option.bind_eq_some_iff.mp h1
      obtain ⟨y, hy1, hy2⟩ := h m' (by omega) c _ hc2 (fun q hq => hz q (List.mem_cons_of_mem _ (List.mem_append_left _ (weights_mem (List.mem_map.2 ⟨_, List.getElem_mem _, rfl⟩) q hq))))
      exact ⟨y, hy2, c, hc1, hy1⟩
    obtain ⟨l, hll, hlp⟩ := choose_list key
    refine ⟨l, ⟨some a, cap, by rw [hll], by omega, rfl, ?_, fun _ => ⟨a, rfl, fun j p hj => ?_⟩⟩, ?_, fun y hy => ?_⟩
    · have : maxLen = 9223372036854775807 := by decide
      omega
    · obtain ⟨_, c, hc1, hK⟩ := hlp j p hj
      obtain ⟨_, hcl, hcell⟩ := World.cells?_some hc1
      rw [hc] at hcl hcell hc1
      refine ⟨c, hcl, hK, fun i u hi => ?_⟩
      have hi' : i < d.sz := by
        obtain ⟨h1, _⟩ := List.getElem?_eq_some_iff.mp hi
        omega
      have := hcell i hi'
      rw [add_add'] at this
      rw [this, hi]
    · have hq := hz _ (List.mem_cons_self ..)
      rw [hll, ← hlen]
      exact Nat.le_trans (Nat.mul_le_mul_right _ (by omega)) hq
    · obtain ⟨i, hi, rfl⟩ := List.getElem_of_mem hy
      exact (hlp i _ (List.getElem?_eq_getElem hi)).1
/-- The fields of a struct, from the cell o on. -/
def OpnFs (enc : TypeId × Value → H) (P : Program) (w : World) (d : Kd α) (fs : List Field) (o : Nat) (wf : α → Prop) (n : Nat) : Prop :=
  ∀ m, m ≤ n → ∀ cs : List Value, cs.length = o + d.sz → (∀ f ∈ fs, ∃ x, DataW.trod enc P w 0 (fun _ => true) true m f.type ((cs.drop f.offset).take (P.cellsOf f.type)) = some x ∧ ∀ q ∈ x.1.weights P f.type, q ≤ reachBytes) → ∃ a, d.K w a (cs.drop o) ∧ wf a
theorem opn_one {d : Kd α} {f : Field} {o : Nat} {wf : α → Prop} {n : Nat} (ho : f.offset = o) (hc : P.cellsOf f.type = d.sz) (h : Opn enc P w d f.type wf n) : OpnFs enc P w d [f] o wf n := by
  intro m hm cs hl hf
  obtain ⟨x, hx, hz⟩ := hf f (by simp)
  rw [ho, hc, List.take_of_length_le (by simp; omega)] at hx
  exact h m hm _ _ hx hz
theorem opn_pair {a : Kd α} {b : Kd β} {f : Field} {fs : List Field} {o : Nat} {wa : α → Prop} {wb : β → Prop} {n : Nat} (ho : f.offset = o) (hc : P.cellsOf f.type = a.sz) (h : Opn enc P w a f.type wa n) (hs : OpnFs enc P w b fs (o + a.sz) wb n) :
    OpnFs enc P w (Kd.pair a b) (f :: fs) o (fun x => wa x.1 ∧ wb x.2) n := by
  intro m hm cs hl hf
  have hl' : cs.length = o + (a.sz + b.sz) := hl
  obtain ⟨x, hx, hz0⟩ := hf f (by simp)
  rw [ho, hc] at hx
  obtain ⟨y, hy, wy⟩ := h m hm _ _ hx hz0
  obtain ⟨z, hz, wz⟩ := hs m hm cs (by omega) (fun g hg => hf g (by simp [hg]))
  refine ⟨(y, z), ⟨_, _, ?_, hy, hz⟩, wy, wz⟩
  rw [show cs.drop (o + a.sz) = (cs.drop o).drop a.sz by rw [List.drop_drop], List.take_append_drop]
theorem opn_struct {t : TypeId} {fs : Array Field} {d : Kd α} {wf : α → Prop} {n : Nat} (ht : P.underlying t = some (.struct fs)) (hc : P.cellsOf t = d.sz) (h : OpnFs enc P w d fs.toList 0 wf n) : Opn enc P w d t wf (n + 1) := by
  intro m hm cs x hx hz0
  obtain ⟨xs, m', rfl, rfl, hl, hxl, hf⟩ := DataW.trod_struct ht hx
  obtain ⟨a, ha, wa⟩ := h m' (by omega) cs (by omega) (fun f hf' => by
    obtain ⟨i, hi, rfl⟩ := List.getElem_of_mem hf'
    have hi' : i < fs.size := by simpa using hi
    have := hf i fs[i] (Array.getElem?_eq_getElem hi')
    rw [List.getElem?_eq_getElem (by omega)] at this
    refine ⟨_, this, fun q hq => hz0 q ?_⟩
    have hwt : (DataW.agg (xs.map (·.1))).weights P t = DataW.weightsEach P (fs.toList.map (·.type)) (xs.map (·.1)) := by simp [DataW.weights, ht]
    rw [hwt]
    refine DataW.weights_mem_each (j := i) (t := fs[i].type) (d := (xs[i]'(by omega)).1) (by simp [hi']) (by rw [List.getElem?_map, List.getElem?_eq_getElem (by omega)]; rfl) q ?_
    simpa using hq)
  exact ⟨a, ha, wa⟩
theorem opn_iso {t : TypeId} {d : Kd α} {f : β → α} (g : α → β) (hg : ∀ a, f (g a) = a) {wf : α → Prop} {n : Nat} (h : Opn enc P w d t wf n) : Opn enc P w (Kd.iso d f) t (fun b => wf (f b)) n := by
  intro m hm cs x hx hz
  obtain ⟨a, ha, wa⟩ := h m hm cs x hx hz
  exact ⟨g a, (by show d.K w (f (g a)) cs; rw [hg]; exact ha), by show wf (f (g a)); rw [hg]; exact wa⟩
end
end Go.Proofs.Ytckhlbpjehbnlaa.Reads
namespace Go.Proofs.Ytckhlbpjehbnlaa.PB
open Go.RowKit Go.Proofs.YtckhlbpjehbnlaaW.PrintWords Go.Proofs.YtckhlbpjehbnlaaW.PrintLast Go.Proofs.YtckhlbpjehbnlaaW.PrintMore Go.Proofs.Ytckhlbpjehbnlaa.Reads
/-- Its numbers are of their kind, within too. -/
inductive WfI : S54 → Prop
  | mk (x : S54) (h0 : (Lit.int .i64 x.f0).wf = true) (h1 : (Lit.int .i64 x.f1).wf = true) (h2 : (Lit.int .i64 x.f2).wf = true) (h3 : (Lit.int .i64 x.f3).wf = true) (l4 : x.f4.length ≤ 17592186044416) (h4 : ∀ n ∈ x.f4, (Lit.int .i64 n).wf = true)
      (l5 : x.f5.length ≤ 17592186044416) (h5 : ∀ y ∈ x.f5, WfI y) (l6 : x.f6.length ≤ 17592186044416) (h6 : ∀ y ∈ x.f6, WfI y) : WfI x
theorem k54_of {w : World} {x : S54} {cs : List Value} (h : (F54 k54).K w x cs) : k54.K w x cs := by
  obtain ⟨_, _, rfl, rfl, ⟨_, _, rfl, rfl, ⟨_, _, rfl, rfl, ⟨_, _, rfl, rfl, ⟨_, _, rfl, ⟨A4, c4, rfl, l4, g4⟩, ⟨_, _, rfl, ⟨A5, c5, rfl, l5, g5⟩, ⟨A6, c6, rfl, l6, g6⟩⟩⟩⟩⟩⟩⟩ := h
  exact k54_mk w x l4 g4 l5 g5 l6 g6
theorem len8 {n : Nat} (h : n * Try.prog.bytesOf 3 ≤ reachBytes) : n ≤ 17592186044416 := by
  have e : Try.prog.bytesOf 3 = 8 := by kernel_rfl
  rw [e] at h
  unfold reachBytes at h
  omega
theorem len104 {n : Nat} (h : n * Try.prog.bytesOf 54 ≤ reachBytes) : n ≤ 17592186044416 := by
  have e : Try.prog.bytesOf 54 = 104 := by kernel_rfl
  rw [e] at h
  unfold reachBytes at h
  omega
theorem opn54 {H : Type} {enc : TypeId × Value → H} {w : World} : ∀ n, Opn enc Try.prog w k54 54 WfI n := by
  intro n
  induction n with
  | zero =>
    intro m hm cs x hx hz
    obtain rfl : m = 0 := by omega
    simp [DataW.trod] at hx
  | succ n ih =>
    have hi : Opn enc Try.prog w (Kd.int .i64) 3 (fun x => (Lit.int .i64 x).wf = true) n := opn_int Try.underlying3 n
    have hN : Opn enc Try.prog w (Kd.slice 3 (Kd.int .i64)) 52 (fun l => l.length ≤ 17592186044416 ∧ ∀ x ∈ l, (Lit.int .i64 x).wf = true) n := ((opn_slice 3 Try.underlying52 (by kernel_rfl) (opn_int Try.underlying3 n)).imp (fun l h => ⟨len8 h.1, h.2⟩)).le (by omega)
    have hL : Opn enc Try.prog w (Kd.slice 54 k54) 29 (fun l => l.length ≤ 17592186044416 ∧ ∀ x ∈ l, WfI x) n := ((opn_slice 54 Try.underlying29 (by kernel_rfl) ih).imp (fun l h => ⟨len104 h.1, h.2⟩)).le (by omega)
    have hs := opn_struct (d := Kd.pair (Kd.int .i64) (Kd.pair (Kd.int .i64) (Kd.pair (Kd.int .i64) (Kd.pair (Kd.int .i64) (Kd.pair (Kd.slice 3 (Kd.int .i64)) (Kd.pair (Kd.slice 54 k54) (Kd.slice 54 k54))))))) Try.underlying54 (by kernel_rfl)
      (opn_pair rfl (by kernel_rfl) hi (opn_pair rfl (by kernel_rfl) hi (opn_pair rfl (by kernel_rfl) hi (opn_pair rfl (by kernel_rfl) hi (opn_pair rfl (by kernel_rfl) hN (opn_pair rfl (by kernel_rfl) hL (opn_one rfl (by kernel_rfl) hL)))))))
    have hq := opn_iso (f := fun x : S54 => (x.f0, x.f1, x.f2, x.f3, x.f4, x.f5, x.f6)) (fun q => ⟨q.1, q.2.1, q.2.2.1, q.2.2.2.1, q.2.2.2.2.1, q.2.2.2.2.2.1, q.2.2.2.2.2.2⟩) (fun _ => rfl) hs
    intro m hm cs x hx hz
    obtain ⟨a, ha, w0, w1, w2, w3, ⟨l4, w4⟩, ⟨l5, w5⟩, l6, w6⟩ := hq m hm cs x hx hz
    exact ⟨a, k54_of ha, .mk a w0 w1 w2 w3 l4 w4 l5 w5 l6 w6⟩
/-- The argument of a law: instructions. -/
theorem arg_instrs {H : Type} {enc : TypeId × Value → H} {w : World} {v : Value} {d : DataW H} {ps : List MemPlace} (h : DataW.Trod enc Try.prog w 0 (fun _ => true) true 29 v d ps) (hv : ∃ a len cap, v = .slice a len cap) (hz : ∀ q ∈ d.weights Try.prog 29, q ≤ reachBytes) :
    ∃ (A : Option Addr) (c : Nat) (l : List S54), v = .slice A l.length c ∧ l.length ≤ c ∧ Kd.C k54 w A l.length l ∧ l.length ≤ 17592186044416 ∧ ∀ x ∈ l, WfI x := by
  obtain ⟨n, hn⟩ := h
  obtain ⟨a, len, cap, rfl⟩ := hv
  obtain ⟨l, ⟨A, c, e, hc, hC⟩, hm, hw⟩ := (opn_slice 54 Try.underlying29 (by kernel_rfl) (opn54 n)) n (by omega) _ _ hn hz
  have e' : [Value.slice a len cap] = [Value.slice A l.length c] := e
  simp at e'
  obtain ⟨rfl, rfl, rfl⟩ := e'
  exact ⟨_, _, l, rfl, hc, hC, len104 hm, hw⟩
open Go.RowKit Go.Proofs.YtckhlbpjehbnlaaW.PrintWords Go.Proofs.YtckhlbpjehbnlaaW.PrintLast Go.Proofs.YtckhlbpjehbnlaaW.PrintMore
open Go.Proofs.Ytckhlbpjehbnlaa.Str Go.Proofs.Ytckhlbpjehbnlaa.LebS Go.Proofs.Ytckhlbpjehbnlaa.LebF
set_option linter.unusedVariables false
set_option linter.unusedSimpArgs false
/-- An opcode's bytes. -/
def opb (op : Int) : List Int := if op ≥ 64512 then 252 :: pu (op - 64512).toNat else [op]
/-- An opcode's shape. -/
def shS (op : Int) : Int := match instr_Shape.f 40 op with | some (s, _) => s | none => 0
theorem shS_eq {op s e : Int} (h : instr_Shape.f 40 op = some (s, e)) : shS op = s := by unfold shS; rw [h]
/-- What stands within a block, and its end. -/
def inner (rec : List S54 → List Int) (x : S54) : List Int := rec x.f5 ++ ((if x.f6.length = 0 then [] else 5 :: rec x.f6) ++ [11])
def encX (rec : List S54 → List Int) (x : S54) : List Int := opb x.f0 ++ (body (shS x.f0) x ++ (if shS x.f0 = 2 then inner rec x else []))
def encL (one : S54 → List Int) : List S54 → List Int
  | [] => []
  | x :: l => one x ++ encL one l
/-- Instructions' bytes; k: how deep they may stand in one another. -/
def encD : Nat → List S54 → List Int
  | 0 => fun _ => []
  | k + 1 => encL (encX (encD k))
/-- An instruction whose own numbers may be. -/
def okx (x : S54) : Prop := ∃ s t, instr_Shape.f 40 x.f0 = some (s, 0) ∧ instr_Type.f 5 x.f1 = some t ∧ mayS s x.f0 x.f1 x.f2 x.f3 x.f4 x.f5 x.f6 t = true ∧ -9223372036854775808 ≤ x.f1 ∧ x.f1 < 9223372036854775808
/-- Instructions that may be, so deep. -/
def okD : Nat → List S54 → Prop
  | 0 => fun l => l = []
  | k + 1 => fun l => ∀ x ∈ l, okx x ∧ okD k x.f5 ∧ okD k x.f6 ∧ (k = 0 → blk x.f0 = false)
def cntL (one : S54 → Nat) : List S54 → Nat
  | [] => 0
  | x :: l => one x + cntL one l
/-- How many there are. -/
def cntD : Nat → List S54 → Nat
  | 0 => fun _ => 0
  | k + 1 => cntL fun x => 1 + cntD k x.f5 + cntD k x.f6
theorem blk_iff {op : Int} : blk op = true ↔ 2 ≤ op ∧ op ≤ 4 := by simp [blk]
theorem encX_eq {rec : List S54 → List Int} {x : S54} {s e : Int} (h : instr_Shape.f 40 x.f0 = some (s, e)) : encX rec x = opb x.f0 ++ (body s x ++ (if s = 2 then inner rec x else [])) := by
  unfold encX; rw [shS_eq h]
theorem cntD_len (k : Nat) : ∀ l : List S54, l.length ≤ cntD (k + 1) l := by
  intro l
  induction l with
  | nil => simp
  | cons x l ih =>
    have : cntD (k + 1) (x :: l) = 1 + cntD k x.f5 + cntD k x.f6 + cntD (k + 1) l := rfl
    simp only [List.length_cons]; omega
theorem opc_eq {op s : Int} (h : ShOk op s) : opc op = some (strOfNums (opb op)) := by
  unfold opc opb
  have := h.range
  by_cases h1 : op ≥ 64512
  · rw [if_pos h1, if_pos h1, wrap64_id (by omega) (by omega), PutU_eq _ (by omega) 12 (by omega)]
    simp only [Option.bind_some]
    unfold puZ
    rw [if_neg (by omega), ← strOfNums_append]
    rfl
  · rw [if_neg h1, if_neg h1, show op % 256 = op by omega]
theorem wf64_mk {n : Int} (h0 : -9223372036854775808 ≤ n) (h1 : n < 9223372036854775808) : (Lit.int .i64 n).wf = true := by
  simp [Lit.wf, IntKind.min, IntKind.max, IntKind.bits, IntKind.signed]
  omega
theorem putU_in {a : Int} (h : inx a = true) : leb_PutU.f 12 a = some (strOfNums (pu a.toNat)) := by
  have := inx_iff.mp h
  rw [PutU_eq _ (by omega) 12 (by omega)]
  unfold puZ
  rw [if_neg (by omega)]
theorem or64 (b : Int) (h0 : 0 ≤ b) (h1 : b < 64) : Go.bits .or .i64 b 64 = b + 64 := by
  have h : ∀ y : Fin 64, Go.bits .or .i64 (y.val : Int) 64 = (y.val : Int) + 64 := by decide +kernel
  have := h ⟨b.toNat, by omega⟩
  simp only at this
  rw [show ((b.toNat : Nat) : Int) = b by omega] at this
  exact this
theorem putS_eq {x : S54} {s : Int} {t : Int × Int} (rec : List S54 → Option ByteArray) (hk : ShOk x.f0 s) (ht : instr_Type.f 5 x.f1 = some t) (hm : mayS s x.f0 x.f1 x.f2 x.f3 x.f4 x.f5 x.f6 t = true)
    (h0 : -9223372036854775808 ≤ x.f1) (h1 : x.f1 < 9223372036854775808) (h2 : s ≠ 2) : putS s rec x = some (strOfNums (body s x)) := by
  obtain ⟨op, a, b, m, N, L, E⟩ := x
  simp only at hk ht hm h0 h1 ⊢
  rcases s_cases hk with rfl | rfl | rfl | rfl | rfl | rfl | rfl | rfl | rfl | rfl | rfl
  · simp only [putS, body, Int.reduceEq, if_false]; rfl
  · exact absurd rfl h2
  · simp [mayS] at hm
    simp only [putS, body, Int.reduceEq, if_false, if_true]
    exact putU_in hm.1
  · simp [mayS] at hm
    obtain ⟨⟨⟨ha, hn⟩, hN⟩, rfl, rfl, rfl, rfl⟩ := hm
    simp only [putS, body, two, Int.reduceEq, if_false, if_true]
    have hw : ∀ x ∈ N, (Lit.int .i64 x).wf = true := fun x hx => by
      have := inx_iff.mp (hN x hx)
      exact wf64_mk (by omega) (by omega)
    rw [PutAll_eq N hw (by omega) _ (by omega), putU_in ha]
    simp only [Option.bind_some, ← strOfNums_append, List.append_assoc]
  · simp [mayS] at hm
    simp only [putS, body, two, Int.reduceEq, if_false, if_true]
    rw [putU_in hm.1.1, putU_in hm.1.2]
    simp only [Option.bind_some, ← strOfNums_append]
  · simp [mayS] at hm
    obtain ⟨h1, h2⟩ := ty_ok (t := t.1) (e := t.2) ht hm.1
    simp only [putS, body, Int.reduceEq, if_false, if_true]
    rw [show a % 256 = a by omega, show (⟨#[1]⟩ : ByteArray) = strOfNums [1] by decide +kernel, ← strOfNums_append]
    rfl
  · simp [mayS] at hm
    obtain ⟨⟨⟨⟨ha, hm⟩, hb0⟩, hb1⟩, rfl, rfl, rfl⟩ := hm
    have hb : inx b = true := inx_iff.mpr (by omega)
    have hb2 : inx (b + 64) = true := inx_iff.mpr (by omega)
    simp only [putS, body, two, Int.reduceEq, if_false, if_true]
    split
    · rw [or64 b hb0 hb1, putU_in hb2, putU_in hm, putU_in ha]
      simp only [Option.bind_some, ← strOfNums_append, List.append_assoc]
    · rw [putU_in hb, putU_in ha]
      simp only [Option.bind_some, ← strOfNums_append, List.append_assoc]
  · simp [mayS] at hm
    simp only [putS, body, Int.reduceEq, if_false, if_true]
    exact putU_in hm.1
  · simp [mayS] at hm
    simp only [putS, body, two, Int.reduceEq, if_false, if_true]
    rw [putU_in hm.1.2, putU_in hm.1.1]
    simp only [Option.bind_some, ← strOfNums_append]
  · simp only [putS, body, Int.reduceEq, if_false, if_true]
    exact PutS_eq a h0 h1 12 (by omega)
  · simp only [putS, body, Int.reduceEq, if_false, if_true]
theorem putF_eq : ∀ (k j : Nat) (l : List S54), k < j → okD k l → cntD k l ≤ 8192 → putF j l = some (strOfNums (encD k l)) := by
  intro k
  induction k with
  | zero =>
    intro j l hj hl _
    obtain ⟨j, rfl⟩ : ∃ i, j = i + 1 := ⟨j - 1, by omega⟩
    rw [show l = [] from hl]
    unfold putF
    rw [if_pos (by simp)]
    simp only [putL, encD]
    rfl
  | succ k ih =>
    intro j l hj hl hc
    obtain ⟨j, rfl⟩ : ∃ i, j = i + 1 := ⟨j - 1, by omega⟩
    have hlen := cntD_len k l
    unfold putF
    rw [if_pos (by omega)]
    clear hlen
    induction l with
    | nil => simp only [putL, encD, encL]; rfl
    | cons x l ihl =>
      have hcc : cntD (k + 1) (x :: l) = 1 + cntD k x.f5 + cntD k x.f6 + cntD (k + 1) l := rfl
      obtain ⟨⟨s, t, hs, ht, hm, h0, h1⟩, hL, hE, _⟩ := hl x (by simp)
      have hk := shp_ok hs
      have e : encD (k + 1) (x :: l) = encX (encD k) x ++ encD (k + 1) l := rfl
      have hrest := ihl (fun y hy => hl y (by simp [hy])) (by omega)
      have hone : putOne (putF j) x = some (strOfNums (encX (encD k) x)) := by
        unfold putOne
        rw [opc_eq hk, hs]
        simp only [Option.bind_some]
        rw [encX_eq hs]
        by_cases h2 : s = 2
        · subst h2
          have hbt : body 2 x = ps x.f1 := rfl
          simp only [putS, if_true, hbt]
          rw [PutS_eq _ h0 h1 12 (by omega), ih j x.f5 (by omega) hL (by omega)]
          simp only [Option.bind_some]
          unfold inner
          by_cases h6 : x.f6.length = 0
          · rw [if_pos h6, if_pos h6]
            simp only [Option.bind_some, ← strOfNums_append, List.nil_append]
          · rw [if_neg h6, if_neg h6, ih j x.f6 (by omega) hE (by omega)]
            simp only [Option.bind_some, ← strOfNums_append, List.cons_append, List.nil_append, List.append_assoc]
        · rw [putS_eq (putF j) hk ht hm h0 h1 h2, if_neg h2]
          simp only [Option.bind_some, ← strOfNums_append, List.append_nil]
      rw [e]
      simp only [putL]
      rw [hone, hrest]
      simp only [Option.bind_some, ← strOfNums_append]
theorem may_leaf {x : S54} {s : Int} {t : Int × Int} (hk : ShOk x.f0 s) (hm : mayS s x.f0 x.f1 x.f2 x.f3 x.f4 x.f5 x.f6 t = true) (h2 : s ≠ 2) : x.f5 = [] ∧ x.f6 = [] := by
  rcases s_cases hk with rfl | rfl | rfl | rfl | rfl | rfl | rfl | rfl | rfl | rfl | rfl <;> simp [mayS] at hm
  · exact ⟨hm.2.2.2.2.1, hm.2.2.2.2.2⟩
  · exact absurd rfl h2
  · exact ⟨hm.2.2.2.2.1, hm.2.2.2.2.2⟩
  · exact ⟨hm.2.2.2.1, hm.2.2.2.2⟩
  · exact ⟨hm.2.2.2.1, hm.2.2.2.2⟩
  · exact ⟨hm.2.2.2.2.1, hm.2.2.2.2.2⟩
  · exact ⟨hm.2.2.1, hm.2.2.2⟩
  · exact ⟨hm.2.2.2.2.1, hm.2.2.2.2.2⟩
  · exact ⟨hm.2.2.2.1, hm.2.2.2.2⟩
  · exact ⟨hm.2.2.2.2.1, hm.2.2.2.2.2⟩
  · exact ⟨hm.2.2.2.2.1, hm.2.2.2.2.2⟩
theorem may_at {x : S54} (h : WfI x) : ∃ b, instr_may.f x.f0 x.f1 x.f2 x.f3 x.f4 x.f5 x.f6 = some b ∧ (b = true ↔ okx x) := by
  obtain ⟨x, h0, h1, h2, h3, l4, h4, l5, h5, l6, h6⟩ := h
  obtain ⟨s, e, hs, hk⟩ := shp_any x.f0
  obtain ⟨t, e', ht, _⟩ := ty_at x.f1
  unfold instr_may.f
  rw [if_pos (by omega), hs, ht]
  simp only [Option.bind_some]
  refine ⟨_, rfl, ?_⟩
  have hw := wf64 h1
  constructor
  · intro hb
    rw [Bool.and_eq_true] at hb
    have he : e = 0 := by simpa using hb.1
    subst he
    exact ⟨s, (t, e'), hs, ht, hb.2, hw.1, hw.2⟩
  · rintro ⟨s', t', hs', ht', hm, _, _⟩
    rw [hs] at hs'
    rw [ht] at ht'
    obtain ⟨rfl, rfl⟩ := Prod.mk.inj (Option.some.inj hs')
    obtain rfl := Option.some.inj ht'
    simp only [beq_self_eq_true, Bool.true_and]
    exact hm
theorem sum3 (n a b : Nat) (hn : n ≤ 8192) (ha : 0 + a ≤ 8192) (hb : 0 + b ≤ 8192) : wrap64 ((n : Int) + wrap64 (wrap64 (1 + ((0 + a : Nat) : Int)) + ((0 + b : Nat) : Int))) = ((n + 1 + a + b : Nat) : Int) := by
  rw [wrap64_id (n := 1 + ((0 + a : Nat) : Int)) (by omega) (by omega), wrap64_id (n := 1 + ((0 + a : Nat) : Int) + ((0 + b : Nat) : Int)) (by omega) (by omega), wrap64_id (by omega) (by omega)]
  omega
theorem succ3 (i : Nat) (hi : i ≤ 17592186044416) : wrap64 ((i : Int) + 1) = ((i + 1 : Nat) : Int) := by
  rw [wrap64_id (by omega) (by omega)]
  omega
open Classical in
/-- What Count answers. -/
noncomputable def resC (k : Nat) (n : Nat) (l : List S54) : Int × Bool := if okD k l ∧ n + cntD k l ≤ 8192 then (((n + cntD k l : Nat) : Int), true) else (0, false)
theorem resC_yes {k n : Nat} {l : List S54} (h : okD k l) (h1 : n + cntD k l ≤ 8192) : resC k n l = (((n + cntD k l : Nat) : Int), true) := by unfold resC; rw [if_pos ⟨h, h1⟩]
theorem resC_no {k n : Nat} {l : List S54} (h : ¬ (okD k l ∧ n + cntD k l ≤ 8192)) : resC k n l = (0, false) := by unfold resC; rw [if_neg h]
theorem rd_at {l ys : List S54} {x : S54} {i : Nat} (h : l.drop i = x :: ys) : rd_T54 l (i : Int) = x ∧ i < l.length ∧ l.drop (i + 1) = ys := by
  have hi : i < l.length := by
    rcases Nat.lt_or_ge i l.length with h1 | h1
    · exact h1
    · rw [List.drop_eq_nil_of_le h1] at h; cases h
  rw [List.drop_eq_getElem_cons hi] at h
  simp only [List.cons.injEq] at h
  refine ⟨?_, hi, h.2⟩
  unfold rd_T54
  rw [Int.toNat_natCast, List.getD_eq_getElem?_getD, List.getElem?_eq_getElem hi]
  simpa using h.1
set_option maxHeartbeats 1000000 in
theorem count_l0 (k : Nat) (deep : Int) (hd : 0 ≤ deep) (hdk : deep + (k + 1 : Nat) = 33)
    (IH : ∀ (l : List S54), (k = 0 → l = []) → (∀ x ∈ l, WfI x) → l.length ≤ 17592186044416 → ∀ F : Nat, 30000 * k + 10 ≤ F → instr_count.f F l (deep + 1) = some (resC k 0 l)) (l : List S54) (hlen : l.length ≤ 17592186044416) :
    ∀ (ys : List S54) (i n F : Nat), l.drop i = ys → (∀ x ∈ ys, WfI x) → n ≤ 8192 → 30000 * k + 20 + 3 * (8193 - n) ≤ F → instr_count.l0 F deep (n : Int) l (l.length : Int) (i : Int) = some (resC (k + 1) n ys) := by
  intro ys
  induction ys with
  | nil =>
    intro i n F hdrop _ hn hF
    obtain ⟨F, rfl⟩ : ∃ q, F = q + 1 := ⟨F - 1, by omega⟩
    simp only [instr_count.l0]
    have hge : l.length ≤ i := List.drop_eq_nil_iff.mp hdrop
    rw [if_neg (by omega), resC_yes (by intro x hx; cases hx) (by show n + 0 ≤ 8192; omega)]
    rfl
  | cons x ys ih =>
    intro i n F hdrop hw hn hF
    obtain ⟨F, rfl⟩ : ∃ q, F = q + 3 := ⟨F - 3, by omega⟩
    obtain ⟨hx, hi, hdrop1⟩ := rd_at hdrop
    have hwx := hw x (by simp)
    obtain ⟨b, hb, hbk⟩ := may_at hwx
    have hcnt : cntD (k + 1) (x :: ys) = 1 + cntD k x.f5 + cntD k x.f6 + cntD (k + 1) ys := rfl
    have hok : okD (k + 1) (x :: ys) ↔ (okx x ∧ okD k x.f5 ∧ okD k x.f6 ∧ (k = 0 → blk x.f0 = false)) ∧ okD (k + 1) ys := by
      constructor
      · intro h; exact ⟨h x (by simp), fun y hy => h y (by simp [hy])⟩
      · rintro ⟨h1, h2⟩ y hy
        rcases List.mem_cons.mp hy with rfl | hy
        · exact h1
        · exact h2 y hy
    rw [instr_count.l0, if_pos (by omega), if_pos (by omega), if_pos (by omega), hx, hb]
    simp only [Option.bind_some]
    have jno : instr_count.j1 (F + 2) deep (n : Int) l (l.length : Int) (i : Int) true x.f0 x.f1 x.f2 x.f3 x.f4 x.f5 x.f6 = some (0, false) := by simp only [instr_count.j1, if_true]
    cases b with
    | false =>
      simp only [Bool.false_eq_true, if_false]
      rw [jno, resC_no]
      rintro ⟨h1, _⟩
      exact absurd (hbk.mpr (hok.mp h1).1.1) (by simp)
    | true =>
      simp only [if_true]
      have hokx := hbk.mp rfl
      -- where instructions may stand
      have hj : (k = 0 → x.f5 = []) → (k = 0 → x.f6 = []) → (k = 0 → blk x.f0 = false) → instr_count.j1 (F + 2) deep (n : Int) l (l.length : Int) (i : Int) false x.f0 x.f1 x.f2 x.f3 x.f4 x.f5 x.f6 = some (resC (k + 1) n (x :: ys)) := by
        intro k5 k6 kb
        obtain ⟨_, _, _, _, _, _, _, l5, h5, l6, h6⟩ := hwx
        simp only [instr_count.j1, Bool.false_eq_true, if_false]
        rw [wrap64_id (by omega) (by omega), IH x.f5 k5 h5 l5 (F + 1) (by omega), Option.bind_some, IH x.f6 k6 h6 l6 (F + 1) (by omega), Option.bind_some]
        by_cases c5 : okD k x.f5 ∧ 0 + cntD k x.f5 ≤ 8192
        · by_cases c6 : okD k x.f6 ∧ 0 + cntD k x.f6 ≤ 8192
          · rw [resC_yes c5.1 c5.2, resC_yes c6.1 c6.2]
            simp only [if_true, Bool.not_true, instr_count.j2, Bool.false_eq_true, if_false]
            rw [sum3 n _ _ hn c5.2 c6.2]
            by_cases hbig : n + 1 + cntD k x.f5 + cntD k x.f6 ≤ 8192
            · rw [if_neg (by omega), succ3 i (by omega)]
              have := ih (i + 1) (n + 1 + cntD k x.f5 + cntD k x.f6) F hdrop1 (fun y hy => hw y (by simp [hy])) hbig (by omega)
              rw [this]
              by_cases hr : okD (k + 1) ys ∧ n + 1 + cntD k x.f5 + cntD k x.f6 + cntD (k + 1) ys ≤ 8192
              · rw [resC_yes hr.1 hr.2, resC_yes (hok.mpr ⟨⟨hokx, c5.1, c6.1, kb⟩, hr.1⟩) (by omega), hcnt]
                congr 3
                omega
              · rw [resC_no hr, resC_no]
                rintro ⟨g1, g2⟩
                exact hr ⟨(hok.mp g1).2, by omega⟩
            · rw [if_pos (by omega), resC_no]
              rintro ⟨g1, g2⟩
              omega
          · rw [resC_yes c5.1 c5.2, resC_no c6]
            simp only [if_true, Bool.not_false, instr_count.j2]
            rw [resC_no]
            rintro ⟨g1, g2⟩
            exact c6 ⟨(hok.mp g1).1.2.2.1, by omega⟩
        · rw [resC_no c5]
          simp only [Bool.false_eq_true, if_false, instr_count.j2, if_true]
          rw [resC_no]
          rintro ⟨g1, g2⟩
          exact c5 ⟨(hok.mp g1).1.2.1, by omega⟩
      by_cases h32 : deep = 32
      · have k0 : k = 0 := by omega
        rw [if_pos h32]
        have hno : ¬ (x.f5 = [] ∧ x.f6 = [] ∧ blk x.f0 = false) → some ((0 : Int), false) = some (resC (k + 1) n (x :: ys)) := by
          intro hh
          rw [resC_no]
          rintro ⟨g1, _⟩
          have q := (hok.mp g1).1
          subst k0
          exact hh ⟨q.2.1, q.2.2.1, q.2.2.2 rfl⟩
        by_cases p5 : ((x.f5.length : Int)) > 0
        · rw [if_pos p5, jno, hno]
          rintro ⟨e5, _⟩
          rw [e5] at p5; simp at p5
        · have e5 : x.f5 = [] := List.length_eq_zero_iff.mp (by omega)
          rw [if_neg p5]
          by_cases p6 : ((x.f6.length : Int)) > 0
          · rw [if_pos p6, jno, hno]
            rintro ⟨_, e6, _⟩
            rw [e6] at p6; simp at p6
          · have e6 : x.f6 = [] := List.length_eq_zero_iff.mp (by omega)
            rw [if_neg p6, blk_at]
            simp only [Option.bind_some]
            cases hbk2 : blk x.f0 with
            | true => rw [jno, hno]; rintro ⟨_, _, h⟩; rw [hbk2] at h; cases h
            | false => exact hj (fun _ => e5) (fun _ => e6) (fun _ => hbk2)
      · rw [if_neg h32]
        exact hj (fun h => by omega) (fun h => by omega) (fun h => by omega)
theorem count_f : ∀ (k : Nat) (deep : Int), 0 ≤ deep → deep + k = 33 → ∀ (l : List S54), (k = 0 → l = []) → (∀ x ∈ l, WfI x) → l.length ≤ 17592186044416 → ∀ F : Nat, 30000 * k + 10 ≤ F → instr_count.f F l deep = some (resC k 0 l) := by
  intro k
  induction k with
  | zero =>
    intro deep h0 hd l hl _ _ F hF
    rw [hl rfl]
    obtain ⟨F, rfl⟩ : ∃ q, F = q + 2 := ⟨F - 2, by omega⟩
    simp only [instr_count.f, instr_count.l0]
    rw [if_neg (by simp), resC_yes (k := 0) (l := []) (n := 0) rfl (by show 0 + 0 ≤ 8192; omega)]
    rfl
  | succ k ih =>
    intro deep h0 hd l _ hw hlen F hF
    obtain ⟨F, rfl⟩ : ∃ q, F = q + 1 := ⟨F - 1, by omega⟩
    simp only [instr_count.f]
    exact count_l0 k deep h0 hd (fun l h1 h2 h3 F hF => ih (deep + 1) (by omega) (by omega) l h1 h2 h3 F hF) l hlen l 0 0 F (by simp) hw (by omega) (by omega)
/-- Count's answer. -/
theorem Count_eq {l : List S54} (hw : ∀ x ∈ l, WfI x) (hlen : l.length ≤ 17592186044416) (F : Nat) (hF : 1000000 ≤ F) : instr_Count.f F l = some (resC 33 0 l) := by
  unfold instr_Count.f
  rw [count_f 33 0 (by omega) (by omega) l (by omega) hw hlen F (by omega)]
  rfl
theorem cnt_le {k : Nat} {x : S54} {l : List S54} : cntD (k + 1) (x :: l) = 1 + cntD k x.f5 + cntD k x.f6 + cntD (k + 1) l := rfl
theorem pu5 {n : Nat} (h : n < 4294967296) : (pu n).length ≤ 5 := pu_len 4 n (by omega)
theorem pu_in {a : Int} (h : inx a = true) : (pu a.toNat).length ≤ 5 := by
  have := inx_iff.mp h
  exact pu5 (by omega)
theorem ps10 {n : Int} (h0 : -9223372036854775808 ≤ n) (h1 : n < 9223372036854775808) : (ps n).length ≤ 10 := ps_len 9 n (by omega) (by omega)
theorem opb_len {op s : Int} (h : ShOk op s) : (opb op).length ≤ 6 := by
  unfold opb
  have := h.range
  split
  · have := pu5 (n := (op - 64512).toNat) (by omega)
    simp only [List.length_cons]; omega
  · simp
theorem body_len {x : S54} {s : Int} {t : Int × Int} (hk : ShOk x.f0 s) (hm : mayS s x.f0 x.f1 x.f2 x.f3 x.f4 x.f5 x.f6 t = true) (h0 : -9223372036854775808 ≤ x.f1) (h1 : x.f1 < 9223372036854775808) : (body s x).length ≤ 9020 := by
  obtain ⟨op, a, b, m, N, L, E⟩ := x
  simp only at hk hm h0 h1 ⊢
  have hps := ps10 h0 h1
  rcases s_cases hk with rfl | rfl | rfl | rfl | rfl | rfl | rfl | rfl | rfl | rfl | rfl <;> simp [mayS] at hm <;> simp only [body, Int.reduceEq, if_false, if_true]
  · simp
  · omega
  · have := pu_in hm.1; omega
  · obtain ⟨⟨⟨ha, hn⟩, hN⟩, rfl, rfl, rfl, rfl⟩ := hm
    have hw : ∀ x ∈ N, (Lit.int .i64 x).wf = true := fun x hx => by
      have := inx_iff.mp (hN x hx)
      exact wf64_mk (by omega) (by omega)
    have h3 := puA_len N hw
    have h4 := pu_in ha
    have h5 := pu5 (n := N.length) (by omega)
    simp only [List.length_append]
    omega
  · have h3 := pu_in hm.1.1
    have h4 := pu_in hm.1.2
    simp only [List.length_append]; omega
  · simp
  · obtain ⟨⟨⟨⟨ha, hm⟩, hb0⟩, hb1⟩, rfl, rfl, rfl⟩ := hm
    have h3 := pu_in ha
    have h4 := pu_in hm
    have h5 := pu5 (n := (b + 64).toNat) (by omega)
    have h6 := pu5 (n := b.toNat) (by omega)
    split <;> simp only [List.length_append] <;> omega
  · have := pu_in hm.1; omega
  · have h3 := pu_in hm.1.1
    have h4 := pu_in hm.1.2
    simp only [List.length_append]; omega
  · omega
  · simp
theorem encD_size : ∀ (k : Nat) (l : List S54), okD k l → (encD k l).length ≤ 9100 * cntD k l := by
  intro k
  induction k with
  | zero => intro l h; simp [encD, cntD]
  | succ k ih =>
    intro l
    induction l with
    | nil => intro _; simp [encD, encL, cntD, cntL]
    | cons x l ihl =>
      intro h
      have h1 := ihl (fun y hy => h y (by simp [hy]))
      obtain ⟨⟨s, t, hs, ht, hm, h0, h2⟩, hL, hE, _⟩ := h x (by simp)
      have e : encD (k + 1) (x :: l) = encX (encD k) x ++ encD (k + 1) l := rfl
      have hk := shp_ok hs
      rw [e, encX_eq hs, cnt_le]
      have a1 := opb_len hk
      have a2 := body_len hk hm h0 h2
      have a3 := ih _ hL
      have a4 := ih _ hE
      have a5 : (if s = 2 then inner (encD k) x else []).length ≤ (encD k x.f5).length + (encD k x.f6).length + 2 := by
        split
        · unfold inner
          simp only [List.length_append, List.length_singleton]
          split
          · simp only [List.length_nil]; omega
          · simp only [List.length_cons]; omega
        · simp
      simp only [List.length_append]
      omega
/-- Instructions that may be laid. -/
def Fits (l : List S54) : Prop := okD 33 l ∧ cntD 33 l ≤ 8192
theorem Fits.len {l : List S54} (h : Fits l) : (encD 33 l).length ≤ 80000000 := by
  have := encD_size 33 l h.1
  have := h.2
  omega
theorem Put_yes {l : List S54} (hw : ∀ x ∈ l, WfI x) (hl : l.length ≤ 17592186044416) (h : Fits l) : instr_Put.f l = some (strOfNums (encD 33 l ++ [11]), 0) := by
  unfold instr_Put.f
  have h2 := h.2
  rw [Count_eq hw hl 1000000 (Nat.le_refl _), resC_yes h.1 (by omega)]
  simp only [Option.bind_some, if_true]
  rw [putF_eq 33 60 l (by omega) h.1 h2]
  simp only [Option.bind_some]
  have := h.len
  rw [if_pos (by rw [strOfNums_size]; omega), ← strOfNums_append]
theorem Put_no {l : List S54} (hw : ∀ x ∈ l, WfI x) (hl : l.length ≤ 17592186044416) (h : ¬ Fits l) : instr_Put.f l = some (⟨#[]⟩, 1) := by
  unfold instr_Put.f
  rw [Count_eq hw hl 1000000 (Nat.le_refl _), resC_no (fun ⟨h1, h2⟩ => h ⟨h1, by omega⟩)]
  simp
theorem awk (k : Nat) (hk : 1 ≤ k) : scarflaw05_awake.f k = some true := by
  obtain ⟨k, rfl⟩ : ∃ m, k = m + 1 := ⟨k - 1, by omega⟩
  exact awake_ok k
theorem nSame_l0 (l : List Int) (hn : l.length ≤ 4611686018427387904) : ∀ (m i k : Nat), i + m = l.length → m + 1 ≤ k → scarfref01_Same.l0 k l l (i : Int) = some true := by
  intro m
  induction m with
  | zero =>
    intro i k hi hk
    obtain ⟨k, rfl⟩ : ∃ m, k = m + 1 := ⟨k - 1, by omega⟩
    rw [scarfref01_Same.l0, if_neg (by omega)]
  | succ m ih =>
    intro i k hi hk
    obtain ⟨k, rfl⟩ : ∃ m, k = m + 1 := ⟨k - 1, by omega⟩
    have hi1 : wrap64 ((i : Int) + 1) = ((i + 1 : Nat) : Int) := by rw [wrap64_id (by omega) (by omega)]; omega
    rw [scarfref01_Same.l0, if_pos (by omega), if_pos (by omega), if_pos (by omega), if_pos rfl, hi1, ih (i + 1) k (by omega) (by omega)]
theorem nSame_eq (l : List Int) (hn : l.length ≤ 4611686018427387904) (k : Nat) (hk : l.length + 1 ≤ k) : scarfref01_Same.f k l l = some true := by
  unfold scarfref01_Same.f
  rw [if_pos rfl]
  have := nSame_l0 l hn l.length 0 k (by omega) (by omega)
  rwa [show ((0 : Nat) : Int) = 0 from rfl] at this
theorem same_up {a b : List S54} {k k' : Nat} {r : Bool} (h : scarfref05_Same.f k a b = some r) (hk : k ≤ k') : scarfref05_Same.f k' a b = some r := at_rounds (scarfref05_Same.mono a b) hk h
theorem same_l0_up {a b : List S54} {i : Int} {k k' : Nat} {r : Bool} (h : scarfref05_Same.l0 k a b i = some r) (hk : k ≤ k') : scarfref05_Same.l0 k' a b i = some r := at_rounds (fun k => (scarfref05_Same.mono_l k).2 a b i) hk h
theorem same_l0 (l : List S54) (hlen : l.length ≤ 17592186044416) : ∀ (ys : List S54) (i : Nat), l.drop i = ys → (∀ x ∈ ys, x.f4.length ≤ 17592186044416 ∧ (∃ k, scarfref05_Same.f k x.f5 x.f5 = some true) ∧ ∃ k, scarfref05_Same.f k x.f6 x.f6 = some true) → ∃ k, scarfref05_Same.l0 k l l (i : Int) = some true := by
  intro ys
  induction ys with
  | nil =>
    intro i hdrop _
    have hge : l.length ≤ i := List.drop_eq_nil_iff.mp hdrop
    exact ⟨1, by rw [scarfref05_Same.l0, if_neg (by omega)]⟩
  | cons x ys ih =>
    intro i hdrop hx
    obtain ⟨hrd, hi, hdrop1⟩ := rd_at hdrop
    obtain ⟨h4, ⟨k5, h5⟩, k6, h6⟩ := hx x (by simp)
    obtain ⟨kr, hr⟩ := ih (i + 1) hdrop1 (fun y hy => hx y (by simp [hy]))
    refine ⟨(x.f4.length + 1 + k5 + k6 + kr) + 1, ?_⟩
    rw [scarfref05_Same.l0, if_pos (by omega), if_pos (by omega), if_pos (by omega), hrd, if_pos rfl, if_pos rfl, if_pos rfl, if_pos rfl, nSame_eq x.f4 (by omega) _ (by omega)]
    simp only [Option.bind_some, if_true]
    rw [same_up h5 (by omega)]
    simp only [Option.bind_some, if_true]
    rw [same_up h6 (by omega)]
    simp only [Option.bind_some, if_true]
    rw [succ3 i (by omega)]
    exact same_l0_up hr (by omega)
theorem mayN {x : S54} {s : Int} {t : Int × Int} (hk : ShOk x.f0 s) (hm : mayS s x.f0 x.f1 x.f2 x.f3 x.f4 x.f5 x.f6 t = true) : x.f4.length ≤ 1000 := by
  rcases s_cases hk with rfl | rfl | rfl | rfl | rfl | rfl | rfl | rfl | rfl | rfl | rfl <;> simp [mayS] at hm
  · rw [hm.2.2.2.1]; simp
  · rw [hm.2.2.2]; simp
  · rw [hm.2.2.2.1]; simp
  · exact hm.1.1.2
  · rw [hm.2.2.1]; simp
  · rw [hm.2.2.2.1]; simp
  · rw [hm.2.1]; simp
  · rw [hm.2.2.2.1]; simp
  · rw [hm.2.2.1]; simp
  · rw [hm.2.2.2.1]; simp
  · rw [hm.2.2.2.1]; simp
theorem same_eq : ∀ (d : Nat) (l : List S54), okD d l → cntD d l ≤ 8192 → ∃ k, scarfref05_Same.f k l l = some true := by
  intro d
  induction d with
  | zero =>
    intro l hl _
    rw [show l = [] from hl]
    exact ⟨2, rfl⟩
  | succ d ih =>
    intro l hl hc
    have hlen := cntD_len d l
    have hsub : ∀ x ∈ l, cntD d x.f5 + cntD d x.f6 ≤ cntD (d + 1) l := by
      clear hc hlen hl
      induction l with
      | nil => intro x hx; cases hx
      | cons y l ihl =>
        intro x hx
        rw [cnt_le]
        rcases List.mem_cons.mp hx with rfl | hx
        · omega
        · have := ihl x hx; omega
    obtain ⟨k, hk⟩ := same_l0 l (by omega) l 0 (by simp) (fun x hx => by
      obtain ⟨⟨s, t, hs, ht, hm, _, _⟩, hL, hE, _⟩ := hl x hx
      have h1 := hsub x hx
      have h4 := mayN (shp_ok hs) hm
      exact ⟨by omega, ih _ hL (by omega), ih _ hE (by omega)⟩)
    refine ⟨k + 1, ?_⟩
    rw [scarfref05_Same.f, if_pos rfl]
    exact hk
theorem Fits.same {l : List S54} (h : Fits l) : ∃ k, scarfref05_Same.f k l l = some true := same_eq 33 l h.1 h.2
end Go.Proofs.Ytckhlbpjehbnlaa.PB
