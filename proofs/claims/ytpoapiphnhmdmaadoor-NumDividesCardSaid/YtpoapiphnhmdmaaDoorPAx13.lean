-- Laid by this session's wip/hp/hp.py: the kit's print with own contracts for what it does not take
import Derived.Test.YtpoapiphnhmdmaaDoorPAx0
import Derived.Test.YtpoapiphnhmdmaaDoorPAx2
import Derived.Test.YtpoapiphnhmdmaaDoorPAx3
import Derived.Test.YtpoapiphnhmdmaaDoorPAx6
namespace Go.Proofs.YtpoapiphnhmdmaaDoor.PA
open Go.RowKit Go.Proofs.YtpoapiphnhmdmaaDoorW.PrintWords Go.Proofs.YtpoapiphnhmdmaaDoorW.PrintLast Go.Proofs.YtpoapiphnhmdmaaDoorW.PrintMore
attribute [local go_sem] max2_int min2_int max_two min_two max_three min_three max_four min_four   -- for this text's walks alone
set_option linter.unusedVariables false
set_option linter.unusedSimpArgs false

/-! ### scarflaw03_NumDivides: function 7 -/
mutual
def scarflaw03_NumDivides.j0 : Nat → Int → Int → Bool → Int → Option (Bool)
  | 0, _, _, _, _ => none
  | k + 1, x0, x1, x2, x7 => (num_Bin.f k (wrap64 (x7 + 3)) x0 x1).bind fun bt303 => ((num_Bin.f k (wrap64 (x7 + 5)) x0 x1).bind fun bt306 => ((num_Bin.f k (wrap64 (x7 + 4)) x0 x1).bind fun bt309 => ((num_Bin.f k (wrap64 (x7 + 6)) x0 x1).bind fun bt312 => (if x1 = 0 then (if bt303.2.1 = 2 then (if bt306.2.1 = 2 then (if bt312.2.1 = 2 then ((scarflaw03_awake.f k).bind fun t315 => (some t315)) else (some false)) else (some false)) else (some false)) else (if bt306.2.1 = 0 then (scarflaw03_NumDivides.j1 k x0 x1 x2 x7 bt303.1 bt303.2.1 bt306.1 bt309.1 bt312.1 (bt312.2.1 != 0)) else (scarflaw03_NumDivides.j1 k x0 x1 x2 x7 bt303.1 bt303.2.1 bt306.1 bt309.1 bt312.1 true))))))
def scarflaw03_NumDivides.j1 : Nat → Int → Int → Bool → Int → Int → Int → Int → Int → Int → Bool → Option (Bool)
  | 0, _, _, _, _, _, _, _, _, _, _ => none
  | k + 1, x0, x1, x2, x7, x8, x9, x11, x14, x17, x87 => if x87 = true then (some false) else ((num_Bin.f k (wrap64 (x7 + 2)) x14 x1).bind fun bt316 => ((num_Bin.f k x7 bt316.1 x17).bind fun bt319 => (if x2 = true then (scarflaw03_NumDivides.j2 k x0 x1 x2 x8 x9 x11 bt319.1) else ((num_S32.f bt319.1).bind fun t322 => (scarflaw03_NumDivides.j2 k x0 x1 x2 x8 x9 x11 t322)))))
def scarflaw03_NumDivides.j2 : Nat → Int → Int → Bool → Int → Int → Int → Int → Option (Bool)
  | 0, _, _, _, _, _, _, _ => none
  | k + 1, x0, x1, x2, x8, x9, x11, x23 => if x23 = x0 then (if x9 = 3 then (if x1 = (-1) then (if x11 = 0 then (if x8 = 0 then ((scarflaw03_awake.f k).bind fun t323 => (some t323)) else (some false)) else (some false)) else (some false)) else (if x2 = true then (if x9 = 0 then (if (wrap64 ((wrap64 (x8 * x1)) + x11)) = x0 then (if x11 = 0 then (if x1 = (-9223372036854775808) then ((scarflaw03_awake.f k).bind fun t324 => (some t324)) else (if x1 < 0 then (if x11 > x1 then (if x11 < (wrap64 (-x1)) then ((scarflaw03_awake.f k).bind fun t325 => (some t325)) else (if x1 > 0 then (if x11 < x1 then (if x11 > (wrap64 (-x1)) then ((scarflaw03_awake.f k).bind fun t326 => (some t326)) else (some false)) else (some false)) else (some false))) else (if x1 > 0 then (if x11 < x1 then (if x11 > (wrap64 (-x1)) then ((scarflaw03_awake.f k).bind fun t327 => (some t327)) else (some false)) else (some false)) else (some false))) else (if x1 > 0 then (if x11 < x1 then (if x11 > (wrap64 (-x1)) then ((scarflaw03_awake.f k).bind fun t328 => (some t328)) else (some false)) else (some false)) else (some false)))) else (if ((decide (x11 < 0)) == (decide (x0 < 0))) = true then (if x1 = (-9223372036854775808) then ((scarflaw03_awake.f k).bind fun t329 => (some t329)) else (if x1 < 0 then (if x11 > x1 then (if x11 < (wrap64 (-x1)) then ((scarflaw03_awake.f k).bind fun t330 => (some t330)) else (if x1 > 0 then (if x11 < x1 then (if x11 > (wrap64 (-x1)) then ((scarflaw03_awake.f k).bind fun t331 => (some t331)) else (some false)) else (some false)) else (some false))) else (if x1 > 0 then (if x11 < x1 then (if x11 > (wrap64 (-x1)) then ((scarflaw03_awake.f k).bind fun t332 => (some t332)) else (some false)) else (some false)) else (some false))) else (if x1 > 0 then (if x11 < x1 then (if x11 > (wrap64 (-x1)) then ((scarflaw03_awake.f k).bind fun t333 => (some t333)) else (some false)) else (some false)) else (some false)))) else (some false))) else (some false)) else (some false)) else ((num_S32.f x8).bind fun t334 => ((num_S32.f x11).bind fun t335 => (if x9 = 0 then (if (wrap64 ((wrap64 (t334 * x1)) + t335)) = x0 then (if t335 = 0 then (if x1 = (-9223372036854775808) then ((scarflaw03_awake.f k).bind fun t336 => (some t336)) else (if x1 < 0 then (if t335 > x1 then (if t335 < (wrap64 (-x1)) then ((scarflaw03_awake.f k).bind fun t337 => (some t337)) else (if x1 > 0 then (if t335 < x1 then (if t335 > (wrap64 (-x1)) then ((scarflaw03_awake.f k).bind fun t338 => (some t338)) else (some false)) else (some false)) else (some false))) else (if x1 > 0 then (if t335 < x1 then (if t335 > (wrap64 (-x1)) then ((scarflaw03_awake.f k).bind fun t339 => (some t339)) else (some false)) else (some false)) else (some false))) else (if x1 > 0 then (if t335 < x1 then (if t335 > (wrap64 (-x1)) then ((scarflaw03_awake.f k).bind fun t340 => (some t340)) else (some false)) else (some false)) else (some false)))) else (if ((decide (t335 < 0)) == (decide (x0 < 0))) = true then (if x1 = (-9223372036854775808) then ((scarflaw03_awake.f k).bind fun t341 => (some t341)) else (if x1 < 0 then (if t335 > x1 then (if t335 < (wrap64 (-x1)) then ((scarflaw03_awake.f k).bind fun t342 => (some t342)) else (if x1 > 0 then (if t335 < x1 then (if t335 > (wrap64 (-x1)) then ((scarflaw03_awake.f k).bind fun t343 => (some t343)) else (some false)) else (some false)) else (some false))) else (if x1 > 0 then (if t335 < x1 then (if t335 > (wrap64 (-x1)) then ((scarflaw03_awake.f k).bind fun t344 => (some t344)) else (some false)) else (some false)) else (some false))) else (if x1 > 0 then (if t335 < x1 then (if t335 > (wrap64 (-x1)) then ((scarflaw03_awake.f k).bind fun t345 => (some t345)) else (some false)) else (some false)) else (some false)))) else (some false))) else (some false)) else (some false)))))) else (some false)
end
def scarflaw03_NumDivides.f (k : Nat) (a0 : Int) (a1 : Int) (a2 : Bool) : Option (Bool) := if a2 = true then (scarflaw03_NumDivides.j0 k a0 a1 a2 124) else ((num_S32.f a0).bind fun t301 => ((num_S32.f a1).bind fun t302 => (scarflaw03_NumDivides.j0 k t301 t302 a2 106)))
theorem scarflaw03_NumDivides.mono_l : ∀ k, (∀ y0 y1 y2 y3, LeO (scarflaw03_NumDivides.j0 k y0 y1 y2 y3) (scarflaw03_NumDivides.j0 (k + 1) y0 y1 y2 y3)) ∧ (∀ y0 y1 y2 y3 y4 y5 y6 y7 y8 y9, LeO (scarflaw03_NumDivides.j1 k y0 y1 y2 y3 y4 y5 y6 y7 y8 y9) (scarflaw03_NumDivides.j1 (k + 1) y0 y1 y2 y3 y4 y5 y6 y7 y8 y9)) ∧ (∀ y0 y1 y2 y3 y4 y5 y6, LeO (scarflaw03_NumDivides.j2 k y0 y1 y2 y3 y4 y5 y6) (scarflaw03_NumDivides.j2 (k + 1) y0 y1 y2 y3 y4 y5 y6))
  | 0 => ⟨fun _ _ _ _ r h => by simp [scarflaw03_NumDivides.j0] at h, fun _ _ _ _ _ _ _ _ _ _ r h => by simp [scarflaw03_NumDivides.j1] at h, fun _ _ _ _ _ _ _ r h => by simp [scarflaw03_NumDivides.j2] at h⟩
  | k + 1 => by
    obtain ⟨ih0, ih1, ih2⟩ := scarflaw03_NumDivides.mono_l k
    refine ⟨?_, ?_, ?_⟩
    · intro y0 y1 y2 y3
      unfold scarflaw03_NumDivides.j0
      repeat' first
      | (with_reducible exact ih0 _ _ _ _)
      | (with_reducible exact ih1 _ _ _ _ _ _ _ _ _ _)
      | (with_reducible exact ih2 _ _ _ _ _ _ _)
      | (with_reducible exact num_Bin.mono _ _ _ _)
      | (with_reducible exact scarflaw03_awake.mono _)
      | (with_reducible exact LeO.refl _)
      | (with_reducible exact LeO.none _)
      | (with_reducible refine LeO.ite ?_ ?_)
      | (with_reducible refine LeO.bind ?_ (fun _ => ?_))
      | exact ih0 _ _ _ _
      | exact ih1 _ _ _ _ _ _ _ _ _ _
      | exact ih2 _ _ _ _ _ _ _
      | exact num_Bin.mono _ _ _ _
      | exact scarflaw03_awake.mono _
      | exact LeO.none _
      | refine LeO.ite ?_ ?_
      | refine LeO.bind ?_ (fun _ => ?_)
    · intro y0 y1 y2 y3 y4 y5 y6 y7 y8 y9
      unfold scarflaw03_NumDivides.j1
      repeat' first
      | (with_reducible exact ih0 _ _ _ _)
      | (with_reducible exact ih1 _ _ _ _ _ _ _ _ _ _)
      | (with_reducible exact ih2 _ _ _ _ _ _ _)
      | (with_reducible exact num_Bin.mono _ _ _ _)
      | (with_reducible exact scarflaw03_awake.mono _)
      | (with_reducible exact LeO.refl _)
      | (with_reducible exact LeO.none _)
      | (with_reducible refine LeO.ite ?_ ?_)
      | (with_reducible refine LeO.bind ?_ (fun _ => ?_))
      | exact ih0 _ _ _ _
      | exact ih1 _ _ _ _ _ _ _ _ _ _
      | exact ih2 _ _ _ _ _ _ _
      | exact num_Bin.mono _ _ _ _
      | exact scarflaw03_awake.mono _
      | exact LeO.none _
      | refine LeO.ite ?_ ?_
      | refine LeO.bind ?_ (fun _ => ?_)
    · intro y0 y1 y2 y3 y4 y5 y6
      unfold scarflaw03_NumDivides.j2
      repeat' first
      | (with_reducible exact ih0 _ _ _ _)
      | (with_reducible exact ih1 _ _ _ _ _ _ _ _ _ _)
      | (with_reducible exact ih2 _ _ _ _ _ _ _)
      | (with_reducible exact num_Bin.mono _ _ _ _)
      | (with_reducible exact scarflaw03_awake.mono _)
      | (with_reducible exact LeO.refl _)
      | (with_reducible exact LeO.none _)
      | (with_reducible refine LeO.ite ?_ ?_)
      | (with_reducible refine LeO.bind ?_ (fun _ => ?_))
      | exact ih0 _ _ _ _
      | exact ih1 _ _ _ _ _ _ _ _ _ _
      | exact ih2 _ _ _ _ _ _ _
      | exact num_Bin.mono _ _ _ _
      | exact scarflaw03_awake.mono _
      | exact LeO.none _
      | refine LeO.ite ?_ ?_
      | refine LeO.bind ?_ (fun _ => ?_)
theorem scarflaw03_NumDivides.mono : ∀ a0 a1 a2 k, LeO (scarflaw03_NumDivides.f k a0 a1 a2) (scarflaw03_NumDivides.f (k + 1) a0 a1 a2) := by
  intro a0 a1 a2 k
  obtain ⟨ih0, ih1, ih2⟩ := scarflaw03_NumDivides.mono_l k
  unfold scarflaw03_NumDivides.f
  repeat' first
      | (with_reducible exact ih0 _ _ _ _)
      | (with_reducible exact ih1 _ _ _ _ _ _ _ _ _ _)
      | (with_reducible exact ih2 _ _ _ _ _ _ _)
      | (with_reducible exact num_Bin.mono _ _ _ _)
      | (with_reducible exact scarflaw03_awake.mono _)
      | (with_reducible exact LeO.refl _)
      | (with_reducible exact LeO.none _)
      | (with_reducible refine LeO.ite ?_ ?_)
      | (with_reducible refine LeO.bind ?_ (fun _ => ?_))
      | exact ih0 _ _ _ _
      | exact ih1 _ _ _ _ _ _ _ _ _ _
      | exact ih2 _ _ _ _ _ _ _
      | exact num_Bin.mono _ _ _ _
      | exact scarflaw03_awake.mono _
      | exact LeO.none _
      | refine LeO.ite ?_ ?_
      | refine LeO.bind ?_ (fun _ => ?_)
set_option maxHeartbeats 8000000 in
set_option maxRecDepth 100000 in
theorem scarflaw03_NumDivides.calls (k : Nat) (a0 : Int) (a1 : Int) (a2 : Bool) (r : Bool) (w : World) (hT : Tabs w) (h : scarflaw03_NumDivides.f k a0 a1 a2 = some r) :
    Calls Tryd.prog 7 #[.int .i64 a0, .int .i64 a1, .bool a2] w fun e w' => e = .returned (.bool r) ∧ Drawn0 w w' := by
  have HT := Aside0.mk hT
  clear hT
  have H : (if a2 = true then (scarflaw03_NumDivides.j0 k a0 a1 a2 124) else ((num_S32.f a0).bind fun t301 => ((num_S32.f a1).bind fun t302 => (scarflaw03_NumDivides.j0 k t301 t302 a2 106)))) = some r := h
  clear h
  have HC4 := Aside0.mk H
  clear H
  go_enter Tryd.func7, Tryd.ntmps7
  go_upto_if 26 with (fail)
  go_cut [0, 1, 7] (fun v0 v1 v7 wc => ∃ (kq : Nat) (x0_3 : Int) (x1_3 : Int) (x7_3 : Int), v0 = .int .i64 x0_3 ∧ v1 = .int .i64 x1_3 ∧ v7 = .int .i64 x7_3 ∧ Aside0 (scarflaw03_NumDivides.j0 kq x0_3 x1_3 a2 x7_3 = some r) ∧ Aside0 (kq ≤ k) ∧ Drawn0 w wc)
  case first =>
    have H := HC4.out
    clear HC4
    by_cases c5 : a2 = true
    · subst c5
      have H1 : (scarflaw03_NumDivides.j0 k a0 a1 true 124) = some r := by rw [if_pos rfl] at H; exact H
      clear H
      have H := H1
      clear H1
      have H' := Aside0.mk H
      clear H
      go_wp2
      go_meet
      case rel => exact ⟨_, (a0), (a1), (124), (by first | rfl | (simp; done) | (simp [*]; done)), (by first | rfl | (simp; done) | (simp [*]; done)), (by first | rfl | (simp; done) | (simp [*]; done)), H', ⟨by first | omega | exact Nat.le_refl _⟩, by repeat (first | exact Drawn0.refl _ | apply Drawn0.step)⟩
    · replace c5 := Bool.eq_false_iff.mpr c5
      subst c5
      have H1 : ((num_S32.f a0).bind fun t301 => ((num_S32.f a1).bind fun t302 => (scarflaw03_NumDivides.j0 k t301 t302 false 106))) = some r := by rw [if_neg (show ¬ (false = true) by decide)] at H; exact H
      clear H
      have H := H1
      clear H1
      replace H := Option.bind_eq_some_iff.mp H
      obtain ⟨t301, A60, H⟩ := H
      replace H : ((num_S32.f a1).bind fun t302 => (scarflaw03_NumDivides.j0 k t301 t302 false 106)) = some r := H
      have A6 := Aside0.mk A60
      clear A60
      replace H := Option.bind_eq_some_iff.mp H
      obtain ⟨t302, A70, H⟩ := H
      replace H : (scarflaw03_NumDivides.j0 k t301 t302 false 106) = some r := H
      have A7 := Aside0.mk A70
      clear A70
      have H' := Aside0.mk H
      clear H
      go_wp2_with (first | ((with_reducible refine gate_callee (f := 13) rfl ?_); refine goesL_ (some 28) rfl rfl Tryd.func13 (by kernel_rfl) rfl #[.int .i64 a0] rfl (by (try simp only [List.map_toArray, List.map_cons, List.map_nil]); first | done | rfl | (simp only [List.length_drop, List.length_take]; rfl)) ?_; (with_reducible refine (num_S32.calls a0 t301 _ A6.out).mono ?_); rintro e w' ⟨rfl, ⟨nd, rfl⟩⟩; refine ⟨_, rfl, ?_⟩) | ((with_reducible refine gate_callee (f := 13) rfl ?_); refine goesL_ (some 30) rfl rfl Tryd.func13 (by kernel_rfl) rfl #[.int .i64 a1] rfl (by (try simp only [List.map_toArray, List.map_cons, List.map_nil]); first | done | rfl | (simp only [List.length_drop, List.length_take]; rfl)) ?_; (with_reducible refine (num_S32.calls a1 t302 _ A7.out).mono ?_); rintro e w' ⟨rfl, ⟨nd, rfl⟩⟩; refine ⟨_, rfl, ?_⟩))
      go_meet
      case rel => exact ⟨_, (t301), (t302), (106), (by first | rfl | (simp; done) | (simp [*]; done)), (by first | rfl | (simp; done) | (simp [*]; done)), (by first | rfl | (simp; done) | (simp [*]; done)), H', ⟨by first | omega | exact Nat.le_refl _⟩, by repeat (first | exact Drawn0.refl _ | apply Drawn0.step)⟩
  case rest =>
    clear HC4
    try clear c1
    try clear p2
    try clear c5
    try clear c7
    obtain ⟨kq, x0_3, x1_3, x7_3, rfl, rfl, rfl, HA, HJ3, ⟨mc3, rfl⟩⟩ := hcut
    cases kq with
    | zero => exact absurd HA.out (by simp [scarflaw03_NumDivides.j0])
    | succ kj3 =>
      have H := HA.out
      clear HA
      simp only [scarflaw03_NumDivides.j0] at H
      replace H := Option.bind_eq_some_iff.mp H
      obtain ⟨⟨t303, t304, t305⟩, A80, H⟩ := H
      replace H : ((num_Bin.f kj3 (wrap64 (x7_3 + 5)) x0_3 x1_3).bind fun bt306 => ((num_Bin.f kj3 (wrap64 (x7_3 + 4)) x0_3 x1_3).bind fun bt309 => ((num_Bin.f kj3 (wrap64 (x7_3 + 6)) x0_3 x1_3).bind fun bt312 => (if x1_3 = 0 then (if t304 = 2 then (if bt306.2.1 = 2 then (if bt312.2.1 = 2 then ((scarflaw03_awake.f kj3).bind fun t315 => (some t315)) else (some false)) else (some false)) else (some false)) else (if bt306.2.1 = 0 then (scarflaw03_NumDivides.j1 kj3 x0_3 x1_3 a2 x7_3 t303 t304 bt306.1 bt309.1 bt312.1 (bt312.2.1 != 0)) else (scarflaw03_NumDivides.j1 kj3 x0_3 x1_3 a2 x7_3 t303 t304 bt306.1 bt309.1 bt312.1 true)))))) = some r := H
      have A8 := Aside0.mk A80
      clear A80
      replace H := Option.bind_eq_some_iff.mp H
      obtain ⟨⟨t306, t307, t308⟩, A90, H⟩ := H
      replace H : ((num_Bin.f kj3 (wrap64 (x7_3 + 4)) x0_3 x1_3).bind fun bt309 => ((num_Bin.f kj3 (wrap64 (x7_3 + 6)) x0_3 x1_3).bind fun bt312 => (if x1_3 = 0 then (if t304 = 2 then (if t307 = 2 then (if bt312.2.1 = 2 then ((scarflaw03_awake.f kj3).bind fun t315 => (some t315)) else (some false)) else (some false)) else (some false)) else (if t307 = 0 then (scarflaw03_NumDivides.j1 kj3 x0_3 x1_3 a2 x7_3 t303 t304 t306 bt309.1 bt312.1 (bt312.2.1 != 0)) else (scarflaw03_NumDivides.j1 kj3 x0_3 x1_3 a2 x7_3 t303 t304 t306 bt309.1 bt312.1 true))))) = some r := H
      have A9 := Aside0.mk A90
      clear A90
      replace H := Option.bind_eq_some_iff.mp H
      obtain ⟨⟨t309, t310, t311⟩, A100, H⟩ := H
      replace H : ((num_Bin.f kj3 (wrap64 (x7_3 + 6)) x0_3 x1_3).bind fun bt312 => (if x1_3 = 0 then (if t304 = 2 then (if t307 = 2 then (if bt312.2.1 = 2 then ((scarflaw03_awake.f kj3).bind fun t315 => (some t315)) else (some false)) else (some false)) else (some false)) else (if t307 = 0 then (scarflaw03_NumDivides.j1 kj3 x0_3 x1_3 a2 x7_3 t303 t304 t306 t309 bt312.1 (bt312.2.1 != 0)) else (scarflaw03_NumDivides.j1 kj3 x0_3 x1_3 a2 x7_3 t303 t304 t306 t309 bt312.1 true)))) = some r := H
      have A10 := Aside0.mk A100
      clear A100
      replace H := Option.bind_eq_some_iff.mp H
      obtain ⟨⟨t312, t313, t314⟩, A110, H⟩ := H
      replace H : (if x1_3 = 0 then (if t304 = 2 then (if t307 = 2 then (if t313 = 2 then ((scarflaw03_awake.f kj3).bind fun t315 => (some t315)) else (some false)) else (some false)) else (some false)) else (if t307 = 0 then (scarflaw03_NumDivides.j1 kj3 x0_3 x1_3 a2 x7_3 t303 t304 t306 t309 t312 (t313 != 0)) else (scarflaw03_NumDivides.j1 kj3 x0_3 x1_3 a2 x7_3 t303 t304 t306 t309 t312 true))) = some r := H
      have A11 := Aside0.mk A110
      clear A110
      by_cases c12 : x1_3 = 0
      · rw [if_pos c12] at H
        have c12b0 : (x1_3 == 0) = true := beq_iff_eq.mpr c12
        have c12b1 : (x1_3 != 0) = false := bne_eq_false_iff_eq.mpr c12
        clear c12
        by_cases c13 : t304 = 2
        · rw [if_pos c13] at H
          have c13b0 : (t304 == 2) = true := beq_iff_eq.mpr c13
          have c13b1 : (t304 != 2) = false := bne_eq_false_iff_eq.mpr c13
          clear c13
          by_cases c14 : t307 = 2
          · rw [if_pos c14] at H
            have c14b0 : (t307 == 2) = true := beq_iff_eq.mpr c14
            have c14b1 : (t307 != 2) = false := bne_eq_false_iff_eq.mpr c14
            clear c14
            by_cases c15 : t313 = 2
            · rw [if_pos c15] at H
              have c15b0 : (t313 == 2) = true := beq_iff_eq.mpr c15
              have c15b1 : (t313 != 2) = false := bne_eq_false_iff_eq.mpr c15
              clear c15
              replace H := Option.bind_eq_some_iff.mp H
              obtain ⟨t315, A160, H⟩ := H
              replace H : (some t315) = some r := H
              have A16 := Aside0.mk A160
              clear A160
              obtain rfl := Option.some.inj H
              as_aux_lemma =>
                go_wp2_with (first | ((with_reducible refine gate_callee (f := 18) rfl ?_); refine goesL_ (some 36) rfl rfl Tryd.func18 (by kernel_rfl) rfl #[.int .i64 (wrap64 (x7_3 + 3)), .int .i64 x0_3, .int .i64 x1_3] rfl (by (try simp only [List.map_toArray, List.map_cons, List.map_nil]); first | done | rfl | (simp only [List.length_drop, List.length_take]; rfl)) ?_; (with_reducible refine (num_Bin.calls kj3 (wrap64 (x7_3 + 3)) x0_3 x1_3 t303 t304 t305 _ A8.out).mono ?_); rintro e w' ⟨rfl, ⟨nd, rfl⟩⟩; refine ⟨_, rfl, ?_⟩) | ((with_reducible refine gate_callee (f := 18) rfl ?_); refine goesL_ (some 45) rfl rfl Tryd.func18 (by kernel_rfl) rfl #[.int .i64 (wrap64 (x7_3 + 5)), .int .i64 x0_3, .int .i64 x1_3] rfl (by (try simp only [List.map_toArray, List.map_cons, List.map_nil]); first | done | rfl | (simp only [List.length_drop, List.length_take]; rfl)) ?_; (with_reducible refine (num_Bin.calls kj3 (wrap64 (x7_3 + 5)) x0_3 x1_3 t306 t307 t308 _ A9.out).mono ?_); rintro e w' ⟨rfl, ⟨nd, rfl⟩⟩; refine ⟨_, rfl, ?_⟩) | ((with_reducible refine gate_callee (f := 18) rfl ?_); refine goesL_ (some 54) rfl rfl Tryd.func18 (by kernel_rfl) rfl #[.int .i64 (wrap64 (x7_3 + 4)), .int .i64 x0_3, .int .i64 x1_3] rfl (by (try simp only [List.map_toArray, List.map_cons, List.map_nil]); first | done | rfl | (simp only [List.length_drop, List.length_take]; rfl)) ?_; (with_reducible refine (num_Bin.calls kj3 (wrap64 (x7_3 + 4)) x0_3 x1_3 t309 t310 t311 _ A10.out).mono ?_); rintro e w' ⟨rfl, ⟨nd, rfl⟩⟩; refine ⟨_, rfl, ?_⟩) | ((with_reducible refine gate_callee (f := 18) rfl ?_); refine goesL_ (some 63) rfl rfl Tryd.func18 (by kernel_rfl) rfl #[.int .i64 (wrap64 (x7_3 + 6)), .int .i64 x0_3, .int .i64 x1_3] rfl (by (try simp only [List.map_toArray, List.map_cons, List.map_nil]); first | done | rfl | (simp only [List.length_drop, List.length_take]; rfl)) ?_; (with_reducible refine (num_Bin.calls kj3 (wrap64 (x7_3 + 6)) x0_3 x1_3 t312 t313 t314 _ A11.out).mono ?_); rintro e w' ⟨rfl, ⟨nd, rfl⟩⟩; refine ⟨_, rfl, ?_⟩) | (go_at_call 15; (with_reducible refine (scarflaw03_awake.calls kj3  t315 _ (by first | exact HT.out | exact Tabs.below HB.out HT.out | (repeat (first | exact HT.out | exact Tabs.below HB.out HT.out | apply Tabs.drewN | apply Tabs.drew | apply Tabs.alloc))) A16.out).mono ?_); rintro e w' ⟨rfl, ⟨nd, rfl⟩⟩))
                go_ret
                exact ⟨by first | rfl | (simp; done) | (simp [*]; done), by repeat (first | exact Drawn0.refl _ | apply Drawn0.step)⟩
            · rw [if_neg c15] at H
              have c15b0 : (t313 == 2) = false := beq_eq_false_iff_ne.mpr c15
              have c15b1 : (t313 != 2) = true := bne_iff_ne.mpr c15
              obtain rfl := Option.some.inj H
              as_aux_lemma =>
                go_wp2_with (first | ((with_reducible refine gate_callee (f := 18) rfl ?_); refine goesL_ (some 36) rfl rfl Tryd.func18 (by kernel_rfl) rfl #[.int .i64 (wrap64 (x7_3 + 3)), .int .i64 x0_3, .int .i64 x1_3] rfl (by (try simp only [List.map_toArray, List.map_cons, List.map_nil]); first | done | rfl | (simp only [List.length_drop, List.length_take]; rfl)) ?_; (with_reducible refine (num_Bin.calls kj3 (wrap64 (x7_3 + 3)) x0_3 x1_3 t303 t304 t305 _ A8.out).mono ?_); rintro e w' ⟨rfl, ⟨nd, rfl⟩⟩; refine ⟨_, rfl, ?_⟩) | ((with_reducible refine gate_callee (f := 18) rfl ?_); refine goesL_ (some 45) rfl rfl Tryd.func18 (by kernel_rfl) rfl #[.int .i64 (wrap64 (x7_3 + 5)), .int .i64 x0_3, .int .i64 x1_3] rfl (by (try simp only [List.map_toArray, List.map_cons, List.map_nil]); first | done | rfl | (simp only [List.length_drop, List.length_take]; rfl)) ?_; (with_reducible refine (num_Bin.calls kj3 (wrap64 (x7_3 + 5)) x0_3 x1_3 t306 t307 t308 _ A9.out).mono ?_); rintro e w' ⟨rfl, ⟨nd, rfl⟩⟩; refine ⟨_, rfl, ?_⟩) | ((with_reducible refine gate_callee (f := 18) rfl ?_); refine goesL_ (some 54) rfl rfl Tryd.func18 (by kernel_rfl) rfl #[.int .i64 (wrap64 (x7_3 + 4)), .int .i64 x0_3, .int .i64 x1_3] rfl (by (try simp only [List.map_toArray, List.map_cons, List.map_nil]); first | done | rfl | (simp only [List.length_drop, List.length_take]; rfl)) ?_; (with_reducible refine (num_Bin.calls kj3 (wrap64 (x7_3 + 4)) x0_3 x1_3 t309 t310 t311 _ A10.out).mono ?_); rintro e w' ⟨rfl, ⟨nd, rfl⟩⟩; refine ⟨_, rfl, ?_⟩) | ((with_reducible refine gate_callee (f := 18) rfl ?_); refine goesL_ (some 63) rfl rfl Tryd.func18 (by kernel_rfl) rfl #[.int .i64 (wrap64 (x7_3 + 6)), .int .i64 x0_3, .int .i64 x1_3] rfl (by (try simp only [List.map_toArray, List.map_cons, List.map_nil]); first | done | rfl | (simp only [List.length_drop, List.length_take]; rfl)) ?_; (with_reducible refine (num_Bin.calls kj3 (wrap64 (x7_3 + 6)) x0_3 x1_3 t312 t313 t314 _ A11.out).mono ?_); rintro e w' ⟨rfl, ⟨nd, rfl⟩⟩; refine ⟨_, rfl, ?_⟩))
                go_ret
                exact ⟨by first | rfl | (simp; done) | (simp [*]; done), by repeat (first | exact Drawn0.refl _ | apply Drawn0.step)⟩
          · rw [if_neg c14] at H
            have c14b0 : (t307 == 2) = false := beq_eq_false_iff_ne.mpr c14
            have c14b1 : (t307 != 2) = true := bne_iff_ne.mpr c14
            obtain rfl := Option.some.inj H
            as_aux_lemma =>
              go_wp2_with (first | ((with_reducible refine gate_callee (f := 18) rfl ?_); refine goesL_ (some 36) rfl rfl Tryd.func18 (by kernel_rfl) rfl #[.int .i64 (wrap64 (x7_3 + 3)), .int .i64 x0_3, .int .i64 x1_3] rfl (by (try simp only [List.map_toArray, List.map_cons, List.map_nil]); first | done | rfl | (simp only [List.length_drop, List.length_take]; rfl)) ?_; (with_reducible refine (num_Bin.calls kj3 (wrap64 (x7_3 + 3)) x0_3 x1_3 t303 t304 t305 _ A8.out).mono ?_); rintro e w' ⟨rfl, ⟨nd, rfl⟩⟩; refine ⟨_, rfl, ?_⟩) | ((with_reducible refine gate_callee (f := 18) rfl ?_); refine goesL_ (some 45) rfl rfl Tryd.func18 (by kernel_rfl) rfl #[.int .i64 (wrap64 (x7_3 + 5)), .int .i64 x0_3, .int .i64 x1_3] rfl (by (try simp only [List.map_toArray, List.map_cons, List.map_nil]); first | done | rfl | (simp only [List.length_drop, List.length_take]; rfl)) ?_; (with_reducible refine (num_Bin.calls kj3 (wrap64 (x7_3 + 5)) x0_3 x1_3 t306 t307 t308 _ A9.out).mono ?_); rintro e w' ⟨rfl, ⟨nd, rfl⟩⟩; refine ⟨_, rfl, ?_⟩) | ((with_reducible refine gate_callee (f := 18) rfl ?_); refine goesL_ (some 54) rfl rfl Tryd.func18 (by kernel_rfl) rfl #[.int .i64 (wrap64 (x7_3 + 4)), .int .i64 x0_3, .int .i64 x1_3] rfl (by (try simp only [List.map_toArray, List.map_cons, List.map_nil]); first | done | rfl | (simp only [List.length_drop, List.length_take]; rfl)) ?_; (with_reducible refine (num_Bin.calls kj3 (wrap64 (x7_3 + 4)) x0_3 x1_3 t309 t310 t311 _ A10.out).mono ?_); rintro e w' ⟨rfl, ⟨nd, rfl⟩⟩; refine ⟨_, rfl, ?_⟩) | ((with_reducible refine gate_callee (f := 18) rfl ?_); refine goesL_ (some 63) rfl rfl Tryd.func18 (by kernel_rfl) rfl #[.int .i64 (wrap64 (x7_3 + 6)), .int .i64 x0_3, .int .i64 x1_3] rfl (by (try simp only [List.map_toArray, List.map_cons, List.map_nil]); first | done | rfl | (simp only [List.length_drop, List.length_take]; rfl)) ?_; (with_reducible refine (num_Bin.calls kj3 (wrap64 (x7_3 + 6)) x0_3 x1_3 t312 t313 t314 _ A11.out).mono ?_); rintro e w' ⟨rfl, ⟨nd, rfl⟩⟩; refine ⟨_, rfl, ?_⟩))
              go_ret
              exact ⟨by first | rfl | (simp; done) | (simp [*]; done), by repeat (first | exact Drawn0.refl _ | apply Drawn0.step)⟩
        · rw [if_neg c13] at H
          have c13b0 : (t304 == 2) = false := beq_eq_false_iff_ne.mpr c13
          have c13b1 : (t304 != 2) = true := bne_iff_ne.mpr c13
          obtain rfl := Option.some.inj H
          as_aux_lemma =>
            go_wp2_with (first | ((with_reducible refine gate_callee (f := 18) rfl ?_); refine goesL_ (some 36) rfl rfl Tryd.func18 (by kernel_rfl) rfl #[.int .i64 (wrap64 (x7_3 + 3)), .int .i64 x0_3, .int .i64 x1_3] rfl (by (try simp only [List.map_toArray, List.map_cons, List.map_nil]); first | done | rfl | (simp only [List.length_drop, List.length_take]; rfl)) ?_; (with_reducible refine (num_Bin.calls kj3 (wrap64 (x7_3 + 3)) x0_3 x1_3 t303 t304 t305 _ A8.out).mono ?_); rintro e w' ⟨rfl, ⟨nd, rfl⟩⟩; refine ⟨_, rfl, ?_⟩) | ((with_reducible refine gate_callee (f := 18) rfl ?_); refine goesL_ (some 45) rfl rfl Tryd.func18 (by kernel_rfl) rfl #[.int .i64 (wrap64 (x7_3 + 5)), .int .i64 x0_3, .int .i64 x1_3] rfl (by (try simp only [List.map_toArray, List.map_cons, List.map_nil]); first | done | rfl | (simp only [List.length_drop, List.length_take]; rfl)) ?_; (with_reducible refine (num_Bin.calls kj3 (wrap64 (x7_3 + 5)) x0_3 x1_3 t306 t307 t308 _ A9.out).mono ?_); rintro e w' ⟨rfl, ⟨nd, rfl⟩⟩; refine ⟨_, rfl, ?_⟩) | ((with_reducible refine gate_callee (f := 18) rfl ?_); refine goesL_ (some 54) rfl rfl Tryd.func18 (by kernel_rfl) rfl #[.int .i64 (wrap64 (x7_3 + 4)), .int .i64 x0_3, .int .i64 x1_3] rfl (by (try simp only [List.map_toArray, List.map_cons, List.map_nil]); first | done | rfl | (simp only [List.length_drop, List.length_take]; rfl)) ?_; (with_reducible refine (num_Bin.calls kj3 (wrap64 (x7_3 + 4)) x0_3 x1_3 t309 t310 t311 _ A10.out).mono ?_); rintro e w' ⟨rfl, ⟨nd, rfl⟩⟩; refine ⟨_, rfl, ?_⟩) | ((with_reducible refine gate_callee (f := 18) rfl ?_); refine goesL_ (some 63) rfl rfl Tryd.func18 (by kernel_rfl) rfl #[.int .i64 (wrap64 (x7_3 + 6)), .int .i64 x0_3, .int .i64 x1_3] rfl (by (try simp only [List.map_toArray, List.map_cons, List.map_nil]); first | done | rfl | (simp only [List.length_drop, List.length_take]; rfl)) ?_; (with_reducible refine (num_Bin.calls kj3 (wrap64 (x7_3 + 6)) x0_3 x1_3 t312 t313 t314 _ A11.out).mono ?_); rintro e w' ⟨rfl, ⟨nd, rfl⟩⟩; refine ⟨_, rfl, ?_⟩))
            go_ret
            exact ⟨by first | rfl | (simp; done) | (simp [*]; done), by repeat (first | exact Drawn0.refl _ | apply Drawn0.step)⟩
      · rw [if_neg c12] at H
        have c12b0 : (x1_3 == 0) = false := beq_eq_false_iff_ne.mpr c12
        have c12b1 : (x1_3 != 0) = true := bne_iff_ne.mpr c12
        have HC17 := Aside0.mk H
        clear H
        go_upto_region 11 with (first | ((with_reducible refine gate_callee (f := 18) rfl ?_); refine goesL_ (some 36) rfl rfl Tryd.func18 (by kernel_rfl) rfl #[.int .i64 (wrap64 (x7_3 + 3)), .int .i64 x0_3, .int .i64 x1_3] rfl (by (try simp only [List.map_toArray, List.map_cons, List.map_nil]); first | done | rfl | (simp only [List.length_drop, List.length_take]; rfl)) ?_; (with_reducible refine (num_Bin.calls kj3 (wrap64 (x7_3 + 3)) x0_3 x1_3 t303 t304 t305 _ A8.out).mono ?_); rintro e w' ⟨rfl, ⟨nd, rfl⟩⟩; refine ⟨_, rfl, ?_⟩) | ((with_reducible refine gate_callee (f := 18) rfl ?_); refine goesL_ (some 45) rfl rfl Tryd.func18 (by kernel_rfl) rfl #[.int .i64 (wrap64 (x7_3 + 5)), .int .i64 x0_3, .int .i64 x1_3] rfl (by (try simp only [List.map_toArray, List.map_cons, List.map_nil]); first | done | rfl | (simp only [List.length_drop, List.length_take]; rfl)) ?_; (with_reducible refine (num_Bin.calls kj3 (wrap64 (x7_3 + 5)) x0_3 x1_3 t306 t307 t308 _ A9.out).mono ?_); rintro e w' ⟨rfl, ⟨nd, rfl⟩⟩; refine ⟨_, rfl, ?_⟩) | ((with_reducible refine gate_callee (f := 18) rfl ?_); refine goesL_ (some 54) rfl rfl Tryd.func18 (by kernel_rfl) rfl #[.int .i64 (wrap64 (x7_3 + 4)), .int .i64 x0_3, .int .i64 x1_3] rfl (by (try simp only [List.map_toArray, List.map_cons, List.map_nil]); first | done | rfl | (simp only [List.length_drop, List.length_take]; rfl)) ?_; (with_reducible refine (num_Bin.calls kj3 (wrap64 (x7_3 + 4)) x0_3 x1_3 t309 t310 t311 _ A10.out).mono ?_); rintro e w' ⟨rfl, ⟨nd, rfl⟩⟩; refine ⟨_, rfl, ?_⟩) | ((with_reducible refine gate_callee (f := 18) rfl ?_); refine goesL_ (some 63) rfl rfl Tryd.func18 (by kernel_rfl) rfl #[.int .i64 (wrap64 (x7_3 + 6)), .int .i64 x0_3, .int .i64 x1_3] rfl (by (try simp only [List.map_toArray, List.map_cons, List.map_nil]); first | done | rfl | (simp only [List.length_drop, List.length_take]; rfl)) ?_; (with_reducible refine (num_Bin.calls kj3 (wrap64 (x7_3 + 6)) x0_3 x1_3 t312 t313 t314 _ A11.out).mono ?_); rintro e w' ⟨rfl, ⟨nd, rfl⟩⟩; refine ⟨_, rfl, ?_⟩))
        (try simp only [Act.put, List.setIfInBounds_toArray, List.set_cons_zero, List.set_cons_succ])
        go_cut [87] (fun v87 wc => ∃ (kq : Nat) (x87_16 : Bool), v87 = .bool x87_16 ∧ Aside0 (scarflaw03_NumDivides.j1 kq x0_3 x1_3 a2 x7_3 t303 t304 t306 t309 t312 x87_16 = some r) ∧ Aside0 (kq ≤ kj3) ∧ Drawn0 w wc)
        case first =>
          have H := HC17.out
          clear HC17
          by_cases c18 : t307 = 0
          · rw [if_pos c18] at H
            have c18b0 : (t307 == 0) = true := beq_iff_eq.mpr c18
            have c18b1 : (t307 != 0) = false := bne_eq_false_iff_eq.mpr c18
            clear c18
            (first | rw [c18b0] | (simp only [i64_w, i32_w]; rw [c18b0]) | skip)
            have H' := Aside0.mk H
            clear H
            go_wp2
            go_meet
            case rel => exact ⟨_, ((t313 != 0)), (by first | rfl | (simp; done) | (simp [*]; done)), H', ⟨by have := HJ3.out; first | omega | exact Nat.le_refl _⟩, by repeat (first | exact Drawn0.refl _ | apply Drawn0.step)⟩
          · rw [if_neg c18] at H
            have c18b0 : (t307 == 0) = false := beq_eq_false_iff_ne.mpr c18
            have c18b1 : (t307 != 0) = true := bne_iff_ne.mpr c18
            (first | rw [c18b0] | (simp only [i64_w, i32_w]; rw [c18b0]) | skip)
            have H' := Aside0.mk H
            clear H
            go_wp2
            go_meet
            case rel => exact ⟨_, (true), (by first | rfl | (simp; done) | (simp [*]; done)), H', ⟨by have := HJ3.out; first | omega | exact Nat.le_refl _⟩, by repeat (first | exact Drawn0.refl _ | apply Drawn0.step)⟩
        case rest =>
          clear HC17
          try clear c1
          try clear p2
          try clear c3
          try clear c5
          try clear p6
          try clear c7
          try clear c12
          try clear c12b0
          try clear c12b1
          try clear c13
          try clear c13b0
          try clear c13b1
          try clear c14
          try clear c14b0
          try clear c14b1
          try clear c15
          try clear c15b0
          try clear c15b1
          try clear c18
          try clear c18b0
          try clear c18b1
          try clear p2
          obtain ⟨kq, x87_16, rfl, HA, HJ16, ⟨mc16, rfl⟩⟩ := hcut
          cases kq with
          | zero => exact absurd HA.out (by simp [scarflaw03_NumDivides.j1])
          | succ kj16 =>
            have H := HA.out
            clear HA
            simp only [scarflaw03_NumDivides.j1] at H
            by_cases c19 : x87_16 = true
            · subst c19
              have H1 : (some false) = some r := by rw [if_pos rfl] at H; exact H
              clear H
              have H := H1
              clear H1
              obtain rfl := Option.some.inj H
              as_aux_lemma =>
                go_wp2
                go_ret
                exact ⟨by first | rfl | (simp; done) | (simp [*]; done), by repeat (first | exact Drawn0.refl _ | apply Drawn0.step)⟩
            · replace c19 := Bool.eq_false_iff.mpr c19
              subst c19
              have H1 : ((num_Bin.f kj16 (wrap64 (x7_3 + 2)) t309 x1_3).bind fun bt316 => ((num_Bin.f kj16 x7_3 bt316.1 t312).bind fun bt319 => (if a2 = true then (scarflaw03_NumDivides.j2 kj16 x0_3 x1_3 a2 t303 t304 t306 bt319.1) else ((num_S32.f bt319.1).bind fun t322 => (scarflaw03_NumDivides.j2 kj16 x0_3 x1_3 a2 t303 t304 t306 t322))))) = some r := by rw [if_neg (show ¬ (false = true) by decide)] at H; exact H
              clear H
              have H := H1
              clear H1
              replace H := Option.bind_eq_some_iff.mp H
              obtain ⟨⟨t316, t317, t318⟩, A200, H⟩ := H
              replace H : ((num_Bin.f kj16 x7_3 t316 t312).bind fun bt319 => (if a2 = true then (scarflaw03_NumDivides.j2 kj16 x0_3 x1_3 a2 t303 t304 t306 bt319.1) else ((num_S32.f bt319.1).bind fun t322 => (scarflaw03_NumDivides.j2 kj16 x0_3 x1_3 a2 t303 t304 t306 t322)))) = some r := H
              have A20 := Aside0.mk A200
              clear A200
              replace H := Option.bind_eq_some_iff.mp H
              obtain ⟨⟨t319, t320, t321⟩, A210, H⟩ := H
              replace H : (if a2 = true then (scarflaw03_NumDivides.j2 kj16 x0_3 x1_3 a2 t303 t304 t306 t319) else ((num_S32.f t319).bind fun t322 => (scarflaw03_NumDivides.j2 kj16 x0_3 x1_3 a2 t303 t304 t306 t322))) = some r := H
              have A21 := Aside0.mk A210
              clear A210
              have HC22 := Aside0.mk H
              clear H
              go_upto_if 106 with (first | ((with_reducible refine gate_callee (f := 18) rfl ?_); refine goesL_ (some 93) rfl rfl Tryd.func18 (by kernel_rfl) rfl #[.int .i64 (wrap64 (x7_3 + 2)), .int .i64 t309, .int .i64 x1_3] rfl (by (try simp only [List.map_toArray, List.map_cons, List.map_nil]); first | done | rfl | (simp only [List.length_drop, List.length_take]; rfl)) ?_; (with_reducible refine (num_Bin.calls kj16 (wrap64 (x7_3 + 2)) t309 x1_3 t316 t317 t318 _ A20.out).mono ?_); rintro e w' ⟨rfl, ⟨nd, rfl⟩⟩; refine ⟨_, rfl, ?_⟩) | ((with_reducible refine gate_callee (f := 18) rfl ?_); refine goesL_ (some 101) rfl rfl Tryd.func18 (by kernel_rfl) rfl #[.int .i64 x7_3, .int .i64 t316, .int .i64 t312] rfl (by (try simp only [List.map_toArray, List.map_cons, List.map_nil]); first | done | rfl | (simp only [List.length_drop, List.length_take]; rfl)) ?_; (with_reducible refine (num_Bin.calls kj16 x7_3 t316 t312 t319 t320 t321 _ A21.out).mono ?_); rintro e w' ⟨rfl, ⟨nd, rfl⟩⟩; refine ⟨_, rfl, ?_⟩))
              (try simp only [Act.put, List.setIfInBounds_toArray, List.set_cons_zero, List.set_cons_succ])
              go_cut [23] (fun v23 wc => ∃ (kq : Nat) (x23_21 : Int), v23 = .int .i64 x23_21 ∧ Aside0 (scarflaw03_NumDivides.j2 kq x0_3 x1_3 a2 t303 t304 t306 x23_21 = some r) ∧ Aside0 (kq ≤ kj16) ∧ Drawn0 w wc)
              case first =>
                have H := HC22.out
                clear HC22
                by_cases c23 : a2 = true
                · subst c23
                  have H1 : (scarflaw03_NumDivides.j2 kj16 x0_3 x1_3 true t303 t304 t306 t319) = some r := by rw [if_pos rfl] at H; exact H
                  clear H
                  have H := H1
                  clear H1
                  have H' := Aside0.mk H
                  clear H
                  go_wp2
                  go_meet
                  case rel => exact ⟨_, (t319), (by first | rfl | (simp; done) | (simp [*]; done)), H', ⟨by have := HJ3.out; have := HJ16.out; first | omega | exact Nat.le_refl _⟩, by repeat (first | exact Drawn0.refl _ | apply Drawn0.step)⟩
                · replace c23 := Bool.eq_false_iff.mpr c23
                  subst c23
                  have H1 : ((num_S32.f t319).bind fun t322 => (scarflaw03_NumDivides.j2 kj16 x0_3 x1_3 false t303 t304 t306 t322)) = some r := by rw [if_neg (show ¬ (false = true) by decide)] at H; exact H
                  clear H
                  have H := H1
                  clear H1
                  replace H := Option.bind_eq_some_iff.mp H
                  obtain ⟨t322, A240, H⟩ := H
                  replace H : (scarflaw03_NumDivides.j2 kj16 x0_3 x1_3 false t303 t304 t306 t322) = some r := H
                  have A24 := Aside0.mk A240
                  clear A240
                  have H' := Aside0.mk H
                  clear H
                  go_wp2_with (first | ((with_reducible refine gate_callee (f := 13) rfl ?_); refine goesL_ (some 108) rfl rfl Tryd.func13 (by kernel_rfl) rfl #[.int .i64 t319] rfl (by (try simp only [List.map_toArray, List.map_cons, List.map_nil]); first | done | rfl | (simp only [List.length_drop, List.length_take]; rfl)) ?_; (with_reducible refine (num_S32.calls t319 t322 _ A24.out).mono ?_); rintro e w' ⟨rfl, ⟨nd, rfl⟩⟩; refine ⟨_, rfl, ?_⟩))
                  go_meet
                  case rel => exact ⟨_, (t322), (by first | rfl | (simp; done) | (simp [*]; done)), H', ⟨by have := HJ3.out; have := HJ16.out; first | omega | exact Nat.le_refl _⟩, by repeat (first | exact Drawn0.refl _ | apply Drawn0.step)⟩
              case rest =>
                clear HC22
                try clear c1
                try clear c2
                try clear p2
                try clear c3
                try clear c5
                try clear p6
                try clear c7
                try clear c12
                try clear c12b0
                try clear c12b1
                try clear c13
                try clear c13b0
                try clear c13b1
                try clear c14
                try clear c14b0
                try clear c14b1
                try clear c15
                try clear c15b0
                try clear c15b1
                try clear c16
                try clear c18
                try clear c18b0
                try clear c18b1
                try clear c19
                try clear c23
                try clear p2
                try clear p6
                obtain ⟨kq, x23_21, rfl, HA, HJ21, ⟨mc21, rfl⟩⟩ := hcut
                cases kq with
                | zero => exact absurd HA.out (by simp [scarflaw03_NumDivides.j2])
                | succ kj21 =>
                  have H := HA.out
                  clear HA
                  simp only [scarflaw03_NumDivides.j2] at H
                  by_cases c25 : x23_21 = x0_3
                  · rw [if_pos c25] at H
                    have c25b0 : (x23_21 == x0_3) = true := beq_iff_eq.mpr c25
                    have c25b1 : (x23_21 != x0_3) = false := bne_eq_false_iff_eq.mpr c25
                    clear c25
                    by_cases c26 : t304 = 3
                    · rw [if_pos c26] at H
                      have c26b0 : (t304 == 3) = true := beq_iff_eq.mpr c26
                      have c26b1 : (t304 != 3) = false := bne_eq_false_iff_eq.mpr c26
                      clear c26
                      by_cases c27 : x1_3 = (-1)
                      · rw [if_pos c27] at H
                        have c27b0 : (x1_3 == (-1)) = true := beq_iff_eq.mpr c27
                        have c27b1 : (x1_3 != (-1)) = false := bne_eq_false_iff_eq.mpr c27
                        clear c27
                        by_cases c28 : t306 = 0
                        · rw [if_pos c28] at H
                          have c28b0 : (t306 == 0) = true := beq_iff_eq.mpr c28
                          have c28b1 : (t306 != 0) = false := bne_eq_false_iff_eq.mpr c28
                          clear c28
                          by_cases c29 : t303 = 0
                          · rw [if_pos c29] at H
                            have c29b0 : (t303 == 0) = true := beq_iff_eq.mpr c29
                            have c29b1 : (t303 != 0) = false := bne_eq_false_iff_eq.mpr c29
                            clear c29
                            replace H := Option.bind_eq_some_iff.mp H
                            obtain ⟨t323, A300, H⟩ := H
                            replace H : (some t323) = some r := H
                            have A30 := Aside0.mk A300
                            clear A300
                            obtain rfl := Option.some.inj H
                            as_aux_lemma =>
                              go_wp2_with (first | (go_at_call 15; (with_reducible refine (scarflaw03_awake.calls kj21  t323 _ (by first | exact HT.out | exact Tabs.below HB.out HT.out | (repeat (first | exact HT.out | exact Tabs.below HB.out HT.out | apply Tabs.drewN | apply Tabs.drew | apply Tabs.alloc))) A30.out).mono ?_); rintro e w' ⟨rfl, ⟨nd, rfl⟩⟩))
                              go_ret
                              exact ⟨by first | rfl | (simp; done) | (simp [*]; done), by repeat (first | exact Drawn0.refl _ | apply Drawn0.step)⟩
                          · rw [if_neg c29] at H
                            have c29b0 : (t303 == 0) = false := beq_eq_false_iff_ne.mpr c29
                            have c29b1 : (t303 != 0) = true := bne_iff_ne.mpr c29
                            obtain rfl := Option.some.inj H
                            as_aux_lemma =>
                              go_wp2
                              go_ret
                              exact ⟨by first | rfl | (simp; done) | (simp [*]; done), by repeat (first | exact Drawn0.refl _ | apply Drawn0.step)⟩
                        · rw [if_neg c28] at H
                          have c28b0 : (t306 == 0) = false := beq_eq_false_iff_ne.mpr c28
                          have c28b1 : (t306 != 0) = true := bne_iff_ne.mpr c28
                          obtain rfl := Option.some.inj H
                          as_aux_lemma =>
                            go_wp2
                            go_ret
                            exact ⟨by first | rfl | (simp; done) | (simp [*]; done), by repeat (first | exact Drawn0.refl _ | apply Drawn0.step)⟩
                      · rw [if_neg c27] at H
                        have c27b0 : (x1_3 == (-1)) = false := beq_eq_false_iff_ne.mpr c27
                        have c27b1 : (x1_3 != (-1)) = true := bne_iff_ne.mpr c27
                        obtain rfl := Option.some.inj H
                        as_aux_lemma =>
                          go_wp2
                          go_ret
                          exact ⟨by first | rfl | (simp; done) | (simp [*]; done), by repeat (first | exact Drawn0.refl _ | apply Drawn0.step)⟩
                    · rw [if_neg c26] at H
                      have c26b0 : (t304 == 3) = false := beq_eq_false_iff_ne.mpr c26
                      have c26b1 : (t304 != 3) = true := bne_iff_ne.mpr c26
                      by_cases c31 : a2 = true
                      · subst c31
                        have H1 : (if t304 = 0 then (if (wrap64 ((wrap64 (t303 * x1_3)) + t306)) = x0_3 then (if t306 = 0 then (if x1_3 = (-9223372036854775808) then ((scarflaw03_awake.f kj21).bind fun t324 => (some t324)) else (if x1_3 < 0 then (if t306 > x1_3 then (if t306 < (wrap64 (-x1_3)) then ((scarflaw03_awake.f kj21).bind fun t325 => (some t325)) else (if x1_3 > 0 then (if t306 < x1_3 then (if t306 > (wrap64 (-x1_3)) then ((scarflaw03_awake.f kj21).bind fun t326 => (some t326)) else (some false)) else (some false)) else (some false))) else (if x1_3 > 0 then (if t306 < x1_3 then (if t306 > (wrap64 (-x1_3)) then ((scarflaw03_awake.f kj21).bind fun t327 => (some t327)) else (some false)) else (some false)) else (some false))) else (if x1_3 > 0 then (if t306 < x1_3 then (if t306 > (wrap64 (-x1_3)) then ((scarflaw03_awake.f kj21).bind fun t328 => (some t328)) else (some false)) else (some false)) else (some false)))) else (if ((decide (t306 < 0)) == (decide (x0_3 < 0))) = true then (if x1_3 = (-9223372036854775808) then ((scarflaw03_awake.f kj21).bind fun t329 => (some t329)) else (if x1_3 < 0 then (if t306 > x1_3 then (if t306 < (wrap64 (-x1_3)) then ((scarflaw03_awake.f kj21).bind fun t330 => (some t330)) else (if x1_3 > 0 then (if t306 < x1_3 then (if t306 > (wrap64 (-x1_3)) then ((scarflaw03_awake.f kj21).bind fun t331 => (some t331)) else (some false)) else (some false)) else (some false))) else (if x1_3 > 0 then (if t306 < x1_3 then (if t306 > (wrap64 (-x1_3)) then ((scarflaw03_awake.f kj21).bind fun t332 => (some t332)) else (some false)) else (some false)) else (some false))) else (if x1_3 > 0 then (if t306 < x1_3 then (if t306 > (wrap64 (-x1_3)) then ((scarflaw03_awake.f kj21).bind fun t333 => (some t333)) else (some false)) else (some false)) else (some false)))) else (some false))) else (some false)) else (some false)) = some r := by rw [if_pos rfl] at H; exact H
                        clear H
                        have H := H1
                        clear H1
                        by_cases c32 : t304 = 0
                        · rw [if_pos c32] at H
                          have c32b0 : (t304 == 0) = true := beq_iff_eq.mpr c32
                          have c32b1 : (t304 != 0) = false := bne_eq_false_iff_eq.mpr c32
                          clear c32
                          by_cases c33 : (wrap64 ((wrap64 (t303 * x1_3)) + t306)) = x0_3
                          · rw [if_pos c33] at H
                            have c33b0 : ((wrap64 ((wrap64 (t303 * x1_3)) + t306)) == x0_3) = true := beq_iff_eq.mpr c33
                            have c33b1 : ((wrap64 ((wrap64 (t303 * x1_3)) + t306)) != x0_3) = false := bne_eq_false_iff_eq.mpr c33
                            clear c33
                            by_cases c34 : t306 = 0
                            · rw [if_pos c34] at H
                              have c34b0 : (t306 == 0) = true := beq_iff_eq.mpr c34
                              have c34b1 : (t306 != 0) = false := bne_eq_false_iff_eq.mpr c34
                              clear c34
                              by_cases c35 : x1_3 = (-9223372036854775808)
                              · rw [if_pos c35] at H
                                have c35b0 : (x1_3 == (-9223372036854775808)) = true := beq_iff_eq.mpr c35
                                have c35b1 : (x1_3 != (-9223372036854775808)) = false := bne_eq_false_iff_eq.mpr c35
                                clear c35
                                replace H := Option.bind_eq_some_iff.mp H
                                obtain ⟨t324, A360, H⟩ := H
                                replace H : (some t324) = some r := H
                                have A36 := Aside0.mk A360
                                clear A360
                                obtain rfl := Option.some.inj H
                                as_aux_lemma =>
                                  go_wp2_with (first | (go_at_call 15; (with_reducible refine (scarflaw03_awake.calls kj21  t324 _ (by first | exact HT.out | exact Tabs.below HB.out HT.out | (repeat (first | exact HT.out | exact Tabs.below HB.out HT.out | apply Tabs.drewN | apply Tabs.drew | apply Tabs.alloc))) A36.out).mono ?_); rintro e w' ⟨rfl, ⟨nd, rfl⟩⟩))
                                  go_ret
                                  exact ⟨by first | rfl | (simp; done) | (simp [*]; done), by repeat (first | exact Drawn0.refl _ | apply Drawn0.step)⟩
                              · rw [if_neg c35] at H
                                have c35b0 : (x1_3 == (-9223372036854775808)) = false := beq_eq_false_iff_ne.mpr c35
                                have c35b1 : (x1_3 != (-9223372036854775808)) = true := bne_iff_ne.mpr c35
                                by_cases c37 : x1_3 < 0
                                · rw [if_pos c37] at H
                                  have c37b0 : decide (x1_3 < 0) = true := decide_eq_true c37
                                  clear c37
                                  by_cases c38 : t306 > x1_3
                                  · rw [if_pos c38] at H
                                    have c38b0 : decide (x1_3 < t306) = true := decide_eq_true c38
                                    clear c38
                                    by_cases c39 : t306 < (wrap64 (-x1_3))
                                    · rw [if_pos c39] at H
                                      have c39b0 : decide (t306 < (wrap64 (-x1_3))) = true := decide_eq_true c39
                                      clear c39
                                      replace H := Option.bind_eq_some_iff.mp H
                                      obtain ⟨t325, A400, H⟩ := H
                                      replace H : (some t325) = some r := H
                                      have A40 := Aside0.mk A400
                                      clear A400
                                      obtain rfl := Option.some.inj H
                                      as_aux_lemma =>
                                        go_wp2_with (first | (go_at_call 15; (with_reducible refine (scarflaw03_awake.calls kj21  t325 _ (by first | exact HT.out | exact Tabs.below HB.out HT.out | (repeat (first | exact HT.out | exact Tabs.below HB.out HT.out | apply Tabs.drewN | apply Tabs.drew | apply Tabs.alloc))) A40.out).mono ?_); rintro e w' ⟨rfl, ⟨nd, rfl⟩⟩))
                                        go_ret
                                        exact ⟨by first | rfl | (simp; done) | (simp [*]; done), by repeat (first | exact Drawn0.refl _ | apply Drawn0.step)⟩
                                    · rw [if_neg c39] at H
                                      have c39b0 : decide (t306 < (wrap64 (-x1_3))) = false := decide_eq_false c39
                                      clear c39
                                      by_cases c41 : x1_3 > 0
                                      · rw [if_pos c41] at H
                                        have c41b0 : decide (0 < x1_3) = true := decide_eq_true c41
                                        clear c41
                                        by_cases c42 : t306 < x1_3
                                        · rw [if_pos c42] at H
                                          have c42b0 : decide (t306 < x1_3) = true := decide_eq_true c42
                                          clear c42
                                          by_cases c43 : t306 > (wrap64 (-x1_3))
                                          · rw [if_pos c43] at H
                                            have c43b0 : decide ((wrap64 (-x1_3)) < t306) = true := decide_eq_true c43
                                            clear c43
                                            replace H := Option.bind_eq_some_iff.mp H
                                            obtain ⟨t326, A440, H⟩ := H
                                            replace H : (some t326) = some r := H
                                            have A44 := Aside0.mk A440
                                            clear A440
                                            obtain rfl := Option.some.inj H
                                            as_aux_lemma =>
                                              go_wp2_with (first | (go_at_call 15; (with_reducible refine (scarflaw03_awake.calls kj21  t326 _ (by first | exact HT.out | exact Tabs.below HB.out HT.out | (repeat (first | exact HT.out | exact Tabs.below HB.out HT.out | apply Tabs.drewN | apply Tabs.drew | apply Tabs.alloc))) A44.out).mono ?_); rintro e w' ⟨rfl, ⟨nd, rfl⟩⟩))
                                              go_ret
                                              exact ⟨by first | rfl | (simp; done) | (simp [*]; done), by repeat (first | exact Drawn0.refl _ | apply Drawn0.step)⟩
                                          · rw [if_neg c43] at H
                                            have c43b0 : decide ((wrap64 (-x1_3)) < t306) = false := decide_eq_false c43
                                            clear c43
                                            obtain rfl := Option.some.inj H
                                            as_aux_lemma =>
                                              go_wp2
                                              go_ret
                                              exact ⟨by first | rfl | (simp; done) | (simp [*]; done), by repeat (first | exact Drawn0.refl _ | apply Drawn0.step)⟩
                                        · rw [if_neg c42] at H
                                          have c42b0 : decide (t306 < x1_3) = false := decide_eq_false c42
                                          clear c42
                                          obtain rfl := Option.some.inj H
                                          as_aux_lemma =>
                                            go_wp2
                                            go_ret
                                            exact ⟨by first | rfl | (simp; done) | (simp [*]; done), by repeat (first | exact Drawn0.refl _ | apply Drawn0.step)⟩
                                      · rw [if_neg c41] at H
                                        have c41b0 : decide (0 < x1_3) = false := decide_eq_false c41
                                        clear c41
                                        obtain rfl := Option.some.inj H
                                        as_aux_lemma =>
                                          go_wp2
                                          go_ret
                                          exact ⟨by first | rfl | (simp; done) | (simp [*]; done), by repeat (first | exact Drawn0.refl _ | apply Drawn0.step)⟩
                                  · rw [if_neg c38] at H
                                    have c38b0 : decide (x1_3 < t306) = false := decide_eq_false c38
                                    clear c38
                                    by_cases c45 : x1_3 > 0
                                    · rw [if_pos c45] at H
                                      have c45b0 : decide (0 < x1_3) = true := decide_eq_true c45
                                      clear c45
                                      by_cases c46 : t306 < x1_3
                                      · rw [if_pos c46] at H
                                        have c46b0 : decide (t306 < x1_3) = true := decide_eq_true c46
                                        clear c46
                                        by_cases c47 : t306 > (wrap64 (-x1_3))
                                        · rw [if_pos c47] at H
                                          have c47b0 : decide ((wrap64 (-x1_3)) < t306) = true := decide_eq_true c47
                                          clear c47
                                          replace H := Option.bind_eq_some_iff.mp H
                                          obtain ⟨t327, A480, H⟩ := H
                                          replace H : (some t327) = some r := H
                                          have A48 := Aside0.mk A480
                                          clear A480
                                          obtain rfl := Option.some.inj H
                                          as_aux_lemma =>
                                            go_wp2_with (first | (go_at_call 15; (with_reducible refine (scarflaw03_awake.calls kj21  t327 _ (by first | exact HT.out | exact Tabs.below HB.out HT.out | (repeat (first | exact HT.out | exact Tabs.below HB.out HT.out | apply Tabs.drewN | apply Tabs.drew | apply Tabs.alloc))) A48.out).mono ?_); rintro e w' ⟨rfl, ⟨nd, rfl⟩⟩))
                                            go_ret
                                            exact ⟨by first | rfl | (simp; done) | (simp [*]; done), by repeat (first | exact Drawn0.refl _ | apply Drawn0.step)⟩
                                        · rw [if_neg c47] at H
                                          have c47b0 : decide ((wrap64 (-x1_3)) < t306) = false := decide_eq_false c47
                                          clear c47
                                          obtain rfl := Option.some.inj H
                                          as_aux_lemma =>
                                            go_wp2
                                            go_ret
                                            exact ⟨by first | rfl | (simp; done) | (simp [*]; done), by repeat (first | exact Drawn0.refl _ | apply Drawn0.step)⟩
                                      · rw [if_neg c46] at H
                                        have c46b0 : decide (t306 < x1_3) = false := decide_eq_false c46
                                        clear c46
                                        obtain rfl := Option.some.inj H
                                        as_aux_lemma =>
                                          go_wp2
                                          go_ret
                                          exact ⟨by first | rfl | (simp; done) | (simp [*]; done), by repeat (first | exact Drawn0.refl _ | apply Drawn0.step)⟩
                                    · rw [if_neg c45] at H
                                      have c45b0 : decide (0 < x1_3) = false := decide_eq_false c45
                                      clear c45
                                      obtain rfl := Option.some.inj H
                                      as_aux_lemma =>
                                        go_wp2
                                        go_ret
                                        exact ⟨by first | rfl | (simp; done) | (simp [*]; done), by repeat (first | exact Drawn0.refl _ | apply Drawn0.step)⟩
                                · rw [if_neg c37] at H
                                  have c37b0 : decide (x1_3 < 0) = false := decide_eq_false c37
                                  clear c37
                                  by_cases c49 : x1_3 > 0
                                  · rw [if_pos c49] at H
                                    have c49b0 : decide (0 < x1_3) = true := decide_eq_true c49
                                    clear c49
                                    by_cases c50 : t306 < x1_3
                                    · rw [if_pos c50] at H
                                      have c50b0 : decide (t306 < x1_3) = true := decide_eq_true c50
                                      clear c50
                                      by_cases c51 : t306 > (wrap64 (-x1_3))
                                      · rw [if_pos c51] at H
                                        have c51b0 : decide ((wrap64 (-x1_3)) < t306) = true := decide_eq_true c51
                                        clear c51
                                        replace H := Option.bind_eq_some_iff.mp H
                                        obtain ⟨t328, A520, H⟩ := H
                                        replace H : (some t328) = some r := H
                                        have A52 := Aside0.mk A520
                                        clear A520
                                        obtain rfl := Option.some.inj H
                                        as_aux_lemma =>
                                          go_wp2_with (first | (go_at_call 15; (with_reducible refine (scarflaw03_awake.calls kj21  t328 _ (by first | exact HT.out | exact Tabs.below HB.out HT.out | (repeat (first | exact HT.out | exact Tabs.below HB.out HT.out | apply Tabs.drewN | apply Tabs.drew | apply Tabs.alloc))) A52.out).mono ?_); rintro e w' ⟨rfl, ⟨nd, rfl⟩⟩))
                                          go_ret
                                          exact ⟨by first | rfl | (simp; done) | (simp [*]; done), by repeat (first | exact Drawn0.refl _ | apply Drawn0.step)⟩
                                      · rw [if_neg c51] at H
                                        have c51b0 : decide ((wrap64 (-x1_3)) < t306) = false := decide_eq_false c51
                                        clear c51
                                        obtain rfl := Option.some.inj H
                                        as_aux_lemma =>
                                          go_wp2
                                          go_ret
                                          exact ⟨by first | rfl | (simp; done) | (simp [*]; done), by repeat (first | exact Drawn0.refl _ | apply Drawn0.step)⟩
                                    · rw [if_neg c50] at H
                                      have c50b0 : decide (t306 < x1_3) = false := decide_eq_false c50
                                      clear c50
                                      obtain rfl := Option.some.inj H
                                      as_aux_lemma =>
                                        go_wp2
                                        go_ret
                                        exact ⟨by first | rfl | (simp; done) | (simp [*]; done), by repeat (first | exact Drawn0.refl _ | apply Drawn0.step)⟩
                                  · rw [if_neg c49] at H
                                    have c49b0 : decide (0 < x1_3) = false := decide_eq_false c49
                                    clear c49
                                    obtain rfl := Option.some.inj H
                                    as_aux_lemma =>
                                      go_wp2
                                      go_ret
                                      exact ⟨by first | rfl | (simp; done) | (simp [*]; done), by repeat (first | exact Drawn0.refl _ | apply Drawn0.step)⟩
                            · rw [if_neg c34] at H
                              have c34b0 : (t306 == 0) = false := beq_eq_false_iff_ne.mpr c34
                              have c34b1 : (t306 != 0) = true := bne_iff_ne.mpr c34
                              by_cases c53 : ((decide (t306 < 0)) == (decide (x0_3 < 0))) = true
                              · rw [if_pos c53] at H
                                have c53b0 : ((decide (t306 < 0)) == (decide (x0_3 < 0))) = true := c53
                                (try (have c53b1 : decide ((decide (t306 < 0)) = (decide (x0_3 < 0))) = true := by simpa using c53))
                                (try (have c53b2 : ((decide (t306 < 0)) == (decide (x0_3 < 0))) = true := by simpa using c53))
                                clear c53
                                by_cases c54 : x1_3 = (-9223372036854775808)
                                · rw [if_pos c54] at H
                                  have c54b0 : (x1_3 == (-9223372036854775808)) = true := beq_iff_eq.mpr c54
                                  have c54b1 : (x1_3 != (-9223372036854775808)) = false := bne_eq_false_iff_eq.mpr c54
                                  clear c54
                                  replace H := Option.bind_eq_some_iff.mp H
                                  obtain ⟨t329, A550, H⟩ := H
                                  replace H : (some t329) = some r := H
                                  have A55 := Aside0.mk A550
                                  clear A550
                                  obtain rfl := Option.some.inj H
                                  as_aux_lemma =>
                                    go_wp2_with (first | (go_at_call 15; (with_reducible refine (scarflaw03_awake.calls kj21  t329 _ (by first | exact HT.out | exact Tabs.below HB.out HT.out | (repeat (first | exact HT.out | exact Tabs.below HB.out HT.out | apply Tabs.drewN | apply Tabs.drew | apply Tabs.alloc))) A55.out).mono ?_); rintro e w' ⟨rfl, ⟨nd, rfl⟩⟩))
                                    go_ret
                                    exact ⟨by first | rfl | (simp; done) | (simp [*]; done), by repeat (first | exact Drawn0.refl _ | apply Drawn0.step)⟩
                                · rw [if_neg c54] at H
                                  have c54b0 : (x1_3 == (-9223372036854775808)) = false := beq_eq_false_iff_ne.mpr c54
                                  have c54b1 : (x1_3 != (-9223372036854775808)) = true := bne_iff_ne.mpr c54
                                  by_cases c56 : x1_3 < 0
                                  · rw [if_pos c56] at H
                                    have c56b0 : decide (x1_3 < 0) = true := decide_eq_true c56
                                    clear c56
                                    by_cases c57 : t306 > x1_3
                                    · rw [if_pos c57] at H
                                      have c57b0 : decide (x1_3 < t306) = true := decide_eq_true c57
                                      clear c57
                                      by_cases c58 : t306 < (wrap64 (-x1_3))
                                      · rw [if_pos c58] at H
                                        have c58b0 : decide (t306 < (wrap64 (-x1_3))) = true := decide_eq_true c58
                                        clear c58
                                        replace H := Option.bind_eq_some_iff.mp H
                                        obtain ⟨t330, A590, H⟩ := H
                                        replace H : (some t330) = some r := H
                                        have A59 := Aside0.mk A590
                                        clear A590
                                        obtain rfl := Option.some.inj H
                                        as_aux_lemma =>
                                          go_wp2_with (first | (go_at_call 15; (with_reducible refine (scarflaw03_awake.calls kj21  t330 _ (by first | exact HT.out | exact Tabs.below HB.out HT.out | (repeat (first | exact HT.out | exact Tabs.below HB.out HT.out | apply Tabs.drewN | apply Tabs.drew | apply Tabs.alloc))) A59.out).mono ?_); rintro e w' ⟨rfl, ⟨nd, rfl⟩⟩))
                                          go_ret
                                          exact ⟨by first | rfl | (simp; done) | (simp [*]; done), by repeat (first | exact Drawn0.refl _ | apply Drawn0.step)⟩
                                      · rw [if_neg c58] at H
                                        have c58b0 : decide (t306 < (wrap64 (-x1_3))) = false := decide_eq_false c58
                                        clear c58
                                        by_cases c60 : x1_3 > 0
                                        · rw [if_pos c60] at H
                                          have c60b0 : decide (0 < x1_3) = true := decide_eq_true c60
                                          clear c60
                                          by_cases c61 : t306 < x1_3
                                          · rw [if_pos c61] at H
                                            have c61b0 : decide (t306 < x1_3) = true := decide_eq_true c61
                                            clear c61
                                            by_cases c62 : t306 > (wrap64 (-x1_3))
                                            · rw [if_pos c62] at H
                                              have c62b0 : decide ((wrap64 (-x1_3)) < t306) = true := decide_eq_true c62
                                              clear c62
                                              replace H := Option.bind_eq_some_iff.mp H
                                              obtain ⟨t331, A630, H⟩ := H
                                              replace H : (some t331) = some r := H
                                              have A63 := Aside0.mk A630
                                              clear A630
                                              obtain rfl := Option.some.inj H
                                              as_aux_lemma =>
                                                go_wp2_with (first | (go_at_call 15; (with_reducible refine (scarflaw03_awake.calls kj21  t331 _ (by first | exact HT.out | exact Tabs.below HB.out HT.out | (repeat (first | exact HT.out | exact Tabs.below HB.out HT.out | apply Tabs.drewN | apply Tabs.drew | apply Tabs.alloc))) A63.out).mono ?_); rintro e w' ⟨rfl, ⟨nd, rfl⟩⟩))
                                                go_ret
                                                exact ⟨by first | rfl | (simp; done) | (simp [*]; done), by repeat (first | exact Drawn0.refl _ | apply Drawn0.step)⟩
                                            · rw [if_neg c62] at H
                                              have c62b0 : decide ((wrap64 (-x1_3)) < t306) = false := decide_eq_false c62
                                              clear c62
                                              obtain rfl := Option.some.inj H
                                              as_aux_lemma =>
                                                go_wp2
                                                go_ret
                                                exact ⟨by first | rfl | (simp; done) | (simp [*]; done), by repeat (first | exact Drawn0.refl _ | apply Drawn0.step)⟩
                                          · rw [if_neg c61] at H
                                            have c61b0 : decide (t306 < x1_3) = false := decide_eq_false c61
                                            clear c61
                                            obtain rfl := Option.some.inj H
                                            as_aux_lemma =>
                                              go_wp2
                                              go_ret
                                              exact ⟨by first | rfl | (simp; done) | (simp [*]; done), by repeat (first | exact Drawn0.refl _ | apply Drawn0.step)⟩
                                        · rw [if_neg c60] at H
                                          have c60b0 : decide (0 < x1_3) = false := decide_eq_false c60
                                          clear c60
                                          obtain rfl := Option.some.inj H
                                          as_aux_lemma =>
                                            go_wp2
                                            go_ret
                                            exact ⟨by first | rfl | (simp; done) | (simp [*]; done), by repeat (first | exact Drawn0.refl _ | apply Drawn0.step)⟩
                                    · rw [if_neg c57] at H
                                      have c57b0 : decide (x1_3 < t306) = false := decide_eq_false c57
                                      clear c57
                                      by_cases c64 : x1_3 > 0
                                      · rw [if_pos c64] at H
                                        have c64b0 : decide (0 < x1_3) = true := decide_eq_true c64
                                        clear c64
                                        by_cases c65 : t306 < x1_3
                                        · rw [if_pos c65] at H
                                          have c65b0 : decide (t306 < x1_3) = true := decide_eq_true c65
                                          clear c65
                                          by_cases c66 : t306 > (wrap64 (-x1_3))
                                          · rw [if_pos c66] at H
                                            have c66b0 : decide ((wrap64 (-x1_3)) < t306) = true := decide_eq_true c66
                                            clear c66
                                            replace H := Option.bind_eq_some_iff.mp H
                                            obtain ⟨t332, A670, H⟩ := H
                                            replace H : (some t332) = some r := H
                                            have A67 := Aside0.mk A670
                                            clear A670
                                            obtain rfl := Option.some.inj H
                                            as_aux_lemma =>
                                              go_wp2_with (first | (go_at_call 15; (with_reducible refine (scarflaw03_awake.calls kj21  t332 _ (by first | exact HT.out | exact Tabs.below HB.out HT.out | (repeat (first | exact HT.out | exact Tabs.below HB.out HT.out | apply Tabs.drewN | apply Tabs.drew | apply Tabs.alloc))) A67.out).mono ?_); rintro e w' ⟨rfl, ⟨nd, rfl⟩⟩))
                                              go_ret
                                              exact ⟨by first | rfl | (simp; done) | (simp [*]; done), by repeat (first | exact Drawn0.refl _ | apply Drawn0.step)⟩
                                          · rw [if_neg c66] at H
                                            have c66b0 : decide ((wrap64 (-x1_3)) < t306) = false := decide_eq_false c66
                                            clear c66
                                            obtain rfl := Option.some.inj H
                                            as_aux_lemma =>
                                              go_wp2
                                              go_ret
                                              exact ⟨by first | rfl | (simp; done) | (simp [*]; done), by repeat (first | exact Drawn0.refl _ | apply Drawn0.step)⟩
                                        · rw [if_neg c65] at H
                                          have c65b0 : decide (t306 < x1_3) = false := decide_eq_false c65
                                          clear c65
                                          obtain rfl := Option.some.inj H
                                          as_aux_lemma =>
                                            go_wp2
                                            go_ret
                                            exact ⟨by first | rfl | (simp; done) | (simp [*]; done), by repeat (first | exact Drawn0.refl _ | apply Drawn0.step)⟩
                                      · rw [if_neg c64] at H
                                        have c64b0 : decide (0 < x1_3) = false := decide_eq_false c64
                                        clear c64
                                        obtain rfl := Option.some.inj H
                                        as_aux_lemma =>
                                          go_wp2
                                          go_ret
                                          exact ⟨by first | rfl | (simp; done) | (simp [*]; done), by repeat (first | exact Drawn0.refl _ | apply Drawn0.step)⟩
                                  · rw [if_neg c56] at H
                                    have c56b0 : decide (x1_3 < 0) = false := decide_eq_false c56
                                    clear c56
                                    by_cases c68 : x1_3 > 0
                                    · rw [if_pos c68] at H
                                      have c68b0 : decide (0 < x1_3) = true := decide_eq_true c68
                                      clear c68
                                      by_cases c69 : t306 < x1_3
                                      · rw [if_pos c69] at H
                                        have c69b0 : decide (t306 < x1_3) = true := decide_eq_true c69
                                        clear c69
                                        by_cases c70 : t306 > (wrap64 (-x1_3))
                                        · rw [if_pos c70] at H
                                          have c70b0 : decide ((wrap64 (-x1_3)) < t306) = true := decide_eq_true c70
                                          clear c70
                                          replace H := Option.bind_eq_some_iff.mp H
                                          obtain ⟨t333, A710, H⟩ := H
                                          replace H : (some t333) = some r := H
                                          have A71 := Aside0.mk A710
                                          clear A710
                                          obtain rfl := Option.some.inj H
                                          as_aux_lemma =>
                                            go_wp2_with (first | (go_at_call 15; (with_reducible refine (scarflaw03_awake.calls kj21  t333 _ (by first | exact HT.out | exact Tabs.below HB.out HT.out | (repeat (first | exact HT.out | exact Tabs.below HB.out HT.out | apply Tabs.drewN | apply Tabs.drew | apply Tabs.alloc))) A71.out).mono ?_); rintro e w' ⟨rfl, ⟨nd, rfl⟩⟩))
                                            go_ret
                                            exact ⟨by first | rfl | (simp; done) | (simp [*]; done), by repeat (first | exact Drawn0.refl _ | apply Drawn0.step)⟩
                                        · rw [if_neg c70] at H
                                          have c70b0 : decide ((wrap64 (-x1_3)) < t306) = false := decide_eq_false c70
                                          clear c70
                                          obtain rfl := Option.some.inj H
                                          as_aux_lemma =>
                                            go_wp2
                                            go_ret
                                            exact ⟨by first | rfl | (simp; done) | (simp [*]; done), by repeat (first | exact Drawn0.refl _ | apply Drawn0.step)⟩
                                      · rw [if_neg c69] at H
                                        have c69b0 : decide (t306 < x1_3) = false := decide_eq_false c69
                                        clear c69
                                        obtain rfl := Option.some.inj H
                                        as_aux_lemma =>
                                          go_wp2
                                          go_ret
                                          exact ⟨by first | rfl | (simp; done) | (simp [*]; done), by repeat (first | exact Drawn0.refl _ | apply Drawn0.step)⟩
                                    · rw [if_neg c68] at H
                                      have c68b0 : decide (0 < x1_3) = false := decide_eq_false c68
                                      clear c68
                                      obtain rfl := Option.some.inj H
                                      as_aux_lemma =>
                                        go_wp2
                                        go_ret
                                        exact ⟨by first | rfl | (simp; done) | (simp [*]; done), by repeat (first | exact Drawn0.refl _ | apply Drawn0.step)⟩
                              · rw [if_neg c53] at H
                                have c53b0 : ((decide (t306 < 0)) == (decide (x0_3 < 0))) = false := by simpa using c53
                                (try (have c53b1 : decide ((decide (t306 < 0)) = (decide (x0_3 < 0))) = false := by simpa using c53))
                                (try (have c53b2 : ((decide (t306 < 0)) == (decide (x0_3 < 0))) = false := by simpa using c53))
                                (try (have c53b3 : ¬ ((decide (t306 < 0)) = (decide (x0_3 < 0))) := by simpa using c53))
                                clear c53
                                obtain rfl := Option.some.inj H
                                as_aux_lemma =>
                                  go_wp2
                                  go_ret
                                  exact ⟨by first | rfl | (simp; done) | (simp [*]; done), by repeat (first | exact Drawn0.refl _ | apply Drawn0.step)⟩
                          · rw [if_neg c33] at H
                            have c33b0 : ((wrap64 ((wrap64 (t303 * x1_3)) + t306)) == x0_3) = false := beq_eq_false_iff_ne.mpr c33
                            have c33b1 : ((wrap64 ((wrap64 (t303 * x1_3)) + t306)) != x0_3) = true := bne_iff_ne.mpr c33
                            obtain rfl := Option.some.inj H
                            as_aux_lemma =>
                              go_wp2
                              go_ret
                              exact ⟨by first | rfl | (simp; done) | (simp [*]; done), by repeat (first | exact Drawn0.refl _ | apply Drawn0.step)⟩
                        · rw [if_neg c32] at H
                          have c32b0 : (t304 == 0) = false := beq_eq_false_iff_ne.mpr c32
                          have c32b1 : (t304 != 0) = true := bne_iff_ne.mpr c32
                          obtain rfl := Option.some.inj H
                          as_aux_lemma =>
                            go_wp2
                            go_ret
                            exact ⟨by first | rfl | (simp; done) | (simp [*]; done), by repeat (first | exact Drawn0.refl _ | apply Drawn0.step)⟩
                      · replace c31 := Bool.eq_false_iff.mpr c31
                        subst c31
                        have H1 : ((num_S32.f t303).bind fun t334 => ((num_S32.f t306).bind fun t335 => (if t304 = 0 then (if (wrap64 ((wrap64 (t334 * x1_3)) + t335)) = x0_3 then (if t335 = 0 then (if x1_3 = (-9223372036854775808) then ((scarflaw03_awake.f kj21).bind fun t336 => (some t336)) else (if x1_3 < 0 then (if t335 > x1_3 then (if t335 < (wrap64 (-x1_3)) then ((scarflaw03_awake.f kj21).bind fun t337 => (some t337)) else (if x1_3 > 0 then (if t335 < x1_3 then (if t335 > (wrap64 (-x1_3)) then ((scarflaw03_awake.f kj21).bind fun t338 => (some t338)) else (some false)) else (some false)) else (some false))) else (if x1_3 > 0 then (if t335 < x1_3 then (if t335 > (wrap64 (-x1_3)) then ((scarflaw03_awake.f kj21).bind fun t339 => (some t339)) else (some false)) else (some false)) else (some false))) else (if x1_3 > 0 then (if t335 < x1_3 then (if t335 > (wrap64 (-x1_3)) then ((scarflaw03_awake.f kj21).bind fun t340 => (some t340)) else (some false)) else (some false)) else (some false)))) else (if ((decide (t335 < 0)) == (decide (x0_3 < 0))) = true then (if x1_3 = (-9223372036854775808) then ((scarflaw03_awake.f kj21).bind fun t341 => (some t341)) else (if x1_3 < 0 then (if t335 > x1_3 then (if t335 < (wrap64 (-x1_3)) then ((scarflaw03_awake.f kj21).bind fun t342 => (some t342)) else (if x1_3 > 0 then (if t335 < x1_3 then (if t335 > (wrap64 (-x1_3)) then ((scarflaw03_awake.f kj21).bind fun t343 => (some t343)) else (some false)) else (some false)) else (some false))) else (if x1_3 > 0 then (if t335 < x1_3 then (if t335 > (wrap64 (-x1_3)) then ((scarflaw03_awake.f kj21).bind fun t344 => (some t344)) else (some false)) else (some false)) else (some false))) else (if x1_3 > 0 then (if t335 < x1_3 then (if t335 > (wrap64 (-x1_3)) then ((scarflaw03_awake.f kj21).bind fun t345 => (some t345)) else (some false)) else (some false)) else (some false)))) else (some false))) else (some false)) else (some false)))) = some r := by rw [if_neg (show ¬ (false = true) by decide)] at H; exact H
                        clear H
                        have H := H1
                        clear H1
                        replace H := Option.bind_eq_some_iff.mp H
                        obtain ⟨t334, A720, H⟩ := H
                        replace H : ((num_S32.f t306).bind fun t335 => (if t304 = 0 then (if (wrap64 ((wrap64 (t334 * x1_3)) + t335)) = x0_3 then (if t335 = 0 then (if x1_3 = (-9223372036854775808) then ((scarflaw03_awake.f kj21).bind fun t336 => (some t336)) else (if x1_3 < 0 then (if t335 > x1_3 then (if t335 < (wrap64 (-x1_3)) then ((scarflaw03_awake.f kj21).bind fun t337 => (some t337)) else (if x1_3 > 0 then (if t335 < x1_3 then (if t335 > (wrap64 (-x1_3)) then ((scarflaw03_awake.f kj21).bind fun t338 => (some t338)) else (some false)) else (some false)) else (some false))) else (if x1_3 > 0 then (if t335 < x1_3 then (if t335 > (wrap64 (-x1_3)) then ((scarflaw03_awake.f kj21).bind fun t339 => (some t339)) else (some false)) else (some false)) else (some false))) else (if x1_3 > 0 then (if t335 < x1_3 then (if t335 > (wrap64 (-x1_3)) then ((scarflaw03_awake.f kj21).bind fun t340 => (some t340)) else (some false)) else (some false)) else (some false)))) else (if ((decide (t335 < 0)) == (decide (x0_3 < 0))) = true then (if x1_3 = (-9223372036854775808) then ((scarflaw03_awake.f kj21).bind fun t341 => (some t341)) else (if x1_3 < 0 then (if t335 > x1_3 then (if t335 < (wrap64 (-x1_3)) then ((scarflaw03_awake.f kj21).bind fun t342 => (some t342)) else (if x1_3 > 0 then (if t335 < x1_3 then (if t335 > (wrap64 (-x1_3)) then ((scarflaw03_awake.f kj21).bind fun t343 => (some t343)) else (some false)) else (some false)) else (some false))) else (if x1_3 > 0 then (if t335 < x1_3 then (if t335 > (wrap64 (-x1_3)) then ((scarflaw03_awake.f kj21).bind fun t344 => (some t344)) else (some false)) else (some false)) else (some false))) else (if x1_3 > 0 then (if t335 < x1_3 then (if t335 > (wrap64 (-x1_3)) then ((scarflaw03_awake.f kj21).bind fun t345 => (some t345)) else (some false)) else (some false)) else (some false)))) else (some false))) else (some false)) else (some false))) = some r := H
                        have A72 := Aside0.mk A720
                        clear A720
                        replace H := Option.bind_eq_some_iff.mp H
                        obtain ⟨t335, A730, H⟩ := H
                        replace H : (if t304 = 0 then (if (wrap64 ((wrap64 (t334 * x1_3)) + t335)) = x0_3 then (if t335 = 0 then (if x1_3 = (-9223372036854775808) then ((scarflaw03_awake.f kj21).bind fun t336 => (some t336)) else (if x1_3 < 0 then (if t335 > x1_3 then (if t335 < (wrap64 (-x1_3)) then ((scarflaw03_awake.f kj21).bind fun t337 => (some t337)) else (if x1_3 > 0 then (if t335 < x1_3 then (if t335 > (wrap64 (-x1_3)) then ((scarflaw03_awake.f kj21).bind fun t338 => (some t338)) else (some false)) else (some false)) else (some false))) else (if x1_3 > 0 then (if t335 < x1_3 then (if t335 > (wrap64 (-x1_3)) then ((scarflaw03_awake.f kj21).bind fun t339 => (some t339)) else (some false)) else (some false)) else (some false))) else (if x1_3 > 0 then (if t335 < x1_3 then (if t335 > (wrap64 (-x1_3)) then ((scarflaw03_awake.f kj21).bind fun t340 => (some t340)) else (some false)) else (some false)) else (some false)))) else (if ((decide (t335 < 0)) == (decide (x0_3 < 0))) = true then (if x1_3 = (-9223372036854775808) then ((scarflaw03_awake.f kj21).bind fun t341 => (some t341)) else (if x1_3 < 0 then (if t335 > x1_3 then (if t335 < (wrap64 (-x1_3)) then ((scarflaw03_awake.f kj21).bind fun t342 => (some t342)) else (if x1_3 > 0 then (if t335 < x1_3 then (if t335 > (wrap64 (-x1_3)) then ((scarflaw03_awake.f kj21).bind fun t343 => (some t343)) else (some false)) else (some false)) else (some false))) else (if x1_3 > 0 then (if t335 < x1_3 then (if t335 > (wrap64 (-x1_3)) then ((scarflaw03_awake.f kj21).bind fun t344 => (some t344)) else (some false)) else (some false)) else (some false))) else (if x1_3 > 0 then (if t335 < x1_3 then (if t335 > (wrap64 (-x1_3)) then ((scarflaw03_awake.f kj21).bind fun t345 => (some t345)) else (some false)) else (some false)) else (some false)))) else (some false))) else (some false)) else (some false)) = some r := H
                        have A73 := Aside0.mk A730
                        clear A730
                        by_cases c74 : t304 = 0
                        · rw [if_pos c74] at H
                          have c74b0 : (t304 == 0) = true := beq_iff_eq.mpr c74
                          have c74b1 : (t304 != 0) = false := bne_eq_false_iff_eq.mpr c74
                          clear c74
                          by_cases c75 : (wrap64 ((wrap64 (t334 * x1_3)) + t335)) = x0_3
                          · rw [if_pos c75] at H
                            have c75b0 : ((wrap64 ((wrap64 (t334 * x1_3)) + t335)) == x0_3) = true := beq_iff_eq.mpr c75
                            have c75b1 : ((wrap64 ((wrap64 (t334 * x1_3)) + t335)) != x0_3) = false := bne_eq_false_iff_eq.mpr c75
                            clear c75
                            by_cases c76 : t335 = 0
                            · rw [if_pos c76] at H
                              have c76b0 : (t335 == 0) = true := beq_iff_eq.mpr c76
                              have c76b1 : (t335 != 0) = false := bne_eq_false_iff_eq.mpr c76
                              clear c76
                              by_cases c77 : x1_3 = (-9223372036854775808)
                              · rw [if_pos c77] at H
                                have c77b0 : (x1_3 == (-9223372036854775808)) = true := beq_iff_eq.mpr c77
                                have c77b1 : (x1_3 != (-9223372036854775808)) = false := bne_eq_false_iff_eq.mpr c77
                                clear c77
                                replace H := Option.bind_eq_some_iff.mp H
                                obtain ⟨t336, A780, H⟩ := H
                                replace H : (some t336) = some r := H
                                have A78 := Aside0.mk A780
                                clear A780
                                obtain rfl := Option.some.inj H
                                as_aux_lemma =>
                                  go_wp2_with (first | ((with_reducible refine gate_callee (f := 13) rfl ?_); refine goesL_ (some 130) rfl rfl Tryd.func13 (by kernel_rfl) rfl #[.int .i64 t303] rfl (by (try simp only [List.map_toArray, List.map_cons, List.map_nil]); first | done | rfl | (simp only [List.length_drop, List.length_take]; rfl)) ?_; (with_reducible refine (num_S32.calls t303 t334 _ A72.out).mono ?_); rintro e w' ⟨rfl, ⟨nd, rfl⟩⟩; refine ⟨_, rfl, ?_⟩) | ((with_reducible refine gate_callee (f := 13) rfl ?_); refine goesL_ (some 132) rfl rfl Tryd.func13 (by kernel_rfl) rfl #[.int .i64 t306] rfl (by (try simp only [List.map_toArray, List.map_cons, List.map_nil]); first | done | rfl | (simp only [List.length_drop, List.length_take]; rfl)) ?_; (with_reducible refine (num_S32.calls t306 t335 _ A73.out).mono ?_); rintro e w' ⟨rfl, ⟨nd, rfl⟩⟩; refine ⟨_, rfl, ?_⟩) | (go_at_call 15; (with_reducible refine (scarflaw03_awake.calls kj21  t336 _ (by first | exact HT.out | exact Tabs.below HB.out HT.out | (repeat (first | exact HT.out | exact Tabs.below HB.out HT.out | apply Tabs.drewN | apply Tabs.drew | apply Tabs.alloc))) A78.out).mono ?_); rintro e w' ⟨rfl, ⟨nd, rfl⟩⟩))
                                  go_ret
                                  exact ⟨by first | rfl | (simp; done) | (simp [*]; done), by repeat (first | exact Drawn0.refl _ | apply Drawn0.step)⟩
                              · rw [if_neg c77] at H
                                have c77b0 : (x1_3 == (-9223372036854775808)) = false := beq_eq_false_iff_ne.mpr c77
                                have c77b1 : (x1_3 != (-9223372036854775808)) = true := bne_iff_ne.mpr c77
                                by_cases c79 : x1_3 < 0
                                · rw [if_pos c79] at H
                                  have c79b0 : decide (x1_3 < 0) = true := decide_eq_true c79
                                  clear c79
                                  by_cases c80 : t335 > x1_3
                                  · rw [if_pos c80] at H
                                    have c80b0 : decide (x1_3 < t335) = true := decide_eq_true c80
                                    clear c80
                                    by_cases c81 : t335 < (wrap64 (-x1_3))
                                    · rw [if_pos c81] at H
                                      have c81b0 : decide (t335 < (wrap64 (-x1_3))) = true := decide_eq_true c81
                                      clear c81
                                      replace H := Option.bind_eq_some_iff.mp H
                                      obtain ⟨t337, A820, H⟩ := H
                                      replace H : (some t337) = some r := H
                                      have A82 := Aside0.mk A820
                                      clear A820
                                      obtain rfl := Option.some.inj H
                                      as_aux_lemma =>
                                        go_wp2_with (first | ((with_reducible refine gate_callee (f := 13) rfl ?_); refine goesL_ (some 130) rfl rfl Tryd.func13 (by kernel_rfl) rfl #[.int .i64 t303] rfl (by (try simp only [List.map_toArray, List.map_cons, List.map_nil]); first | done | rfl | (simp only [List.length_drop, List.length_take]; rfl)) ?_; (with_reducible refine (num_S32.calls t303 t334 _ A72.out).mono ?_); rintro e w' ⟨rfl, ⟨nd, rfl⟩⟩; refine ⟨_, rfl, ?_⟩) | ((with_reducible refine gate_callee (f := 13) rfl ?_); refine goesL_ (some 132) rfl rfl Tryd.func13 (by kernel_rfl) rfl #[.int .i64 t306] rfl (by (try simp only [List.map_toArray, List.map_cons, List.map_nil]); first | done | rfl | (simp only [List.length_drop, List.length_take]; rfl)) ?_; (with_reducible refine (num_S32.calls t306 t335 _ A73.out).mono ?_); rintro e w' ⟨rfl, ⟨nd, rfl⟩⟩; refine ⟨_, rfl, ?_⟩) | (go_at_call 15; (with_reducible refine (scarflaw03_awake.calls kj21  t337 _ (by first | exact HT.out | exact Tabs.below HB.out HT.out | (repeat (first | exact HT.out | exact Tabs.below HB.out HT.out | apply Tabs.drewN | apply Tabs.drew | apply Tabs.alloc))) A82.out).mono ?_); rintro e w' ⟨rfl, ⟨nd, rfl⟩⟩))
                                        go_ret
                                        exact ⟨by first | rfl | (simp; done) | (simp [*]; done), by repeat (first | exact Drawn0.refl _ | apply Drawn0.step)⟩
                                    · rw [if_neg c81] at H
                                      have c81b0 : decide (t335 < (wrap64 (-x1_3))) = false := decide_eq_false c81
                                      clear c81
                                      by_cases c83 : x1_3 > 0
                                      · rw [if_pos c83] at H
                                        have c83b0 : decide (0 < x1_3) = true := decide_eq_true c83
                                        clear c83
                                        by_cases c84 : t335 < x1_3
                                        · rw [if_pos c84] at H
                                          have c84b0 : decide (t335 < x1_3) = true := decide_eq_true c84
                                          clear c84
                                          by_cases c85 : t335 > (wrap64 (-x1_3))
                                          · rw [if_pos c85] at H
                                            have c85b0 : decide ((wrap64 (-x1_3)) < t335) = true := decide_eq_true c85
                                            clear c85
                                            replace H := Option.bind_eq_some_iff.mp H
                                            obtain ⟨t338, A860, H⟩ := H
                                            replace H : (some t338) = some r := H
                                            have A86 := Aside0.mk A860
                                            clear A860
                                            obtain rfl := Option.some.inj H
                                            as_aux_lemma =>
                                              go_wp2_with (first | ((with_reducible refine gate_callee (f := 13) rfl ?_); refine goesL_ (some 130) rfl rfl Tryd.func13 (by kernel_rfl) rfl #[.int .i64 t303] rfl (by (try simp only [List.map_toArray, List.map_cons, List.map_nil]); first | done | rfl | (simp only [List.length_drop, List.length_take]; rfl)) ?_; (with_reducible refine (num_S32.calls t303 t334 _ A72.out).mono ?_); rintro e w' ⟨rfl, ⟨nd, rfl⟩⟩; refine ⟨_, rfl, ?_⟩) | ((with_reducible refine gate_callee (f := 13) rfl ?_); refine goesL_ (some 132) rfl rfl Tryd.func13 (by kernel_rfl) rfl #[.int .i64 t306] rfl (by (try simp only [List.map_toArray, List.map_cons, List.map_nil]); first | done | rfl | (simp only [List.length_drop, List.length_take]; rfl)) ?_; (with_reducible refine (num_S32.calls t306 t335 _ A73.out).mono ?_); rintro e w' ⟨rfl, ⟨nd, rfl⟩⟩; refine ⟨_, rfl, ?_⟩) | (go_at_call 15; (with_reducible refine (scarflaw03_awake.calls kj21  t338 _ (by first | exact HT.out | exact Tabs.below HB.out HT.out | (repeat (first | exact HT.out | exact Tabs.below HB.out HT.out | apply Tabs.drewN | apply Tabs.drew | apply Tabs.alloc))) A86.out).mono ?_); rintro e w' ⟨rfl, ⟨nd, rfl⟩⟩))
                                              go_ret
                                              exact ⟨by first | rfl | (simp; done) | (simp [*]; done), by repeat (first | exact Drawn0.refl _ | apply Drawn0.step)⟩
                                          · rw [if_neg c85] at H
                                            have c85b0 : decide ((wrap64 (-x1_3)) < t335) = false := decide_eq_false c85
                                            clear c85
                                            obtain rfl := Option.some.inj H
                                            as_aux_lemma =>
                                              go_wp2_with (first | ((with_reducible refine gate_callee (f := 13) rfl ?_); refine goesL_ (some 130) rfl rfl Tryd.func13 (by kernel_rfl) rfl #[.int .i64 t303] rfl (by (try simp only [List.map_toArray, List.map_cons, List.map_nil]); first | done | rfl | (simp only [List.length_drop, List.length_take]; rfl)) ?_; (with_reducible refine (num_S32.calls t303 t334 _ A72.out).mono ?_); rintro e w' ⟨rfl, ⟨nd, rfl⟩⟩; refine ⟨_, rfl, ?_⟩) | ((with_reducible refine gate_callee (f := 13) rfl ?_); refine goesL_ (some 132) rfl rfl Tryd.func13 (by kernel_rfl) rfl #[.int .i64 t306] rfl (by (try simp only [List.map_toArray, List.map_cons, List.map_nil]); first | done | rfl | (simp only [List.length_drop, List.length_take]; rfl)) ?_; (with_reducible refine (num_S32.calls t306 t335 _ A73.out).mono ?_); rintro e w' ⟨rfl, ⟨nd, rfl⟩⟩; refine ⟨_, rfl, ?_⟩))
                                              go_ret
                                              exact ⟨by first | rfl | (simp; done) | (simp [*]; done), by repeat (first | exact Drawn0.refl _ | apply Drawn0.step)⟩
                                        · rw [if_neg c84] at H
                                          have c84b0 : decide (t335 < x1_3) = false := decide_eq_false c84
                                          clear c84
                                          obtain rfl := Option.some.inj H
                                          as_aux_lemma =>
                                            go_wp2_with (first | ((with_reducible refine gate_callee (f := 13) rfl ?_); refine goesL_ (some 130) rfl rfl Tryd.func13 (by kernel_rfl) rfl #[.int .i64 t303] rfl (by (try simp only [List.map_toArray, List.map_cons, List.map_nil]); first | done | rfl | (simp only [List.length_drop, List.length_take]; rfl)) ?_; (with_reducible refine (num_S32.calls t303 t334 _ A72.out).mono ?_); rintro e w' ⟨rfl, ⟨nd, rfl⟩⟩; refine ⟨_, rfl, ?_⟩) | ((with_reducible refine gate_callee (f := 13) rfl ?_); refine goesL_ (some 132) rfl rfl Tryd.func13 (by kernel_rfl) rfl #[.int .i64 t306] rfl (by (try simp only [List.map_toArray, List.map_cons, List.map_nil]); first | done | rfl | (simp only [List.length_drop, List.length_take]; rfl)) ?_; (with_reducible refine (num_S32.calls t306 t335 _ A73.out).mono ?_); rintro e w' ⟨rfl, ⟨nd, rfl⟩⟩; refine ⟨_, rfl, ?_⟩))
                                            go_ret
                                            exact ⟨by first | rfl | (simp; done) | (simp [*]; done), by repeat (first | exact Drawn0.refl _ | apply Drawn0.step)⟩
                                      · rw [if_neg c83] at H
                                        have c83b0 : decide (0 < x1_3) = false := decide_eq_false c83
                                        clear c83
                                        obtain rfl := Option.some.inj H
                                        as_aux_lemma =>
                                          go_wp2_with (first | ((with_reducible refine gate_callee (f := 13) rfl ?_); refine goesL_ (some 130) rfl rfl Tryd.func13 (by kernel_rfl) rfl #[.int .i64 t303] rfl (by (try simp only [List.map_toArray, List.map_cons, List.map_nil]); first | done | rfl | (simp only [List.length_drop, List.length_take]; rfl)) ?_; (with_reducible refine (num_S32.calls t303 t334 _ A72.out).mono ?_); rintro e w' ⟨rfl, ⟨nd, rfl⟩⟩; refine ⟨_, rfl, ?_⟩) | ((with_reducible refine gate_callee (f := 13) rfl ?_); refine goesL_ (some 132) rfl rfl Tryd.func13 (by kernel_rfl) rfl #[.int .i64 t306] rfl (by (try simp only [List.map_toArray, List.map_cons, List.map_nil]); first | done | rfl | (simp only [List.length_drop, List.length_take]; rfl)) ?_; (with_reducible refine (num_S32.calls t306 t335 _ A73.out).mono ?_); rintro e w' ⟨rfl, ⟨nd, rfl⟩⟩; refine ⟨_, rfl, ?_⟩))
                                          go_ret
                                          exact ⟨by first | rfl | (simp; done) | (simp [*]; done), by repeat (first | exact Drawn0.refl _ | apply Drawn0.step)⟩
                                  · rw [if_neg c80] at H
                                    have c80b0 : decide (x1_3 < t335) = false := decide_eq_false c80
                                    clear c80
                                    by_cases c87 : x1_3 > 0
                                    · rw [if_pos c87] at H
                                      have c87b0 : decide (0 < x1_3) = true := decide_eq_true c87
                                      clear c87
                                      by_cases c88 : t335 < x1_3
                                      · rw [if_pos c88] at H
                                        have c88b0 : decide (t335 < x1_3) = true := decide_eq_true c88
                                        clear c88
                                        by_cases c89 : t335 > (wrap64 (-x1_3))
                                        · rw [if_pos c89] at H
                                          have c89b0 : decide ((wrap64 (-x1_3)) < t335) = true := decide_eq_true c89
                                          clear c89
                                          replace H := Option.bind_eq_some_iff.mp H
                                          obtain ⟨t339, A900, H⟩ := H
                                          replace H : (some t339) = some r := H
                                          have A90 := Aside0.mk A900
                                          clear A900
                                          obtain rfl := Option.some.inj H
                                          as_aux_lemma =>
                                            go_wp2_with (first | ((with_reducible refine gate_callee (f := 13) rfl ?_); refine goesL_ (some 130) rfl rfl Tryd.func13 (by kernel_rfl) rfl #[.int .i64 t303] rfl (by (try simp only [List.map_toArray, List.map_cons, List.map_nil]); first | done | rfl | (simp only [List.length_drop, List.length_take]; rfl)) ?_; (with_reducible refine (num_S32.calls t303 t334 _ A72.out).mono ?_); rintro e w' ⟨rfl, ⟨nd, rfl⟩⟩; refine ⟨_, rfl, ?_⟩) | ((with_reducible refine gate_callee (f := 13) rfl ?_); refine goesL_ (some 132) rfl rfl Tryd.func13 (by kernel_rfl) rfl #[.int .i64 t306] rfl (by (try simp only [List.map_toArray, List.map_cons, List.map_nil]); first | done | rfl | (simp only [List.length_drop, List.length_take]; rfl)) ?_; (with_reducible refine (num_S32.calls t306 t335 _ A73.out).mono ?_); rintro e w' ⟨rfl, ⟨nd, rfl⟩⟩; refine ⟨_, rfl, ?_⟩) | (go_at_call 15; (with_reducible refine (scarflaw03_awake.calls kj21  t339 _ (by first | exact HT.out | exact Tabs.below HB.out HT.out | (repeat (first | exact HT.out | exact Tabs.below HB.out HT.out | apply Tabs.drewN | apply Tabs.drew | apply Tabs.alloc))) A90.out).mono ?_); rintro e w' ⟨rfl, ⟨nd, rfl⟩⟩))
                                            go_ret
                                            exact ⟨by first | rfl | (simp; done) | (simp [*]; done), by repeat (first | exact Drawn0.refl _ | apply Drawn0.step)⟩
                                        · rw [if_neg c89] at H
                                          have c89b0 : decide ((wrap64 (-x1_3)) < t335) = false := decide_eq_false c89
                                          clear c89
                                          obtain rfl := Option.some.inj H
                                          as_aux_lemma =>
                                            go_wp2_with (first | ((with_reducible refine gate_callee (f := 13) rfl ?_); refine goesL_ (some 130) rfl rfl Tryd.func13 (by kernel_rfl) rfl #[.int .i64 t303] rfl (by (try simp only [List.map_toArray, List.map_cons, List.map_nil]); first | done | rfl | (simp only [List.length_drop, List.length_take]; rfl)) ?_; (with_reducible refine (num_S32.calls t303 t334 _ A72.out).mono ?_); rintro e w' ⟨rfl, ⟨nd, rfl⟩⟩; refine ⟨_, rfl, ?_⟩) | ((with_reducible refine gate_callee (f := 13) rfl ?_); refine goesL_ (some 132) rfl rfl Tryd.func13 (by kernel_rfl) rfl #[.int .i64 t306] rfl (by (try simp only [List.map_toArray, List.map_cons, List.map_nil]); first | done | rfl | (simp only [List.length_drop, List.length_take]; rfl)) ?_; (with_reducible refine (num_S32.calls t306 t335 _ A73.out).mono ?_); rintro e w' ⟨rfl, ⟨nd, rfl⟩⟩; refine ⟨_, rfl, ?_⟩))
                                            go_ret
                                            exact ⟨by first | rfl | (simp; done) | (simp [*]; done), by repeat (first | exact Drawn0.refl _ | apply Drawn0.step)⟩
                                      · rw [if_neg c88] at H
                                        have c88b0 : decide (t335 < x1_3) = false := decide_eq_false c88
                                        clear c88
                                        obtain rfl := Option.some.inj H
                                        as_aux_lemma =>
                                          go_wp2_with (first | ((with_reducible refine gate_callee (f := 13) rfl ?_); refine goesL_ (some 130) rfl rfl Tryd.func13 (by kernel_rfl) rfl #[.int .i64 t303] rfl (by (try simp only [List.map_toArray, List.map_cons, List.map_nil]); first | done | rfl | (simp only [List.length_drop, List.length_take]; rfl)) ?_; (with_reducible refine (num_S32.calls t303 t334 _ A72.out).mono ?_); rintro e w' ⟨rfl, ⟨nd, rfl⟩⟩; refine ⟨_, rfl, ?_⟩) | ((with_reducible refine gate_callee (f := 13) rfl ?_); refine goesL_ (some 132) rfl rfl Tryd.func13 (by kernel_rfl) rfl #[.int .i64 t306] rfl (by (try simp only [List.map_toArray, List.map_cons, List.map_nil]); first | done | rfl | (simp only [List.length_drop, List.length_take]; rfl)) ?_; (with_reducible refine (num_S32.calls t306 t335 _ A73.out).mono ?_); rintro e w' ⟨rfl, ⟨nd, rfl⟩⟩; refine ⟨_, rfl, ?_⟩))
                                          go_ret
                                          exact ⟨by first | rfl | (simp; done) | (simp [*]; done), by repeat (first | exact Drawn0.refl _ | apply Drawn0.step)⟩
                                    · rw [if_neg c87] at H
                                      have c87b0 : decide (0 < x1_3) = false := decide_eq_false c87
                                      clear c87
                                      obtain rfl := Option.some.inj H
                                      as_aux_lemma =>
                                        go_wp2_with (first | ((with_reducible refine gate_callee (f := 13) rfl ?_); refine goesL_ (some 130) rfl rfl Tryd.func13 (by kernel_rfl) rfl #[.int .i64 t303] rfl (by (try simp only [List.map_toArray, List.map_cons, List.map_nil]); first | done | rfl | (simp only [List.length_drop, List.length_take]; rfl)) ?_; (with_reducible refine (num_S32.calls t303 t334 _ A72.out).mono ?_); rintro e w' ⟨rfl, ⟨nd, rfl⟩⟩; refine ⟨_, rfl, ?_⟩) | ((with_reducible refine gate_callee (f := 13) rfl ?_); refine goesL_ (some 132) rfl rfl Tryd.func13 (by kernel_rfl) rfl #[.int .i64 t306] rfl (by (try simp only [List.map_toArray, List.map_cons, List.map_nil]); first | done | rfl | (simp only [List.length_drop, List.length_take]; rfl)) ?_; (with_reducible refine (num_S32.calls t306 t335 _ A73.out).mono ?_); rintro e w' ⟨rfl, ⟨nd, rfl⟩⟩; refine ⟨_, rfl, ?_⟩))
                                        go_ret
                                        exact ⟨by first | rfl | (simp; done) | (simp [*]; done), by repeat (first | exact Drawn0.refl _ | apply Drawn0.step)⟩
                                · rw [if_neg c79] at H
                                  have c79b0 : decide (x1_3 < 0) = false := decide_eq_false c79
                                  clear c79
                                  by_cases c91 : x1_3 > 0
                                  · rw [if_pos c91] at H
                                    have c91b0 : decide (0 < x1_3) = true := decide_eq_true c91
                                    clear c91
                                    by_cases c92 : t335 < x1_3
                                    · rw [if_pos c92] at H
                                      have c92b0 : decide (t335 < x1_3) = true := decide_eq_true c92
                                      clear c92
                                      by_cases c93 : t335 > (wrap64 (-x1_3))
                                      · rw [if_pos c93] at H
                                        have c93b0 : decide ((wrap64 (-x1_3)) < t335) = true := decide_eq_true c93
                                        clear c93
                                        replace H := Option.bind_eq_some_iff.mp H
                                        obtain ⟨t340, A940, H⟩ := H
                                        replace H : (some t340) = some r := H
                                        have A94 := Aside0.mk A940
                                        clear A940
                                        obtain rfl := Option.some.inj H
                                        as_aux_lemma =>
                                          go_wp2_with (first | ((with_reducible refine gate_callee (f := 13) rfl ?_); refine goesL_ (some 130) rfl rfl Tryd.func13 (by kernel_rfl) rfl #[.int .i64 t303] rfl (by (try simp only [List.map_toArray, List.map_cons, List.map_nil]); first | done | rfl | (simp only [List.length_drop, List.length_take]; rfl)) ?_; (with_reducible refine (num_S32.calls t303 t334 _ A72.out).mono ?_); rintro e w' ⟨rfl, ⟨nd, rfl⟩⟩; refine ⟨_, rfl, ?_⟩) | ((with_reducible refine gate_callee (f := 13) rfl ?_); refine goesL_ (some 132) rfl rfl Tryd.func13 (by kernel_rfl) rfl #[.int .i64 t306] rfl (by (try simp only [List.map_toArray, List.map_cons, List.map_nil]); first | done | rfl | (simp only [List.length_drop, List.length_take]; rfl)) ?_; (with_reducible refine (num_S32.calls t306 t335 _ A73.out).mono ?_); rintro e w' ⟨rfl, ⟨nd, rfl⟩⟩; refine ⟨_, rfl, ?_⟩) | (go_at_call 15; (with_reducible refine (scarflaw03_awake.calls kj21  t340 _ (by first | exact HT.out | exact Tabs.below HB.out HT.out | (repeat (first | exact HT.out | exact Tabs.below HB.out HT.out | apply Tabs.drewN | apply Tabs.drew | apply Tabs.alloc))) A94.out).mono ?_); rintro e w' ⟨rfl, ⟨nd, rfl⟩⟩))
                                          go_ret
                                          exact ⟨by first | rfl | (simp; done) | (simp [*]; done), by repeat (first | exact Drawn0.refl _ | apply Drawn0.step)⟩
                                      · rw [if_neg c93] at H
                                        have c93b0 : decide ((wrap64 (-x1_3)) < t335) = false := decide_eq_false c93
                                        clear c93
                                        obtain rfl := Option.some.inj H
                                        as_aux_lemma =>
                                          go_wp2_with (first | ((with_reducible refine gate_callee (f := 13) rfl ?_); refine goesL_ (some 130) rfl rfl Tryd.func13 (by kernel_rfl) rfl #[.int .i64 t303] rfl (by (try simp only [List.map_toArray, List.map_cons, List.map_nil]); first | done | rfl | (simp only [List.length_drop, List.length_take]; rfl)) ?_; (with_reducible refine (num_S32.calls t303 t334 _ A72.out).mono ?_); rintro e w' ⟨rfl, ⟨nd, rfl⟩⟩; refine ⟨_, rfl, ?_⟩) | ((with_reducible refine gate_callee (f := 13) rfl ?_); refine goesL_ (some 132) rfl rfl Tryd.func13 (by kernel_rfl) rfl #[.int .i64 t306] rfl (by (try simp only [List.map_toArray, List.map_cons, List.map_nil]); first | done | rfl | (simp only [List.length_drop, List.length_take]; rfl)) ?_; (with_reducible refine (num_S32.calls t306 t335 _ A73.out).mono ?_); rintro e w' ⟨rfl, ⟨nd, rfl⟩⟩; refine ⟨_, rfl, ?_⟩))
                                          go_ret
                                          exact ⟨by first | rfl | (simp; done) | (simp [*]; done), by repeat (first | exact Drawn0.refl _ | apply Drawn0.step)⟩
                                    · rw [if_neg c92] at H
                                      have c92b0 : decide (t335 < x1_3) = false := decide_eq_false c92
                                      clear c92
                                      obtain rfl := Option.some.inj H
                                      as_aux_lemma =>
                                        go_wp2_with (first | ((with_reducible refine gate_callee (f := 13) rfl ?_); refine goesL_ (some 130) rfl rfl Tryd.func13 (by kernel_rfl) rfl #[.int .i64 t303] rfl (by (try simp only [List.map_toArray, List.map_cons, List.map_nil]); first | done | rfl | (simp only [List.length_drop, List.length_take]; rfl)) ?_; (with_reducible refine (num_S32.calls t303 t334 _ A72.out).mono ?_); rintro e w' ⟨rfl, ⟨nd, rfl⟩⟩; refine ⟨_, rfl, ?_⟩) | ((with_reducible refine gate_callee (f := 13) rfl ?_); refine goesL_ (some 132) rfl rfl Tryd.func13 (by kernel_rfl) rfl #[.int .i64 t306] rfl (by (try simp only [List.map_toArray, List.map_cons, List.map_nil]); first | done | rfl | (simp only [List.length_drop, List.length_take]; rfl)) ?_; (with_reducible refine (num_S32.calls t306 t335 _ A73.out).mono ?_); rintro e w' ⟨rfl, ⟨nd, rfl⟩⟩; refine ⟨_, rfl, ?_⟩))
                                        go_ret
                                        exact ⟨by first | rfl | (simp; done) | (simp [*]; done), by repeat (first | exact Drawn0.refl _ | apply Drawn0.step)⟩
                                  · rw [if_neg c91] at H
                                    have c91b0 : decide (0 < x1_3) = false := decide_eq_false c91
                                    clear c91
                                    obtain rfl := Option.some.inj H
                                    as_aux_lemma =>
                                      go_wp2_with (first | ((with_reducible refine gate_callee (f := 13) rfl ?_); refine goesL_ (some 130) rfl rfl Tryd.func13 (by kernel_rfl) rfl #[.int .i64 t303] rfl (by (try simp only [List.map_toArray, List.map_cons, List.map_nil]); first | done | rfl | (simp only [List.length_drop, List.length_take]; rfl)) ?_; (with_reducible refine (num_S32.calls t303 t334 _ A72.out).mono ?_); rintro e w' ⟨rfl, ⟨nd, rfl⟩⟩; refine ⟨_, rfl, ?_⟩) | ((with_reducible refine gate_callee (f := 13) rfl ?_); refine goesL_ (some 132) rfl rfl Tryd.func13 (by kernel_rfl) rfl #[.int .i64 t306] rfl (by (try simp only [List.map_toArray, List.map_cons, List.map_nil]); first | done | rfl | (simp only [List.length_drop, List.length_take]; rfl)) ?_; (with_reducible refine (num_S32.calls t306 t335 _ A73.out).mono ?_); rintro e w' ⟨rfl, ⟨nd, rfl⟩⟩; refine ⟨_, rfl, ?_⟩))
                                      go_ret
                                      exact ⟨by first | rfl | (simp; done) | (simp [*]; done), by repeat (first | exact Drawn0.refl _ | apply Drawn0.step)⟩
                            · rw [if_neg c76] at H
                              have c76b0 : (t335 == 0) = false := beq_eq_false_iff_ne.mpr c76
                              have c76b1 : (t335 != 0) = true := bne_iff_ne.mpr c76
                              by_cases c95 : ((decide (t335 < 0)) == (decide (x0_3 < 0))) = true
                              · rw [if_pos c95] at H
                                have c95b0 : ((decide (t335 < 0)) == (decide (x0_3 < 0))) = true := c95
                                (try (have c95b1 : decide ((decide (t335 < 0)) = (decide (x0_3 < 0))) = true := by simpa using c95))
                                (try (have c95b2 : ((decide (t335 < 0)) == (decide (x0_3 < 0))) = true := by simpa using c95))
                                clear c95
                                by_cases c96 : x1_3 = (-9223372036854775808)
                                · rw [if_pos c96] at H
                                  have c96b0 : (x1_3 == (-9223372036854775808)) = true := beq_iff_eq.mpr c96
                                  have c96b1 : (x1_3 != (-9223372036854775808)) = false := bne_eq_false_iff_eq.mpr c96
                                  clear c96
                                  replace H := Option.bind_eq_some_iff.mp H
                                  obtain ⟨t341, A970, H⟩ := H
                                  replace H : (some t341) = some r := H
                                  have A97 := Aside0.mk A970
                                  clear A970
                                  obtain rfl := Option.some.inj H
                                  as_aux_lemma =>
                                    go_wp2_with (first | ((with_reducible refine gate_callee (f := 13) rfl ?_); refine goesL_ (some 130) rfl rfl Tryd.func13 (by kernel_rfl) rfl #[.int .i64 t303] rfl (by (try simp only [List.map_toArray, List.map_cons, List.map_nil]); first | done | rfl | (simp only [List.length_drop, List.length_take]; rfl)) ?_; (with_reducible refine (num_S32.calls t303 t334 _ A72.out).mono ?_); rintro e w' ⟨rfl, ⟨nd, rfl⟩⟩; refine ⟨_, rfl, ?_⟩) | ((with_reducible refine gate_callee (f := 13) rfl ?_); refine goesL_ (some 132) rfl rfl Tryd.func13 (by kernel_rfl) rfl #[.int .i64 t306] rfl (by (try simp only [List.map_toArray, List.map_cons, List.map_nil]); first | done | rfl | (simp only [List.length_drop, List.length_take]; rfl)) ?_; (with_reducible refine (num_S32.calls t306 t335 _ A73.out).mono ?_); rintro e w' ⟨rfl, ⟨nd, rfl⟩⟩; refine ⟨_, rfl, ?_⟩) | (go_at_call 15; (with_reducible refine (scarflaw03_awake.calls kj21  t341 _ (by first | exact HT.out | exact Tabs.below HB.out HT.out | (repeat (first | exact HT.out | exact Tabs.below HB.out HT.out | apply Tabs.drewN | apply Tabs.drew | apply Tabs.alloc))) A97.out).mono ?_); rintro e w' ⟨rfl, ⟨nd, rfl⟩⟩))
                                    go_ret
                                    exact ⟨by first | rfl | (simp; done) | (simp [*]; done), by repeat (first | exact Drawn0.refl _ | apply Drawn0.step)⟩
                                · rw [if_neg c96] at H
                                  have c96b0 : (x1_3 == (-9223372036854775808)) = false := beq_eq_false_iff_ne.mpr c96
                                  have c96b1 : (x1_3 != (-9223372036854775808)) = true := bne_iff_ne.mpr c96
                                  by_cases c98 : x1_3 < 0
                                  · rw [if_pos c98] at H
                                    have c98b0 : decide (x1_3 < 0) = true := decide_eq_true c98
                                    clear c98
                                    by_cases c99 : t335 > x1_3
                                    · rw [if_pos c99] at H
                                      have c99b0 : decide (x1_3 < t335) = true := decide_eq_true c99
                                      clear c99
                                      by_cases c100 : t335 < (wrap64 (-x1_3))
                                      · rw [if_pos c100] at H
                                        have c100b0 : decide (t335 < (wrap64 (-x1_3))) = true := decide_eq_true c100
                                        clear c100
                                        replace H := Option.bind_eq_some_iff.mp H
                                        obtain ⟨t342, A1010, H⟩ := H
                                        replace H : (some t342) = some r := H
                                        have A101 := Aside0.mk A1010
                                        clear A1010
                                        obtain rfl := Option.some.inj H
                                        as_aux_lemma =>
                                          go_wp2_with (first | ((with_reducible refine gate_callee (f := 13) rfl ?_); refine goesL_ (some 130) rfl rfl Tryd.func13 (by kernel_rfl) rfl #[.int .i64 t303] rfl (by (try simp only [List.map_toArray, List.map_cons, List.map_nil]); first | done | rfl | (simp only [List.length_drop, List.length_take]; rfl)) ?_; (with_reducible refine (num_S32.calls t303 t334 _ A72.out).mono ?_); rintro e w' ⟨rfl, ⟨nd, rfl⟩⟩; refine ⟨_, rfl, ?_⟩) | ((with_reducible refine gate_callee (f := 13) rfl ?_); refine goesL_ (some 132) rfl rfl Tryd.func13 (by kernel_rfl) rfl #[.int .i64 t306] rfl (by (try simp only [List.map_toArray, List.map_cons, List.map_nil]); first | done | rfl | (simp only [List.length_drop, List.length_take]; rfl)) ?_; (with_reducible refine (num_S32.calls t306 t335 _ A73.out).mono ?_); rintro e w' ⟨rfl, ⟨nd, rfl⟩⟩; refine ⟨_, rfl, ?_⟩) | (go_at_call 15; (with_reducible refine (scarflaw03_awake.calls kj21  t342 _ (by first | exact HT.out | exact Tabs.below HB.out HT.out | (repeat (first | exact HT.out | exact Tabs.below HB.out HT.out | apply Tabs.drewN | apply Tabs.drew | apply Tabs.alloc))) A101.out).mono ?_); rintro e w' ⟨rfl, ⟨nd, rfl⟩⟩))
                                          go_ret
                                          exact ⟨by first | rfl | (simp; done) | (simp [*]; done), by repeat (first | exact Drawn0.refl _ | apply Drawn0.step)⟩
                                      · rw [if_neg c100] at H
                                        have c100b0 : decide (t335 < (wrap64 (-x1_3))) = false := decide_eq_false c100
                                        clear c100
                                        by_cases c102 : x1_3 > 0
                                        · rw [if_pos c102] at H
                                          have c102b0 : decide (0 < x1_3) = true := decide_eq_true c102
                                          clear c102
                                          by_cases c103 : t335 < x1_3
                                          · rw [if_pos c103] at H
                                            have c103b0 : decide (t335 < x1_3) = true := decide_eq_true c103
                                            clear c103
                                            by_cases c104 : t335 > (wrap64 (-x1_3))
                                            · rw [if_pos c104] at H
                                              have c104b0 : decide ((wrap64 (-x1_3)) < t335) = true := decide_eq_true c104
                                              clear c104
                                              replace H := Option.bind_eq_some_iff.mp H
                                              obtain ⟨t343, A1050, H⟩ := H
                                              replace H : (some t343) = some r := H
                                              have A105 := Aside0.mk A1050
                                              clear A1050
                                              obtain rfl := Option.some.inj H
                                              as_aux_lemma =>
                                                go_wp2_with (first | ((with_reducible refine gate_callee (f := 13) rfl ?_); refine goesL_ (some 130) rfl rfl Tryd.func13 (by kernel_rfl) rfl #[.int .i64 t303] rfl (by (try simp only [List.map_toArray, List.map_cons, List.map_nil]); first | done | rfl | (simp only [List.length_drop, List.length_take]; rfl)) ?_; (with_reducible refine (num_S32.calls t303 t334 _ A72.out).mono ?_); rintro e w' ⟨rfl, ⟨nd, rfl⟩⟩; refine ⟨_, rfl, ?_⟩) | ((with_reducible refine gate_callee (f := 13) rfl ?_); refine goesL_ (some 132) rfl rfl Tryd.func13 (by kernel_rfl) rfl #[.int .i64 t306] rfl (by (try simp only [List.map_toArray, List.map_cons, List.map_nil]); first | done | rfl | (simp only [List.length_drop, List.length_take]; rfl)) ?_; (with_reducible refine (num_S32.calls t306 t335 _ A73.out).mono ?_); rintro e w' ⟨rfl, ⟨nd, rfl⟩⟩; refine ⟨_, rfl, ?_⟩) | (go_at_call 15; (with_reducible refine (scarflaw03_awake.calls kj21  t343 _ (by first | exact HT.out | exact Tabs.below HB.out HT.out | (repeat (first | exact HT.out | exact Tabs.below HB.out HT.out | apply Tabs.drewN | apply Tabs.drew | apply Tabs.alloc))) A105.out).mono ?_); rintro e w' ⟨rfl, ⟨nd, rfl⟩⟩))
                                                go_ret
                                                exact ⟨by first | rfl | (simp; done) | (simp [*]; done), by repeat (first | exact Drawn0.refl _ | apply Drawn0.step)⟩
                                            · rw [if_neg c104] at H
                                              have c104b0 : decide ((wrap64 (-x1_3)) < t335) = false := decide_eq_false c104
                                              clear c104
                                              obtain rfl := Option.some.inj H
                                              as_aux_lemma =>
                                                go_wp2_with (first | ((with_reducible refine gate_callee (f := 13) rfl ?_); refine goesL_ (some 130) rfl rfl Tryd.func13 (by kernel_rfl) rfl #[.int .i64 t303] rfl (by (try simp only [List.map_toArray, List.map_cons, List.map_nil]); first | done | rfl | (simp only [List.length_drop, List.length_take]; rfl)) ?_; (with_reducible refine (num_S32.calls t303 t334 _ A72.out).mono ?_); rintro e w' ⟨rfl, ⟨nd, rfl⟩⟩; refine ⟨_, rfl, ?_⟩) | ((with_reducible refine gate_callee (f := 13) rfl ?_); refine goesL_ (some 132) rfl rfl Tryd.func13 (by kernel_rfl) rfl #[.int .i64 t306] rfl (by (try simp only [List.map_toArray, List.map_cons, List.map_nil]); first | done | rfl | (simp only [List.length_drop, List.length_take]; rfl)) ?_; (with_reducible refine (num_S32.calls t306 t335 _ A73.out).mono ?_); rintro e w' ⟨rfl, ⟨nd, rfl⟩⟩; refine ⟨_, rfl, ?_⟩))
                                                go_ret
                                                exact ⟨by first | rfl | (simp; done) | (simp [*]; done), by repeat (first | exact Drawn0.refl _ | apply Drawn0.step)⟩
                                          · rw [if_neg c103] at H
                                            have c103b0 : decide (t335 < x1_3) = false := decide_eq_false c103
                                            clear c103
                                            obtain rfl := Option.some.inj H
                                            as_aux_lemma =>
                                              go_wp2_with (first | ((with_reducible refine gate_callee (f := 13) rfl ?_); refine goesL_ (some 130) rfl rfl Tryd.func13 (by kernel_rfl) rfl #[.int .i64 t303] rfl (by (try simp only [List.map_toArray, List.map_cons, List.map_nil]); first | done | rfl | (simp only [List.length_drop, List.length_take]; rfl)) ?_; (with_reducible refine (num_S32.calls t303 t334 _ A72.out).mono ?_); rintro e w' ⟨rfl, ⟨nd, rfl⟩⟩; refine ⟨_, rfl, ?_⟩) | ((with_reducible refine gate_callee (f := 13) rfl ?_); refine goesL_ (some 132) rfl rfl Tryd.func13 (by kernel_rfl) rfl #[.int .i64 t306] rfl (by (try simp only [List.map_toArray, List.map_cons, List.map_nil]); first | done | rfl | (simp only [List.length_drop, List.length_take]; rfl)) ?_; (with_reducible refine (num_S32.calls t306 t335 _ A73.out).mono ?_); rintro e w' ⟨rfl, ⟨nd, rfl⟩⟩; refine ⟨_, rfl, ?_⟩))
                                              go_ret
                                              exact ⟨by first | rfl | (simp; done) | (simp [*]; done), by repeat (first | exact Drawn0.refl _ | apply Drawn0.step)⟩
                                        · rw [if_neg c102] at H
                                          have c102b0 : decide (0 < x1_3) = false := decide_eq_false c102
                                          clear c102
                                          obtain rfl := Option.some.inj H
                                          as_aux_lemma =>
                                            go_wp2_with (first | ((with_reducible refine gate_callee (f := 13) rfl ?_); refine goesL_ (some 130) rfl rfl Tryd.func13 (by kernel_rfl) rfl #[.int .i64 t303] rfl (by (try simp only [List.map_toArray, List.map_cons, List.map_nil]); first | done | rfl | (simp only [List.length_drop, List.length_take]; rfl)) ?_; (with_reducible refine (num_S32.calls t303 t334 _ A72.out).mono ?_); rintro e w' ⟨rfl, ⟨nd, rfl⟩⟩; refine ⟨_, rfl, ?_⟩) | ((with_reducible refine gate_callee (f := 13) rfl ?_); refine goesL_ (some 132) rfl rfl Tryd.func13 (by kernel_rfl) rfl #[.int .i64 t306] rfl (by (try simp only [List.map_toArray, List.map_cons, List.map_nil]); first | done | rfl | (simp only [List.length_drop, List.length_take]; rfl)) ?_; (with_reducible refine (num_S32.calls t306 t335 _ A73.out).mono ?_); rintro e w' ⟨rfl, ⟨nd, rfl⟩⟩; refine ⟨_, rfl, ?_⟩))
                                            go_ret
                                            exact ⟨by first | rfl | (simp; done) | (simp [*]; done), by repeat (first | exact Drawn0.refl _ | apply Drawn0.step)⟩
                                    · rw [if_neg c99] at H
                                      have c99b0 : decide (x1_3 < t335) = false := decide_eq_false c99
                                      clear c99
                                      by_cases c106 : x1_3 > 0
                                      · rw [if_pos c106] at H
                                        have c106b0 : decide (0 < x1_3) = true := decide_eq_true c106
                                        clear c106
                                        by_cases c107 : t335 < x1_3
                                        · rw [if_pos c107] at H
                                          have c107b0 : decide (t335 < x1_3) = true := decide_eq_true c107
                                          clear c107
                                          by_cases c108 : t335 > (wrap64 (-x1_3))
                                          · rw [if_pos c108] at H
                                            have c108b0 : decide ((wrap64 (-x1_3)) < t335) = true := decide_eq_true c108
                                            clear c108
                                            replace H := Option.bind_eq_some_iff.mp H
                                            obtain ⟨t344, A1090, H⟩ := H
                                            replace H : (some t344) = some r := H
                                            have A109 := Aside0.mk A1090
                                            clear A1090
                                            obtain rfl := Option.some.inj H
                                            as_aux_lemma =>
                                              go_wp2_with (first | ((with_reducible refine gate_callee (f := 13) rfl ?_); refine goesL_ (some 130) rfl rfl Tryd.func13 (by kernel_rfl) rfl #[.int .i64 t303] rfl (by (try simp only [List.map_toArray, List.map_cons, List.map_nil]); first | done | rfl | (simp only [List.length_drop, List.length_take]; rfl)) ?_; (with_reducible refine (num_S32.calls t303 t334 _ A72.out).mono ?_); rintro e w' ⟨rfl, ⟨nd, rfl⟩⟩; refine ⟨_, rfl, ?_⟩) | ((with_reducible refine gate_callee (f := 13) rfl ?_); refine goesL_ (some 132) rfl rfl Tryd.func13 (by kernel_rfl) rfl #[.int .i64 t306] rfl (by (try simp only [List.map_toArray, List.map_cons, List.map_nil]); first | done | rfl | (simp only [List.length_drop, List.length_take]; rfl)) ?_; (with_reducible refine (num_S32.calls t306 t335 _ A73.out).mono ?_); rintro e w' ⟨rfl, ⟨nd, rfl⟩⟩; refine ⟨_, rfl, ?_⟩) | (go_at_call 15; (with_reducible refine (scarflaw03_awake.calls kj21  t344 _ (by first | exact HT.out | exact Tabs.below HB.out HT.out | (repeat (first | exact HT.out | exact Tabs.below HB.out HT.out | apply Tabs.drewN | apply Tabs.drew | apply Tabs.alloc))) A109.out).mono ?_); rintro e w' ⟨rfl, ⟨nd, rfl⟩⟩))
                                              go_ret
                                              exact ⟨by first | rfl | (simp; done) | (simp [*]; done), by repeat (first | exact Drawn0.refl _ | apply Drawn0.step)⟩
                                          · rw [if_neg c108] at H
                                            have c108b0 : decide ((wrap64 (-x1_3)) < t335) = false := decide_eq_false c108
                                            clear c108
                                            obtain rfl := Option.some.inj H
                                            as_aux_lemma =>
                                              go_wp2_with (first | ((with_reducible refine gate_callee (f := 13) rfl ?_); refine goesL_ (some 130) rfl rfl Tryd.func13 (by kernel_rfl) rfl #[.int .i64 t303] rfl (by (try simp only [List.map_toArray, List.map_cons, List.map_nil]); first | done | rfl | (simp only [List.length_drop, List.length_take]; rfl)) ?_; (with_reducible refine (num_S32.calls t303 t334 _ A72.out).mono ?_); rintro e w' ⟨rfl, ⟨nd, rfl⟩⟩; refine ⟨_, rfl, ?_⟩) | ((with_reducible refine gate_callee (f := 13) rfl ?_); refine goesL_ (some 132) rfl rfl Tryd.func13 (by kernel_rfl) rfl #[.int .i64 t306] rfl (by (try simp only [List.map_toArray, List.map_cons, List.map_nil]); first | done | rfl | (simp only [List.length_drop, List.length_take]; rfl)) ?_; (with_reducible refine (num_S32.calls t306 t335 _ A73.out).mono ?_); rintro e w' ⟨rfl, ⟨nd, rfl⟩⟩; refine ⟨_, rfl, ?_⟩))
                                              go_ret
                                              exact ⟨by first | rfl | (simp; done) | (simp [*]; done), by repeat (first | exact Drawn0.refl _ | apply Drawn0.step)⟩
                                        · rw [if_neg c107] at H
                                          have c107b0 : decide (t335 < x1_3) = false := decide_eq_false c107
                                          clear c107
                                          obtain rfl := Option.some.inj H
                                          as_aux_lemma =>
                                            go_wp2_with (first | ((with_reducible refine gate_callee (f := 13) rfl ?_); refine goesL_ (some 130) rfl rfl Tryd.func13 (by kernel_rfl) rfl #[.int .i64 t303] rfl (by (try simp only [List.map_toArray, List.map_cons, List.map_nil]); first | done | rfl | (simp only [List.length_drop, List.length_take]; rfl)) ?_; (with_reducible refine (num_S32.calls t303 t334 _ A72.out).mono ?_); rintro e w' ⟨rfl, ⟨nd, rfl⟩⟩; refine ⟨_, rfl, ?_⟩) | ((with_reducible refine gate_callee (f := 13) rfl ?_); refine goesL_ (some 132) rfl rfl Tryd.func13 (by kernel_rfl) rfl #[.int .i64 t306] rfl (by (try simp only [List.map_toArray, List.map_cons, List.map_nil]); first | done | rfl | (simp only [List.length_drop, List.length_take]; rfl)) ?_; (with_reducible refine (num_S32.calls t306 t335 _ A73.out).mono ?_); rintro e w' ⟨rfl, ⟨nd, rfl⟩⟩; refine ⟨_, rfl, ?_⟩))
                                            go_ret
                                            exact ⟨by first | rfl | (simp; done) | (simp [*]; done), by repeat (first | exact Drawn0.refl _ | apply Drawn0.step)⟩
                                      · rw [if_neg c106] at H
                                        have c106b0 : decide (0 < x1_3) = false := decide_eq_false c106
                                        clear c106
                                        obtain rfl := Option.some.inj H
                                        as_aux_lemma =>
                                          go_wp2_with (first | ((with_reducible refine gate_callee (f := 13) rfl ?_); refine goesL_ (some 130) rfl rfl Tryd.func13 (by kernel_rfl) rfl #[.int .i64 t303] rfl (by (try simp only [List.map_toArray, List.map_cons, List.map_nil]); first | done | rfl | (simp only [List.length_drop, List.length_take]; rfl)) ?_; (with_reducible refine (num_S32.calls t303 t334 _ A72.out).mono ?_); rintro e w' ⟨rfl, ⟨nd, rfl⟩⟩; refine ⟨_, rfl, ?_⟩) | ((with_reducible refine gate_callee (f := 13) rfl ?_); refine goesL_ (some 132) rfl rfl Tryd.func13 (by kernel_rfl) rfl #[.int .i64 t306] rfl (by (try simp only [List.map_toArray, List.map_cons, List.map_nil]); first | done | rfl | (simp only [List.length_drop, List.length_take]; rfl)) ?_; (with_reducible refine (num_S32.calls t306 t335 _ A73.out).mono ?_); rintro e w' ⟨rfl, ⟨nd, rfl⟩⟩; refine ⟨_, rfl, ?_⟩))
                                          go_ret
                                          exact ⟨by first | rfl | (simp; done) | (simp [*]; done), by repeat (first | exact Drawn0.refl _ | apply Drawn0.step)⟩
                                  · rw [if_neg c98] at H
                                    have c98b0 : decide (x1_3 < 0) = false := decide_eq_false c98
                                    clear c98
                                    by_cases c110 : x1_3 > 0
                                    · rw [if_pos c110] at H
                                      have c110b0 : decide (0 < x1_3) = true := decide_eq_true c110
                                      clear c110
                                      by_cases c111 : t335 < x1_3
                                      · rw [if_pos c111] at H
                                        have c111b0 : decide (t335 < x1_3) = true := decide_eq_true c111
                                        clear c111
                                        by_cases c112 : t335 > (wrap64 (-x1_3))
                                        · rw [if_pos c112] at H
                                          have c112b0 : decide ((wrap64 (-x1_3)) < t335) = true := decide_eq_true c112
                                          clear c112
                                          replace H := Option.bind_eq_some_iff.mp H
                                          obtain ⟨t345, A1130, H⟩ := H
                                          replace H : (some t345) = some r := H
                                          have A113 := Aside0.mk A1130
                                          clear A1130
                                          obtain rfl := Option.some.inj H
                                          as_aux_lemma =>
                                            go_wp2_with (first | ((with_reducible refine gate_callee (f := 13) rfl ?_); refine goesL_ (some 130) rfl rfl Tryd.func13 (by kernel_rfl) rfl #[.int .i64 t303] rfl (by (try simp only [List.map_toArray, List.map_cons, List.map_nil]); first | done | rfl | (simp only [List.length_drop, List.length_take]; rfl)) ?_; (with_reducible refine (num_S32.calls t303 t334 _ A72.out).mono ?_); rintro e w' ⟨rfl, ⟨nd, rfl⟩⟩; refine ⟨_, rfl, ?_⟩) | ((with_reducible refine gate_callee (f := 13) rfl ?_); refine goesL_ (some 132) rfl rfl Tryd.func13 (by kernel_rfl) rfl #[.int .i64 t306] rfl (by (try simp only [List.map_toArray, List.map_cons, List.map_nil]); first | done | rfl | (simp only [List.length_drop, List.length_take]; rfl)) ?_; (with_reducible refine (num_S32.calls t306 t335 _ A73.out).mono ?_); rintro e w' ⟨rfl, ⟨nd, rfl⟩⟩; refine ⟨_, rfl, ?_⟩) | (go_at_call 15; (with_reducible refine (scarflaw03_awake.calls kj21  t345 _ (by first | exact HT.out | exact Tabs.below HB.out HT.out | (repeat (first | exact HT.out | exact Tabs.below HB.out HT.out | apply Tabs.drewN | apply Tabs.drew | apply Tabs.alloc))) A113.out).mono ?_); rintro e w' ⟨rfl, ⟨nd, rfl⟩⟩))
                                            go_ret
                                            exact ⟨by first | rfl | (simp; done) | (simp [*]; done), by repeat (first | exact Drawn0.refl _ | apply Drawn0.step)⟩
                                        · rw [if_neg c112] at H
                                          have c112b0 : decide ((wrap64 (-x1_3)) < t335) = false := decide_eq_false c112
                                          clear c112
                                          obtain rfl := Option.some.inj H
                                          as_aux_lemma =>
                                            go_wp2_with (first | ((with_reducible refine gate_callee (f := 13) rfl ?_); refine goesL_ (some 130) rfl rfl Tryd.func13 (by kernel_rfl) rfl #[.int .i64 t303] rfl (by (try simp only [List.map_toArray, List.map_cons, List.map_nil]); first | done | rfl | (simp only [List.length_drop, List.length_take]; rfl)) ?_; (with_reducible refine (num_S32.calls t303 t334 _ A72.out).mono ?_); rintro e w' ⟨rfl, ⟨nd, rfl⟩⟩; refine ⟨_, rfl, ?_⟩) | ((with_reducible refine gate_callee (f := 13) rfl ?_); refine goesL_ (some 132) rfl rfl Tryd.func13 (by kernel_rfl) rfl #[.int .i64 t306] rfl (by (try simp only [List.map_toArray, List.map_cons, List.map_nil]); first | done | rfl | (simp only [List.length_drop, List.length_take]; rfl)) ?_; (with_reducible refine (num_S32.calls t306 t335 _ A73.out).mono ?_); rintro e w' ⟨rfl, ⟨nd, rfl⟩⟩; refine ⟨_, rfl, ?_⟩))
                                            go_ret
                                            exact ⟨by first | rfl | (simp; done) | (simp [*]; done), by repeat (first | exact Drawn0.refl _ | apply Drawn0.step)⟩
                                      · rw [if_neg c111] at H
                                        have c111b0 : decide (t335 < x1_3) = false := decide_eq_false c111
                                        clear c111
                                        obtain rfl := Option.some.inj H
                                        as_aux_lemma =>
                                          go_wp2_with (first | ((with_reducible refine gate_callee (f := 13) rfl ?_); refine goesL_ (some 130) rfl rfl Tryd.func13 (by kernel_rfl) rfl #[.int .i64 t303] rfl (by (try simp only [List.map_toArray, List.map_cons, List.map_nil]); first | done | rfl | (simp only [List.length_drop, List.length_take]; rfl)) ?_; (with_reducible refine (num_S32.calls t303 t334 _ A72.out).mono ?_); rintro e w' ⟨rfl, ⟨nd, rfl⟩⟩; refine ⟨_, rfl, ?_⟩) | ((with_reducible refine gate_callee (f := 13) rfl ?_); refine goesL_ (some 132) rfl rfl Tryd.func13 (by kernel_rfl) rfl #[.int .i64 t306] rfl (by (try simp only [List.map_toArray, List.map_cons, List.map_nil]); first | done | rfl | (simp only [List.length_drop, List.length_take]; rfl)) ?_; (with_reducible refine (num_S32.calls t306 t335 _ A73.out).mono ?_); rintro e w' ⟨rfl, ⟨nd, rfl⟩⟩; refine ⟨_, rfl, ?_⟩))
                                          go_ret
                                          exact ⟨by first | rfl | (simp; done) | (simp [*]; done), by repeat (first | exact Drawn0.refl _ | apply Drawn0.step)⟩
                                    · rw [if_neg c110] at H
                                      have c110b0 : decide (0 < x1_3) = false := decide_eq_false c110
                                      clear c110
                                      obtain rfl := Option.some.inj H
                                      as_aux_lemma =>
                                        go_wp2_with (first | ((with_reducible refine gate_callee (f := 13) rfl ?_); refine goesL_ (some 130) rfl rfl Tryd.func13 (by kernel_rfl) rfl #[.int .i64 t303] rfl (by (try simp only [List.map_toArray, List.map_cons, List.map_nil]); first | done | rfl | (simp only [List.length_drop, List.length_take]; rfl)) ?_; (with_reducible refine (num_S32.calls t303 t334 _ A72.out).mono ?_); rintro e w' ⟨rfl, ⟨nd, rfl⟩⟩; refine ⟨_, rfl, ?_⟩) | ((with_reducible refine gate_callee (f := 13) rfl ?_); refine goesL_ (some 132) rfl rfl Tryd.func13 (by kernel_rfl) rfl #[.int .i64 t306] rfl (by (try simp only [List.map_toArray, List.map_cons, List.map_nil]); first | done | rfl | (simp only [List.length_drop, List.length_take]; rfl)) ?_; (with_reducible refine (num_S32.calls t306 t335 _ A73.out).mono ?_); rintro e w' ⟨rfl, ⟨nd, rfl⟩⟩; refine ⟨_, rfl, ?_⟩))
                                        go_ret
                                        exact ⟨by first | rfl | (simp; done) | (simp [*]; done), by repeat (first | exact Drawn0.refl _ | apply Drawn0.step)⟩
                              · rw [if_neg c95] at H
                                have c95b0 : ((decide (t335 < 0)) == (decide (x0_3 < 0))) = false := by simpa using c95
                                (try (have c95b1 : decide ((decide (t335 < 0)) = (decide (x0_3 < 0))) = false := by simpa using c95))
                                (try (have c95b2 : ((decide (t335 < 0)) == (decide (x0_3 < 0))) = false := by simpa using c95))
                                (try (have c95b3 : ¬ ((decide (t335 < 0)) = (decide (x0_3 < 0))) := by simpa using c95))
                                clear c95
                                obtain rfl := Option.some.inj H
                                as_aux_lemma =>
                                  go_wp2_with (first | ((with_reducible refine gate_callee (f := 13) rfl ?_); refine goesL_ (some 130) rfl rfl Tryd.func13 (by kernel_rfl) rfl #[.int .i64 t303] rfl (by (try simp only [List.map_toArray, List.map_cons, List.map_nil]); first | done | rfl | (simp only [List.length_drop, List.length_take]; rfl)) ?_; (with_reducible refine (num_S32.calls t303 t334 _ A72.out).mono ?_); rintro e w' ⟨rfl, ⟨nd, rfl⟩⟩; refine ⟨_, rfl, ?_⟩) | ((with_reducible refine gate_callee (f := 13) rfl ?_); refine goesL_ (some 132) rfl rfl Tryd.func13 (by kernel_rfl) rfl #[.int .i64 t306] rfl (by (try simp only [List.map_toArray, List.map_cons, List.map_nil]); first | done | rfl | (simp only [List.length_drop, List.length_take]; rfl)) ?_; (with_reducible refine (num_S32.calls t306 t335 _ A73.out).mono ?_); rintro e w' ⟨rfl, ⟨nd, rfl⟩⟩; refine ⟨_, rfl, ?_⟩))
                                  go_ret
                                  exact ⟨by first | rfl | (simp; done) | (simp [*]; done), by repeat (first | exact Drawn0.refl _ | apply Drawn0.step)⟩
                          · rw [if_neg c75] at H
                            have c75b0 : ((wrap64 ((wrap64 (t334 * x1_3)) + t335)) == x0_3) = false := beq_eq_false_iff_ne.mpr c75
                            have c75b1 : ((wrap64 ((wrap64 (t334 * x1_3)) + t335)) != x0_3) = true := bne_iff_ne.mpr c75
                            obtain rfl := Option.some.inj H
                            as_aux_lemma =>
                              go_wp2_with (first | ((with_reducible refine gate_callee (f := 13) rfl ?_); refine goesL_ (some 130) rfl rfl Tryd.func13 (by kernel_rfl) rfl #[.int .i64 t303] rfl (by (try simp only [List.map_toArray, List.map_cons, List.map_nil]); first | done | rfl | (simp only [List.length_drop, List.length_take]; rfl)) ?_; (with_reducible refine (num_S32.calls t303 t334 _ A72.out).mono ?_); rintro e w' ⟨rfl, ⟨nd, rfl⟩⟩; refine ⟨_, rfl, ?_⟩) | ((with_reducible refine gate_callee (f := 13) rfl ?_); refine goesL_ (some 132) rfl rfl Tryd.func13 (by kernel_rfl) rfl #[.int .i64 t306] rfl (by (try simp only [List.map_toArray, List.map_cons, List.map_nil]); first | done | rfl | (simp only [List.length_drop, List.length_take]; rfl)) ?_; (with_reducible refine (num_S32.calls t306 t335 _ A73.out).mono ?_); rintro e w' ⟨rfl, ⟨nd, rfl⟩⟩; refine ⟨_, rfl, ?_⟩))
                              go_ret
                              exact ⟨by first | rfl | (simp; done) | (simp [*]; done), by repeat (first | exact Drawn0.refl _ | apply Drawn0.step)⟩
                        · rw [if_neg c74] at H
                          have c74b0 : (t304 == 0) = false := beq_eq_false_iff_ne.mpr c74
                          have c74b1 : (t304 != 0) = true := bne_iff_ne.mpr c74
                          obtain rfl := Option.some.inj H
                          as_aux_lemma =>
                            go_wp2_with (first | ((with_reducible refine gate_callee (f := 13) rfl ?_); refine goesL_ (some 130) rfl rfl Tryd.func13 (by kernel_rfl) rfl #[.int .i64 t303] rfl (by (try simp only [List.map_toArray, List.map_cons, List.map_nil]); first | done | rfl | (simp only [List.length_drop, List.length_take]; rfl)) ?_; (with_reducible refine (num_S32.calls t303 t334 _ A72.out).mono ?_); rintro e w' ⟨rfl, ⟨nd, rfl⟩⟩; refine ⟨_, rfl, ?_⟩) | ((with_reducible refine gate_callee (f := 13) rfl ?_); refine goesL_ (some 132) rfl rfl Tryd.func13 (by kernel_rfl) rfl #[.int .i64 t306] rfl (by (try simp only [List.map_toArray, List.map_cons, List.map_nil]); first | done | rfl | (simp only [List.length_drop, List.length_take]; rfl)) ?_; (with_reducible refine (num_S32.calls t306 t335 _ A73.out).mono ?_); rintro e w' ⟨rfl, ⟨nd, rfl⟩⟩; refine ⟨_, rfl, ?_⟩))
                            go_ret
                            exact ⟨by first | rfl | (simp; done) | (simp [*]; done), by repeat (first | exact Drawn0.refl _ | apply Drawn0.step)⟩
                  · rw [if_neg c25] at H
                    have c25b0 : (x23_21 == x0_3) = false := beq_eq_false_iff_ne.mpr c25
                    have c25b1 : (x23_21 != x0_3) = true := bne_iff_ne.mpr c25
                    obtain rfl := Option.some.inj H
                    as_aux_lemma =>
                      go_wp2
                      go_ret
                      exact ⟨by first | rfl | (simp; done) | (simp [*]; done), by repeat (first | exact Drawn0.refl _ | apply Drawn0.step)⟩

/-- THE ONE PURE STATEMENT of scarflaw03_NumDivides: yours. -/
def scarflaw03_NumDivides.Pure : Prop := ∀ (a0 : Int) (a1 : Int) (a2 : Bool), (Lit.int .i64 a0).wf = true → (Lit.int .i64 a1).wf = true → ∃ k, scarflaw03_NumDivides.f k a0 a1 a2 = some true
theorem scarflaw03_NumDivides.walk (P : scarflaw03_NumDivides.Pure) (a0 : Int) (a1 : Int) (a2 : Bool) (w : World) (hT : Tabs w) (w0 : (Lit.int .i64 a0).wf = true) (w1 : (Lit.int .i64 a1).wf = true) :
    Calls Tryd.prog 7 #[.int .i64 a0, .int .i64 a1, .bool a2] w fun e w' => e = .returned (.bool true) ∧ Below w.heap.size w w' := by
  obtain ⟨k, h⟩ := P a0 a1 a2 w0 w1
  refine (scarflaw03_NumDivides.calls k a0 a1 a2 true w hT h).mono ?_
  rintro e w' ⟨rfl, hd⟩
  exact ⟨rfl, hd.below⟩

end Go.Proofs.YtpoapiphnhmdmaaDoor.PA
