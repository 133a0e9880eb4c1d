-- Laid by this session's wip/hp/hp.py: the kit's print with own contracts for what it does not take
import Derived.Test.YtpoapiphnhmdmaaDoorPAx0
import Derived.Test.YtpoapiphnhmdmaaDoorPAx2
import Derived.Test.YtpoapiphnhmdmaaDoorPAx6
import Derived.Test.YtpoapiphnhmdmaaDoorPAx7
import Derived.Test.YtpoapiphnhmdmaaDoorPAx9
namespace Go.Proofs.YtpoapiphnhmdmaaDoor.PA
open Go.RowKit Go.Proofs.YtpoapiphnhmdmaaDoorW.PrintWords Go.Proofs.YtpoapiphnhmdmaaDoorW.PrintLast Go.Proofs.YtpoapiphnhmdmaaDoorW.PrintMore
attribute [local go_sem] max2_int min2_int max_two min_two max_three min_three max_four min_four   -- for this text's walks alone
set_option linter.unusedVariables false
set_option linter.unusedSimpArgs false

/-! ### scarfref03_reckon: function 34 -/
mutual
def scarfref03_reckon.j0 : Nat → Int → Int → Int → Int → Int → Int → Int → Int → Int → Bool → Option (Int × Int)
  | 0, _, _, _, _, _, _, _, _, _, _ => none
  | k + 1, x0, x1, x2, x3, x10, x11, x12, x13, x14, x46 => if x46 = true then ((scarfref03_plain.f x0 x1 x2).bind fun t236 => (some (t236, 0))) else (if x0 = 13 then ((scarfref03_turn.f k x1 x14 x3).bind fun t237 => (some (t237, 0))) else (if x0 = 14 then ((scarfref03_turn.f k x1 (wrap64 (x3 - x14)) x3).bind fun t238 => (some (t238, 0))) else (if x0 ≥ 3 then (if x0 ≤ 6 then (scarfref03_reckon.j1 k x0 x3 x10 x11 x12 x13 x14 (x11 == 0)) else (scarfref03_reckon.j1 k x0 x3 x10 x11 x12 x13 x14 false)) else (scarfref03_reckon.j1 k x0 x3 x10 x11 x12 x13 x14 false))))
def scarfref03_reckon.j1 : Nat → Int → Int → Int → Int → Int → Int → Int → Bool → Option (Int × Int)
  | 0, _, _, _, _, _, _, _, _ => none
  | k + 1, x0, x3, x10, x11, x12, x13, x14, x74 => if x74 = true then (some (0, 2)) else (if x0 = 3 then (scarfref03_reckon.j2 k x0 x3 x10 x11 x12 x13 x14 (x11 == (-1))) else (scarfref03_reckon.j2 k x0 x3 x10 x11 x12 x13 x14 false))
def scarfref03_reckon.j2 : Nat → Int → Int → Int → Int → Int → Int → Int → Bool → Option (Int × Int)
  | 0, _, _, _, _, _, _, _, _ => none
  | k + 1, x0, x3, x10, x11, x12, x13, x14, x80 => if x80 = true then (if 0 ≤ (wrap64 (x3 - 1)) then ((scarfref03_signed.f k (shl .i64 1 (wrap64 (x3 - 1))) x3).bind fun t239 => (if x10 = t239 then (some (0, 3)) else (some (wrap64 (-x10), 0)))) else (none)) else (if x0 = 5 then (scarfref03_reckon.j3 k x0 x10 x11 x12 x13 x14 (x11 == (-1))) else (scarfref03_reckon.j3 k x0 x10 x11 x12 x13 x14 false))
def scarfref03_reckon.j3 : Nat → Int → Int → Int → Int → Int → Int → Bool → Option (Int × Int)
  | 0, _, _, _, _, _, _, _ => none
  | k + 1, x0, x10, x11, x12, x13, x14, x95 => if x95 = true then (some (0, 0)) else (if x0 = 3 then (if x11 = 0 then (none) else (some (wrap64 (Int.tdiv x10 x11), 0))) else (if x0 = 5 then (if x11 = 0 then (none) else (some (Int.tmod x10 x11, 0))) else (if x0 = 4 then (scarfref03_reckon.j4 k x0 x10 x12 x13 x14 true) else (scarfref03_reckon.j4 k x0 x10 x12 x13 x14 (x0 == 6)))))
def scarfref03_reckon.j4 : Nat → Int → Int → Int → Int → Int → Bool → Option (Int × Int)
  | 0, _, _, _, _, _, _ => none
  | k + 1, x0, x10, x12, x13, x14, x111 => if x111 = true then ((scarfref03_divide.f k x12 x13).bind fun bt240 => (if x0 = 4 then (some (bt240.1, 0)) else (some (bt240.2, 0)))) else (scarfref03_reckon.l0 k x0 x10 x12 x14 0)
def scarfref03_reckon.l0 : Nat → Int → Int → Int → Int → Int → Option (Int × Int)
  | 0, _, _, _, _, _ => none
  | k + 1, x0, x10, x12, x14, x17 => if x17 < x14 then (if x0 = 10 then (scarfref03_reckon.l0 k x0 x10 (wrap64 (x12 * 2)) x14 (wrap64 (x17 + 1))) else (if x0 = 11 then ((scarfref03_bit.f x10 0).bind fun t242 => (scarfref03_reckon.l0 k x0 (wrap64 (Int.tdiv (wrap64 (x10 - t242)) 2)) (wrap64 (Int.tdiv (wrap64 (x10 - t242)) 2)) x14 (wrap64 (x17 + 1)))) else ((scarfref03_list.f k x12 64).bind fun t243 => (if t243.length < 17592186044416 then ((some (t243 ++ [0] : List Int)).bind fun y246 => (if 1 ≤ (y246.length : Int) then ((scarfref03_from.f k (y246.drop 1)).bind fun t253 => (scarfref03_reckon.l0 k x0 x10 t253 x14 (wrap64 (x17 + 1)))) else (none))) else (none))))) else (some (x12, 0))
end
def scarfref03_reckon.f (k : Nat) (a0 : Int) (a1 : Int) (a2 : Int) (a3 : Int) : Option (Int × Int) := (scarfref03_signed.f k a1 a3).bind fun t225 => ((scarfref03_signed.f k a2 a3).bind fun t226 => ((scarfref03_list.f k a1 a3).bind fun t227 => ((scarfref03_from.f k t227).bind fun t230 => ((scarfref03_list.f k a2 a3).bind fun t231 => ((scarfref03_from.f k t231).bind fun t234 => ((scarfref03_U32.f a2).bind fun t235 => (if a3 = 0 then (none) else (if a0 < 3 then (scarfref03_reckon.j0 k a0 a1 a2 a3 t225 t226 t230 t234 (Int.tmod t235 a3) true) else (if a0 ≥ 7 then (scarfref03_reckon.j0 k a0 a1 a2 a3 t225 t226 t230 t234 (Int.tmod t235 a3) (decide (a0 ≤ 9))) else (scarfref03_reckon.j0 k a0 a1 a2 a3 t225 t226 t230 t234 (Int.tmod t235 a3) false))))))))))
theorem scarfref03_reckon.mono_l : ∀ k, (∀ y0 y1 y2 y3 y4 y5 y6 y7 y8 y9, LeO (scarfref03_reckon.j0 k y0 y1 y2 y3 y4 y5 y6 y7 y8 y9) (scarfref03_reckon.j0 (k + 1) y0 y1 y2 y3 y4 y5 y6 y7 y8 y9)) ∧ (∀ y0 y1 y2 y3 y4 y5 y6 y7, LeO (scarfref03_reckon.j1 k y0 y1 y2 y3 y4 y5 y6 y7) (scarfref03_reckon.j1 (k + 1) y0 y1 y2 y3 y4 y5 y6 y7)) ∧ (∀ y0 y1 y2 y3 y4 y5 y6 y7, LeO (scarfref03_reckon.j2 k y0 y1 y2 y3 y4 y5 y6 y7) (scarfref03_reckon.j2 (k + 1) y0 y1 y2 y3 y4 y5 y6 y7)) ∧ (∀ y0 y1 y2 y3 y4 y5 y6, LeO (scarfref03_reckon.j3 k y0 y1 y2 y3 y4 y5 y6) (scarfref03_reckon.j3 (k + 1) y0 y1 y2 y3 y4 y5 y6)) ∧ (∀ y0 y1 y2 y3 y4 y5, LeO (scarfref03_reckon.j4 k y0 y1 y2 y3 y4 y5) (scarfref03_reckon.j4 (k + 1) y0 y1 y2 y3 y4 y5)) ∧ (∀ y0 y1 y2 y3 y4, LeO (scarfref03_reckon.l0 k y0 y1 y2 y3 y4) (scarfref03_reckon.l0 (k + 1) y0 y1 y2 y3 y4))
  | 0 => ⟨fun _ _ _ _ _ _ _ _ _ _ r h => by simp [scarfref03_reckon.j0] at h, fun _ _ _ _ _ _ _ _ r h => by simp [scarfref03_reckon.j1] at h, fun _ _ _ _ _ _ _ _ r h => by simp [scarfref03_reckon.j2] at h, fun _ _ _ _ _ _ _ r h => by simp [scarfref03_reckon.j3] at h, fun _ _ _ _ _ _ r h => by simp [scarfref03_reckon.j4] at h, fun _ _ _ _ _ r h => by simp [scarfref03_reckon.l0] at h⟩
  | k + 1 => by
    obtain ⟨ih0, ih1, ih2, ih3, ih4, ih5⟩ := scarfref03_reckon.mono_l k
    refine ⟨?_, ?_, ?_, ?_, ?_, ?_⟩
    · intro y0 y1 y2 y3 y4 y5 y6 y7 y8 y9
      unfold scarfref03_reckon.j0
      repeat' first
      | (with_reducible exact ih0 _ _ _ _ _ _ _ _ _ _)
      | (with_reducible exact ih1 _ _ _ _ _ _ _ _)
      | (with_reducible exact ih2 _ _ _ _ _ _ _ _)
      | (with_reducible exact ih3 _ _ _ _ _ _ _)
      | (with_reducible exact ih4 _ _ _ _ _ _)
      | (with_reducible exact ih5 _ _ _ _ _)
      | (with_reducible exact scarfref03_divide.mono _ _ _)
      | (with_reducible exact scarfref03_from.mono _ _)
      | (with_reducible exact scarfref03_list.mono _ _ _)
      | (with_reducible exact scarfref03_signed.mono _ _ _)
      | (with_reducible exact scarfref03_turn.mono _ _ _ _)
      | (with_reducible exact LeO.refl _)
      | (with_reducible exact LeO.none _)
      | (with_reducible refine LeO.ite ?_ ?_)
      | (with_reducible refine LeO.bind ?_ (fun _ => ?_))
      | exact ih0 _ _ _ _ _ _ _ _ _ _
      | exact ih1 _ _ _ _ _ _ _ _
      | exact ih2 _ _ _ _ _ _ _ _
      | exact ih3 _ _ _ _ _ _ _
      | exact ih4 _ _ _ _ _ _
      | exact ih5 _ _ _ _ _
      | exact scarfref03_divide.mono _ _ _
      | exact scarfref03_from.mono _ _
      | exact scarfref03_list.mono _ _ _
      | exact scarfref03_signed.mono _ _ _
      | exact scarfref03_turn.mono _ _ _ _
      | exact LeO.none _
      | refine LeO.ite ?_ ?_
      | refine LeO.bind ?_ (fun _ => ?_)
    · intro y0 y1 y2 y3 y4 y5 y6 y7
      unfold scarfref03_reckon.j1
      repeat' first
      | (with_reducible exact ih0 _ _ _ _ _ _ _ _ _ _)
      | (with_reducible exact ih1 _ _ _ _ _ _ _ _)
      | (with_reducible exact ih2 _ _ _ _ _ _ _ _)
      | (with_reducible exact ih3 _ _ _ _ _ _ _)
      | (with_reducible exact ih4 _ _ _ _ _ _)
      | (with_reducible exact ih5 _ _ _ _ _)
      | (with_reducible exact scarfref03_divide.mono _ _ _)
      | (with_reducible exact scarfref03_from.mono _ _)
      | (with_reducible exact scarfref03_list.mono _ _ _)
      | (with_reducible exact scarfref03_signed.mono _ _ _)
      | (with_reducible exact scarfref03_turn.mono _ _ _ _)
      | (with_reducible exact LeO.refl _)
      | (with_reducible exact LeO.none _)
      | (with_reducible refine LeO.ite ?_ ?_)
      | (with_reducible refine LeO.bind ?_ (fun _ => ?_))
      | exact ih0 _ _ _ _ _ _ _ _ _ _
      | exact ih1 _ _ _ _ _ _ _ _
      | exact ih2 _ _ _ _ _ _ _ _
      | exact ih3 _ _ _ _ _ _ _
      | exact ih4 _ _ _ _ _ _
      | exact ih5 _ _ _ _ _
      | exact scarfref03_divide.mono _ _ _
      | exact scarfref03_from.mono _ _
      | exact scarfref03_list.mono _ _ _
      | exact scarfref03_signed.mono _ _ _
      | exact scarfref03_turn.mono _ _ _ _
      | exact LeO.none _
      | refine LeO.ite ?_ ?_
      | refine LeO.bind ?_ (fun _ => ?_)
    · intro y0 y1 y2 y3 y4 y5 y6 y7
      unfold scarfref03_reckon.j2
      repeat' first
      | (with_reducible exact ih0 _ _ _ _ _ _ _ _ _ _)
      | (with_reducible exact ih1 _ _ _ _ _ _ _ _)
      | (with_reducible exact ih2 _ _ _ _ _ _ _ _)
      | (with_reducible exact ih3 _ _ _ _ _ _ _)
      | (with_reducible exact ih4 _ _ _ _ _ _)
      | (with_reducible exact ih5 _ _ _ _ _)
      | (with_reducible exact scarfref03_divide.mono _ _ _)
      | (with_reducible exact scarfref03_from.mono _ _)
      | (with_reducible exact scarfref03_list.mono _ _ _)
      | (with_reducible exact scarfref03_signed.mono _ _ _)
      | (with_reducible exact scarfref03_turn.mono _ _ _ _)
      | (with_reducible exact LeO.refl _)
      | (with_reducible exact LeO.none _)
      | (with_reducible refine LeO.ite ?_ ?_)
      | (with_reducible refine LeO.bind ?_ (fun _ => ?_))
      | exact ih0 _ _ _ _ _ _ _ _ _ _
      | exact ih1 _ _ _ _ _ _ _ _
      | exact ih2 _ _ _ _ _ _ _ _
      | exact ih3 _ _ _ _ _ _ _
      | exact ih4 _ _ _ _ _ _
      | exact ih5 _ _ _ _ _
      | exact scarfref03_divide.mono _ _ _
      | exact scarfref03_from.mono _ _
      | exact scarfref03_list.mono _ _ _
      | exact scarfref03_signed.mono _ _ _
      | exact scarfref03_turn.mono _ _ _ _
      | exact LeO.none _
      | refine LeO.ite ?_ ?_
      | refine LeO.bind ?_ (fun _ => ?_)
    · intro y0 y1 y2 y3 y4 y5 y6
      unfold scarfref03_reckon.j3
      repeat' first
      | (with_reducible exact ih0 _ _ _ _ _ _ _ _ _ _)
      | (with_reducible exact ih1 _ _ _ _ _ _ _ _)
      | (with_reducible exact ih2 _ _ _ _ _ _ _ _)
      | (with_reducible exact ih3 _ _ _ _ _ _ _)
      | (with_reducible exact ih4 _ _ _ _ _ _)
      | (with_reducible exact ih5 _ _ _ _ _)
      | (with_reducible exact scarfref03_divide.mono _ _ _)
      | (with_reducible exact scarfref03_from.mono _ _)
      | (with_reducible exact scarfref03_list.mono _ _ _)
      | (with_reducible exact scarfref03_signed.mono _ _ _)
      | (with_reducible exact scarfref03_turn.mono _ _ _ _)
      | (with_reducible exact LeO.refl _)
      | (with_reducible exact LeO.none _)
      | (with_reducible refine LeO.ite ?_ ?_)
      | (with_reducible refine LeO.bind ?_ (fun _ => ?_))
      | exact ih0 _ _ _ _ _ _ _ _ _ _
      | exact ih1 _ _ _ _ _ _ _ _
      | exact ih2 _ _ _ _ _ _ _ _
      | exact ih3 _ _ _ _ _ _ _
      | exact ih4 _ _ _ _ _ _
      | exact ih5 _ _ _ _ _
      | exact scarfref03_divide.mono _ _ _
      | exact scarfref03_from.mono _ _
      | exact scarfref03_list.mono _ _ _
      | exact scarfref03_signed.mono _ _ _
      | exact scarfref03_turn.mono _ _ _ _
      | exact LeO.none _
      | refine LeO.ite ?_ ?_
      | refine LeO.bind ?_ (fun _ => ?_)
    · intro y0 y1 y2 y3 y4 y5
      unfold scarfref03_reckon.j4
      repeat' first
      | (with_reducible exact ih0 _ _ _ _ _ _ _ _ _ _)
      | (with_reducible exact ih1 _ _ _ _ _ _ _ _)
      | (with_reducible exact ih2 _ _ _ _ _ _ _ _)
      | (with_reducible exact ih3 _ _ _ _ _ _ _)
      | (with_reducible exact ih4 _ _ _ _ _ _)
      | (with_reducible exact ih5 _ _ _ _ _)
      | (with_reducible exact scarfref03_divide.mono _ _ _)
      | (with_reducible exact scarfref03_from.mono _ _)
      | (with_reducible exact scarfref03_list.mono _ _ _)
      | (with_reducible exact scarfref03_signed.mono _ _ _)
      | (with_reducible exact scarfref03_turn.mono _ _ _ _)
      | (with_reducible exact LeO.refl _)
      | (with_reducible exact LeO.none _)
      | (with_reducible refine LeO.ite ?_ ?_)
      | (with_reducible refine LeO.bind ?_ (fun _ => ?_))
      | exact ih0 _ _ _ _ _ _ _ _ _ _
      | exact ih1 _ _ _ _ _ _ _ _
      | exact ih2 _ _ _ _ _ _ _ _
      | exact ih3 _ _ _ _ _ _ _
      | exact ih4 _ _ _ _ _ _
      | exact ih5 _ _ _ _ _
      | exact scarfref03_divide.mono _ _ _
      | exact scarfref03_from.mono _ _
      | exact scarfref03_list.mono _ _ _
      | exact scarfref03_signed.mono _ _ _
      | exact scarfref03_turn.mono _ _ _ _
      | exact LeO.none _
      | refine LeO.ite ?_ ?_
      | refine LeO.bind ?_ (fun _ => ?_)
    · intro y0 y1 y2 y3 y4
      unfold scarfref03_reckon.l0
      repeat' first
      | (with_reducible exact ih0 _ _ _ _ _ _ _ _ _ _)
      | (with_reducible exact ih1 _ _ _ _ _ _ _ _)
      | (with_reducible exact ih2 _ _ _ _ _ _ _ _)
      | (with_reducible exact ih3 _ _ _ _ _ _ _)
      | (with_reducible exact ih4 _ _ _ _ _ _)
      | (with_reducible exact ih5 _ _ _ _ _)
      | (with_reducible exact scarfref03_divide.mono _ _ _)
      | (with_reducible exact scarfref03_from.mono _ _)
      | (with_reducible exact scarfref03_list.mono _ _ _)
      | (with_reducible exact scarfref03_signed.mono _ _ _)
      | (with_reducible exact scarfref03_turn.mono _ _ _ _)
      | (with_reducible exact LeO.refl _)
      | (with_reducible exact LeO.none _)
      | (with_reducible refine LeO.ite ?_ ?_)
      | (with_reducible refine LeO.bind ?_ (fun _ => ?_))
      | exact ih0 _ _ _ _ _ _ _ _ _ _
      | exact ih1 _ _ _ _ _ _ _ _
      | exact ih2 _ _ _ _ _ _ _ _
      | exact ih3 _ _ _ _ _ _ _
      | exact ih4 _ _ _ _ _ _
      | exact ih5 _ _ _ _ _
      | exact scarfref03_divide.mono _ _ _
      | exact scarfref03_from.mono _ _
      | exact scarfref03_list.mono _ _ _
      | exact scarfref03_signed.mono _ _ _
      | exact scarfref03_turn.mono _ _ _ _
      | exact LeO.none _
      | refine LeO.ite ?_ ?_
      | refine LeO.bind ?_ (fun _ => ?_)
theorem scarfref03_reckon.mono : ∀ a0 a1 a2 a3 k, LeO (scarfref03_reckon.f k a0 a1 a2 a3) (scarfref03_reckon.f (k + 1) a0 a1 a2 a3) := by
  intro a0 a1 a2 a3 k
  obtain ⟨ih0, ih1, ih2, ih3, ih4, ih5⟩ := scarfref03_reckon.mono_l k
  unfold scarfref03_reckon.f
  repeat' first
      | (with_reducible exact ih0 _ _ _ _ _ _ _ _ _ _)
      | (with_reducible exact ih1 _ _ _ _ _ _ _ _)
      | (with_reducible exact ih2 _ _ _ _ _ _ _ _)
      | (with_reducible exact ih3 _ _ _ _ _ _ _)
      | (with_reducible exact ih4 _ _ _ _ _ _)
      | (with_reducible exact ih5 _ _ _ _ _)
      | (with_reducible exact scarfref03_divide.mono _ _ _)
      | (with_reducible exact scarfref03_from.mono _ _)
      | (with_reducible exact scarfref03_list.mono _ _ _)
      | (with_reducible exact scarfref03_signed.mono _ _ _)
      | (with_reducible exact scarfref03_turn.mono _ _ _ _)
      | (with_reducible exact LeO.refl _)
      | (with_reducible exact LeO.none _)
      | (with_reducible refine LeO.ite ?_ ?_)
      | (with_reducible refine LeO.bind ?_ (fun _ => ?_))
      | exact ih0 _ _ _ _ _ _ _ _ _ _
      | exact ih1 _ _ _ _ _ _ _ _
      | exact ih2 _ _ _ _ _ _ _ _
      | exact ih3 _ _ _ _ _ _ _
      | exact ih4 _ _ _ _ _ _
      | exact ih5 _ _ _ _ _
      | exact scarfref03_divide.mono _ _ _
      | exact scarfref03_from.mono _ _
      | exact scarfref03_list.mono _ _ _
      | exact scarfref03_signed.mono _ _ _
      | exact scarfref03_turn.mono _ _ _ _
      | exact LeO.none _
      | refine LeO.ite ?_ ?_
      | refine LeO.bind ?_ (fun _ => ?_)
set_option maxHeartbeats 8000000 in
set_option maxRecDepth 100000 in
theorem scarfref03_reckon.calls (k : Nat) (a0 : Int) (a1 : Int) (a2 : Int) (a3 : Int) (r1 : Int) (r2 : Int) (w : World) (h : scarfref03_reckon.f k a0 a1 a2 a3 = some (r1, r2)) :
    Calls Tryd.prog 34 #[.int .i64 a0, .int .i64 a1, .int .i64 a2, .int .i64 a3] w fun e w' => e = .returned (.tuple #[.int .i64 r1, .int .i64 r2]) ∧ Below w.heap.size w w' := by
  have HB := Aside0.mk (Below.refl w.heap.size w)
  have H : ((scarfref03_signed.f k a1 a3).bind fun t225 => ((scarfref03_signed.f k a2 a3).bind fun t226 => ((scarfref03_list.f k a1 a3).bind fun t227 => ((scarfref03_from.f k t227).bind fun t230 => ((scarfref03_list.f k a2 a3).bind fun t231 => ((scarfref03_from.f k t231).bind fun t234 => ((scarfref03_U32.f a2).bind fun t235 => (if a3 = 0 then (none) else (if a0 < 3 then (scarfref03_reckon.j0 k a0 a1 a2 a3 t225 t226 t230 t234 (Int.tmod t235 a3) true) else (if a0 ≥ 7 then (scarfref03_reckon.j0 k a0 a1 a2 a3 t225 t226 t230 t234 (Int.tmod t235 a3) (decide (a0 ≤ 9))) else (scarfref03_reckon.j0 k a0 a1 a2 a3 t225 t226 t230 t234 (Int.tmod t235 a3) false))))))))))) = some (r1, r2) := h
  clear h
  replace H := Option.bind_eq_some_iff.mp H
  obtain ⟨t225, A50, H⟩ := H
  replace H : ((scarfref03_signed.f k a2 a3).bind fun t226 => ((scarfref03_list.f k a1 a3).bind fun t227 => ((scarfref03_from.f k t227).bind fun t230 => ((scarfref03_list.f k a2 a3).bind fun t231 => ((scarfref03_from.f k t231).bind fun t234 => ((scarfref03_U32.f a2).bind fun t235 => (if a3 = 0 then (none) else (if a0 < 3 then (scarfref03_reckon.j0 k a0 a1 a2 a3 t225 t226 t230 t234 (Int.tmod t235 a3) true) else (if a0 ≥ 7 then (scarfref03_reckon.j0 k a0 a1 a2 a3 t225 t226 t230 t234 (Int.tmod t235 a3) (decide (a0 ≤ 9))) else (scarfref03_reckon.j0 k a0 a1 a2 a3 t225 t226 t230 t234 (Int.tmod t235 a3) false)))))))))) = some (r1, r2) := H
  have A5 := Aside0.mk A50
  clear A50
  replace H := Option.bind_eq_some_iff.mp H
  obtain ⟨t226, A60, H⟩ := H
  replace H : ((scarfref03_list.f k a1 a3).bind fun t227 => ((scarfref03_from.f k t227).bind fun t230 => ((scarfref03_list.f k a2 a3).bind fun t231 => ((scarfref03_from.f k t231).bind fun t234 => ((scarfref03_U32.f a2).bind fun t235 => (if a3 = 0 then (none) else (if a0 < 3 then (scarfref03_reckon.j0 k a0 a1 a2 a3 t225 t226 t230 t234 (Int.tmod t235 a3) true) else (if a0 ≥ 7 then (scarfref03_reckon.j0 k a0 a1 a2 a3 t225 t226 t230 t234 (Int.tmod t235 a3) (decide (a0 ≤ 9))) else (scarfref03_reckon.j0 k a0 a1 a2 a3 t225 t226 t230 t234 (Int.tmod t235 a3) false))))))))) = some (r1, r2) := H
  have A6 := Aside0.mk A60
  clear A60
  replace H := Option.bind_eq_some_iff.mp H
  obtain ⟨t227, A70, H⟩ := H
  replace H : ((scarfref03_from.f k t227).bind fun t230 => ((scarfref03_list.f k a2 a3).bind fun t231 => ((scarfref03_from.f k t231).bind fun t234 => ((scarfref03_U32.f a2).bind fun t235 => (if a3 = 0 then (none) else (if a0 < 3 then (scarfref03_reckon.j0 k a0 a1 a2 a3 t225 t226 t230 t234 (Int.tmod t235 a3) true) else (if a0 ≥ 7 then (scarfref03_reckon.j0 k a0 a1 a2 a3 t225 t226 t230 t234 (Int.tmod t235 a3) (decide (a0 ≤ 9))) else (scarfref03_reckon.j0 k a0 a1 a2 a3 t225 t226 t230 t234 (Int.tmod t235 a3) false)))))))) = some (r1, r2) := H
  have A7 := Aside0.mk A70
  clear A70
  replace H := Option.bind_eq_some_iff.mp H
  obtain ⟨t230, A80, H⟩ := H
  replace H : ((scarfref03_list.f k a2 a3).bind fun t231 => ((scarfref03_from.f k t231).bind fun t234 => ((scarfref03_U32.f a2).bind fun t235 => (if a3 = 0 then (none) else (if a0 < 3 then (scarfref03_reckon.j0 k a0 a1 a2 a3 t225 t226 t230 t234 (Int.tmod t235 a3) true) else (if a0 ≥ 7 then (scarfref03_reckon.j0 k a0 a1 a2 a3 t225 t226 t230 t234 (Int.tmod t235 a3) (decide (a0 ≤ 9))) else (scarfref03_reckon.j0 k a0 a1 a2 a3 t225 t226 t230 t234 (Int.tmod t235 a3) false))))))) = some (r1, r2) := H
  have A8 := Aside0.mk A80
  clear A80
  replace H := Option.bind_eq_some_iff.mp H
  obtain ⟨t231, A90, H⟩ := H
  replace H : ((scarfref03_from.f k t231).bind fun t234 => ((scarfref03_U32.f a2).bind fun t235 => (if a3 = 0 then (none) else (if a0 < 3 then (scarfref03_reckon.j0 k a0 a1 a2 a3 t225 t226 t230 t234 (Int.tmod t235 a3) true) else (if a0 ≥ 7 then (scarfref03_reckon.j0 k a0 a1 a2 a3 t225 t226 t230 t234 (Int.tmod t235 a3) (decide (a0 ≤ 9))) else (scarfref03_reckon.j0 k a0 a1 a2 a3 t225 t226 t230 t234 (Int.tmod t235 a3) false)))))) = some (r1, r2) := H
  have A9 := Aside0.mk A90
  clear A90
  replace H := Option.bind_eq_some_iff.mp H
  obtain ⟨t234, A100, H⟩ := H
  replace H : ((scarfref03_U32.f a2).bind fun t235 => (if a3 = 0 then (none) else (if a0 < 3 then (scarfref03_reckon.j0 k a0 a1 a2 a3 t225 t226 t230 t234 (Int.tmod t235 a3) true) else (if a0 ≥ 7 then (scarfref03_reckon.j0 k a0 a1 a2 a3 t225 t226 t230 t234 (Int.tmod t235 a3) (decide (a0 ≤ 9))) else (scarfref03_reckon.j0 k a0 a1 a2 a3 t225 t226 t230 t234 (Int.tmod t235 a3) false))))) = some (r1, r2) := H
  have A10 := Aside0.mk A100
  clear A100
  replace H := Option.bind_eq_some_iff.mp H
  obtain ⟨t235, A110, H⟩ := H
  replace H : (if a3 = 0 then (none) else (if a0 < 3 then (scarfref03_reckon.j0 k a0 a1 a2 a3 t225 t226 t230 t234 (Int.tmod t235 a3) true) else (if a0 ≥ 7 then (scarfref03_reckon.j0 k a0 a1 a2 a3 t225 t226 t230 t234 (Int.tmod t235 a3) (decide (a0 ≤ 9))) else (scarfref03_reckon.j0 k a0 a1 a2 a3 t225 t226 t230 t234 (Int.tmod t235 a3) false)))) = some (r1, r2) := H
  have A11 := Aside0.mk A110
  clear A110
  by_cases c12 : a3 = 0
  · rw [if_pos c12] at H
    exact absurd H (by simp)
  · rw [if_neg c12] at H
    have c12b0 : (a3 == 0) = false := beq_eq_false_iff_ne.mpr c12
    have c12b1 : (a3 != 0) = true := bne_iff_ne.mpr c12
    have HC13 := Aside0.mk H
    clear H
    go_enter Tryd.func34, Tryd.ntmps34
    go_upto_region 4 with (first | ((with_reducible refine gate_callee (f := 30) rfl ?_); refine goesL_ (some 21) rfl rfl Tryd.func30 (by kernel_rfl) rfl #[.int .i64 a1, .int .i64 a3] rfl (by (try simp only [List.map_toArray, List.map_cons, List.map_nil]); first | done | rfl | (simp only [List.length_drop, List.length_take]; rfl)) ?_; (with_reducible refine (scarfref03_signed.calls k a1 a3 t225 _ A5.out).mono ?_); rintro e w14 ⟨rfl, hb⟩; refine ⟨_, rfl, ?_⟩; have n0_ := Aside0.mk (below_step (by repeat (first | (with_reducible first | exact HB.out | apply below_alloc | apply pw_below_drewN | apply below_drew1) | exact HB.out)) hb); clear HB; have HB := n0_; clear n0_; (try clear hb); (try clear hb2); (try clear hk); (try clear hi)) | ((with_reducible refine gate_callee (f := 30) rfl ?_); refine goesL_ (some 24) rfl rfl Tryd.func30 (by kernel_rfl) rfl #[.int .i64 a2, .int .i64 a3] rfl (by (try simp only [List.map_toArray, List.map_cons, List.map_nil]); first | done | rfl | (simp only [List.length_drop, List.length_take]; rfl)) ?_; (with_reducible refine (scarfref03_signed.calls k a2 a3 t226 _ A6.out).mono ?_); rintro e w15 ⟨rfl, hb⟩; refine ⟨_, rfl, ?_⟩; have n0_ := Aside0.mk (below_step (by repeat (first | (with_reducible first | exact HB.out | apply below_alloc | apply pw_below_drewN | apply below_drew1) | exact HB.out)) hb); clear HB; have HB := n0_; clear n0_; (try clear hb); (try clear hb2); (try clear hk); (try clear hi)) | ((with_reducible refine gate_callee (f := 28) rfl ?_); refine goesL_ (some 27) rfl rfl Tryd.func28 (by kernel_rfl) rfl #[.int .i64 a1, .int .i64 a3] rfl (by (try simp only [List.map_toArray, List.map_cons, List.map_nil]); first | done | rfl | (simp only [List.length_drop, List.length_take]; rfl)) ?_; (with_reducible refine (scarfref03_list.calls k a1 a3 t227 _ A7.out).mono ?_); rintro e w16 ⟨v228, rfl, ho0, hb⟩; refine ⟨_, rfl, ?_⟩; have n0_ := Aside0.mk (Kd.R_lower ho0 (below_size (by repeat (first | (with_reducible first | exact HB.out | apply below_alloc | apply pw_below_drewN | apply below_drew1) | exact HB.out)))); have n1_ := Aside0.mk (below_step (by repeat (first | (with_reducible first | exact HB.out | apply below_alloc | apply pw_below_drewN | apply below_drew1) | exact HB.out)) hb); clear HB; have HO229 := n0_; have HB := n1_; clear n0_ n1_; (try clear hb); (try clear hb2); (try clear hk); (try clear hi); (try clear ho0); obtain ⟨Ao17, co17, eo17⟩ := Kd.R_slice HO229.out; subst eo17) | ((with_reducible refine gate_callee (f := 27) rfl ?_); refine goesL_ (some 28) rfl rfl Tryd.func27 (by kernel_rfl) rfl #[.slice Ao17 t227.length co17] rfl (by (try simp only [List.map_toArray, List.map_cons, List.map_nil]); first | done | rfl | (simp only [List.length_drop, List.length_take]; rfl)) ?_; (with_reducible refine (scarfref03_from.calls k _ _ t227 t230 _ ?side1 ?side2 A8.out).mono ?_); (case side1 => repeat (first | exact (Kd.R_reads' HO229.out).2.2 | (with_reducible refine Kd.C_alloc ?_ _) | (with_reducible refine Kd.C_drewN ?_ _) | (with_reducible refine Kd.C_drew ?_))); (case side2 => exact (Kd.R_reads' HO229.out).2.1); rintro e w' ⟨rfl, ⟨nd, rfl⟩⟩; refine ⟨_, rfl, ?_⟩) | ((with_reducible refine gate_callee (f := 28) rfl ?_); refine goesL_ (some 31) rfl rfl Tryd.func28 (by kernel_rfl) rfl #[.int .i64 a2, .int .i64 a3] rfl (by (try simp only [List.map_toArray, List.map_cons, List.map_nil]); first | done | rfl | (simp only [List.length_drop, List.length_take]; rfl)) ?_; (with_reducible refine (scarfref03_list.calls k a2 a3 t231 _ A9.out).mono ?_); rintro e w18 ⟨v232, rfl, ho0, hb⟩; refine ⟨_, rfl, ?_⟩; have n0_ := Aside0.mk (Kd.R_elder' (by (with_reducible repeat (first | apply Kd.R_alloc | apply Kd.R_drewN | apply Kd.R_drew)); exact HO229.out) (Kd.R_base ho0) hb); have n1_ := Aside0.mk (Kd.R_lower (Kd.R_new' ho0 (Kd.R_lt (by (with_reducible repeat (first | apply Kd.R_alloc | apply Kd.R_drewN | apply Kd.R_drew)); exact HO229.out))) (below_size (by repeat (first | (with_reducible first | exact HB.out | apply below_alloc | apply pw_below_drewN | apply below_drew1) | exact HB.out)))); have n2_ := Aside0.mk (below_step (by repeat (first | (with_reducible first | exact HB.out | apply below_alloc | apply pw_below_drewN | apply below_drew1) | exact HB.out)) hb); clear HO229; clear HB; have HO229 := n0_; have HO233 := n1_; have HB := n2_; clear n0_ n1_ n2_; (try clear hb); (try clear hb2); (try clear hk); (try clear hi); (try clear ho0); obtain ⟨Ao19, co19, eo19⟩ := Kd.R_slice HO233.out; subst eo19) | ((with_reducible refine gate_callee (f := 27) rfl ?_); refine goesL_ (some 32) rfl rfl Tryd.func27 (by kernel_rfl) rfl #[.slice Ao19 t231.length co19] rfl (by (try simp only [List.map_toArray, List.map_cons, List.map_nil]); first | done | rfl | (simp only [List.length_drop, List.length_take]; rfl)) ?_; (with_reducible refine (scarfref03_from.calls k _ _ t231 t234 _ ?side1 ?side2 A10.out).mono ?_); (case side1 => repeat (first | exact (Kd.R_reads' HO233.out).2.2 | (with_reducible refine Kd.C_alloc ?_ _) | (with_reducible refine Kd.C_drewN ?_ _) | (with_reducible refine Kd.C_drew ?_))); (case side2 => exact (Kd.R_reads' HO233.out).2.1); rintro e w' ⟨rfl, ⟨nd, rfl⟩⟩; refine ⟨_, rfl, ?_⟩) | ((with_reducible refine gate_callee (f := 12) rfl ?_); refine goesL_ (some 34) rfl rfl Tryd.func12 (by kernel_rfl) rfl #[.int .i64 a2] rfl (by (try simp only [List.map_toArray, List.map_cons, List.map_nil]); first | done | rfl | (simp only [List.length_drop, List.length_take]; rfl)) ?_; (with_reducible refine (scarfref03_U32.calls a2 t235 _ A11.out).mono ?_); rintro e w' ⟨rfl, ⟨nd, rfl⟩⟩; refine ⟨_, rfl, ?_⟩))
    (try simp only [Act.put, List.setIfInBounds_toArray, List.set_cons_zero, List.set_cons_succ])
    go_cut [46] (fun v46 wc => ∃ (kq : Nat) (x46_12 : Bool), v46 = .bool x46_12 ∧ Aside0 (scarfref03_reckon.j0 kq a0 a1 a2 a3 t225 t226 t230 t234 (Int.tmod t235 a3) x46_12 = some (r1, r2)) ∧ Aside0 (kq ≤ k) ∧ Aside0 (Below w.heap.size w wc))
    case first =>
      have H := HC13.out
      clear HC13
      by_cases c20 : a0 < 3
      · rw [if_pos c20] at H
        have c20b0 : decide (a0 < 3) = true := decide_eq_true c20
        clear c20
        (first | rw [c20b0] | (simp only [i64_w, i32_w]; rw [c20b0]) | skip)
        have H' := Aside0.mk H
        clear H
        go_wp2
        go_meet
        case rel => exact ⟨_, (true), (by first | rfl | (simp; done) | (simp [*]; done)), H', ⟨by first | omega | exact Nat.le_refl _⟩, ⟨by repeat (first | (with_reducible first | exact HB.out | apply below_alloc | apply pw_below_drewN | apply below_drew1) | exact HB.out)⟩⟩
      · rw [if_neg c20] at H
        have c20b0 : decide (a0 < 3) = false := decide_eq_false c20
        clear c20
        (first | rw [c20b0] | (simp only [i64_w, i32_w]; rw [c20b0]) | skip)
        by_cases c21 : a0 ≥ 7
        · rw [if_pos c21] at H
          have c21b0 : decide (7 ≤ a0) = true := decide_eq_true c21
          clear c21
          have H' := Aside0.mk H
          clear H
          go_wp2
          go_meet
          case rel => exact ⟨_, (decide (a0 ≤ 9)), (by first | rfl | (simp; done) | (simp [*]; done)), H', ⟨by first | omega | exact Nat.le_refl _⟩, ⟨by repeat (first | (with_reducible first | exact HB.out | apply below_alloc | apply pw_below_drewN | apply below_drew1) | exact HB.out)⟩⟩
        · rw [if_neg c21] at H
          have c21b0 : decide (7 ≤ a0) = false := decide_eq_false c21
          clear c21
          have H' := Aside0.mk H
          clear H
          go_wp2
          go_meet
          case rel => exact ⟨_, (false), (by first | rfl | (simp; done) | (simp [*]; done)), H', ⟨by first | omega | exact Nat.le_refl _⟩, ⟨by repeat (first | (with_reducible first | exact HB.out | apply below_alloc | apply pw_below_drewN | apply below_drew1) | exact HB.out)⟩⟩
    case rest =>
      clear HC13
      try clear c1
      try clear c2
      try clear p2
      try clear c3
      try clear c12
      try clear c12b0
      try clear c12b1
      try clear c20
      try clear c20b0
      try clear c21
      try clear c21b0
      obtain ⟨kq, x46_12, rfl, HA, HJ12, HB⟩ := hcut
      cases kq with
      | zero => exact absurd HA.out (by simp [scarfref03_reckon.j0])
      | succ kj12 =>
        have H := HA.out
        clear HA
        simp only [scarfref03_reckon.j0] at H
        by_cases c22 : x46_12 = true
        · subst c22
          have H1 : ((scarfref03_plain.f a0 a1 a2).bind fun t236 => (some (t236, 0))) = some (r1, r2) := by rw [if_pos rfl] at H; exact H
          clear H
          have H := H1
          clear H1
          replace H := Option.bind_eq_some_iff.mp H
          obtain ⟨t236, A230, H⟩ := H
          replace H : (some (t236, 0)) = some (r1, r2) := H
          have A23 := Aside0.mk A230
          clear A230
          simp only [Option.some.injEq, Prod.mk.injEq] at H
          obtain ⟨rfl, rfl⟩ := H
          go_wp2_with (first | ((with_reducible refine gate_callee (f := 40) rfl ?_); refine goesL_ (some 50) rfl rfl Tryd.func40 (by kernel_rfl) rfl #[.int .i64 a0, .int .i64 a1, .int .i64 a2] rfl (by (try simp only [List.map_toArray, List.map_cons, List.map_nil]); first | done | rfl | (simp only [List.length_drop, List.length_take]; rfl)) ?_; (with_reducible refine (scarfref03_plain.calls a0 a1 a2 t236 _ A23.out).mono ?_); rintro e w' ⟨rfl, ⟨nd, rfl⟩⟩; refine ⟨_, rfl, ?_⟩))
          go_ret2
          exact ⟨by first | rfl | (simp [errW_none, errW_some] <;> rfl) | (simp [*, errW_none, errW_some] <;> rfl), by repeat (first | (with_reducible first | exact HB.out | apply below_alloc | apply pw_below_drewN | apply below_drew1) | exact HB.out)⟩
        · replace c22 := Bool.eq_false_iff.mpr c22
          subst c22
          have H1 : (if a0 = 13 then ((scarfref03_turn.f kj12 a1 (Int.tmod t235 a3) a3).bind fun t237 => (some (t237, 0))) else (if a0 = 14 then ((scarfref03_turn.f kj12 a1 (wrap64 (a3 - (Int.tmod t235 a3))) a3).bind fun t238 => (some (t238, 0))) else (if a0 ≥ 3 then (if a0 ≤ 6 then (scarfref03_reckon.j1 kj12 a0 a3 t225 t226 t230 t234 (Int.tmod t235 a3) (t226 == 0)) else (scarfref03_reckon.j1 kj12 a0 a3 t225 t226 t230 t234 (Int.tmod t235 a3) false)) else (scarfref03_reckon.j1 kj12 a0 a3 t225 t226 t230 t234 (Int.tmod t235 a3) false)))) = some (r1, r2) := by rw [if_neg (show ¬ (false = true) by decide)] at H; exact H
          clear H
          have H := H1
          clear H1
          by_cases c24 : a0 = 13
          · rw [if_pos c24] at H
            have c24b0 : (a0 == 13) = true := beq_iff_eq.mpr c24
            have c24b1 : (a0 != 13) = false := bne_eq_false_iff_eq.mpr c24
            clear c24
            replace H := Option.bind_eq_some_iff.mp H
            obtain ⟨t237, A250, H⟩ := H
            replace H : (some (t237, 0)) = some (r1, r2) := H
            have A25 := Aside0.mk A250
            clear A250
            simp only [Option.some.injEq, Prod.mk.injEq] at H
            obtain ⟨rfl, rfl⟩ := H
            go_wp2_with (first | ((with_reducible refine gate_callee (f := 41) rfl ?_); refine goesL_ (some 56) rfl rfl Tryd.func41 (by kernel_rfl) rfl #[.int .i64 a1, .int .i64 (Int.tmod t235 a3), .int .i64 a3] rfl (by (try simp only [List.map_toArray, List.map_cons, List.map_nil]); first | done | rfl | (simp only [List.length_drop, List.length_take]; rfl)) ?_; (with_reducible refine (scarfref03_turn.calls kj12 a1 (Int.tmod t235 a3) a3 t237 _ A25.out).mono ?_); rintro e w26 ⟨rfl, hb⟩; refine ⟨_, rfl, ?_⟩; have n0_ := Aside0.mk (below_step (by repeat (first | (with_reducible first | exact HB.out | apply below_alloc | apply pw_below_drewN | apply below_drew1) | exact HB.out)) hb); clear HB; have HB := n0_; clear n0_; (try clear hb); (try clear hb2); (try clear hk); (try clear hi)))
            go_ret2
            exact ⟨by first | rfl | (simp [errW_none, errW_some] <;> rfl) | (simp [*, errW_none, errW_some] <;> rfl), by repeat (first | (with_reducible first | exact HB.out | apply below_alloc | apply pw_below_drewN | apply below_drew1) | exact HB.out)⟩
          · rw [if_neg c24] at H
            have c24b0 : (a0 == 13) = false := beq_eq_false_iff_ne.mpr c24
            have c24b1 : (a0 != 13) = true := bne_iff_ne.mpr c24
            by_cases c27 : a0 = 14
            · rw [if_pos c27] at H
              have c27b0 : (a0 == 14) = true := beq_iff_eq.mpr c27
              have c27b1 : (a0 != 14) = false := bne_eq_false_iff_eq.mpr c27
              clear c27
              replace H := Option.bind_eq_some_iff.mp H
              obtain ⟨t238, A280, H⟩ := H
              replace H : (some (t238, 0)) = some (r1, r2) := H
              have A28 := Aside0.mk A280
              clear A280
              simp only [Option.some.injEq, Prod.mk.injEq] at H
              obtain ⟨rfl, rfl⟩ := H
              go_wp2_with (first | ((with_reducible refine gate_callee (f := 41) rfl ?_); refine goesL_ (some 64) rfl rfl Tryd.func41 (by kernel_rfl) rfl #[.int .i64 a1, .int .i64 (wrap64 (a3 - (Int.tmod t235 a3))), .int .i64 a3] rfl (by (try simp only [List.map_toArray, List.map_cons, List.map_nil]); first | done | rfl | (simp only [List.length_drop, List.length_take]; rfl)) ?_; (with_reducible refine (scarfref03_turn.calls kj12 a1 (wrap64 (a3 - (Int.tmod t235 a3))) a3 t238 _ A28.out).mono ?_); rintro e w29 ⟨rfl, hb⟩; refine ⟨_, rfl, ?_⟩; have n0_ := Aside0.mk (below_step (by repeat (first | (with_reducible first | exact HB.out | apply below_alloc | apply pw_below_drewN | apply below_drew1) | exact HB.out)) hb); clear HB; have HB := n0_; clear n0_; (try clear hb); (try clear hb2); (try clear hk); (try clear hi)))
              go_ret2
              exact ⟨by first | rfl | (simp [errW_none, errW_some] <;> rfl) | (simp [*, errW_none, errW_some] <;> rfl), by repeat (first | (with_reducible first | exact HB.out | apply below_alloc | apply pw_below_drewN | apply below_drew1) | exact HB.out)⟩
            · rw [if_neg c27] at H
              have c27b0 : (a0 == 14) = false := beq_eq_false_iff_ne.mpr c27
              have c27b1 : (a0 != 14) = true := bne_iff_ne.mpr c27
              have HC30 := Aside0.mk H
              clear H
              go_upto_region 10 with (fail)
              go_cut [74] (fun v74 wc => ∃ (kq : Nat) (x74_29 : Bool), v74 = .bool x74_29 ∧ Aside0 (scarfref03_reckon.j1 kq a0 a3 t225 t226 t230 t234 (Int.tmod t235 a3) x74_29 = some (r1, r2)) ∧ Aside0 (kq ≤ kj12) ∧ Aside0 (Below w.heap.size w wc))
              case first =>
                have H := HC30.out
                clear HC30
                by_cases c31 : a0 ≥ 3
                · rw [if_pos c31] at H
                  have c31b0 : decide (3 ≤ a0) = true := decide_eq_true c31
                  clear c31
                  (first | rw [c31b0] | (simp only [i64_w, i32_w]; rw [c31b0]) | skip)
                  by_cases c32 : a0 ≤ 6
                  · rw [if_pos c32] at H
                    have c32b0 : decide (a0 ≤ 6) = true := decide_eq_true c32
                    clear c32
                    have H' := Aside0.mk H
                    clear H
                    go_wp2
                    go_meet
                    case rel => exact ⟨_, ((t226 == 0)), (by first | rfl | (simp; done) | (simp [*]; done)), H', ⟨by have := HJ12.out; first | omega | exact Nat.le_refl _⟩, ⟨by repeat (first | (with_reducible first | exact HB.out | apply below_alloc | apply pw_below_drewN | apply below_drew1) | exact HB.out)⟩⟩
                  · rw [if_neg c32] at H
                    have c32b0 : decide (a0 ≤ 6) = false := decide_eq_false c32
                    clear c32
                    have H' := Aside0.mk H
                    clear H
                    go_wp2
                    go_meet
                    case rel => exact ⟨_, (false), (by first | rfl | (simp; done) | (simp [*]; done)), H', ⟨by have := HJ12.out; first | omega | exact Nat.le_refl _⟩, ⟨by repeat (first | (with_reducible first | exact HB.out | apply below_alloc | apply pw_below_drewN | apply below_drew1) | exact HB.out)⟩⟩
                · rw [if_neg c31] at H
                  have c31b0 : decide (3 ≤ a0) = false := decide_eq_false c31
                  clear c31
                  (first | rw [c31b0] | (simp only [i64_w, i32_w]; rw [c31b0]) | skip)
                  have H' := Aside0.mk H
                  clear H
                  go_wp2
                  go_meet
                  case rel => exact ⟨_, (false), (by first | rfl | (simp; done) | (simp [*]; done)), H', ⟨by have := HJ12.out; first | omega | exact Nat.le_refl _⟩, ⟨by repeat (first | (with_reducible first | exact HB.out | apply below_alloc | apply pw_below_drewN | apply below_drew1) | exact HB.out)⟩⟩
              case rest =>
                clear HC30
                try clear c1
                try clear c2
                try clear p2
                try clear c3
                try clear c4
                try clear p6
                try clear c12
                try clear c12b0
                try clear c12b1
                try clear c20
                try clear c20b0
                try clear c21
                try clear c21b0
                try clear c22
                try clear c24
                try clear c24b0
                try clear c24b1
                try clear c27
                try clear c27b0
                try clear c27b1
                try clear c28
                try clear c30
                try clear c31
                try clear c31b0
                try clear c32
                try clear c32b0
                try clear p2
                obtain ⟨kq, x74_29, rfl, HA, HJ29, HB⟩ := hcut
                cases kq with
                | zero => exact absurd HA.out (by simp [scarfref03_reckon.j1])
                | succ kj29 =>
                  have H := HA.out
                  clear HA
                  simp only [scarfref03_reckon.j1] at H
                  by_cases c33 : x74_29 = true
                  · subst c33
                    have H1 : (some (0, 2)) = some (r1, r2) := by rw [if_pos rfl] at H; exact H
                    clear H
                    have H := H1
                    clear H1
                    simp only [Option.some.injEq, Prod.mk.injEq] at H
                    obtain ⟨rfl, rfl⟩ := H
                    go_wp2
                    go_ret2
                    exact ⟨by first | rfl | (simp [errW_none, errW_some] <;> rfl) | (simp [*, errW_none, errW_some] <;> rfl), by repeat (first | (with_reducible first | exact HB.out | apply below_alloc | apply pw_below_drewN | apply below_drew1) | exact HB.out)⟩
                  · replace c33 := Bool.eq_false_iff.mpr c33
                    subst c33
                    have H1 : (if a0 = 3 then (scarfref03_reckon.j2 kj29 a0 a3 t225 t226 t230 t234 (Int.tmod t235 a3) (t226 == (-1))) else (scarfref03_reckon.j2 kj29 a0 a3 t225 t226 t230 t234 (Int.tmod t235 a3) false)) = some (r1, r2) := by rw [if_neg (show ¬ (false = true) by decide)] at H; exact H
                    clear H
                    have H := H1
                    clear H1
                    have HC34 := Aside0.mk H
                    clear H
                    go_upto_region 12 with (fail)
                    go_cut [80] (fun v80 wc => ∃ (kq : Nat) (x80_33 : Bool), v80 = .bool x80_33 ∧ Aside0 (scarfref03_reckon.j2 kq a0 a3 t225 t226 t230 t234 (Int.tmod t235 a3) x80_33 = some (r1, r2)) ∧ Aside0 (kq ≤ kj29) ∧ Aside0 (Below w.heap.size w wc))
                    case first =>
                      have H := HC34.out
                      clear HC34
                      by_cases c35 : a0 = 3
                      · rw [if_pos c35] at H
                        have c35b0 : (a0 == 3) = true := beq_iff_eq.mpr c35
                        have c35b1 : (a0 != 3) = false := bne_eq_false_iff_eq.mpr c35
                        clear c35
                        (first | rw [c35b0] | (simp only [i64_w, i32_w]; rw [c35b0]) | skip)
                        have H' := Aside0.mk H
                        clear H
                        go_wp2
                        go_meet
                        case rel => exact ⟨_, ((t226 == (-1))), (by first | rfl | (simp; done) | (simp [*]; done)), H', ⟨by have := HJ12.out; have := HJ29.out; first | omega | exact Nat.le_refl _⟩, ⟨by repeat (first | (with_reducible first | exact HB.out | apply below_alloc | apply pw_below_drewN | apply below_drew1) | exact HB.out)⟩⟩
                      · rw [if_neg c35] at H
                        have c35b0 : (a0 == 3) = false := beq_eq_false_iff_ne.mpr c35
                        have c35b1 : (a0 != 3) = true := bne_iff_ne.mpr c35
                        (first | rw [c35b0] | (simp only [i64_w, i32_w]; rw [c35b0]) | skip)
                        have H' := Aside0.mk H
                        clear H
                        go_wp2
                        go_meet
                        case rel => exact ⟨_, (false), (by first | rfl | (simp; done) | (simp [*]; done)), H', ⟨by have := HJ12.out; have := HJ29.out; first | omega | exact Nat.le_refl _⟩, ⟨by repeat (first | (with_reducible first | exact HB.out | apply below_alloc | apply pw_below_drewN | apply below_drew1) | exact HB.out)⟩⟩
                    case rest =>
                      clear HC34
                      try clear c1
                      try clear c2
                      try clear p2
                      try clear c3
                      try clear c4
                      try clear p6
                      try clear c12
                      try clear c12b0
                      try clear c12b1
                      try clear c20
                      try clear c20b0
                      try clear c21
                      try clear c21b0
                      try clear c22
                      try clear c24
                      try clear c24b0
                      try clear c24b1
                      try clear c27
                      try clear c27b0
                      try clear c27b1
                      try clear c28
                      try clear c30
                      try clear c31
                      try clear c31b0
                      try clear c32
                      try clear c32b0
                      try clear c33
                      try clear c34
                      try clear c35
                      try clear c35b0
                      try clear c35b1
                      try clear p2
                      try clear p6
                      obtain ⟨kq, x80_33, rfl, HA, HJ33, HB⟩ := hcut
                      cases kq with
                      | zero => exact absurd HA.out (by simp [scarfref03_reckon.j2])
                      | succ kj33 =>
                        have H := HA.out
                        clear HA
                        simp only [scarfref03_reckon.j2] at H
                        by_cases c36 : x80_33 = true
                        · subst c36
                          have H1 : (if 0 ≤ (wrap64 (a3 - 1)) then ((scarfref03_signed.f kj33 (shl .i64 1 (wrap64 (a3 - 1))) a3).bind fun t239 => (if t225 = t239 then (some (0, 3)) else (some (wrap64 (-t225), 0)))) else (none)) = some (r1, r2) := by rw [if_pos rfl] at H; exact H
                          clear H
                          have H := H1
                          clear H1
                          obtain ⟨ji37, hji37⟩ : ∃ j_ : Int, (wrap64 (a3 - 1)) = j_ := ⟨_, rfl⟩
                          replace H : (if 0 ≤ (ji37) then ((scarfref03_signed.f kj33 (shl .i64 1 (ji37)) a3).bind fun t239 => (if t225 = t239 then (some (0, 3)) else (some (wrap64 (-t225), 0)))) else (none)) = some (r1, r2) := by first | (rw [hji37] at H; exact H) | (simp only [hji37] at H ⊢; exact H)
                          have hji37w : (IntKind.i64.wrap (a3 - 1)) = ji37 := (i64_w _).trans hji37
                          by_cases c38 : 0 ≤ (ji37)
                          · rw [if_pos c38] at H
                            have c38b0 := eq_true c38
                            have c38b1 : decide (0 ≤ (ji37)) = true := decide_eq_true c38
                            clear c38
                            obtain ⟨ji39, hji39⟩ : ∃ j_ : Int, (shl .i64 1 (ji37)) = j_ := ⟨_, rfl⟩
                            replace H : ((scarfref03_signed.f kj33 (ji39) a3).bind fun t239 => (if t225 = t239 then (some (0, 3)) else (some (wrap64 (-t225), 0)))) = some (r1, r2) := by first | (rw [hji39] at H; exact H) | (simp only [hji39] at H ⊢; exact H)
                            have hji39_ : (IntKind.i64.wrap (1 * 2 ^ min (ji37).toNat 64)) = ji39 := hji39
                            have hji39z : (ji37) ≤ 64 → (IntKind.i64.wrap (1 * 2 ^ (ji37).toNat)) = ji39 := shl_small hji39
                            have hji39u : (IntKind.i64.wrap (2 ^ min (ji37).toNat 64)) = ji39 := by have h_ := hji39_; rw [Int.one_mul] at h_; exact h_
                            have hji39v : (ji37) ≤ 64 → (IntKind.i64.wrap (2 ^ (ji37).toNat)) = ji39 := fun hle_ => by have h_ := hji39z hle_; rw [Int.one_mul] at h_; exact h_
                            have hji39y : (wrap64 (1 * 2 ^ min (ji37).toNat 64)) = ji39 := (i64_w _).symm.trans hji39_
                            have hji39x : (ji37) ≤ 64 → (wrap64 (1 * 2 ^ (ji37).toNat)) = ji39 := fun h_ => (i64_w _).symm.trans (hji39z h_)
                            replace H := Option.bind_eq_some_iff.mp H
                            obtain ⟨t239, A400, H⟩ := H
                            replace H : (if t225 = t239 then (some (0, 3)) else (some (wrap64 (-t225), 0))) = some (r1, r2) := H
                            have A40 := Aside0.mk A400
                            clear A400
                            by_cases c41 : t225 = t239
                            · rw [if_pos c41] at H
                              have c41b0 : (t225 == t239) = true := beq_iff_eq.mpr c41
                              have c41b1 : (t225 != t239) = false := bne_eq_false_iff_eq.mpr c41
                              clear c41
                              simp only [Option.some.injEq, Prod.mk.injEq] at H
                              obtain ⟨rfl, rfl⟩ := H
                              go_wp2_with (first | ((with_reducible refine gate_callee (f := 30) rfl ?_); refine goesL_ (some 86) rfl rfl Tryd.func30 (by kernel_rfl) rfl #[.int .i64 ji39, .int .i64 a3] rfl (by (try simp only [List.map_toArray, List.map_cons, List.map_nil]); first | done | (simp only [hji39]; rfl) | rfl | (simp only [List.length_drop, List.length_take]; rfl)) ?_; (with_reducible refine (scarfref03_signed.calls kj33 ji39 a3 t239 _ A40.out).mono ?_); rintro e w42 ⟨rfl, hb⟩; refine ⟨_, rfl, ?_⟩; have n0_ := Aside0.mk (below_step (by repeat (first | (with_reducible first | exact HB.out | apply below_alloc | apply pw_below_drewN | apply below_drew1) | exact HB.out)) hb); clear HB; have HB := n0_; clear n0_; (try clear hb); (try clear hb2); (try clear hk); (try clear hi)))
                              go_ret2
                              exact ⟨by first | rfl | (simp [errW_none, errW_some] <;> rfl) | (simp only [← hji37, ← hji39]; first | rfl | (simp [errW_none, errW_some] <;> rfl)) | (simp [*, errW_none, errW_some] <;> rfl), by repeat (first | (with_reducible first | exact HB.out | apply below_alloc | apply pw_below_drewN | apply below_drew1) | exact HB.out)⟩
                            · rw [if_neg c41] at H
                              have c41b0 : (t225 == t239) = false := beq_eq_false_iff_ne.mpr c41
                              have c41b1 : (t225 != t239) = true := bne_iff_ne.mpr c41
                              simp only [Option.some.injEq, Prod.mk.injEq] at H
                              obtain ⟨rfl, rfl⟩ := H
                              go_wp2_with (first | ((with_reducible refine gate_callee (f := 30) rfl ?_); refine goesL_ (some 86) rfl rfl Tryd.func30 (by kernel_rfl) rfl #[.int .i64 ji39, .int .i64 a3] rfl (by (try simp only [List.map_toArray, List.map_cons, List.map_nil]); first | done | (simp only [hji39]; rfl) | rfl | (simp only [List.length_drop, List.length_take]; rfl)) ?_; (with_reducible refine (scarfref03_signed.calls kj33 ji39 a3 t239 _ A40.out).mono ?_); rintro e w43 ⟨rfl, hb⟩; refine ⟨_, rfl, ?_⟩; have n0_ := Aside0.mk (below_step (by repeat (first | (with_reducible first | exact HB.out | apply below_alloc | apply pw_below_drewN | apply below_drew1) | exact HB.out)) hb); clear HB; have HB := n0_; clear n0_; (try clear hb); (try clear hb2); (try clear hk); (try clear hi)))
                              go_ret2
                              exact ⟨by first | rfl | (simp [errW_none, errW_some] <;> rfl) | (simp only [← hji37, ← hji39]; first | rfl | (simp [errW_none, errW_some] <;> rfl)) | (simp [*, errW_none, errW_some] <;> rfl), by repeat (first | (with_reducible first | exact HB.out | apply below_alloc | apply pw_below_drewN | apply below_drew1) | exact HB.out)⟩
                          · rw [if_neg c38] at H
                            exact absurd H (by simp)
                        · replace c36 := Bool.eq_false_iff.mpr c36
                          subst c36
                          have H1 : (if a0 = 5 then (scarfref03_reckon.j3 kj33 a0 t225 t226 t230 t234 (Int.tmod t235 a3) (t226 == (-1))) else (scarfref03_reckon.j3 kj33 a0 t225 t226 t230 t234 (Int.tmod t235 a3) false)) = some (r1, r2) := by rw [if_neg (show ¬ (false = true) by decide)] at H; exact H
                          clear H
                          have H := H1
                          clear H1
                          have HC44 := Aside0.mk H
                          clear H
                          go_upto_region 16 with (fail)
                          go_cut [95] (fun v95 wc => ∃ (kq : Nat) (x95_43 : Bool), v95 = .bool x95_43 ∧ Aside0 (scarfref03_reckon.j3 kq a0 t225 t226 t230 t234 (Int.tmod t235 a3) x95_43 = some (r1, r2)) ∧ Aside0 (kq ≤ kj33) ∧ Aside0 (Below w.heap.size w wc))
                          case first =>
                            have H := HC44.out
                            clear HC44
                            by_cases c45 : a0 = 5
                            · rw [if_pos c45] at H
                              have c45b0 : (a0 == 5) = true := beq_iff_eq.mpr c45
                              have c45b1 : (a0 != 5) = false := bne_eq_false_iff_eq.mpr c45
                              clear c45
                              (first | rw [c45b0] | (simp only [i64_w, i32_w]; rw [c45b0]) | skip)
                              have H' := Aside0.mk H
                              clear H
                              go_wp2
                              go_meet
                              case rel => exact ⟨_, ((t226 == (-1))), (by first | rfl | (simp; done) | (simp [*]; done)), H', ⟨by have := HJ12.out; have := HJ29.out; have := HJ33.out; first | omega | exact Nat.le_refl _⟩, ⟨by repeat (first | (with_reducible first | exact HB.out | apply below_alloc | apply pw_below_drewN | apply below_drew1) | exact HB.out)⟩⟩
                            · rw [if_neg c45] at H
                              have c45b0 : (a0 == 5) = false := beq_eq_false_iff_ne.mpr c45
                              have c45b1 : (a0 != 5) = true := bne_iff_ne.mpr c45
                              (first | rw [c45b0] | (simp only [i64_w, i32_w]; rw [c45b0]) | skip)
                              have H' := Aside0.mk H
                              clear H
                              go_wp2
                              go_meet
                              case rel => exact ⟨_, (false), (by first | rfl | (simp; done) | (simp [*]; done)), H', ⟨by have := HJ12.out; have := HJ29.out; have := HJ33.out; first | omega | exact Nat.le_refl _⟩, ⟨by repeat (first | (with_reducible first | exact HB.out | apply below_alloc | apply pw_below_drewN | apply below_drew1) | exact HB.out)⟩⟩
                          case rest =>
                            clear HC44
                            try clear c1
                            try clear c2
                            try clear p2
                            try clear c3
                            try clear c4
                            try clear p6
                            try clear c12
                            try clear c12b0
                            try clear c12b1
                            try clear c20
                            try clear c20b0
                            try clear c21
                            try clear c21b0
                            try clear c22
                            try clear c24
                            try clear c24b0
                            try clear c24b1
                            try clear c27
                            try clear c27b0
                            try clear c27b1
                            try clear c28
                            try clear c30
                            try clear c31
                            try clear c31b0
                            try clear c32
                            try clear c32b0
                            try clear c33
                            try clear c34
                            try clear c35
                            try clear c35b0
                            try clear c35b1
                            try clear c36
                            try clear c38
                            try clear c38b0
                            try clear c38b1
                            try clear c40
                            try clear c41
                            try clear c41b0
                            try clear c41b1
                            try clear c45
                            try clear c45b0
                            try clear c45b1
                            try clear p2
                            try clear p6
                            obtain ⟨kq, x95_43, rfl, HA, HJ43, HB⟩ := hcut
                            cases kq with
                            | zero => exact absurd HA.out (by simp [scarfref03_reckon.j3])
                            | succ kj43 =>
                              have H := HA.out
                              clear HA
                              simp only [scarfref03_reckon.j3] at H
                              by_cases c46 : x95_43 = true
                              · subst c46
                                have H1 : (some (0, 0)) = some (r1, r2) := by rw [if_pos rfl] at H; exact H
                                clear H
                                have H := H1
                                clear H1
                                simp only [Option.some.injEq, Prod.mk.injEq] at H
                                obtain ⟨rfl, rfl⟩ := H
                                go_wp2
                                go_ret2
                                exact ⟨by first | rfl | (simp [errW_none, errW_some] <;> rfl) | (simp [*, errW_none, errW_some] <;> rfl), by repeat (first | (with_reducible first | exact HB.out | apply below_alloc | apply pw_below_drewN | apply below_drew1) | exact HB.out)⟩
                              · replace c46 := Bool.eq_false_iff.mpr c46
                                subst c46
                                have H1 : (if a0 = 3 then (if t226 = 0 then (none) else (some (wrap64 (Int.tdiv t225 t226), 0))) else (if a0 = 5 then (if t226 = 0 then (none) else (some (Int.tmod t225 t226, 0))) else (if a0 = 4 then (scarfref03_reckon.j4 kj43 a0 t225 t230 t234 (Int.tmod t235 a3) true) else (scarfref03_reckon.j4 kj43 a0 t225 t230 t234 (Int.tmod t235 a3) (a0 == 6))))) = some (r1, r2) := by rw [if_neg (show ¬ (false = true) by decide)] at H; exact H
                                clear H
                                have H := H1
                                clear H1
                                by_cases c47 : a0 = 3
                                · rw [if_pos c47] at H
                                  have c47b0 : (a0 == 3) = true := beq_iff_eq.mpr c47
                                  have c47b1 : (a0 != 3) = false := bne_eq_false_iff_eq.mpr c47
                                  clear c47
                                  by_cases c48 : t226 = 0
                                  · rw [if_pos c48] at H
                                    exact absurd H (by simp)
                                  · rw [if_neg c48] at H
                                    have c48b0 : (t226 == 0) = false := beq_eq_false_iff_ne.mpr c48
                                    have c48b1 : (t226 != 0) = true := bne_iff_ne.mpr c48
                                    simp only [Option.some.injEq, Prod.mk.injEq] at H
                                    obtain ⟨rfl, rfl⟩ := H
                                    go_wp2
                                    go_ret2
                                    exact ⟨by first | rfl | (simp [errW_none, errW_some] <;> rfl) | (simp [*, errW_none, errW_some] <;> rfl), by repeat (first | (with_reducible first | exact HB.out | apply below_alloc | apply pw_below_drewN | apply below_drew1) | exact HB.out)⟩
                                · rw [if_neg c47] at H
                                  have c47b0 : (a0 == 3) = false := beq_eq_false_iff_ne.mpr c47
                                  have c47b1 : (a0 != 3) = true := bne_iff_ne.mpr c47
                                  by_cases c49 : a0 = 5
                                  · rw [if_pos c49] at H
                                    have c49b0 : (a0 == 5) = true := beq_iff_eq.mpr c49
                                    have c49b1 : (a0 != 5) = false := bne_eq_false_iff_eq.mpr c49
                                    clear c49
                                    by_cases c50 : t226 = 0
                                    · rw [if_pos c50] at H
                                      exact absurd H (by simp)
                                    · rw [if_neg c50] at H
                                      have c50b0 : (t226 == 0) = false := beq_eq_false_iff_ne.mpr c50
                                      have c50b1 : (t226 != 0) = true := bne_iff_ne.mpr c50
                                      simp only [Option.some.injEq, Prod.mk.injEq] at H
                                      obtain ⟨rfl, rfl⟩ := H
                                      go_wp2
                                      go_ret2
                                      exact ⟨by first | rfl | (simp [errW_none, errW_some] <;> rfl) | (simp [*, errW_none, errW_some] <;> rfl), by repeat (first | (with_reducible first | exact HB.out | apply below_alloc | apply pw_below_drewN | apply below_drew1) | exact HB.out)⟩
                                  · rw [if_neg c49] at H
                                    have c49b0 : (a0 == 5) = false := beq_eq_false_iff_ne.mpr c49
                                    have c49b1 : (a0 != 5) = true := bne_iff_ne.mpr c49
                                    have HC51 := Aside0.mk H
                                    clear H
                                    go_upto_region 22 with (fail)
                                    go_cut [111] (fun v111 wc => ∃ (kq : Nat) (x111_50 : Bool), v111 = .bool x111_50 ∧ Aside0 (scarfref03_reckon.j4 kq a0 t225 t230 t234 (Int.tmod t235 a3) x111_50 = some (r1, r2)) ∧ Aside0 (kq ≤ kj43) ∧ Aside0 (Below w.heap.size w wc))
                                    case first =>
                                      have H := HC51.out
                                      clear HC51
                                      by_cases c52 : a0 = 4
                                      · rw [if_pos c52] at H
                                        have c52b0 : (a0 == 4) = true := beq_iff_eq.mpr c52
                                        have c52b1 : (a0 != 4) = false := bne_eq_false_iff_eq.mpr c52
                                        clear c52
                                        (first | rw [c52b0] | (simp only [i64_w, i32_w]; rw [c52b0]) | skip)
                                        have H' := Aside0.mk H
                                        clear H
                                        go_wp2
                                        go_meet
                                        case rel => exact ⟨_, (true), (by first | rfl | (simp; done) | (simp [*]; done)), H', ⟨by have := HJ12.out; have := HJ29.out; have := HJ33.out; have := HJ43.out; first | omega | exact Nat.le_refl _⟩, ⟨by repeat (first | (with_reducible first | exact HB.out | apply below_alloc | apply pw_below_drewN | apply below_drew1) | exact HB.out)⟩⟩
                                      · rw [if_neg c52] at H
                                        have c52b0 : (a0 == 4) = false := beq_eq_false_iff_ne.mpr c52
                                        have c52b1 : (a0 != 4) = true := bne_iff_ne.mpr c52
                                        (first | rw [c52b0] | (simp only [i64_w, i32_w]; rw [c52b0]) | skip)
                                        have H' := Aside0.mk H
                                        clear H
                                        go_wp2
                                        go_meet
                                        case rel => exact ⟨_, ((a0 == 6)), (by first | rfl | (simp; done) | (simp [*]; done)), H', ⟨by have := HJ12.out; have := HJ29.out; have := HJ33.out; have := HJ43.out; first | omega | exact Nat.le_refl _⟩, ⟨by repeat (first | (with_reducible first | exact HB.out | apply below_alloc | apply pw_below_drewN | apply below_drew1) | exact HB.out)⟩⟩
                                    case rest =>
                                      clear HC51
                                      try clear c1
                                      try clear c2
                                      try clear p2
                                      try clear c3
                                      try clear c4
                                      try clear c5
                                      try clear p6
                                      try clear c12
                                      try clear c12b0
                                      try clear c12b1
                                      try clear c20
                                      try clear c20b0
                                      try clear c21
                                      try clear c21b0
                                      try clear c22
                                      try clear c24
                                      try clear c24b0
                                      try clear c24b1
                                      try clear c27
                                      try clear c27b0
                                      try clear c27b1
                                      try clear c28
                                      try clear c30
                                      try clear c31
                                      try clear c31b0
                                      try clear c32
                                      try clear c32b0
                                      try clear c33
                                      try clear c34
                                      try clear c35
                                      try clear c35b0
                                      try clear c35b1
                                      try clear c36
                                      try clear c38
                                      try clear c38b0
                                      try clear c38b1
                                      try clear c40
                                      try clear c41
                                      try clear c41b0
                                      try clear c41b1
                                      try clear c45
                                      try clear c45b0
                                      try clear c45b1
                                      try clear c46
                                      try clear c47
                                      try clear c47b0
                                      try clear c47b1
                                      try clear c48
                                      try clear c48b0
                                      try clear c48b1
                                      try clear c49
                                      try clear c49b0
                                      try clear c49b1
                                      try clear c50
                                      try clear c50b0
                                      try clear c50b1
                                      try clear c52
                                      try clear c52b0
                                      try clear c52b1
                                      try clear p2
                                      try clear p6
                                      obtain ⟨kq, x111_50, rfl, HA, HJ50, HB⟩ := hcut
                                      cases kq with
                                      | zero => exact absurd HA.out (by simp [scarfref03_reckon.j4])
                                      | succ kj50 =>
                                        have H := HA.out
                                        clear HA
                                        simp only [scarfref03_reckon.j4] at H
                                        by_cases c53 : x111_50 = true
                                        · subst c53
                                          have H1 : ((scarfref03_divide.f kj50 t230 t234).bind fun bt240 => (if a0 = 4 then (some (bt240.1, 0)) else (some (bt240.2, 0)))) = some (r1, r2) := by rw [if_pos rfl] at H; exact H
                                          clear H
                                          have H := H1
                                          clear H1
                                          replace H := Option.bind_eq_some_iff.mp H
                                          obtain ⟨⟨t240, t241⟩, A540, H⟩ := H
                                          replace H : (if a0 = 4 then (some (t240, 0)) else (some (t241, 0))) = some (r1, r2) := H
                                          have A54 := Aside0.mk A540
                                          clear A540
                                          by_cases c55 : a0 = 4
                                          · rw [if_pos c55] at H
                                            have c55b0 : (a0 == 4) = true := beq_iff_eq.mpr c55
                                            have c55b1 : (a0 != 4) = false := bne_eq_false_iff_eq.mpr c55
                                            clear c55
                                            simp only [Option.some.injEq, Prod.mk.injEq] at H
                                            obtain ⟨rfl, rfl⟩ := H
                                            go_wp2_with (first | ((with_reducible refine gate_callee (f := 42) rfl ?_); refine goesL_ (some 115) rfl rfl Tryd.func42 (by kernel_rfl) rfl #[.int .i64 t230, .int .i64 t234] rfl (by (try simp only [List.map_toArray, List.map_cons, List.map_nil]); first | done | rfl | (simp only [List.length_drop, List.length_take]; rfl)) ?_; (with_reducible refine (scarfref03_divide.calls kj50 t230 t234 t240 t241 _ A54.out).mono ?_); rintro e w' ⟨rfl, ⟨nd, rfl⟩⟩; refine ⟨_, rfl, ?_⟩))
                                            go_ret2
                                            exact ⟨by first | rfl | (simp [errW_none, errW_some] <;> rfl) | (simp [*, errW_none, errW_some] <;> rfl), by repeat (first | (with_reducible first | exact HB.out | apply below_alloc | apply pw_below_drewN | apply below_drew1) | exact HB.out)⟩
                                          · rw [if_neg c55] at H
                                            have c55b0 : (a0 == 4) = false := beq_eq_false_iff_ne.mpr c55
                                            have c55b1 : (a0 != 4) = true := bne_iff_ne.mpr c55
                                            simp only [Option.some.injEq, Prod.mk.injEq] at H
                                            obtain ⟨rfl, rfl⟩ := H
                                            go_wp2_with (first | ((with_reducible refine gate_callee (f := 42) rfl ?_); refine goesL_ (some 115) rfl rfl Tryd.func42 (by kernel_rfl) rfl #[.int .i64 t230, .int .i64 t234] rfl (by (try simp only [List.map_toArray, List.map_cons, List.map_nil]); first | done | rfl | (simp only [List.length_drop, List.length_take]; rfl)) ?_; (with_reducible refine (scarfref03_divide.calls kj50 t230 t234 t240 t241 _ A54.out).mono ?_); rintro e w' ⟨rfl, ⟨nd, rfl⟩⟩; refine ⟨_, rfl, ?_⟩))
                                            go_ret2
                                            exact ⟨by first | rfl | (simp [errW_none, errW_some] <;> rfl) | (simp [*, errW_none, errW_some] <;> rfl), by repeat (first | (with_reducible first | exact HB.out | apply below_alloc | apply pw_below_drewN | apply below_drew1) | exact HB.out)⟩
                                        · replace c53 := Bool.eq_false_iff.mpr c53
                                          subst c53
                                          have H1 : (scarfref03_reckon.l0 kj50 a0 t225 t230 (Int.tmod t235 a3) 0) = some (r1, r2) := by rw [if_neg (show ¬ (false = true) by decide)] at H; exact H
                                          clear H
                                          have H := H1
                                          clear H1
                                          have H' := Aside0.mk H
                                          clear H
                                          go_wp2
                                          go_loopg [10, 12, 17] kj50 (fun kq v10 v12 v17 w' => ∃ (x10_6 : Int) (x12_6 : Int) (x17_6 : Int), v10 = .int .i64 x10_6 ∧ v12 = .int .i64 x12_6 ∧ v17 = .int .i64 x17_6 ∧ Aside0 (scarfref03_reckon.l0 kq a0 x10_6 x12_6 (Int.tmod t235 a3) x17_6 = some (r1, r2)) ∧ Aside0 (kq ≤ kj50) ∧ Aside0 (Below w.heap.size w w'))
                                          case atStart => exact ⟨(t225), (t230), (0), (by first | rfl | (simp; done) | (simp [*]; done)), (by first | rfl | (simp; done) | (simp [*]; done)), (by first | rfl | (simp; done) | (simp [*]; done)), H', ⟨Nat.le_refl _⟩, ⟨by repeat (first | (with_reducible first | exact HB.out | apply below_alloc | apply pw_below_drewN | apply below_drew1) | exact HB.out)⟩⟩
                                          case round =>
                                            clear H'
                                            try clear c1
                                            try clear c2
                                            try clear p2
                                            try clear c3
                                            try clear c4
                                            try clear c5
                                            try clear p6
                                            try clear c12
                                            try clear c12b0
                                            try clear c12b1
                                            try clear c20
                                            try clear c20b0
                                            try clear c21
                                            try clear c21b0
                                            try clear c22
                                            try clear c24
                                            try clear c24b0
                                            try clear c24b1
                                            try clear c27
                                            try clear c27b0
                                            try clear c27b1
                                            try clear c28
                                            try clear c30
                                            try clear c31
                                            try clear c31b0
                                            try clear c32
                                            try clear c32b0
                                            try clear c33
                                            try clear c34
                                            try clear c35
                                            try clear c35b0
                                            try clear c35b1
                                            try clear c36
                                            try clear c38
                                            try clear c38b0
                                            try clear c38b1
                                            try clear c40
                                            try clear c41
                                            try clear c41b0
                                            try clear c41b1
                                            try clear c42
                                            try clear c45
                                            try clear c45b0
                                            try clear c45b1
                                            try clear c46
                                            try clear c47
                                            try clear c47b0
                                            try clear c47b1
                                            try clear c48
                                            try clear c48b0
                                            try clear c48b1
                                            try clear c49
                                            try clear c49b0
                                            try clear c49b1
                                            try clear c50
                                            try clear c50b0
                                            try clear c50b1
                                            try clear c52
                                            try clear c52b0
                                            try clear c52b1
                                            try clear c53
                                            try clear c55
                                            try clear c55b0
                                            try clear c55b1
                                            try clear p2
                                            try clear p6
                                            obtain ⟨x10_6, x12_6, x17_6, rfl, rfl, rfl, HA, HK6, HB⟩ := hrel
                                            cases gk with
                                            | zero => exact absurd HA.out (by simp [scarfref03_reckon.l0])
                                            | succ k6 =>
                                              have H := HA.out
                                              clear HA
                                              simp only [scarfref03_reckon.l0] at H
                                              by_cases c56 : x17_6 < (Int.tmod t235 a3)
                                              · rw [if_pos c56] at H
                                                have c56b0 : decide (x17_6 < (Int.tmod t235 a3)) = true := decide_eq_true c56
                                                clear c56
                                                by_cases c57 : a0 = 10
                                                · rw [if_pos c57] at H
                                                  have c57b0 : (a0 == 10) = true := beq_iff_eq.mpr c57
                                                  have c57b1 : (a0 != 10) = false := bne_eq_false_iff_eq.mpr c57
                                                  clear c57
                                                  have H' := Aside0.mk H
                                                  clear H
                                                  go_wp2
                                                  go_roundg k6
                                                  case measure => have := HJ12.out; have := HJ29.out; have := HJ33.out; have := HJ43.out; have := HJ50.out; have := HK6.out; omega
                                                  case rel => exact ⟨(x10_6), (wrap64 (x12_6 * 2)), (wrap64 (x17_6 + 1)), (by first | rfl | (simp; done) | (simp [*]; done)), (by first | rfl | (simp; done) | (simp [*]; done)), (by first | rfl | (simp; done) | (simp [*]; done)), H', ⟨by have := HJ12.out; have := HJ29.out; have := HJ33.out; have := HJ43.out; have := HJ50.out; have := HK6.out; omega⟩, ⟨by repeat (first | (with_reducible first | exact HB.out | apply below_alloc | apply pw_below_drewN | apply below_drew1) | exact HB.out)⟩⟩
                                                · rw [if_neg c57] at H
                                                  have c57b0 : (a0 == 10) = false := beq_eq_false_iff_ne.mpr c57
                                                  have c57b1 : (a0 != 10) = true := bne_iff_ne.mpr c57
                                                  by_cases c58 : a0 = 11
                                                  · rw [if_pos c58] at H
                                                    have c58b0 : (a0 == 11) = true := beq_iff_eq.mpr c58
                                                    have c58b1 : (a0 != 11) = false := bne_eq_false_iff_eq.mpr c58
                                                    clear c58
                                                    replace H := Option.bind_eq_some_iff.mp H
                                                    obtain ⟨t242, A590, H⟩ := H
                                                    replace H : (scarfref03_reckon.l0 k6 a0 (wrap64 (Int.tdiv (wrap64 (x10_6 - t242)) 2)) (wrap64 (Int.tdiv (wrap64 (x10_6 - t242)) 2)) (Int.tmod t235 a3) (wrap64 (x17_6 + 1))) = some (r1, r2) := H
                                                    have A59 := Aside0.mk A590
                                                    clear A590
                                                    have H' := Aside0.mk H
                                                    clear H
                                                    go_wp2_with (first | ((with_reducible refine gate_callee (f := 37) rfl ?_); refine goesL_ (some 135) rfl rfl Tryd.func37 (by kernel_rfl) rfl #[.int .i64 x10_6, .int .i64 0] rfl (by (try simp only [List.map_toArray, List.map_cons, List.map_nil]); first | done | rfl | (simp only [List.length_drop, List.length_take]; rfl)) ?_; (with_reducible refine (scarfref03_bit.calls x10_6 0 t242 _ A59.out).mono ?_); rintro e w' ⟨rfl, ⟨nd, rfl⟩⟩; refine ⟨_, rfl, ?_⟩))
                                                    go_roundg k6
                                                    case measure => have := HJ12.out; have := HJ29.out; have := HJ33.out; have := HJ43.out; have := HJ50.out; have := HK6.out; omega
                                                    case rel => exact ⟨(wrap64 (Int.tdiv (wrap64 (x10_6 - t242)) 2)), (wrap64 (Int.tdiv (wrap64 (x10_6 - t242)) 2)), (wrap64 (x17_6 + 1)), (by first | rfl | (simp; done) | (simp [*]; done)), (by first | rfl | (simp; done) | (simp [*]; done)), (by first | rfl | (simp; done) | (simp [*]; done)), H', ⟨by have := HJ12.out; have := HJ29.out; have := HJ33.out; have := HJ43.out; have := HJ50.out; have := HK6.out; omega⟩, ⟨by repeat (first | (with_reducible first | exact HB.out | apply below_alloc | apply pw_below_drewN | apply below_drew1) | exact HB.out)⟩⟩
                                                  · rw [if_neg c58] at H
                                                    have c58b0 : (a0 == 11) = false := beq_eq_false_iff_ne.mpr c58
                                                    have c58b1 : (a0 != 11) = true := bne_iff_ne.mpr c58
                                                    replace H := Option.bind_eq_some_iff.mp H
                                                    obtain ⟨t243, A600, H⟩ := H
                                                    replace H : (if t243.length < 17592186044416 then ((some (t243 ++ [0] : List Int)).bind fun y246 => (if 1 ≤ (y246.length : Int) then ((scarfref03_from.f k6 (y246.drop 1)).bind fun t253 => (scarfref03_reckon.l0 k6 a0 x10_6 t253 (Int.tmod t235 a3) (wrap64 (x17_6 + 1)))) else (none))) else (none)) = some (r1, r2) := H
                                                    have A60 := Aside0.mk A600
                                                    clear A600
                                                    by_cases c61 : t243.length < 17592186044416
                                                    · rw [if_pos c61] at H
                                                      have LMc61 := Aside0.mk c61
                                                      clear c61
                                                      obtain ⟨y246, hy246⟩ : ∃ y_ : List Int, y_ = (t243 ++ [0]) := ⟨_, rfl⟩
                                                      replace H : (if 1 ≤ (y246.length : Int) then ((scarfref03_from.f k6 (y246.drop 1)).bind fun t253 => (scarfref03_reckon.l0 k6 a0 x10_6 t253 (Int.tmod t235 a3) (wrap64 (x17_6 + 1)))) else (none)) = some (r1, r2) := by first | (rw [hy246]; with_reducible exact H) | (have H2_ := (Option.bind_some _ _).symm.trans H; rw [hy246]; with_reducible exact H2_) | (have H2_ := (Option.bind_some _ _).symm.trans H; with_reducible exact H2_) | with_reducible exact H | (rw [hy246]; exact H) | exact H
                                                      have Ny246 := Aside0.mk hy246
                                                      clear hy246
                                                      by_cases c62 : 1 ≤ (y246.length : Int)
                                                      · rw [if_pos c62] at H
                                                        have c62b0 := eq_true c62
                                                        have c62b1 : decide (1 ≤ (y246.length : Int)) = true := decide_eq_true c62
                                                        clear c62
                                                        obtain ⟨y249, hy249⟩ : ∃ y_ : List Int, y_ = (y246.drop 1) := ⟨_, rfl⟩
                                                        replace H : ((scarfref03_from.f k6 y249).bind fun t253 => (scarfref03_reckon.l0 k6 a0 x10_6 t253 (Int.tmod t235 a3) (wrap64 (x17_6 + 1)))) = some (r1, r2) := by first | (rw [hy249]; with_reducible exact H) | (have H2_ := (Option.bind_some _ _).symm.trans H; rw [hy249]; with_reducible exact H2_) | (have H2_ := (Option.bind_some _ _).symm.trans H; with_reducible exact H2_) | with_reducible exact H | (rw [hy249]; exact H) | exact H
                                                        have Ny249 := Aside0.mk hy249
                                                        clear hy249
                                                        replace H := Option.bind_eq_some_iff.mp H
                                                        obtain ⟨t253, A630, H⟩ := H
                                                        replace H : (scarfref03_reckon.l0 k6 a0 x10_6 t253 (Int.tmod t235 a3) (wrap64 (x17_6 + 1))) = some (r1, r2) := H
                                                        have A63 := Aside0.mk A630
                                                        clear A630
                                                        have H' := Aside0.mk H
                                                        clear H
                                                        go_wp2_with (first | ((with_reducible refine gate_callee (f := 28) rfl ?_); refine goesL_ (some 140) rfl rfl Tryd.func28 (by kernel_rfl) rfl #[.int .i64 x12_6, .int .i64 64] rfl (by (try simp only [List.map_toArray, List.map_cons, List.map_nil]); first | done | rfl | (simp only [List.length_drop, List.length_take]; rfl)) ?_; (with_reducible refine (scarfref03_list.calls k6 x12_6 64 t243 _ A60.out).mono ?_); rintro e w64 ⟨v244, rfl, ho0, hb⟩; refine ⟨_, rfl, ?_⟩; have n0_ := Aside0.mk (Kd.R_lower ho0 (below_size (by repeat (first | (with_reducible first | exact HB.out | apply below_alloc | apply pw_below_drewN | apply below_drew1) | exact HB.out)))); have n1_ := Aside0.mk (below_step (by repeat (first | (with_reducible first | exact HB.out | apply below_alloc | apply pw_below_drewN | apply below_drew1) | exact HB.out)) hb); clear HB; have HO245 := n0_; have HB := n1_; clear n0_ n1_; (try clear hb); (try clear hb2); (try clear hk); (try clear hi); (try clear ho0)) | ((with_reducible refine gate_builtin (b := .append) (xs := #[.tmp 141, .tmp 142]) rfl ?_); at_builtin; refine Kd.R_append (Kd.int .i64) (w0 := w) w.heap.size rfl (.tmp 141) (.tmp 142) 44 3 (.int .i64 0) 8 rfl Tryd.underlying44 info3 rfl (by decide) (by omega) v244 t243 0 [.int .i64 0] (fun _ => True) (fun _ => False) rfl rfl ?aP (fun _ hk => hk.elim) ?aF ?aO ?aB ?aS ?aL ?_; (case aP => exact rfl); (case aB => exact (by repeat (first | (with_reducible first | exact HB.out | apply below_alloc | apply pw_below_drewN | apply below_drew1) | exact HB.out))); (case aF => exact (fun _ _ => trivial)); (case aO => exact (by (with_reducible repeat (first | apply Kd.R_alloc | apply Kd.R_drewN | apply Kd.R_drew)); exact HO245.out)); (case aS => exact (below_size (by repeat (first | (with_reducible first | exact HB.out | apply below_alloc | apply pw_below_drewN | apply below_drew1) | exact HB.out)))); (case aL => have := LMc61.out; omega); intro v247 w65 ho hb hg hat; rw [← Ny246.out] at ho; have n0_ := Aside0.mk (hb); have n1_ := Aside0.mk (ho); clear HB; clear HO245; have HB := n0_; have HO248 := n1_; clear n0_ n1_; clear ho hb hg hat; obtain ⟨Ao67, co67, eo67⟩ := Kd.R_slice HO248.out; subst eo67; have q66 : (1 : Int) ≤ ((y246.length : Int) : Int) := of_decide_eq_true (by first | (with_reducible assumption) | assumption); obtain ⟨i066, hi066, _, hsz66, _⟩ := info_parts info3; have hroom66 : y246.length ≤ co67 := (Kd.R_reads' HO248.out).2.1; have hC66 : Kd.C (Kd.int .i64) _ Ao67 y246.length y246 := (Kd.R_reads' HO248.out).2.2; have hcut66 := cut_from (P := Tryd.prog) 44 3 .i64 Tryd.underlying44 hi066 1 hsz66 Ao67 y246.length co67 1 (by omega) q66; have hr66 := Kd.C_drop (m := (1 : Int).toNat) (c := co67) hC66 (by omega) hroom66; obtain ⟨A66, hA66⟩ : ∃ A1, A1 = (if co67 = (1 : Int).toNat then Ao67 else (Ao67 : Option Addr).map (·.add ((1 : Int).toNat * 1))) := ⟨_, rfl⟩; obtain ⟨c66, hc66⟩ : ∃ c1, c1 = co67 - (1 : Int).toNat := ⟨_, rfl⟩; have hy66 : y249.length = y246.length - (1 : Int).toNat := (by rw [Ny249.out, List.length_drop] <;> omega); rw [show (y246).drop (1 : Int).toNat = y249 from Ny249.out.symm] at hr66; replace hr66 : Kd.C (Kd.int .i64) _ A66 y249.length y249 := (by rw [hA66]; exact hr66); rw [← hy66, ← hA66, ← hc66] at hcut66; have HR252 := Aside0.mk hr66; have HC252 := Aside0.mk (show y249.length ≤ c66 from by rw [hy66, hc66]; exact Nat.sub_le_sub_right hroom66 _); clear hr66 hC66 hroom66 hi066 hsz66 hc66; have KY66 := Aside0.mk hy66; have KA66 := Aside0.mk hA66; clear hy66 hA66; have KL66 := Aside0.mk (show 1 ≤ y246.length from by omega); replace q66 := eq_true q66) | ((with_reducible refine gate_callee (f := 27) rfl ?_); refine goesL_ (some 146) rfl rfl Tryd.func27 (by kernel_rfl) rfl #[.slice A66 y249.length c66] rfl (by (try simp only [List.map_toArray, List.map_cons, List.map_nil]); first | done | rfl | (simp only [List.length_drop, List.length_take]; rfl)) ?_; (with_reducible refine (scarfref03_from.calls k6 _ _ y249 t253 _ ?side1 ?side2 A63.out).mono ?_); (case side1 => repeat (first | exact (by repeat (first | (with_reducible exact HR252.out) | (with_reducible refine Kd.C_alloc ?_ _) | (with_reducible refine Kd.C_drewN ?_ _) | (with_reducible refine Kd.C_drew ?_) | exact HR252.out)) | (with_reducible refine Kd.C_alloc ?_ _) | (with_reducible refine Kd.C_drewN ?_ _) | (with_reducible refine Kd.C_drew ?_))); (case side2 => exact HC252.out); rintro e w' ⟨rfl, ⟨nd, rfl⟩⟩; refine ⟨_, rfl, ?_⟩))
                                                        go_roundg k6
                                                        case measure => have := HJ12.out; have := HJ29.out; have := HJ33.out; have := HJ43.out; have := HJ50.out; have := HK6.out; omega
                                                        case rel => exact ⟨(x10_6), (t253), (wrap64 (x17_6 + 1)), (by first | rfl | (simp; done) | (simp [*]; done)), (by first | rfl | (simp; done) | (simp [*]; done)), (by first | rfl | (simp; done) | (simp [*]; done)), H', ⟨by have := HJ12.out; have := HJ29.out; have := HJ33.out; have := HJ43.out; have := HJ50.out; have := HK6.out; omega⟩, ⟨by repeat (first | (with_reducible first | exact HB.out | apply below_alloc | apply pw_below_drewN | apply below_drew1) | exact HB.out)⟩⟩
                                                      · rw [if_neg c62] at H
                                                        exact absurd H (by simp)
                                                    · rw [if_neg c61] at H
                                                      exact absurd H (by simp)
                                              · rw [if_neg c56] at H
                                                have c56b0 : decide (x17_6 < (Int.tmod t235 a3)) = false := decide_eq_false c56
                                                clear c56
                                                simp only [Option.some.injEq, Prod.mk.injEq] at H
                                                obtain ⟨rfl, rfl⟩ := H
                                                go_wp2
                                                go_ret2
                                                exact ⟨by first | rfl | (simp [errW_none, errW_some] <;> rfl) | (simp [*, errW_none, errW_some] <;> rfl), by repeat (first | (with_reducible first | exact HB.out | apply below_alloc | apply pw_below_drewN | apply below_drew1) | exact HB.out)⟩

end Go.Proofs.YtpoapiphnhmdmaaDoor.PA
