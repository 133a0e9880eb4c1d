-- Laid by this session's wip/hp/hp.py: the kit's print with own contracts for what it does not take
import Derived.Test.YtpoapiphnhmdmaaDoorPAx0
import Derived.Test.YtpoapiphnhmdmaaDoorPAx2
import Derived.Test.YtpoapiphnhmdmaaDoorPAx3
import Derived.Test.YtpoapiphnhmdmaaDoorPAx6
import Derived.Test.YtpoapiphnhmdmaaDoorPAx7
namespace Go.Proofs.YtpoapiphnhmdmaaDoor.PA
open Go.RowKit Go.Proofs.YtpoapiphnhmdmaaDoorW.PrintWords Go.Proofs.YtpoapiphnhmdmaaDoorW.PrintLast Go.Proofs.YtpoapiphnhmdmaaDoorW.PrintMore
attribute [local go_sem] max2_int min2_int max_two min_two max_three min_three max_four min_four   -- for this text's walks alone
set_option linter.unusedVariables false
set_option linter.unusedSimpArgs false

/-! ### scarfref03_Un: function 17 -/
mutual
def scarfref03_Un.j0 : Nat → Int → Int → Int → Int → Option (Int × Bool)
  | 0, _, _, _, _ => none
  | k + 1, x0, x1, x8, x9 => if x0 = 69 then (scarfref03_Un.j1 k x1 x8 x9 0 x0 (x0 == 69)) else (scarfref03_Un.j1 k x1 x8 x9 0 x0 (x0 == 80))
def scarfref03_Un.j1 : Nat → Int → Int → Int → Int → Int → Bool → Option (Int × Bool)
  | 0, _, _, _, _, _, _ => none
  | k + 1, x1, x8, x9, x10, x23, x26 => if x26 = true then ((scarfref03_list.f k x1 x9).bind fun t185 => ((scarfref03_from.f k t185).bind fun t188 => ((scarfref03_one.f (t188 == 0)).bind fun t189 => (if x8 = 127 then ((scarfref03_U32.f t189).bind fun t190 => (some (t190, true))) else (some (t189, true)))))) else (if x23 = 103 then (scarfref03_Un.j2 k x1 x8 x9 x10 x23 (x23 == 103)) else (scarfref03_Un.j2 k x1 x8 x9 x10 x23 (x23 == 121)))
def scarfref03_Un.j2 : Nat → Int → Int → Int → Int → Int → Bool → Option (Int × Bool)
  | 0, _, _, _, _, _, _ => none
  | k + 1, x1, x8, x9, x10, x23, x35 => if x35 = true then ((scarfref03_zeros.f k x1 x9 false).bind fun t191 => (if x8 = 127 then ((scarfref03_U32.f t191).bind fun t192 => (some (t192, true))) else (some (t191, true)))) else (if x23 = 104 then (scarfref03_Un.j3 k x1 x8 x9 x10 x23 (x23 == 104)) else (scarfref03_Un.j3 k x1 x8 x9 x10 x23 (x23 == 122)))
def scarfref03_Un.j3 : Nat → Int → Int → Int → Int → Int → Bool → Option (Int × Bool)
  | 0, _, _, _, _, _, _ => none
  | k + 1, x1, x8, x9, x10, x23, x41 => if x41 = true then ((scarfref03_zeros.f k x1 x9 true).bind fun t193 => (if x8 = 127 then ((scarfref03_U32.f t193).bind fun t194 => (some (t194, true))) else (some (t193, true)))) else (if x23 = 105 then (scarfref03_Un.j4 k x1 x8 x9 x10 x23 (x23 == 105)) else (scarfref03_Un.j4 k x1 x8 x9 x10 x23 (x23 == 123)))
def scarfref03_Un.j4 : Nat → Int → Int → Int → Int → Int → Bool → Option (Int × Bool)
  | 0, _, _, _, _, _, _ => none
  | k + 1, x1, x8, x9, x10, x23, x47 => if x47 = true then ((scarfref03_list.f k x1 x9).bind fun t195 => (scarfref03_Un.l0 k x8 x9 x10 t195 0)) else (if x23 = 167 then (scarfref03_Un.j6 k x1 x8 x23 (x23 == 167)) else (scarfref03_Un.j6 k x1 x8 x23 (x23 == 173)))
def scarfref03_Un.l0 : Nat → Int → Int → Int → List Int → Int → Option (Int × Bool)
  | 0, _, _, _, _, _ => none
  | k + 1, x8, x9, x10, x11, x12 => if x12 < x9 then (if 0 ≤ x12 then (if x12 < (x11.length : Int) then (scarfref03_Un.l0 k x8 x9 (wrap64 (x10 + (rd x11 x12))) x11 (wrap64 (x12 + 1))) else (none)) else (none)) else (if x8 = 127 then ((scarfref03_U32.f x10).bind fun t199 => (some (t199, true))) else (some (x10, true)))
def scarfref03_Un.j6 : Nat → Int → Int → Int → Bool → Option (Int × Bool)
  | 0, _, _, _, _ => none
  | k + 1, x1, x8, x23, x64 => if x64 = true then ((scarfref03_U32.f x1).bind fun t200 => (if x8 = 127 then ((scarfref03_U32.f t200).bind fun t201 => (some (t201, true))) else (some (t200, true)))) else (if x23 = 172 then (scarfref03_Un.j7 k x1 x8 x23 (x23 == 172)) else (scarfref03_Un.j7 k x1 x8 x23 (x23 == 196)))
def scarfref03_Un.j7 : Nat → Int → Int → Int → Bool → Option (Int × Bool)
  | 0, _, _, _, _ => none
  | k + 1, x1, x8, x23, x69 => if x69 = true then ((scarfref03_S32.f x1).bind fun t202 => (if x8 = 127 then ((scarfref03_U32.f t202).bind fun t203 => (some (t203, true))) else (some (t202, true)))) else (if x23 = 192 then (scarfref03_Un.j8 k x1 x8 (x23 == 192)) else (scarfref03_Un.j8 k x1 x8 (x23 == 194)))
def scarfref03_Un.j8 : Nat → Int → Int → Bool → Option (Int × Bool)
  | 0, _, _, _ => none
  | k + 1, x1, x8, x74 => if x74 = true then ((scarfref03_signed.f k x1 8).bind fun t204 => (if x8 = 127 then ((scarfref03_U32.f t204).bind fun t205 => (some (t205, true))) else (some (t204, true)))) else ((scarfref03_signed.f k x1 16).bind fun t206 => (if x8 = 127 then ((scarfref03_U32.f t206).bind fun t207 => (some (t207, true))) else (some (t206, true))))
end
def scarfref03_Un.f (k : Nat) (a0 : Int) (a1 : Int) : Option (Int × Bool) := (scarfref03_Sig.f k a0).bind fun bt182 => (if bt182.1 = 1 then (if bt182.2.1 = 126 then (scarfref03_Un.j0 k a0 a1 bt182.2.2 64) else (scarfref03_Un.j0 k a0 a1 bt182.2.2 32)) else (some (0, false)))
theorem scarfref03_Un.mono_l : ∀ k, (∀ y0 y1 y2 y3, LeO (scarfref03_Un.j0 k y0 y1 y2 y3) (scarfref03_Un.j0 (k + 1) y0 y1 y2 y3)) ∧ (∀ y0 y1 y2 y3 y4 y5, LeO (scarfref03_Un.j1 k y0 y1 y2 y3 y4 y5) (scarfref03_Un.j1 (k + 1) y0 y1 y2 y3 y4 y5)) ∧ (∀ y0 y1 y2 y3 y4 y5, LeO (scarfref03_Un.j2 k y0 y1 y2 y3 y4 y5) (scarfref03_Un.j2 (k + 1) y0 y1 y2 y3 y4 y5)) ∧ (∀ y0 y1 y2 y3 y4 y5, LeO (scarfref03_Un.j3 k y0 y1 y2 y3 y4 y5) (scarfref03_Un.j3 (k + 1) y0 y1 y2 y3 y4 y5)) ∧ (∀ y0 y1 y2 y3 y4 y5, LeO (scarfref03_Un.j4 k y0 y1 y2 y3 y4 y5) (scarfref03_Un.j4 (k + 1) y0 y1 y2 y3 y4 y5)) ∧ (∀ y0 y1 y2 y3 y4, LeO (scarfref03_Un.l0 k y0 y1 y2 y3 y4) (scarfref03_Un.l0 (k + 1) y0 y1 y2 y3 y4)) ∧ (∀ y0 y1 y2 y3, LeO (scarfref03_Un.j6 k y0 y1 y2 y3) (scarfref03_Un.j6 (k + 1) y0 y1 y2 y3)) ∧ (∀ y0 y1 y2 y3, LeO (scarfref03_Un.j7 k y0 y1 y2 y3) (scarfref03_Un.j7 (k + 1) y0 y1 y2 y3)) ∧ (∀ y0 y1 y2, LeO (scarfref03_Un.j8 k y0 y1 y2) (scarfref03_Un.j8 (k + 1) y0 y1 y2))
  | 0 => ⟨fun _ _ _ _ r h => by simp [scarfref03_Un.j0] at h, fun _ _ _ _ _ _ r h => by simp [scarfref03_Un.j1] at h, fun _ _ _ _ _ _ r h => by simp [scarfref03_Un.j2] at h, fun _ _ _ _ _ _ r h => by simp [scarfref03_Un.j3] at h, fun _ _ _ _ _ _ r h => by simp [scarfref03_Un.j4] at h, fun _ _ _ _ _ r h => by simp [scarfref03_Un.l0] at h, fun _ _ _ _ r h => by simp [scarfref03_Un.j6] at h, fun _ _ _ _ r h => by simp [scarfref03_Un.j7] at h, fun _ _ _ r h => by simp [scarfref03_Un.j8] at h⟩
  | k + 1 => by
    obtain ⟨ih0, ih1, ih2, ih3, ih4, ih5, ih6, ih7, ih8⟩ := scarfref03_Un.mono_l k
    refine ⟨?_, ?_, ?_, ?_, ?_, ?_, ?_, ?_, ?_⟩
    · intro y0 y1 y2 y3
      unfold scarfref03_Un.j0
      repeat' first
      | (with_reducible exact ih0 _ _ _ _)
      | (with_reducible exact ih1 _ _ _ _ _ _)
      | (with_reducible exact ih2 _ _ _ _ _ _)
      | (with_reducible exact ih3 _ _ _ _ _ _)
      | (with_reducible exact ih4 _ _ _ _ _ _)
      | (with_reducible exact ih5 _ _ _ _ _)
      | (with_reducible exact ih6 _ _ _ _)
      | (with_reducible exact ih7 _ _ _ _)
      | (with_reducible exact ih8 _ _ _)
      | (with_reducible exact scarfref03_Sig.mono _ _)
      | (with_reducible exact scarfref03_from.mono _ _)
      | (with_reducible exact scarfref03_list.mono _ _ _)
      | (with_reducible exact scarfref03_signed.mono _ _ _)
      | (with_reducible exact scarfref03_zeros.mono _ _ _ _)
      | (with_reducible exact LeO.refl _)
      | (with_reducible exact LeO.none _)
      | (with_reducible refine LeO.ite ?_ ?_)
      | (with_reducible refine LeO.bind ?_ (fun _ => ?_))
      | exact ih0 _ _ _ _
      | exact ih1 _ _ _ _ _ _
      | exact ih2 _ _ _ _ _ _
      | exact ih3 _ _ _ _ _ _
      | exact ih4 _ _ _ _ _ _
      | exact ih5 _ _ _ _ _
      | exact ih6 _ _ _ _
      | exact ih7 _ _ _ _
      | exact ih8 _ _ _
      | exact scarfref03_Sig.mono _ _
      | exact scarfref03_from.mono _ _
      | exact scarfref03_list.mono _ _ _
      | exact scarfref03_signed.mono _ _ _
      | exact scarfref03_zeros.mono _ _ _ _
      | exact LeO.none _
      | refine LeO.ite ?_ ?_
      | refine LeO.bind ?_ (fun _ => ?_)
    · intro y0 y1 y2 y3 y4 y5
      unfold scarfref03_Un.j1
      repeat' first
      | (with_reducible exact ih0 _ _ _ _)
      | (with_reducible exact ih1 _ _ _ _ _ _)
      | (with_reducible exact ih2 _ _ _ _ _ _)
      | (with_reducible exact ih3 _ _ _ _ _ _)
      | (with_reducible exact ih4 _ _ _ _ _ _)
      | (with_reducible exact ih5 _ _ _ _ _)
      | (with_reducible exact ih6 _ _ _ _)
      | (with_reducible exact ih7 _ _ _ _)
      | (with_reducible exact ih8 _ _ _)
      | (with_reducible exact scarfref03_Sig.mono _ _)
      | (with_reducible exact scarfref03_from.mono _ _)
      | (with_reducible exact scarfref03_list.mono _ _ _)
      | (with_reducible exact scarfref03_signed.mono _ _ _)
      | (with_reducible exact scarfref03_zeros.mono _ _ _ _)
      | (with_reducible exact LeO.refl _)
      | (with_reducible exact LeO.none _)
      | (with_reducible refine LeO.ite ?_ ?_)
      | (with_reducible refine LeO.bind ?_ (fun _ => ?_))
      | exact ih0 _ _ _ _
      | exact ih1 _ _ _ _ _ _
      | exact ih2 _ _ _ _ _ _
      | exact ih3 _ _ _ _ _ _
      | exact ih4 _ _ _ _ _ _
      | exact ih5 _ _ _ _ _
      | exact ih6 _ _ _ _
      | exact ih7 _ _ _ _
      | exact ih8 _ _ _
      | exact scarfref03_Sig.mono _ _
      | exact scarfref03_from.mono _ _
      | exact scarfref03_list.mono _ _ _
      | exact scarfref03_signed.mono _ _ _
      | exact scarfref03_zeros.mono _ _ _ _
      | exact LeO.none _
      | refine LeO.ite ?_ ?_
      | refine LeO.bind ?_ (fun _ => ?_)
    · intro y0 y1 y2 y3 y4 y5
      unfold scarfref03_Un.j2
      repeat' first
      | (with_reducible exact ih0 _ _ _ _)
      | (with_reducible exact ih1 _ _ _ _ _ _)
      | (with_reducible exact ih2 _ _ _ _ _ _)
      | (with_reducible exact ih3 _ _ _ _ _ _)
      | (with_reducible exact ih4 _ _ _ _ _ _)
      | (with_reducible exact ih5 _ _ _ _ _)
      | (with_reducible exact ih6 _ _ _ _)
      | (with_reducible exact ih7 _ _ _ _)
      | (with_reducible exact ih8 _ _ _)
      | (with_reducible exact scarfref03_Sig.mono _ _)
      | (with_reducible exact scarfref03_from.mono _ _)
      | (with_reducible exact scarfref03_list.mono _ _ _)
      | (with_reducible exact scarfref03_signed.mono _ _ _)
      | (with_reducible exact scarfref03_zeros.mono _ _ _ _)
      | (with_reducible exact LeO.refl _)
      | (with_reducible exact LeO.none _)
      | (with_reducible refine LeO.ite ?_ ?_)
      | (with_reducible refine LeO.bind ?_ (fun _ => ?_))
      | exact ih0 _ _ _ _
      | exact ih1 _ _ _ _ _ _
      | exact ih2 _ _ _ _ _ _
      | exact ih3 _ _ _ _ _ _
      | exact ih4 _ _ _ _ _ _
      | exact ih5 _ _ _ _ _
      | exact ih6 _ _ _ _
      | exact ih7 _ _ _ _
      | exact ih8 _ _ _
      | exact scarfref03_Sig.mono _ _
      | exact scarfref03_from.mono _ _
      | exact scarfref03_list.mono _ _ _
      | exact scarfref03_signed.mono _ _ _
      | exact scarfref03_zeros.mono _ _ _ _
      | exact LeO.none _
      | refine LeO.ite ?_ ?_
      | refine LeO.bind ?_ (fun _ => ?_)
    · intro y0 y1 y2 y3 y4 y5
      unfold scarfref03_Un.j3
      repeat' first
      | (with_reducible exact ih0 _ _ _ _)
      | (with_reducible exact ih1 _ _ _ _ _ _)
      | (with_reducible exact ih2 _ _ _ _ _ _)
      | (with_reducible exact ih3 _ _ _ _ _ _)
      | (with_reducible exact ih4 _ _ _ _ _ _)
      | (with_reducible exact ih5 _ _ _ _ _)
      | (with_reducible exact ih6 _ _ _ _)
      | (with_reducible exact ih7 _ _ _ _)
      | (with_reducible exact ih8 _ _ _)
      | (with_reducible exact scarfref03_Sig.mono _ _)
      | (with_reducible exact scarfref03_from.mono _ _)
      | (with_reducible exact scarfref03_list.mono _ _ _)
      | (with_reducible exact scarfref03_signed.mono _ _ _)
      | (with_reducible exact scarfref03_zeros.mono _ _ _ _)
      | (with_reducible exact LeO.refl _)
      | (with_reducible exact LeO.none _)
      | (with_reducible refine LeO.ite ?_ ?_)
      | (with_reducible refine LeO.bind ?_ (fun _ => ?_))
      | exact ih0 _ _ _ _
      | exact ih1 _ _ _ _ _ _
      | exact ih2 _ _ _ _ _ _
      | exact ih3 _ _ _ _ _ _
      | exact ih4 _ _ _ _ _ _
      | exact ih5 _ _ _ _ _
      | exact ih6 _ _ _ _
      | exact ih7 _ _ _ _
      | exact ih8 _ _ _
      | exact scarfref03_Sig.mono _ _
      | exact scarfref03_from.mono _ _
      | exact scarfref03_list.mono _ _ _
      | exact scarfref03_signed.mono _ _ _
      | exact scarfref03_zeros.mono _ _ _ _
      | exact LeO.none _
      | refine LeO.ite ?_ ?_
      | refine LeO.bind ?_ (fun _ => ?_)
    · intro y0 y1 y2 y3 y4 y5
      unfold scarfref03_Un.j4
      repeat' first
      | (with_reducible exact ih0 _ _ _ _)
      | (with_reducible exact ih1 _ _ _ _ _ _)
      | (with_reducible exact ih2 _ _ _ _ _ _)
      | (with_reducible exact ih3 _ _ _ _ _ _)
      | (with_reducible exact ih4 _ _ _ _ _ _)
      | (with_reducible exact ih5 _ _ _ _ _)
      | (with_reducible exact ih6 _ _ _ _)
      | (with_reducible exact ih7 _ _ _ _)
      | (with_reducible exact ih8 _ _ _)
      | (with_reducible exact scarfref03_Sig.mono _ _)
      | (with_reducible exact scarfref03_from.mono _ _)
      | (with_reducible exact scarfref03_list.mono _ _ _)
      | (with_reducible exact scarfref03_signed.mono _ _ _)
      | (with_reducible exact scarfref03_zeros.mono _ _ _ _)
      | (with_reducible exact LeO.refl _)
      | (with_reducible exact LeO.none _)
      | (with_reducible refine LeO.ite ?_ ?_)
      | (with_reducible refine LeO.bind ?_ (fun _ => ?_))
      | exact ih0 _ _ _ _
      | exact ih1 _ _ _ _ _ _
      | exact ih2 _ _ _ _ _ _
      | exact ih3 _ _ _ _ _ _
      | exact ih4 _ _ _ _ _ _
      | exact ih5 _ _ _ _ _
      | exact ih6 _ _ _ _
      | exact ih7 _ _ _ _
      | exact ih8 _ _ _
      | exact scarfref03_Sig.mono _ _
      | exact scarfref03_from.mono _ _
      | exact scarfref03_list.mono _ _ _
      | exact scarfref03_signed.mono _ _ _
      | exact scarfref03_zeros.mono _ _ _ _
      | exact LeO.none _
      | refine LeO.ite ?_ ?_
      | refine LeO.bind ?_ (fun _ => ?_)
    · intro y0 y1 y2 y3 y4
      unfold scarfref03_Un.l0
      repeat' first
      | (with_reducible exact ih0 _ _ _ _)
      | (with_reducible exact ih1 _ _ _ _ _ _)
      | (with_reducible exact ih2 _ _ _ _ _ _)
      | (with_reducible exact ih3 _ _ _ _ _ _)
      | (with_reducible exact ih4 _ _ _ _ _ _)
      | (with_reducible exact ih5 _ _ _ _ _)
      | (with_reducible exact ih6 _ _ _ _)
      | (with_reducible exact ih7 _ _ _ _)
      | (with_reducible exact ih8 _ _ _)
      | (with_reducible exact scarfref03_Sig.mono _ _)
      | (with_reducible exact scarfref03_from.mono _ _)
      | (with_reducible exact scarfref03_list.mono _ _ _)
      | (with_reducible exact scarfref03_signed.mono _ _ _)
      | (with_reducible exact scarfref03_zeros.mono _ _ _ _)
      | (with_reducible exact LeO.refl _)
      | (with_reducible exact LeO.none _)
      | (with_reducible refine LeO.ite ?_ ?_)
      | (with_reducible refine LeO.bind ?_ (fun _ => ?_))
      | exact ih0 _ _ _ _
      | exact ih1 _ _ _ _ _ _
      | exact ih2 _ _ _ _ _ _
      | exact ih3 _ _ _ _ _ _
      | exact ih4 _ _ _ _ _ _
      | exact ih5 _ _ _ _ _
      | exact ih6 _ _ _ _
      | exact ih7 _ _ _ _
      | exact ih8 _ _ _
      | exact scarfref03_Sig.mono _ _
      | exact scarfref03_from.mono _ _
      | exact scarfref03_list.mono _ _ _
      | exact scarfref03_signed.mono _ _ _
      | exact scarfref03_zeros.mono _ _ _ _
      | exact LeO.none _
      | refine LeO.ite ?_ ?_
      | refine LeO.bind ?_ (fun _ => ?_)
    · intro y0 y1 y2 y3
      unfold scarfref03_Un.j6
      repeat' first
      | (with_reducible exact ih0 _ _ _ _)
      | (with_reducible exact ih1 _ _ _ _ _ _)
      | (with_reducible exact ih2 _ _ _ _ _ _)
      | (with_reducible exact ih3 _ _ _ _ _ _)
      | (with_reducible exact ih4 _ _ _ _ _ _)
      | (with_reducible exact ih5 _ _ _ _ _)
      | (with_reducible exact ih6 _ _ _ _)
      | (with_reducible exact ih7 _ _ _ _)
      | (with_reducible exact ih8 _ _ _)
      | (with_reducible exact scarfref03_Sig.mono _ _)
      | (with_reducible exact scarfref03_from.mono _ _)
      | (with_reducible exact scarfref03_list.mono _ _ _)
      | (with_reducible exact scarfref03_signed.mono _ _ _)
      | (with_reducible exact scarfref03_zeros.mono _ _ _ _)
      | (with_reducible exact LeO.refl _)
      | (with_reducible exact LeO.none _)
      | (with_reducible refine LeO.ite ?_ ?_)
      | (with_reducible refine LeO.bind ?_ (fun _ => ?_))
      | exact ih0 _ _ _ _
      | exact ih1 _ _ _ _ _ _
      | exact ih2 _ _ _ _ _ _
      | exact ih3 _ _ _ _ _ _
      | exact ih4 _ _ _ _ _ _
      | exact ih5 _ _ _ _ _
      | exact ih6 _ _ _ _
      | exact ih7 _ _ _ _
      | exact ih8 _ _ _
      | exact scarfref03_Sig.mono _ _
      | exact scarfref03_from.mono _ _
      | exact scarfref03_list.mono _ _ _
      | exact scarfref03_signed.mono _ _ _
      | exact scarfref03_zeros.mono _ _ _ _
      | exact LeO.none _
      | refine LeO.ite ?_ ?_
      | refine LeO.bind ?_ (fun _ => ?_)
    · intro y0 y1 y2 y3
      unfold scarfref03_Un.j7
      repeat' first
      | (with_reducible exact ih0 _ _ _ _)
      | (with_reducible exact ih1 _ _ _ _ _ _)
      | (with_reducible exact ih2 _ _ _ _ _ _)
      | (with_reducible exact ih3 _ _ _ _ _ _)
      | (with_reducible exact ih4 _ _ _ _ _ _)
      | (with_reducible exact ih5 _ _ _ _ _)
      | (with_reducible exact ih6 _ _ _ _)
      | (with_reducible exact ih7 _ _ _ _)
      | (with_reducible exact ih8 _ _ _)
      | (with_reducible exact scarfref03_Sig.mono _ _)
      | (with_reducible exact scarfref03_from.mono _ _)
      | (with_reducible exact scarfref03_list.mono _ _ _)
      | (with_reducible exact scarfref03_signed.mono _ _ _)
      | (with_reducible exact scarfref03_zeros.mono _ _ _ _)
      | (with_reducible exact LeO.refl _)
      | (with_reducible exact LeO.none _)
      | (with_reducible refine LeO.ite ?_ ?_)
      | (with_reducible refine LeO.bind ?_ (fun _ => ?_))
      | exact ih0 _ _ _ _
      | exact ih1 _ _ _ _ _ _
      | exact ih2 _ _ _ _ _ _
      | exact ih3 _ _ _ _ _ _
      | exact ih4 _ _ _ _ _ _
      | exact ih5 _ _ _ _ _
      | exact ih6 _ _ _ _
      | exact ih7 _ _ _ _
      | exact ih8 _ _ _
      | exact scarfref03_Sig.mono _ _
      | exact scarfref03_from.mono _ _
      | exact scarfref03_list.mono _ _ _
      | exact scarfref03_signed.mono _ _ _
      | exact scarfref03_zeros.mono _ _ _ _
      | exact LeO.none _
      | refine LeO.ite ?_ ?_
      | refine LeO.bind ?_ (fun _ => ?_)
    · intro y0 y1 y2
      unfold scarfref03_Un.j8
      repeat' first
      | (with_reducible exact ih0 _ _ _ _)
      | (with_reducible exact ih1 _ _ _ _ _ _)
      | (with_reducible exact ih2 _ _ _ _ _ _)
      | (with_reducible exact ih3 _ _ _ _ _ _)
      | (with_reducible exact ih4 _ _ _ _ _ _)
      | (with_reducible exact ih5 _ _ _ _ _)
      | (with_reducible exact ih6 _ _ _ _)
      | (with_reducible exact ih7 _ _ _ _)
      | (with_reducible exact ih8 _ _ _)
      | (with_reducible exact scarfref03_Sig.mono _ _)
      | (with_reducible exact scarfref03_from.mono _ _)
      | (with_reducible exact scarfref03_list.mono _ _ _)
      | (with_reducible exact scarfref03_signed.mono _ _ _)
      | (with_reducible exact scarfref03_zeros.mono _ _ _ _)
      | (with_reducible exact LeO.refl _)
      | (with_reducible exact LeO.none _)
      | (with_reducible refine LeO.ite ?_ ?_)
      | (with_reducible refine LeO.bind ?_ (fun _ => ?_))
      | exact ih0 _ _ _ _
      | exact ih1 _ _ _ _ _ _
      | exact ih2 _ _ _ _ _ _
      | exact ih3 _ _ _ _ _ _
      | exact ih4 _ _ _ _ _ _
      | exact ih5 _ _ _ _ _
      | exact ih6 _ _ _ _
      | exact ih7 _ _ _ _
      | exact ih8 _ _ _
      | exact scarfref03_Sig.mono _ _
      | exact scarfref03_from.mono _ _
      | exact scarfref03_list.mono _ _ _
      | exact scarfref03_signed.mono _ _ _
      | exact scarfref03_zeros.mono _ _ _ _
      | exact LeO.none _
      | refine LeO.ite ?_ ?_
      | refine LeO.bind ?_ (fun _ => ?_)
theorem scarfref03_Un.mono : ∀ a0 a1 k, LeO (scarfref03_Un.f k a0 a1) (scarfref03_Un.f (k + 1) a0 a1) := by
  intro a0 a1 k
  obtain ⟨ih0, ih1, ih2, ih3, ih4, ih5, ih6, ih7, ih8⟩ := scarfref03_Un.mono_l k
  unfold scarfref03_Un.f
  repeat' first
      | (with_reducible exact ih0 _ _ _ _)
      | (with_reducible exact ih1 _ _ _ _ _ _)
      | (with_reducible exact ih2 _ _ _ _ _ _)
      | (with_reducible exact ih3 _ _ _ _ _ _)
      | (with_reducible exact ih4 _ _ _ _ _ _)
      | (with_reducible exact ih5 _ _ _ _ _)
      | (with_reducible exact ih6 _ _ _ _)
      | (with_reducible exact ih7 _ _ _ _)
      | (with_reducible exact ih8 _ _ _)
      | (with_reducible exact scarfref03_Sig.mono _ _)
      | (with_reducible exact scarfref03_from.mono _ _)
      | (with_reducible exact scarfref03_list.mono _ _ _)
      | (with_reducible exact scarfref03_signed.mono _ _ _)
      | (with_reducible exact scarfref03_zeros.mono _ _ _ _)
      | (with_reducible exact LeO.refl _)
      | (with_reducible exact LeO.none _)
      | (with_reducible refine LeO.ite ?_ ?_)
      | (with_reducible refine LeO.bind ?_ (fun _ => ?_))
      | exact ih0 _ _ _ _
      | exact ih1 _ _ _ _ _ _
      | exact ih2 _ _ _ _ _ _
      | exact ih3 _ _ _ _ _ _
      | exact ih4 _ _ _ _ _ _
      | exact ih5 _ _ _ _ _
      | exact ih6 _ _ _ _
      | exact ih7 _ _ _ _
      | exact ih8 _ _ _
      | exact scarfref03_Sig.mono _ _
      | exact scarfref03_from.mono _ _
      | exact scarfref03_list.mono _ _ _
      | exact scarfref03_signed.mono _ _ _
      | exact scarfref03_zeros.mono _ _ _ _
      | exact LeO.none _
      | refine LeO.ite ?_ ?_
      | refine LeO.bind ?_ (fun _ => ?_)
set_option maxHeartbeats 8000000 in
set_option maxRecDepth 100000 in
theorem scarfref03_Un.calls (k : Nat) (a0 : Int) (a1 : Int) (r1 : Int) (r2 : Bool) (w : World) (h : scarfref03_Un.f k a0 a1 = some (r1, r2)) :
    Calls Tryd.prog 17 #[.int .i64 a0, .int .i64 a1] w fun e w' => e = .returned (.tuple #[.int .i64 r1, .bool r2]) ∧ Below w.heap.size w w' := by
  have HB := Aside0.mk (Below.refl w.heap.size w)
  have H : ((scarfref03_Sig.f k a0).bind fun bt182 => (if bt182.1 = 1 then (if bt182.2.1 = 126 then (scarfref03_Un.j0 k a0 a1 bt182.2.2 64) else (scarfref03_Un.j0 k a0 a1 bt182.2.2 32)) else (some (0, false)))) = some (r1, r2) := h
  clear h
  replace H := Option.bind_eq_some_iff.mp H
  obtain ⟨⟨t182, t183, t184⟩, A30, H⟩ := H
  replace H : (if t182 = 1 then (if t183 = 126 then (scarfref03_Un.j0 k a0 a1 t184 64) else (scarfref03_Un.j0 k a0 a1 t184 32)) else (some (0, false))) = some (r1, r2) := H
  have A3 := Aside0.mk A30
  clear A30
  by_cases c4 : t182 = 1
  · rw [if_pos c4] at H
    have c4b0 : (t182 == 1) = true := beq_iff_eq.mpr c4
    have c4b1 : (t182 != 1) = false := bne_eq_false_iff_eq.mpr c4
    clear c4
    have HC5 := Aside0.mk H
    clear H
    go_enter Tryd.func17, Tryd.ntmps17
    go_upto_if 22 with (first | ((with_reducible refine gate_callee (f := 10) rfl ?_); refine goesL_ (some 15) rfl rfl Tryd.func10 (by kernel_rfl) rfl #[.int .i64 a0] rfl (by (try simp only [List.map_toArray, List.map_cons, List.map_nil]); first | done | rfl | (simp only [List.length_drop, List.length_take]; rfl)) ?_; (with_reducible refine (scarfref03_Sig.calls k a0 t182 t183 t184 _ A3.out).mono ?_); rintro e w' ⟨rfl, ⟨nd, rfl⟩⟩; refine ⟨_, rfl, ?_⟩))
    (try simp only [Act.put, List.setIfInBounds_toArray, List.set_cons_zero, List.set_cons_succ])
    go_cut [9] (fun v9 wc => ∃ (kq : Nat) (x9_4 : Int), v9 = .int .i64 x9_4 ∧ Aside0 (scarfref03_Un.j0 kq a0 a1 t184 x9_4 = some (r1, r2)) ∧ Aside0 (kq ≤ k) ∧ Aside0 (Below w.heap.size w wc))
    case first =>
      have H := HC5.out
      clear HC5
      by_cases c6 : t183 = 126
      · rw [if_pos c6] at H
        have c6b0 : (t183 == 126) = true := beq_iff_eq.mpr c6
        have c6b1 : (t183 != 126) = false := bne_eq_false_iff_eq.mpr c6
        clear c6
        (first | rw [c6b0] | (simp only [i64_w, i32_w]; rw [c6b0]) | skip)
        have H' := Aside0.mk H
        clear H
        go_wp2
        go_meet
        case rel => exact ⟨_, (64), (by first | rfl | (simp; done) | (simp [*]; done)), H', ⟨by first | omega | exact Nat.le_refl _⟩, ⟨by repeat (first | (with_reducible first | exact HB.out | apply below_alloc | apply pw_below_drewN | apply below_drew1) | exact HB.out)⟩⟩
      · rw [if_neg c6] at H
        have c6b0 : (t183 == 126) = false := beq_eq_false_iff_ne.mpr c6
        have c6b1 : (t183 != 126) = true := bne_iff_ne.mpr c6
        (first | rw [c6b0] | (simp only [i64_w, i32_w]; rw [c6b0]) | skip)
        have H' := Aside0.mk H
        clear H
        go_wp2
        go_meet
        case rel => exact ⟨_, (32), (by first | rfl | (simp; done) | (simp [*]; done)), H', ⟨by first | omega | exact Nat.le_refl _⟩, ⟨by repeat (first | (with_reducible first | exact HB.out | apply below_alloc | apply pw_below_drewN | apply below_drew1) | exact HB.out)⟩⟩
    case rest =>
      clear HC5
      try clear c1
      try clear p2
      try clear c4
      try clear c4b0
      try clear c4b1
      try clear c6
      try clear c6b0
      try clear c6b1
      obtain ⟨kq, x9_4, rfl, HA, HJ4, HB⟩ := hcut
      cases kq with
      | zero => exact absurd HA.out (by simp [scarfref03_Un.j0])
      | succ kj4 =>
        have H := HA.out
        clear HA
        simp only [scarfref03_Un.j0] at H
        have HC7 := Aside0.mk H
        clear H
        go_upto_if 26 with (fail)
        go_cut [26] (fun v26 wc => ∃ (kq : Nat) (x26_6 : Bool), v26 = .bool x26_6 ∧ Aside0 (scarfref03_Un.j1 kq a1 t184 x9_4 0 a0 x26_6 = some (r1, r2)) ∧ Aside0 (kq ≤ kj4) ∧ Aside0 (Below w.heap.size w wc))
        case first =>
          have H := HC7.out
          clear HC7
          by_cases c8 : a0 = 69
          · rw [if_pos c8] at H
            have c8b0 : (a0 == 69) = true := beq_iff_eq.mpr c8
            have c8b1 : (a0 != 69) = false := bne_eq_false_iff_eq.mpr c8
            clear c8
            (first | rw [c8b0] | (simp only [i64_w, i32_w]; rw [c8b0]) | skip)
            have H' := Aside0.mk H
            clear H
            go_wp2
            go_meet
            case rel => exact ⟨_, ((a0 == 69)), (by first | rfl | (simp; done) | (simp [*]; done)), H', ⟨by have := HJ4.out; first | omega | exact Nat.le_refl _⟩, ⟨by repeat (first | (with_reducible first | exact HB.out | apply below_alloc | apply pw_below_drewN | apply below_drew1) | exact HB.out)⟩⟩
          · rw [if_neg c8] at H
            have c8b0 : (a0 == 69) = false := beq_eq_false_iff_ne.mpr c8
            have c8b1 : (a0 != 69) = true := bne_iff_ne.mpr c8
            (first | rw [c8b0] | (simp only [i64_w, i32_w]; rw [c8b0]) | skip)
            have H' := Aside0.mk H
            clear H
            go_wp2
            go_meet
            case rel => exact ⟨_, ((a0 == 80)), (by first | rfl | (simp; done) | (simp [*]; done)), H', ⟨by have := HJ4.out; first | omega | exact Nat.le_refl _⟩, ⟨by repeat (first | (with_reducible first | exact HB.out | apply below_alloc | apply pw_below_drewN | apply below_drew1) | exact HB.out)⟩⟩
        case rest =>
          clear HC7
          try clear c1
          try clear p2
          try clear c4
          try clear c4b0
          try clear c4b1
          try clear c6
          try clear c6b0
          try clear c6b1
          try clear c8
          try clear c8b0
          try clear c8b1
          try clear p2
          obtain ⟨kq, x26_6, rfl, HA, HJ6, HB⟩ := hcut
          cases kq with
          | zero => exact absurd HA.out (by simp [scarfref03_Un.j1])
          | succ kj6 =>
            have H := HA.out
            clear HA
            simp only [scarfref03_Un.j1] at H
            by_cases c9 : x26_6 = true
            · subst c9
              have H1 : ((scarfref03_list.f kj6 a1 x9_4).bind fun t185 => ((scarfref03_from.f kj6 t185).bind fun t188 => ((scarfref03_one.f (t188 == 0)).bind fun t189 => (if t184 = 127 then ((scarfref03_U32.f t189).bind fun t190 => (some (t190, true))) else (some (t189, true)))))) = some (r1, r2) := by rw [if_pos rfl] at H; exact H
              clear H
              have H := H1
              clear H1
              replace H := Option.bind_eq_some_iff.mp H
              obtain ⟨t185, A100, H⟩ := H
              replace H : ((scarfref03_from.f kj6 t185).bind fun t188 => ((scarfref03_one.f (t188 == 0)).bind fun t189 => (if t184 = 127 then ((scarfref03_U32.f t189).bind fun t190 => (some (t190, true))) else (some (t189, true))))) = some (r1, r2) := H
              have A10 := Aside0.mk A100
              clear A100
              replace H := Option.bind_eq_some_iff.mp H
              obtain ⟨t188, A110, H⟩ := H
              replace H : ((scarfref03_one.f (t188 == 0)).bind fun t189 => (if t184 = 127 then ((scarfref03_U32.f t189).bind fun t190 => (some (t190, true))) else (some (t189, true)))) = some (r1, r2) := H
              have A11 := Aside0.mk A110
              clear A110
              replace H := Option.bind_eq_some_iff.mp H
              obtain ⟨t189, A120, H⟩ := H
              replace H : (if t184 = 127 then ((scarfref03_U32.f t189).bind fun t190 => (some (t190, true))) else (some (t189, true))) = some (r1, r2) := H
              have A12 := Aside0.mk A120
              clear A120
              by_cases c13 : t184 = 127
              · rw [if_pos c13] at H
                have c13b0 : (t184 == 127) = true := beq_iff_eq.mpr c13
                have c13b1 : (t184 != 127) = false := bne_eq_false_iff_eq.mpr c13
                clear c13
                replace H := Option.bind_eq_some_iff.mp H
                obtain ⟨t190, A140, H⟩ := H
                replace H : (some (t190, true)) = some (r1, r2) := H
                have A14 := Aside0.mk A140
                clear A140
                simp only [Option.some.injEq, Prod.mk.injEq] at H
                obtain ⟨rfl, rfl⟩ := H
                go_wp2_with (first | ((with_reducible refine gate_callee (f := 28) rfl ?_); refine goesL_ (some 31) rfl rfl Tryd.func28 (by kernel_rfl) rfl #[.int .i64 a1, .int .i64 x9_4] rfl (by (try simp only [List.map_toArray, List.map_cons, List.map_nil]); first | done | rfl | (simp only [List.length_drop, List.length_take]; rfl)) ?_; (with_reducible refine (scarfref03_list.calls kj6 a1 x9_4 t185 _ A10.out).mono ?_); rintro e w15 ⟨v186, rfl, ho0, hb⟩; refine ⟨_, rfl, ?_⟩; have n0_ := Aside0.mk (Kd.R_lower ho0 (below_size (by repeat (first | (with_reducible first | exact HB.out | apply below_alloc | apply pw_below_drewN | apply below_drew1) | exact HB.out)))); have n1_ := Aside0.mk (below_step (by repeat (first | (with_reducible first | exact HB.out | apply below_alloc | apply pw_below_drewN | apply below_drew1) | exact HB.out)) hb); clear HB; have HO187 := n0_; have HB := n1_; clear n0_ n1_; (try clear hb); (try clear hb2); (try clear hk); (try clear hi); (try clear ho0); obtain ⟨Ao16, co16, eo16⟩ := Kd.R_slice HO187.out; subst eo16) | ((with_reducible refine gate_callee (f := 27) rfl ?_); refine goesL_ (some 32) rfl rfl Tryd.func27 (by kernel_rfl) rfl #[.slice Ao16 t185.length co16] rfl (by (try simp only [List.map_toArray, List.map_cons, List.map_nil]); first | done | rfl | (simp only [List.length_drop, List.length_take]; rfl)) ?_; (with_reducible refine (scarfref03_from.calls kj6 _ _ t185 t188 _ ?side1 ?side2 A11.out).mono ?_); (case side1 => repeat (first | exact (Kd.R_reads' HO187.out).2.2 | (with_reducible refine Kd.C_alloc ?_ _) | (with_reducible refine Kd.C_drewN ?_ _) | (with_reducible refine Kd.C_drew ?_))); (case side2 => exact (Kd.R_reads' HO187.out).2.1); rintro e w' ⟨rfl, ⟨nd, rfl⟩⟩; refine ⟨_, rfl, ?_⟩) | ((with_reducible refine gate_callee (f := 26) rfl ?_); refine goesL_ (some 34) rfl rfl Tryd.func26 (by kernel_rfl) rfl #[.bool (t188 == 0)] rfl (by (try simp only [List.map_toArray, List.map_cons, List.map_nil]); first | done | rfl | (simp only [List.length_drop, List.length_take]; rfl)) ?_; (with_reducible refine (scarfref03_one.calls (t188 == 0) t189 _ A12.out).mono ?_); rintro e w' ⟨rfl, ⟨nd, rfl⟩⟩; refine ⟨_, rfl, ?_⟩) | ((with_reducible refine gate_callee (f := 12) rfl ?_); refine goesL_ (some 82) rfl rfl Tryd.func12 (by kernel_rfl) rfl #[.int .i64 t189] rfl (by (try simp only [List.map_toArray, List.map_cons, List.map_nil]); first | done | rfl | (simp only [List.length_drop, List.length_take]; rfl)) ?_; (with_reducible refine (scarfref03_U32.calls t189 t190 _ A14.out).mono ?_); rintro e w' ⟨rfl, ⟨nd, rfl⟩⟩; refine ⟨_, rfl, ?_⟩))
                go_ret2
                exact ⟨by first | rfl | (simp [errW_none, errW_some] <;> rfl) | (simp [*, errW_none, errW_some] <;> rfl), by repeat (first | (with_reducible first | exact HB.out | apply below_alloc | apply pw_below_drewN | apply below_drew1) | exact HB.out)⟩
              · rw [if_neg c13] at H
                have c13b0 : (t184 == 127) = false := beq_eq_false_iff_ne.mpr c13
                have c13b1 : (t184 != 127) = true := bne_iff_ne.mpr c13
                simp only [Option.some.injEq, Prod.mk.injEq] at H
                obtain ⟨rfl, rfl⟩ := H
                go_wp2_with (first | ((with_reducible refine gate_callee (f := 28) rfl ?_); refine goesL_ (some 31) rfl rfl Tryd.func28 (by kernel_rfl) rfl #[.int .i64 a1, .int .i64 x9_4] rfl (by (try simp only [List.map_toArray, List.map_cons, List.map_nil]); first | done | rfl | (simp only [List.length_drop, List.length_take]; rfl)) ?_; (with_reducible refine (scarfref03_list.calls kj6 a1 x9_4 t185 _ A10.out).mono ?_); rintro e w17 ⟨v186, rfl, ho0, hb⟩; refine ⟨_, rfl, ?_⟩; have n0_ := Aside0.mk (Kd.R_lower ho0 (below_size (by repeat (first | (with_reducible first | exact HB.out | apply below_alloc | apply pw_below_drewN | apply below_drew1) | exact HB.out)))); have n1_ := Aside0.mk (below_step (by repeat (first | (with_reducible first | exact HB.out | apply below_alloc | apply pw_below_drewN | apply below_drew1) | exact HB.out)) hb); clear HB; have HO187 := n0_; have HB := n1_; clear n0_ n1_; (try clear hb); (try clear hb2); (try clear hk); (try clear hi); (try clear ho0); obtain ⟨Ao18, co18, eo18⟩ := Kd.R_slice HO187.out; subst eo18) | ((with_reducible refine gate_callee (f := 27) rfl ?_); refine goesL_ (some 32) rfl rfl Tryd.func27 (by kernel_rfl) rfl #[.slice Ao18 t185.length co18] rfl (by (try simp only [List.map_toArray, List.map_cons, List.map_nil]); first | done | rfl | (simp only [List.length_drop, List.length_take]; rfl)) ?_; (with_reducible refine (scarfref03_from.calls kj6 _ _ t185 t188 _ ?side1 ?side2 A11.out).mono ?_); (case side1 => repeat (first | exact (Kd.R_reads' HO187.out).2.2 | (with_reducible refine Kd.C_alloc ?_ _) | (with_reducible refine Kd.C_drewN ?_ _) | (with_reducible refine Kd.C_drew ?_))); (case side2 => exact (Kd.R_reads' HO187.out).2.1); rintro e w' ⟨rfl, ⟨nd, rfl⟩⟩; refine ⟨_, rfl, ?_⟩) | ((with_reducible refine gate_callee (f := 26) rfl ?_); refine goesL_ (some 34) rfl rfl Tryd.func26 (by kernel_rfl) rfl #[.bool (t188 == 0)] rfl (by (try simp only [List.map_toArray, List.map_cons, List.map_nil]); first | done | rfl | (simp only [List.length_drop, List.length_take]; rfl)) ?_; (with_reducible refine (scarfref03_one.calls (t188 == 0) t189 _ A12.out).mono ?_); rintro e w' ⟨rfl, ⟨nd, rfl⟩⟩; refine ⟨_, rfl, ?_⟩))
                go_ret2
                exact ⟨by first | rfl | (simp [errW_none, errW_some] <;> rfl) | (simp [*, errW_none, errW_some] <;> rfl), by repeat (first | (with_reducible first | exact HB.out | apply below_alloc | apply pw_below_drewN | apply below_drew1) | exact HB.out)⟩
            · replace c9 := Bool.eq_false_iff.mpr c9
              subst c9
              have H1 : (if a0 = 103 then (scarfref03_Un.j2 kj6 a1 t184 x9_4 0 a0 (a0 == 103)) else (scarfref03_Un.j2 kj6 a1 t184 x9_4 0 a0 (a0 == 121))) = some (r1, r2) := by rw [if_neg (show ¬ (false = true) by decide)] at H; exact H
              clear H
              have H := H1
              clear H1
              have HC19 := Aside0.mk H
              clear H
              go_upto_if 35 with (fail)
              go_cut [35] (fun v35 wc => ∃ (kq : Nat) (x35_18 : Bool), v35 = .bool x35_18 ∧ Aside0 (scarfref03_Un.j2 kq a1 t184 x9_4 0 a0 x35_18 = some (r1, r2)) ∧ Aside0 (kq ≤ kj6) ∧ Aside0 (Below w.heap.size w wc))
              case first =>
                have H := HC19.out
                clear HC19
                by_cases c20 : a0 = 103
                · rw [if_pos c20] at H
                  have c20b0 : (a0 == 103) = true := beq_iff_eq.mpr c20
                  have c20b1 : (a0 != 103) = false := bne_eq_false_iff_eq.mpr c20
                  clear c20
                  (first | rw [c20b0] | (simp only [i64_w, i32_w]; rw [c20b0]) | skip)
                  have H' := Aside0.mk H
                  clear H
                  go_wp2
                  go_meet
                  case rel => exact ⟨_, ((a0 == 103)), (by first | rfl | (simp; done) | (simp [*]; done)), H', ⟨by have := HJ4.out; have := HJ6.out; first | omega | exact Nat.le_refl _⟩, ⟨by repeat (first | (with_reducible first | exact HB.out | apply below_alloc | apply pw_below_drewN | apply below_drew1) | exact HB.out)⟩⟩
                · rw [if_neg c20] at H
                  have c20b0 : (a0 == 103) = false := beq_eq_false_iff_ne.mpr c20
                  have c20b1 : (a0 != 103) = true := bne_iff_ne.mpr c20
                  (first | rw [c20b0] | (simp only [i64_w, i32_w]; rw [c20b0]) | skip)
                  have H' := Aside0.mk H
                  clear H
                  go_wp2
                  go_meet
                  case rel => exact ⟨_, ((a0 == 121)), (by first | rfl | (simp; done) | (simp [*]; done)), H', ⟨by have := HJ4.out; have := HJ6.out; first | omega | exact Nat.le_refl _⟩, ⟨by repeat (first | (with_reducible first | exact HB.out | apply below_alloc | apply pw_below_drewN | apply below_drew1) | exact HB.out)⟩⟩
              case rest =>
                clear HC19
                try clear c1
                try clear c2
                try clear p2
                try clear c4
                try clear c4b0
                try clear c4b1
                try clear c6
                try clear c6b0
                try clear c6b1
                try clear c8
                try clear c8b0
                try clear c8b1
                try clear c9
                try clear c10
                try clear c12
                try clear c13
                try clear c13b0
                try clear c13b1
                try clear c17
                try clear c20
                try clear c20b0
                try clear c20b1
                try clear p2
                obtain ⟨kq, x35_18, rfl, HA, HJ18, HB⟩ := hcut
                cases kq with
                | zero => exact absurd HA.out (by simp [scarfref03_Un.j2])
                | succ kj18 =>
                  have H := HA.out
                  clear HA
                  simp only [scarfref03_Un.j2] at H
                  by_cases c21 : x35_18 = true
                  · subst c21
                    have H1 : ((scarfref03_zeros.f kj18 a1 x9_4 false).bind fun t191 => (if t184 = 127 then ((scarfref03_U32.f t191).bind fun t192 => (some (t192, true))) else (some (t191, true)))) = some (r1, r2) := by rw [if_pos rfl] at H; exact H
                    clear H
                    have H := H1
                    clear H1
                    replace H := Option.bind_eq_some_iff.mp H
                    obtain ⟨t191, A220, H⟩ := H
                    replace H : (if t184 = 127 then ((scarfref03_U32.f t191).bind fun t192 => (some (t192, true))) else (some (t191, true))) = some (r1, r2) := H
                    have A22 := Aside0.mk A220
                    clear A220
                    by_cases c23 : t184 = 127
                    · rw [if_pos c23] at H
                      have c23b0 : (t184 == 127) = true := beq_iff_eq.mpr c23
                      have c23b1 : (t184 != 127) = false := bne_eq_false_iff_eq.mpr c23
                      clear c23
                      replace H := Option.bind_eq_some_iff.mp H
                      obtain ⟨t192, A240, H⟩ := H
                      replace H : (some (t192, true)) = some (r1, r2) := H
                      have A24 := Aside0.mk A240
                      clear A240
                      simp only [Option.some.injEq, Prod.mk.injEq] at H
                      obtain ⟨rfl, rfl⟩ := H
                      go_wp2_with (first | ((with_reducible refine gate_callee (f := 29) rfl ?_); refine goesL_ (some 40) rfl rfl Tryd.func29 (by kernel_rfl) rfl #[.int .i64 a1, .int .i64 x9_4, .bool false] rfl (by (try simp only [List.map_toArray, List.map_cons, List.map_nil]); first | done | rfl | (simp only [List.length_drop, List.length_take]; rfl)) ?_; (with_reducible refine (scarfref03_zeros.calls kj18 a1 x9_4 false t191 _ A22.out).mono ?_); rintro e w25 ⟨rfl, hb⟩; refine ⟨_, rfl, ?_⟩; have n0_ := Aside0.mk (below_step (by repeat (first | (with_reducible first | exact HB.out | apply below_alloc | apply pw_below_drewN | apply below_drew1) | exact HB.out)) hb); clear HB; have HB := n0_; clear n0_; (try clear hb); (try clear hb2); (try clear hk); (try clear hi)) | ((with_reducible refine gate_callee (f := 12) rfl ?_); refine goesL_ (some 82) rfl rfl Tryd.func12 (by kernel_rfl) rfl #[.int .i64 t191] rfl (by (try simp only [List.map_toArray, List.map_cons, List.map_nil]); first | done | rfl | (simp only [List.length_drop, List.length_take]; rfl)) ?_; (with_reducible refine (scarfref03_U32.calls t191 t192 _ A24.out).mono ?_); rintro e w' ⟨rfl, ⟨nd, rfl⟩⟩; refine ⟨_, rfl, ?_⟩))
                      go_ret2
                      exact ⟨by first | rfl | (simp [errW_none, errW_some] <;> rfl) | (simp [*, errW_none, errW_some] <;> rfl), by repeat (first | (with_reducible first | exact HB.out | apply below_alloc | apply pw_below_drewN | apply below_drew1) | exact HB.out)⟩
                    · rw [if_neg c23] at H
                      have c23b0 : (t184 == 127) = false := beq_eq_false_iff_ne.mpr c23
                      have c23b1 : (t184 != 127) = true := bne_iff_ne.mpr c23
                      simp only [Option.some.injEq, Prod.mk.injEq] at H
                      obtain ⟨rfl, rfl⟩ := H
                      go_wp2_with (first | ((with_reducible refine gate_callee (f := 29) rfl ?_); refine goesL_ (some 40) rfl rfl Tryd.func29 (by kernel_rfl) rfl #[.int .i64 a1, .int .i64 x9_4, .bool false] rfl (by (try simp only [List.map_toArray, List.map_cons, List.map_nil]); first | done | rfl | (simp only [List.length_drop, List.length_take]; rfl)) ?_; (with_reducible refine (scarfref03_zeros.calls kj18 a1 x9_4 false t191 _ A22.out).mono ?_); rintro e w26 ⟨rfl, hb⟩; refine ⟨_, rfl, ?_⟩; have n0_ := Aside0.mk (below_step (by repeat (first | (with_reducible first | exact HB.out | apply below_alloc | apply pw_below_drewN | apply below_drew1) | exact HB.out)) hb); clear HB; have HB := n0_; clear n0_; (try clear hb); (try clear hb2); (try clear hk); (try clear hi)))
                      go_ret2
                      exact ⟨by first | rfl | (simp [errW_none, errW_some] <;> rfl) | (simp [*, errW_none, errW_some] <;> rfl), by repeat (first | (with_reducible first | exact HB.out | apply below_alloc | apply pw_below_drewN | apply below_drew1) | exact HB.out)⟩
                  · replace c21 := Bool.eq_false_iff.mpr c21
                    subst c21
                    have H1 : (if a0 = 104 then (scarfref03_Un.j3 kj18 a1 t184 x9_4 0 a0 (a0 == 104)) else (scarfref03_Un.j3 kj18 a1 t184 x9_4 0 a0 (a0 == 122))) = some (r1, r2) := by rw [if_neg (show ¬ (false = true) by decide)] at H; exact H
                    clear H
                    have H := H1
                    clear H1
                    have HC27 := Aside0.mk H
                    clear H
                    go_upto_if 41 with (fail)
                    go_cut [41] (fun v41 wc => ∃ (kq : Nat) (x41_26 : Bool), v41 = .bool x41_26 ∧ Aside0 (scarfref03_Un.j3 kq a1 t184 x9_4 0 a0 x41_26 = some (r1, r2)) ∧ Aside0 (kq ≤ kj18) ∧ Aside0 (Below w.heap.size w wc))
                    case first =>
                      have H := HC27.out
                      clear HC27
                      by_cases c28 : a0 = 104
                      · rw [if_pos c28] at H
                        have c28b0 : (a0 == 104) = true := beq_iff_eq.mpr c28
                        have c28b1 : (a0 != 104) = false := bne_eq_false_iff_eq.mpr c28
                        clear c28
                        (first | rw [c28b0] | (simp only [i64_w, i32_w]; rw [c28b0]) | skip)
                        have H' := Aside0.mk H
                        clear H
                        go_wp2
                        go_meet
                        case rel => exact ⟨_, ((a0 == 104)), (by first | rfl | (simp; done) | (simp [*]; done)), H', ⟨by have := HJ4.out; have := HJ6.out; have := HJ18.out; first | omega | exact Nat.le_refl _⟩, ⟨by repeat (first | (with_reducible first | exact HB.out | apply below_alloc | apply pw_below_drewN | apply below_drew1) | exact HB.out)⟩⟩
                      · rw [if_neg c28] at H
                        have c28b0 : (a0 == 104) = false := beq_eq_false_iff_ne.mpr c28
                        have c28b1 : (a0 != 104) = true := bne_iff_ne.mpr c28
                        (first | rw [c28b0] | (simp only [i64_w, i32_w]; rw [c28b0]) | skip)
                        have H' := Aside0.mk H
                        clear H
                        go_wp2
                        go_meet
                        case rel => exact ⟨_, ((a0 == 122)), (by first | rfl | (simp; done) | (simp [*]; done)), H', ⟨by have := HJ4.out; have := HJ6.out; have := HJ18.out; first | omega | exact Nat.le_refl _⟩, ⟨by repeat (first | (with_reducible first | exact HB.out | apply below_alloc | apply pw_below_drewN | apply below_drew1) | exact HB.out)⟩⟩
                    case rest =>
                      clear HC27
                      try clear c1
                      try clear c2
                      try clear p2
                      try clear c4
                      try clear c4b0
                      try clear c4b1
                      try clear c6
                      try clear c6b0
                      try clear c6b1
                      try clear c8
                      try clear c8b0
                      try clear c8b1
                      try clear c9
                      try clear c10
                      try clear c12
                      try clear c13
                      try clear c13b0
                      try clear c13b1
                      try clear c17
                      try clear c20
                      try clear c20b0
                      try clear c20b1
                      try clear c21
                      try clear c23
                      try clear c23b0
                      try clear c23b1
                      try clear c26
                      try clear c27
                      try clear c28
                      try clear c28b0
                      try clear c28b1
                      try clear p2
                      obtain ⟨kq, x41_26, rfl, HA, HJ26, HB⟩ := hcut
                      cases kq with
                      | zero => exact absurd HA.out (by simp [scarfref03_Un.j3])
                      | succ kj26 =>
                        have H := HA.out
                        clear HA
                        simp only [scarfref03_Un.j3] at H
                        by_cases c29 : x41_26 = true
                        · subst c29
                          have H1 : ((scarfref03_zeros.f kj26 a1 x9_4 true).bind fun t193 => (if t184 = 127 then ((scarfref03_U32.f t193).bind fun t194 => (some (t194, true))) else (some (t193, true)))) = some (r1, r2) := by rw [if_pos rfl] at H; exact H
                          clear H
                          have H := H1
                          clear H1
                          replace H := Option.bind_eq_some_iff.mp H
                          obtain ⟨t193, A300, H⟩ := H
                          replace H : (if t184 = 127 then ((scarfref03_U32.f t193).bind fun t194 => (some (t194, true))) else (some (t193, true))) = some (r1, r2) := H
                          have A30 := Aside0.mk A300
                          clear A300
                          by_cases c31 : t184 = 127
                          · rw [if_pos c31] at H
                            have c31b0 : (t184 == 127) = true := beq_iff_eq.mpr c31
                            have c31b1 : (t184 != 127) = false := bne_eq_false_iff_eq.mpr c31
                            clear c31
                            replace H := Option.bind_eq_some_iff.mp H
                            obtain ⟨t194, A320, H⟩ := H
                            replace H : (some (t194, true)) = some (r1, r2) := H
                            have A32 := Aside0.mk A320
                            clear A320
                            simp only [Option.some.injEq, Prod.mk.injEq] at H
                            obtain ⟨rfl, rfl⟩ := H
                            go_wp2_with (first | ((with_reducible refine gate_callee (f := 29) rfl ?_); refine goesL_ (some 46) rfl rfl Tryd.func29 (by kernel_rfl) rfl #[.int .i64 a1, .int .i64 x9_4, .bool true] rfl (by (try simp only [List.map_toArray, List.map_cons, List.map_nil]); first | done | rfl | (simp only [List.length_drop, List.length_take]; rfl)) ?_; (with_reducible refine (scarfref03_zeros.calls kj26 a1 x9_4 true t193 _ A30.out).mono ?_); rintro e w33 ⟨rfl, hb⟩; refine ⟨_, rfl, ?_⟩; have n0_ := Aside0.mk (below_step (by repeat (first | (with_reducible first | exact HB.out | apply below_alloc | apply pw_below_drewN | apply below_drew1) | exact HB.out)) hb); clear HB; have HB := n0_; clear n0_; (try clear hb); (try clear hb2); (try clear hk); (try clear hi)) | ((with_reducible refine gate_callee (f := 12) rfl ?_); refine goesL_ (some 82) rfl rfl Tryd.func12 (by kernel_rfl) rfl #[.int .i64 t193] rfl (by (try simp only [List.map_toArray, List.map_cons, List.map_nil]); first | done | rfl | (simp only [List.length_drop, List.length_take]; rfl)) ?_; (with_reducible refine (scarfref03_U32.calls t193 t194 _ A32.out).mono ?_); rintro e w' ⟨rfl, ⟨nd, rfl⟩⟩; refine ⟨_, rfl, ?_⟩))
                            go_ret2
                            exact ⟨by first | rfl | (simp [errW_none, errW_some] <;> rfl) | (simp [*, errW_none, errW_some] <;> rfl), by repeat (first | (with_reducible first | exact HB.out | apply below_alloc | apply pw_below_drewN | apply below_drew1) | exact HB.out)⟩
                          · rw [if_neg c31] at H
                            have c31b0 : (t184 == 127) = false := beq_eq_false_iff_ne.mpr c31
                            have c31b1 : (t184 != 127) = true := bne_iff_ne.mpr c31
                            simp only [Option.some.injEq, Prod.mk.injEq] at H
                            obtain ⟨rfl, rfl⟩ := H
                            go_wp2_with (first | ((with_reducible refine gate_callee (f := 29) rfl ?_); refine goesL_ (some 46) rfl rfl Tryd.func29 (by kernel_rfl) rfl #[.int .i64 a1, .int .i64 x9_4, .bool true] rfl (by (try simp only [List.map_toArray, List.map_cons, List.map_nil]); first | done | rfl | (simp only [List.length_drop, List.length_take]; rfl)) ?_; (with_reducible refine (scarfref03_zeros.calls kj26 a1 x9_4 true t193 _ A30.out).mono ?_); rintro e w34 ⟨rfl, hb⟩; refine ⟨_, rfl, ?_⟩; have n0_ := Aside0.mk (below_step (by repeat (first | (with_reducible first | exact HB.out | apply below_alloc | apply pw_below_drewN | apply below_drew1) | exact HB.out)) hb); clear HB; have HB := n0_; clear n0_; (try clear hb); (try clear hb2); (try clear hk); (try clear hi)))
                            go_ret2
                            exact ⟨by first | rfl | (simp [errW_none, errW_some] <;> rfl) | (simp [*, errW_none, errW_some] <;> rfl), by repeat (first | (with_reducible first | exact HB.out | apply below_alloc | apply pw_below_drewN | apply below_drew1) | exact HB.out)⟩
                        · replace c29 := Bool.eq_false_iff.mpr c29
                          subst c29
                          have H1 : (if a0 = 105 then (scarfref03_Un.j4 kj26 a1 t184 x9_4 0 a0 (a0 == 105)) else (scarfref03_Un.j4 kj26 a1 t184 x9_4 0 a0 (a0 == 123))) = some (r1, r2) := by rw [if_neg (show ¬ (false = true) by decide)] at H; exact H
                          clear H
                          have H := H1
                          clear H1
                          have HC35 := Aside0.mk H
                          clear H
                          go_upto_if 47 with (fail)
                          go_cut [47] (fun v47 wc => ∃ (kq : Nat) (x47_34 : Bool), v47 = .bool x47_34 ∧ Aside0 (scarfref03_Un.j4 kq a1 t184 x9_4 0 a0 x47_34 = some (r1, r2)) ∧ Aside0 (kq ≤ kj26) ∧ Aside0 (Below w.heap.size w wc))
                          case first =>
                            have H := HC35.out
                            clear HC35
                            by_cases c36 : a0 = 105
                            · rw [if_pos c36] at H
                              have c36b0 : (a0 == 105) = true := beq_iff_eq.mpr c36
                              have c36b1 : (a0 != 105) = false := bne_eq_false_iff_eq.mpr c36
                              clear c36
                              (first | rw [c36b0] | (simp only [i64_w, i32_w]; rw [c36b0]) | skip)
                              have H' := Aside0.mk H
                              clear H
                              go_wp2
                              go_meet
                              case rel => exact ⟨_, ((a0 == 105)), (by first | rfl | (simp; done) | (simp [*]; done)), H', ⟨by have := HJ4.out; have := HJ6.out; have := HJ18.out; have := HJ26.out; first | omega | exact Nat.le_refl _⟩, ⟨by repeat (first | (with_reducible first | exact HB.out | apply below_alloc | apply pw_below_drewN | apply below_drew1) | exact HB.out)⟩⟩
                            · rw [if_neg c36] at H
                              have c36b0 : (a0 == 105) = false := beq_eq_false_iff_ne.mpr c36
                              have c36b1 : (a0 != 105) = true := bne_iff_ne.mpr c36
                              (first | rw [c36b0] | (simp only [i64_w, i32_w]; rw [c36b0]) | skip)
                              have H' := Aside0.mk H
                              clear H
                              go_wp2
                              go_meet
                              case rel => exact ⟨_, ((a0 == 123)), (by first | rfl | (simp; done) | (simp [*]; done)), H', ⟨by have := HJ4.out; have := HJ6.out; have := HJ18.out; have := HJ26.out; first | omega | exact Nat.le_refl _⟩, ⟨by repeat (first | (with_reducible first | exact HB.out | apply below_alloc | apply pw_below_drewN | apply below_drew1) | exact HB.out)⟩⟩
                          case rest =>
                            clear HC35
                            try clear c1
                            try clear c2
                            try clear p2
                            try clear c3
                            try clear c4
                            try clear c4b0
                            try clear c4b1
                            try clear c6
                            try clear c6b0
                            try clear c6b1
                            try clear c8
                            try clear c8b0
                            try clear c8b1
                            try clear c9
                            try clear c10
                            try clear c12
                            try clear c13
                            try clear c13b0
                            try clear c13b1
                            try clear c17
                            try clear c20
                            try clear c20b0
                            try clear c20b1
                            try clear c21
                            try clear c23
                            try clear c23b0
                            try clear c23b1
                            try clear c26
                            try clear c27
                            try clear c28
                            try clear c28b0
                            try clear c28b1
                            try clear c29
                            try clear c31
                            try clear c31b0
                            try clear c31b1
                            try clear c36
                            try clear c36b0
                            try clear c36b1
                            try clear p2
                            obtain ⟨kq, x47_34, rfl, HA, HJ34, HB⟩ := hcut
                            cases kq with
                            | zero => exact absurd HA.out (by simp [scarfref03_Un.j4])
                            | succ kj34 =>
                              have H := HA.out
                              clear HA
                              simp only [scarfref03_Un.j4] at H
                              by_cases c37 : x47_34 = true
                              · subst c37
                                have H1 : ((scarfref03_list.f kj34 a1 x9_4).bind fun t195 => (scarfref03_Un.l0 kj34 t184 x9_4 0 t195 0)) = some (r1, r2) := by rw [if_pos rfl] at H; exact H
                                clear H
                                have H := H1
                                clear H1
                                replace H := Option.bind_eq_some_iff.mp H
                                obtain ⟨t195, A380, H⟩ := H
                                replace H : (scarfref03_Un.l0 kj34 t184 x9_4 0 t195 0) = some (r1, r2) := H
                                have A38 := Aside0.mk A380
                                clear A380
                                have H' := Aside0.mk H
                                clear H
                                go_wp2_with (first | ((with_reducible refine gate_callee (f := 28) rfl ?_); refine goesL_ (some 52) rfl rfl Tryd.func28 (by kernel_rfl) rfl #[.int .i64 a1, .int .i64 x9_4] rfl (by (try simp only [List.map_toArray, List.map_cons, List.map_nil]); first | done | rfl | (simp only [List.length_drop, List.length_take]; rfl)) ?_; (with_reducible refine (scarfref03_list.calls kj34 a1 x9_4 t195 _ A38.out).mono ?_); rintro e w39 ⟨v196, rfl, ho0, hb⟩; refine ⟨_, rfl, ?_⟩; have n0_ := Aside0.mk (Kd.R_lower ho0 (below_size (by repeat (first | (with_reducible first | exact HB.out | apply below_alloc | apply pw_below_drewN | apply below_drew1) | exact HB.out)))); have n1_ := Aside0.mk (below_step (by repeat (first | (with_reducible first | exact HB.out | apply below_alloc | apply pw_below_drewN | apply below_drew1) | exact HB.out)) hb); clear HB; have HO197 := n0_; have HB := n1_; clear n0_ n1_; (try clear hb); (try clear hb2); (try clear hk); (try clear hi); (try clear ho0)))
                                go_loopg [10, 12] kj34 (fun kq v10 v12 w' => ∃ (x10_6 : Int) (x12_6 : Int), v10 = .int .i64 x10_6 ∧ v12 = .int .i64 x12_6 ∧ Aside0 (scarfref03_Un.l0 kq t184 x9_4 x10_6 t195 x12_6 = some (r1, r2)) ∧ Aside0 (kq ≤ kj34) ∧ Aside0 (Kd.R (Kd.int .i64) 3 w' w.heap.size (fun _ => True) v196 t195) ∧ Aside0 (Below w.heap.size w w'))
                                case atStart => exact ⟨(0), (0), (by first | rfl | (simp; done) | (simp [*]; done)), (by first | rfl | (simp; done) | (simp [*]; done)), H', ⟨Nat.le_refl _⟩, ⟨by (with_reducible repeat (first | apply Kd.R_alloc | apply Kd.R_drewN | apply Kd.R_drew)); exact HO197.out⟩, ⟨by repeat (first | (with_reducible first | exact HB.out | apply below_alloc | apply pw_below_drewN | apply below_drew1) | exact HB.out)⟩⟩
                                case round =>
                                  clear H'
                                  try clear c1
                                  try clear c2
                                  try clear p2
                                  try clear c3
                                  try clear c4
                                  try clear c4b0
                                  try clear c4b1
                                  try clear c6
                                  try clear c6b0
                                  try clear c6b1
                                  try clear c8
                                  try clear c8b0
                                  try clear c8b1
                                  try clear c9
                                  try clear c10
                                  try clear c12
                                  try clear c13
                                  try clear c13b0
                                  try clear c13b1
                                  try clear c17
                                  try clear c20
                                  try clear c20b0
                                  try clear c20b1
                                  try clear c21
                                  try clear c23
                                  try clear c23b0
                                  try clear c23b1
                                  try clear c26
                                  try clear c27
                                  try clear c28
                                  try clear c28b0
                                  try clear c28b1
                                  try clear c29
                                  try clear c31
                                  try clear c31b0
                                  try clear c31b1
                                  try clear c36
                                  try clear c36b0
                                  try clear c36b1
                                  try clear c37
                                  try clear p2
                                  obtain ⟨x10_6, x12_6, rfl, rfl, HA, HK6, HO_11, HB⟩ := hrel
                                  cases gk with
                                  | zero => exact absurd HA.out (by simp [scarfref03_Un.l0])
                                  | succ k6 =>
                                    have H := HA.out
                                    clear HA
                                    simp only [scarfref03_Un.l0] at H
                                    by_cases c40 : x12_6 < x9_4
                                    · rw [if_pos c40] at H
                                      have c40b0 : decide (x12_6 < x9_4) = true := decide_eq_true c40
                                      clear c40
                                      by_cases c41 : 0 ≤ x12_6
                                      · rw [if_pos c41] at H
                                        have c41b0 : decide (0 ≤ x12_6) = true := decide_eq_true c41
                                        clear c41
                                        by_cases c42 : x12_6 < (t195.length : Int)
                                        · rw [if_pos c42] at H
                                          have c42b0 : decide (x12_6 < (t195.length : Int)) = true := decide_eq_true c42
                                          clear c42
                                          have H' := Aside0.mk H
                                          clear H
                                          obtain ⟨Ao43, co43, eo43⟩ := Kd.R_slice HO_11.out
                                          subst eo43
                                          have p198 : 0 ≤ (x12_6 : Int) := of_decide_eq_true (by first | (with_reducible assumption) | assumption)
                                          have q198 : x12_6 < (t195.length : Int) := of_decide_eq_true (by first | (with_reducible assumption) | assumption)
                                          obtain ⟨ad198, e198, hx198_0⟩ := Kd.at_int (Kd.R_reads' HO_11.out).2.2 x12_6 p198 q198
                                          cases e198
                                          replace p198 := eq_true p198
                                          replace q198 := eq_true q198
                                          go_wp2
                                          go_roundg k6
                                          case measure => have := HJ4.out; have := HJ6.out; have := HJ18.out; have := HJ26.out; have := HJ34.out; have := HK6.out; omega
                                          case rel => exact ⟨(wrap64 (x10_6 + (rd t195 x12_6))), (wrap64 (x12_6 + 1)), (by first | rfl | (simp; done) | (simp [*]; done)), (by first | rfl | (simp; done) | (simp [*]; done)), H', ⟨by have := HJ4.out; have := HJ6.out; have := HJ18.out; have := HJ26.out; have := HJ34.out; have := HK6.out; omega⟩, ⟨by (with_reducible repeat (first | apply Kd.R_alloc | apply Kd.R_drewN | apply Kd.R_drew)); exact HO_11.out⟩, ⟨by repeat (first | (with_reducible first | exact HB.out | apply below_alloc | apply pw_below_drewN | apply below_drew1) | exact HB.out)⟩⟩
                                        · rw [if_neg c42] at H
                                          exact absurd H (by simp)
                                      · rw [if_neg c41] at H
                                        exact absurd H (by simp)
                                    · rw [if_neg c40] at H
                                      have c40b0 : decide (x12_6 < x9_4) = false := decide_eq_false c40
                                      clear c40
                                      by_cases c44 : t184 = 127
                                      · rw [if_pos c44] at H
                                        have c44b0 : (t184 == 127) = true := beq_iff_eq.mpr c44
                                        have c44b1 : (t184 != 127) = false := bne_eq_false_iff_eq.mpr c44
                                        clear c44
                                        replace H := Option.bind_eq_some_iff.mp H
                                        obtain ⟨t199, A450, H⟩ := H
                                        replace H : (some (t199, true)) = some (r1, r2) := H
                                        have A45 := Aside0.mk A450
                                        clear A450
                                        simp only [Option.some.injEq, Prod.mk.injEq] at H
                                        obtain ⟨rfl, rfl⟩ := H
                                        go_wp2_with (first | ((with_reducible refine gate_callee (f := 12) rfl ?_); refine goesL_ (some 82) rfl rfl Tryd.func12 (by kernel_rfl) rfl #[.int .i64 x10_6] rfl (by (try simp only [List.map_toArray, List.map_cons, List.map_nil]); first | done | rfl | (simp only [List.length_drop, List.length_take]; rfl)) ?_; (with_reducible refine (scarfref03_U32.calls x10_6 t199 _ A45.out).mono ?_); rintro e w' ⟨rfl, ⟨nd, rfl⟩⟩; refine ⟨_, rfl, ?_⟩))
                                        go_ret2
                                        exact ⟨by first | rfl | (simp [errW_none, errW_some] <;> rfl) | (simp [*, errW_none, errW_some] <;> rfl), by repeat (first | (with_reducible first | exact HB.out | apply below_alloc | apply pw_below_drewN | apply below_drew1) | exact HB.out)⟩
                                      · rw [if_neg c44] at H
                                        have c44b0 : (t184 == 127) = false := beq_eq_false_iff_ne.mpr c44
                                        have c44b1 : (t184 != 127) = true := bne_iff_ne.mpr c44
                                        simp only [Option.some.injEq, Prod.mk.injEq] at H
                                        obtain ⟨rfl, rfl⟩ := H
                                        go_wp2
                                        go_ret2
                                        exact ⟨by first | rfl | (simp [errW_none, errW_some] <;> rfl) | (simp [*, errW_none, errW_some] <;> rfl), by repeat (first | (with_reducible first | exact HB.out | apply below_alloc | apply pw_below_drewN | apply below_drew1) | exact HB.out)⟩
                              · replace c37 := Bool.eq_false_iff.mpr c37
                                subst c37
                                have H1 : (if a0 = 167 then (scarfref03_Un.j6 kj34 a1 t184 a0 (a0 == 167)) else (scarfref03_Un.j6 kj34 a1 t184 a0 (a0 == 173))) = some (r1, r2) := by rw [if_neg (show ¬ (false = true) by decide)] at H; exact H
                                clear H
                                have H := H1
                                clear H1
                                have HC46 := Aside0.mk H
                                clear H
                                go_upto_if 64 with (fail)
                                go_cut [64] (fun v64 wc => ∃ (kq : Nat) (x64_45 : Bool), v64 = .bool x64_45 ∧ Aside0 (scarfref03_Un.j6 kq a1 t184 a0 x64_45 = some (r1, r2)) ∧ Aside0 (kq ≤ kj34) ∧ Aside0 (Below w.heap.size w wc))
                                case first =>
                                  have H := HC46.out
                                  clear HC46
                                  by_cases c47 : a0 = 167
                                  · rw [if_pos c47] at H
                                    have c47b0 : (a0 == 167) = true := beq_iff_eq.mpr c47
                                    have c47b1 : (a0 != 167) = false := bne_eq_false_iff_eq.mpr c47
                                    clear c47
                                    (first | rw [c47b0] | (simp only [i64_w, i32_w]; rw [c47b0]) | skip)
                                    have H' := Aside0.mk H
                                    clear H
                                    go_wp2
                                    go_meet
                                    case rel => exact ⟨_, ((a0 == 167)), (by first | rfl | (simp; done) | (simp [*]; done)), H', ⟨by have := HJ4.out; have := HJ6.out; have := HJ18.out; have := HJ26.out; have := HJ34.out; first | omega | exact Nat.le_refl _⟩, ⟨by repeat (first | (with_reducible first | exact HB.out | apply below_alloc | apply pw_below_drewN | apply below_drew1) | exact HB.out)⟩⟩
                                  · rw [if_neg c47] at H
                                    have c47b0 : (a0 == 167) = false := beq_eq_false_iff_ne.mpr c47
                                    have c47b1 : (a0 != 167) = true := bne_iff_ne.mpr c47
                                    (first | rw [c47b0] | (simp only [i64_w, i32_w]; rw [c47b0]) | skip)
                                    have H' := Aside0.mk H
                                    clear H
                                    go_wp2
                                    go_meet
                                    case rel => exact ⟨_, ((a0 == 173)), (by first | rfl | (simp; done) | (simp [*]; done)), H', ⟨by have := HJ4.out; have := HJ6.out; have := HJ18.out; have := HJ26.out; have := HJ34.out; first | omega | exact Nat.le_refl _⟩, ⟨by repeat (first | (with_reducible first | exact HB.out | apply below_alloc | apply pw_below_drewN | apply below_drew1) | exact HB.out)⟩⟩
                                case rest =>
                                  clear HC46
                                  try clear c1
                                  try clear p1
                                  try clear q1
                                  try clear hx1
                                  try clear c2
                                  try clear p2
                                  try clear c3
                                  try clear c4
                                  try clear c4b0
                                  try clear c4b1
                                  try clear c6
                                  try clear c6b0
                                  try clear c6b1
                                  try clear p6
                                  try clear c8
                                  try clear c8b0
                                  try clear c8b1
                                  try clear c9
                                  try clear c10
                                  try clear c12
                                  try clear c13
                                  try clear c13b0
                                  try clear c13b1
                                  try clear c17
                                  try clear p19
                                  try clear q19
                                  try clear hx19
                                  try clear c20
                                  try clear c20b0
                                  try clear c20b1
                                  try clear c21
                                  try clear c23
                                  try clear c23b0
                                  try clear c23b1
                                  try clear c26
                                  try clear c27
                                  try clear c28
                                  try clear c28b0
                                  try clear c28b1
                                  try clear c29
                                  try clear c31
                                  try clear c31b0
                                  try clear c31b1
                                  try clear c36
                                  try clear c36b0
                                  try clear c36b1
                                  try clear c37
                                  try clear c40
                                  try clear c40b0
                                  try clear c41
                                  try clear c41b0
                                  try clear c42
                                  try clear c42b0
                                  try clear c44
                                  try clear c44b0
                                  try clear c44b1
                                  try clear c47
                                  try clear c47b0
                                  try clear c47b1
                                  try clear hx198_0
                                  try clear p198
                                  try clear p2
                                  try clear q198
                                  obtain ⟨kq, x64_45, rfl, HA, HJ45, HB⟩ := hcut
                                  cases kq with
                                  | zero => exact absurd HA.out (by simp [scarfref03_Un.j6])
                                  | succ kj45 =>
                                    have H := HA.out
                                    clear HA
                                    simp only [scarfref03_Un.j6] at H
                                    by_cases c48 : x64_45 = true
                                    · subst c48
                                      have H1 : ((scarfref03_U32.f a1).bind fun t200 => (if t184 = 127 then ((scarfref03_U32.f t200).bind fun t201 => (some (t201, true))) else (some (t200, true)))) = some (r1, r2) := by rw [if_pos rfl] at H; exact H
                                      clear H
                                      have H := H1
                                      clear H1
                                      replace H := Option.bind_eq_some_iff.mp H
                                      obtain ⟨t200, A490, H⟩ := H
                                      replace H : (if t184 = 127 then ((scarfref03_U32.f t200).bind fun t201 => (some (t201, true))) else (some (t200, true))) = some (r1, r2) := H
                                      have A49 := Aside0.mk A490
                                      clear A490
                                      by_cases c50 : t184 = 127
                                      · rw [if_pos c50] at H
                                        have c50b0 : (t184 == 127) = true := beq_iff_eq.mpr c50
                                        have c50b1 : (t184 != 127) = false := bne_eq_false_iff_eq.mpr c50
                                        clear c50
                                        replace H := Option.bind_eq_some_iff.mp H
                                        obtain ⟨t201, A510, H⟩ := H
                                        replace H : (some (t201, true)) = some (r1, r2) := H
                                        have A51 := Aside0.mk A510
                                        clear A510
                                        simp only [Option.some.injEq, Prod.mk.injEq] at H
                                        obtain ⟨rfl, rfl⟩ := H
                                        go_wp2_with (first | ((with_reducible refine gate_callee (f := 12) rfl ?_); refine goesL_ (some 68) rfl rfl Tryd.func12 (by kernel_rfl) rfl #[.int .i64 a1] rfl (by (try simp only [List.map_toArray, List.map_cons, List.map_nil]); first | done | rfl | (simp only [List.length_drop, List.length_take]; rfl)) ?_; (with_reducible refine (scarfref03_U32.calls a1 t200 _ A49.out).mono ?_); rintro e w' ⟨rfl, ⟨nd, rfl⟩⟩; refine ⟨_, rfl, ?_⟩) | ((with_reducible refine gate_callee (f := 12) rfl ?_); refine goesL_ (some 82) rfl rfl Tryd.func12 (by kernel_rfl) rfl #[.int .i64 t200] rfl (by (try simp only [List.map_toArray, List.map_cons, List.map_nil]); first | done | rfl | (simp only [List.length_drop, List.length_take]; rfl)) ?_; (with_reducible refine (scarfref03_U32.calls t200 t201 _ A51.out).mono ?_); rintro e w' ⟨rfl, ⟨nd, rfl⟩⟩; refine ⟨_, rfl, ?_⟩))
                                        go_ret2
                                        exact ⟨by first | rfl | (simp [errW_none, errW_some] <;> rfl) | (simp [*, errW_none, errW_some] <;> rfl), by repeat (first | (with_reducible first | exact HB.out | apply below_alloc | apply pw_below_drewN | apply below_drew1) | exact HB.out)⟩
                                      · rw [if_neg c50] at H
                                        have c50b0 : (t184 == 127) = false := beq_eq_false_iff_ne.mpr c50
                                        have c50b1 : (t184 != 127) = true := bne_iff_ne.mpr c50
                                        simp only [Option.some.injEq, Prod.mk.injEq] at H
                                        obtain ⟨rfl, rfl⟩ := H
                                        go_wp2_with (first | ((with_reducible refine gate_callee (f := 12) rfl ?_); refine goesL_ (some 68) rfl rfl Tryd.func12 (by kernel_rfl) rfl #[.int .i64 a1] rfl (by (try simp only [List.map_toArray, List.map_cons, List.map_nil]); first | done | rfl | (simp only [List.length_drop, List.length_take]; rfl)) ?_; (with_reducible refine (scarfref03_U32.calls a1 t200 _ A49.out).mono ?_); rintro e w' ⟨rfl, ⟨nd, rfl⟩⟩; refine ⟨_, rfl, ?_⟩))
                                        go_ret2
                                        exact ⟨by first | rfl | (simp [errW_none, errW_some] <;> rfl) | (simp [*, errW_none, errW_some] <;> rfl), by repeat (first | (with_reducible first | exact HB.out | apply below_alloc | apply pw_below_drewN | apply below_drew1) | exact HB.out)⟩
                                    · replace c48 := Bool.eq_false_iff.mpr c48
                                      subst c48
                                      have H1 : (if a0 = 172 then (scarfref03_Un.j7 kj45 a1 t184 a0 (a0 == 172)) else (scarfref03_Un.j7 kj45 a1 t184 a0 (a0 == 196))) = some (r1, r2) := by rw [if_neg (show ¬ (false = true) by decide)] at H; exact H
                                      clear H
                                      have H := H1
                                      clear H1
                                      have HC52 := Aside0.mk H
                                      clear H
                                      go_upto_if 69 with (fail)
                                      go_cut [69] (fun v69 wc => ∃ (kq : Nat) (x69_51 : Bool), v69 = .bool x69_51 ∧ Aside0 (scarfref03_Un.j7 kq a1 t184 a0 x69_51 = some (r1, r2)) ∧ Aside0 (kq ≤ kj45) ∧ Aside0 (Below w.heap.size w wc))
                                      case first =>
                                        have H := HC52.out
                                        clear HC52
                                        by_cases c53 : a0 = 172
                                        · rw [if_pos c53] at H
                                          have c53b0 : (a0 == 172) = true := beq_iff_eq.mpr c53
                                          have c53b1 : (a0 != 172) = false := bne_eq_false_iff_eq.mpr c53
                                          clear c53
                                          (first | rw [c53b0] | (simp only [i64_w, i32_w]; rw [c53b0]) | skip)
                                          have H' := Aside0.mk H
                                          clear H
                                          go_wp2
                                          go_meet
                                          case rel => exact ⟨_, ((a0 == 172)), (by first | rfl | (simp; done) | (simp [*]; done)), H', ⟨by have := HJ4.out; have := HJ6.out; have := HJ18.out; have := HJ26.out; have := HJ34.out; have := HJ45.out; first | omega | exact Nat.le_refl _⟩, ⟨by repeat (first | (with_reducible first | exact HB.out | apply below_alloc | apply pw_below_drewN | apply below_drew1) | exact HB.out)⟩⟩
                                        · rw [if_neg c53] at H
                                          have c53b0 : (a0 == 172) = false := beq_eq_false_iff_ne.mpr c53
                                          have c53b1 : (a0 != 172) = true := bne_iff_ne.mpr c53
                                          (first | rw [c53b0] | (simp only [i64_w, i32_w]; rw [c53b0]) | skip)
                                          have H' := Aside0.mk H
                                          clear H
                                          go_wp2
                                          go_meet
                                          case rel => exact ⟨_, ((a0 == 196)), (by first | rfl | (simp; done) | (simp [*]; done)), H', ⟨by have := HJ4.out; have := HJ6.out; have := HJ18.out; have := HJ26.out; have := HJ34.out; have := HJ45.out; first | omega | exact Nat.le_refl _⟩, ⟨by repeat (first | (with_reducible first | exact HB.out | apply below_alloc | apply pw_below_drewN | apply below_drew1) | exact HB.out)⟩⟩
                                      case rest =>
                                        clear HC52
                                        try clear c1
                                        try clear p1
                                        try clear q1
                                        try clear hx1
                                        try clear c2
                                        try clear p2
                                        try clear c3
                                        try clear c4
                                        try clear c4b0
                                        try clear c4b1
                                        try clear c5
                                        try clear c6
                                        try clear c6b0
                                        try clear c6b1
                                        try clear p6
                                        try clear c8
                                        try clear c8b0
                                        try clear c8b1
                                        try clear c9
                                        try clear c10
                                        try clear c12
                                        try clear c13
                                        try clear c13b0
                                        try clear c13b1
                                        try clear c17
                                        try clear p19
                                        try clear q19
                                        try clear hx19
                                        try clear c20
                                        try clear c20b0
                                        try clear c20b1
                                        try clear c21
                                        try clear c23
                                        try clear c23b0
                                        try clear c23b1
                                        try clear c26
                                        try clear c27
                                        try clear c28
                                        try clear c28b0
                                        try clear c28b1
                                        try clear c29
                                        try clear c31
                                        try clear c31b0
                                        try clear c31b1
                                        try clear c36
                                        try clear c36b0
                                        try clear c36b1
                                        try clear c37
                                        try clear c40
                                        try clear c40b0
                                        try clear c41
                                        try clear c41b0
                                        try clear c42
                                        try clear c42b0
                                        try clear c44
                                        try clear c44b0
                                        try clear c44b1
                                        try clear c47
                                        try clear c47b0
                                        try clear c47b1
                                        try clear c48
                                        try clear c50
                                        try clear c50b0
                                        try clear c50b1
                                        try clear c53
                                        try clear c53b0
                                        try clear c53b1
                                        try clear hx198_0
                                        try clear p1
                                        try clear p19
                                        try clear p198
                                        try clear p2
                                        try clear p6
                                        try clear q1
                                        try clear q19
                                        try clear q198
                                        obtain ⟨kq, x69_51, rfl, HA, HJ51, HB⟩ := hcut
                                        cases kq with
                                        | zero => exact absurd HA.out (by simp [scarfref03_Un.j7])
                                        | succ kj51 =>
                                          have H := HA.out
                                          clear HA
                                          simp only [scarfref03_Un.j7] at H
                                          by_cases c54 : x69_51 = true
                                          · subst c54
                                            have H1 : ((scarfref03_S32.f a1).bind fun t202 => (if t184 = 127 then ((scarfref03_U32.f t202).bind fun t203 => (some (t203, true))) else (some (t202, true)))) = some (r1, r2) := by rw [if_pos rfl] at H; exact H
                                            clear H
                                            have H := H1
                                            clear H1
                                            replace H := Option.bind_eq_some_iff.mp H
                                            obtain ⟨t202, A550, H⟩ := H
                                            replace H : (if t184 = 127 then ((scarfref03_U32.f t202).bind fun t203 => (some (t203, true))) else (some (t202, true))) = some (r1, r2) := H
                                            have A55 := Aside0.mk A550
                                            clear A550
                                            by_cases c56 : t184 = 127
                                            · rw [if_pos c56] at H
                                              have c56b0 : (t184 == 127) = true := beq_iff_eq.mpr c56
                                              have c56b1 : (t184 != 127) = false := bne_eq_false_iff_eq.mpr c56
                                              clear c56
                                              replace H := Option.bind_eq_some_iff.mp H
                                              obtain ⟨t203, A570, H⟩ := H
                                              replace H : (some (t203, true)) = some (r1, r2) := H
                                              have A57 := Aside0.mk A570
                                              clear A570
                                              simp only [Option.some.injEq, Prod.mk.injEq] at H
                                              obtain ⟨rfl, rfl⟩ := H
                                              go_wp2_with (first | ((with_reducible refine gate_callee (f := 14) rfl ?_); refine goesL_ (some 73) rfl rfl Tryd.func14 (by kernel_rfl) rfl #[.int .i64 a1] rfl (by (try simp only [List.map_toArray, List.map_cons, List.map_nil]); first | done | rfl | (simp only [List.length_drop, List.length_take]; rfl)) ?_; (with_reducible refine (scarfref03_S32.calls a1 t202 _ A55.out).mono ?_); rintro e w' ⟨rfl, ⟨nd, rfl⟩⟩; refine ⟨_, rfl, ?_⟩) | ((with_reducible refine gate_callee (f := 12) rfl ?_); refine goesL_ (some 82) rfl rfl Tryd.func12 (by kernel_rfl) rfl #[.int .i64 t202] rfl (by (try simp only [List.map_toArray, List.map_cons, List.map_nil]); first | done | rfl | (simp only [List.length_drop, List.length_take]; rfl)) ?_; (with_reducible refine (scarfref03_U32.calls t202 t203 _ A57.out).mono ?_); rintro e w' ⟨rfl, ⟨nd, rfl⟩⟩; refine ⟨_, rfl, ?_⟩))
                                              go_ret2
                                              exact ⟨by first | rfl | (simp [errW_none, errW_some] <;> rfl) | (simp [*, errW_none, errW_some] <;> rfl), by repeat (first | (with_reducible first | exact HB.out | apply below_alloc | apply pw_below_drewN | apply below_drew1) | exact HB.out)⟩
                                            · rw [if_neg c56] at H
                                              have c56b0 : (t184 == 127) = false := beq_eq_false_iff_ne.mpr c56
                                              have c56b1 : (t184 != 127) = true := bne_iff_ne.mpr c56
                                              simp only [Option.some.injEq, Prod.mk.injEq] at H
                                              obtain ⟨rfl, rfl⟩ := H
                                              go_wp2_with (first | ((with_reducible refine gate_callee (f := 14) rfl ?_); refine goesL_ (some 73) rfl rfl Tryd.func14 (by kernel_rfl) rfl #[.int .i64 a1] rfl (by (try simp only [List.map_toArray, List.map_cons, List.map_nil]); first | done | rfl | (simp only [List.length_drop, List.length_take]; rfl)) ?_; (with_reducible refine (scarfref03_S32.calls a1 t202 _ A55.out).mono ?_); rintro e w' ⟨rfl, ⟨nd, rfl⟩⟩; refine ⟨_, rfl, ?_⟩))
                                              go_ret2
                                              exact ⟨by first | rfl | (simp [errW_none, errW_some] <;> rfl) | (simp [*, errW_none, errW_some] <;> rfl), by repeat (first | (with_reducible first | exact HB.out | apply below_alloc | apply pw_below_drewN | apply below_drew1) | exact HB.out)⟩
                                          · replace c54 := Bool.eq_false_iff.mpr c54
                                            subst c54
                                            have H1 : (if a0 = 192 then (scarfref03_Un.j8 kj51 a1 t184 (a0 == 192)) else (scarfref03_Un.j8 kj51 a1 t184 (a0 == 194))) = some (r1, r2) := by rw [if_neg (show ¬ (false = true) by decide)] at H; exact H
                                            clear H
                                            have H := H1
                                            clear H1
                                            have HC58 := Aside0.mk H
                                            clear H
                                            go_upto_if 74 with (fail)
                                            go_cut [74] (fun v74 wc => ∃ (kq : Nat) (x74_57 : Bool), v74 = .bool x74_57 ∧ Aside0 (scarfref03_Un.j8 kq a1 t184 x74_57 = some (r1, r2)) ∧ Aside0 (kq ≤ kj51) ∧ Aside0 (Below w.heap.size w wc))
                                            case first =>
                                              have H := HC58.out
                                              clear HC58
                                              by_cases c59 : a0 = 192
                                              · rw [if_pos c59] at H
                                                have c59b0 : (a0 == 192) = true := beq_iff_eq.mpr c59
                                                have c59b1 : (a0 != 192) = false := bne_eq_false_iff_eq.mpr c59
                                                clear c59
                                                (first | rw [c59b0] | (simp only [i64_w, i32_w]; rw [c59b0]) | skip)
                                                have H' := Aside0.mk H
                                                clear H
                                                go_wp2
                                                go_meet
                                                case rel => exact ⟨_, ((a0 == 192)), (by first | rfl | (simp; done) | (simp [*]; done)), H', ⟨by have := HJ4.out; have := HJ6.out; have := HJ18.out; have := HJ26.out; have := HJ34.out; have := HJ45.out; have := HJ51.out; first | omega | exact Nat.le_refl _⟩, ⟨by repeat (first | (with_reducible first | exact HB.out | apply below_alloc | apply pw_below_drewN | apply below_drew1) | exact HB.out)⟩⟩
                                              · rw [if_neg c59] at H
                                                have c59b0 : (a0 == 192) = false := beq_eq_false_iff_ne.mpr c59
                                                have c59b1 : (a0 != 192) = true := bne_iff_ne.mpr c59
                                                (first | rw [c59b0] | (simp only [i64_w, i32_w]; rw [c59b0]) | skip)
                                                have H' := Aside0.mk H
                                                clear H
                                                go_wp2
                                                go_meet
                                                case rel => exact ⟨_, ((a0 == 194)), (by first | rfl | (simp; done) | (simp [*]; done)), H', ⟨by have := HJ4.out; have := HJ6.out; have := HJ18.out; have := HJ26.out; have := HJ34.out; have := HJ45.out; have := HJ51.out; first | omega | exact Nat.le_refl _⟩, ⟨by repeat (first | (with_reducible first | exact HB.out | apply below_alloc | apply pw_below_drewN | apply below_drew1) | exact HB.out)⟩⟩
                                            case rest =>
                                              clear HC58
                                              try clear c1
                                              try clear p1
                                              try clear q1
                                              try clear hx1
                                              try clear c2
                                              try clear p2
                                              try clear c3
                                              try clear c4
                                              try clear c4b0
                                              try clear c4b1
                                              try clear c5
                                              try clear c6
                                              try clear c6b0
                                              try clear c6b1
                                              try clear p6
                                              try clear c8
                                              try clear c8b0
                                              try clear c8b1
                                              try clear c9
                                              try clear c10
                                              try clear c12
                                              try clear c13
                                              try clear c13b0
                                              try clear c13b1
                                              try clear c14
                                              try clear c17
                                              try clear p19
                                              try clear q19
                                              try clear hx19
                                              try clear c20
                                              try clear c20b0
                                              try clear c20b1
                                              try clear c21
                                              try clear c23
                                              try clear c23b0
                                              try clear c23b1
                                              try clear c26
                                              try clear c27
                                              try clear c28
                                              try clear c28b0
                                              try clear c28b1
                                              try clear c29
                                              try clear c31
                                              try clear c31b0
                                              try clear c31b1
                                              try clear c36
                                              try clear c36b0
                                              try clear c36b1
                                              try clear c37
                                              try clear c40
                                              try clear c40b0
                                              try clear c41
                                              try clear c41b0
                                              try clear c42
                                              try clear c42b0
                                              try clear c44
                                              try clear c44b0
                                              try clear c44b1
                                              try clear c47
                                              try clear c47b0
                                              try clear c47b1
                                              try clear c48
                                              try clear c50
                                              try clear c50b0
                                              try clear c50b1
                                              try clear c53
                                              try clear c53b0
                                              try clear c53b1
                                              try clear c54
                                              try clear c56
                                              try clear c56b0
                                              try clear c56b1
                                              try clear c59
                                              try clear c59b0
                                              try clear c59b1
                                              try clear hx198_0
                                              try clear p1
                                              try clear p19
                                              try clear p198
                                              try clear p2
                                              try clear p6
                                              try clear q1
                                              try clear q19
                                              try clear q198
                                              obtain ⟨kq, x74_57, rfl, HA, HJ57, HB⟩ := hcut
                                              cases kq with
                                              | zero => exact absurd HA.out (by simp [scarfref03_Un.j8])
                                              | succ kj57 =>
                                                have H := HA.out
                                                clear HA
                                                simp only [scarfref03_Un.j8] at H
                                                by_cases c60 : x74_57 = true
                                                · subst c60
                                                  have H1 : ((scarfref03_signed.f kj57 a1 8).bind fun t204 => (if t184 = 127 then ((scarfref03_U32.f t204).bind fun t205 => (some (t205, true))) else (some (t204, true)))) = some (r1, r2) := by rw [if_pos rfl] at H; exact H
                                                  clear H
                                                  have H := H1
                                                  clear H1
                                                  replace H := Option.bind_eq_some_iff.mp H
                                                  obtain ⟨t204, A610, H⟩ := H
                                                  replace H : (if t184 = 127 then ((scarfref03_U32.f t204).bind fun t205 => (some (t205, true))) else (some (t204, true))) = some (r1, r2) := H
                                                  have A61 := Aside0.mk A610
                                                  clear A610
                                                  by_cases c62 : t184 = 127
                                                  · rw [if_pos c62] at H
                                                    have c62b0 : (t184 == 127) = true := beq_iff_eq.mpr c62
                                                    have c62b1 : (t184 != 127) = false := bne_eq_false_iff_eq.mpr c62
                                                    clear c62
                                                    replace H := Option.bind_eq_some_iff.mp H
                                                    obtain ⟨t205, A630, H⟩ := H
                                                    replace H : (some (t205, true)) = some (r1, r2) := H
                                                    have A63 := Aside0.mk A630
                                                    clear A630
                                                    simp only [Option.some.injEq, Prod.mk.injEq] at H
                                                    obtain ⟨rfl, rfl⟩ := H
                                                    go_wp2_with (first | ((with_reducible refine gate_callee (f := 30) rfl ?_); refine goesL_ (some 78) rfl rfl Tryd.func30 (by kernel_rfl) rfl #[.int .i64 a1, .int .i64 8] rfl (by (try simp only [List.map_toArray, List.map_cons, List.map_nil]); first | done | rfl | (simp only [List.length_drop, List.length_take]; rfl)) ?_; (with_reducible refine (scarfref03_signed.calls kj57 a1 8 t204 _ A61.out).mono ?_); rintro e w64 ⟨rfl, hb⟩; refine ⟨_, rfl, ?_⟩; have n0_ := Aside0.mk (below_step (by repeat (first | (with_reducible first | exact HB.out | apply below_alloc | apply pw_below_drewN | apply below_drew1) | exact HB.out)) hb); clear HB; have HB := n0_; clear n0_; (try clear hb); (try clear hb2); (try clear hk); (try clear hi)) | ((with_reducible refine gate_callee (f := 12) rfl ?_); refine goesL_ (some 82) rfl rfl Tryd.func12 (by kernel_rfl) rfl #[.int .i64 t204] rfl (by (try simp only [List.map_toArray, List.map_cons, List.map_nil]); first | done | rfl | (simp only [List.length_drop, List.length_take]; rfl)) ?_; (with_reducible refine (scarfref03_U32.calls t204 t205 _ A63.out).mono ?_); rintro e w' ⟨rfl, ⟨nd, rfl⟩⟩; refine ⟨_, rfl, ?_⟩))
                                                    go_ret2
                                                    exact ⟨by first | rfl | (simp [errW_none, errW_some] <;> rfl) | (simp [*, errW_none, errW_some] <;> rfl), by repeat (first | (with_reducible first | exact HB.out | apply below_alloc | apply pw_below_drewN | apply below_drew1) | exact HB.out)⟩
                                                  · rw [if_neg c62] at H
                                                    have c62b0 : (t184 == 127) = false := beq_eq_false_iff_ne.mpr c62
                                                    have c62b1 : (t184 != 127) = true := bne_iff_ne.mpr c62
                                                    simp only [Option.some.injEq, Prod.mk.injEq] at H
                                                    obtain ⟨rfl, rfl⟩ := H
                                                    go_wp2_with (first | ((with_reducible refine gate_callee (f := 30) rfl ?_); refine goesL_ (some 78) rfl rfl Tryd.func30 (by kernel_rfl) rfl #[.int .i64 a1, .int .i64 8] rfl (by (try simp only [List.map_toArray, List.map_cons, List.map_nil]); first | done | rfl | (simp only [List.length_drop, List.length_take]; rfl)) ?_; (with_reducible refine (scarfref03_signed.calls kj57 a1 8 t204 _ A61.out).mono ?_); rintro e w65 ⟨rfl, hb⟩; refine ⟨_, rfl, ?_⟩; have n0_ := Aside0.mk (below_step (by repeat (first | (with_reducible first | exact HB.out | apply below_alloc | apply pw_below_drewN | apply below_drew1) | exact HB.out)) hb); clear HB; have HB := n0_; clear n0_; (try clear hb); (try clear hb2); (try clear hk); (try clear hi)))
                                                    go_ret2
                                                    exact ⟨by first | rfl | (simp [errW_none, errW_some] <;> rfl) | (simp [*, errW_none, errW_some] <;> rfl), by repeat (first | (with_reducible first | exact HB.out | apply below_alloc | apply pw_below_drewN | apply below_drew1) | exact HB.out)⟩
                                                · replace c60 := Bool.eq_false_iff.mpr c60
                                                  subst c60
                                                  have H1 : ((scarfref03_signed.f kj57 a1 16).bind fun t206 => (if t184 = 127 then ((scarfref03_U32.f t206).bind fun t207 => (some (t207, true))) else (some (t206, true)))) = some (r1, r2) := by rw [if_neg (show ¬ (false = true) by decide)] at H; exact H
                                                  clear H
                                                  have H := H1
                                                  clear H1
                                                  replace H := Option.bind_eq_some_iff.mp H
                                                  obtain ⟨t206, A660, H⟩ := H
                                                  replace H : (if t184 = 127 then ((scarfref03_U32.f t206).bind fun t207 => (some (t207, true))) else (some (t206, true))) = some (r1, r2) := H
                                                  have A66 := Aside0.mk A660
                                                  clear A660
                                                  by_cases c67 : t184 = 127
                                                  · rw [if_pos c67] at H
                                                    have c67b0 : (t184 == 127) = true := beq_iff_eq.mpr c67
                                                    have c67b1 : (t184 != 127) = false := bne_eq_false_iff_eq.mpr c67
                                                    clear c67
                                                    replace H := Option.bind_eq_some_iff.mp H
                                                    obtain ⟨t207, A680, H⟩ := H
                                                    replace H : (some (t207, true)) = some (r1, r2) := H
                                                    have A68 := Aside0.mk A680
                                                    clear A680
                                                    simp only [Option.some.injEq, Prod.mk.injEq] at H
                                                    obtain ⟨rfl, rfl⟩ := H
                                                    go_wp2_with (first | ((with_reducible refine gate_callee (f := 30) rfl ?_); refine goesL_ (some 25) rfl rfl Tryd.func30 (by kernel_rfl) rfl #[.int .i64 a1, .int .i64 16] rfl (by (try simp only [List.map_toArray, List.map_cons, List.map_nil]); first | done | rfl | (simp only [List.length_drop, List.length_take]; rfl)) ?_; (with_reducible refine (scarfref03_signed.calls kj57 a1 16 t206 _ A66.out).mono ?_); rintro e w69 ⟨rfl, hb⟩; refine ⟨_, rfl, ?_⟩; have n0_ := Aside0.mk (below_step (by repeat (first | (with_reducible first | exact HB.out | apply below_alloc | apply pw_below_drewN | apply below_drew1) | exact HB.out)) hb); clear HB; have HB := n0_; clear n0_; (try clear hb); (try clear hb2); (try clear hk); (try clear hi)) | ((with_reducible refine gate_callee (f := 12) rfl ?_); refine goesL_ (some 82) rfl rfl Tryd.func12 (by kernel_rfl) rfl #[.int .i64 t206] rfl (by (try simp only [List.map_toArray, List.map_cons, List.map_nil]); first | done | rfl | (simp only [List.length_drop, List.length_take]; rfl)) ?_; (with_reducible refine (scarfref03_U32.calls t206 t207 _ A68.out).mono ?_); rintro e w' ⟨rfl, ⟨nd, rfl⟩⟩; refine ⟨_, rfl, ?_⟩))
                                                    go_ret2
                                                    exact ⟨by first | rfl | (simp [errW_none, errW_some] <;> rfl) | (simp [*, errW_none, errW_some] <;> rfl), by repeat (first | (with_reducible first | exact HB.out | apply below_alloc | apply pw_below_drewN | apply below_drew1) | exact HB.out)⟩
                                                  · rw [if_neg c67] at H
                                                    have c67b0 : (t184 == 127) = false := beq_eq_false_iff_ne.mpr c67
                                                    have c67b1 : (t184 != 127) = true := bne_iff_ne.mpr c67
                                                    simp only [Option.some.injEq, Prod.mk.injEq] at H
                                                    obtain ⟨rfl, rfl⟩ := H
                                                    go_wp2_with (first | ((with_reducible refine gate_callee (f := 30) rfl ?_); refine goesL_ (some 25) rfl rfl Tryd.func30 (by kernel_rfl) rfl #[.int .i64 a1, .int .i64 16] rfl (by (try simp only [List.map_toArray, List.map_cons, List.map_nil]); first | done | rfl | (simp only [List.length_drop, List.length_take]; rfl)) ?_; (with_reducible refine (scarfref03_signed.calls kj57 a1 16 t206 _ A66.out).mono ?_); rintro e w70 ⟨rfl, hb⟩; refine ⟨_, rfl, ?_⟩; have n0_ := Aside0.mk (below_step (by repeat (first | (with_reducible first | exact HB.out | apply below_alloc | apply pw_below_drewN | apply below_drew1) | exact HB.out)) hb); clear HB; have HB := n0_; clear n0_; (try clear hb); (try clear hb2); (try clear hk); (try clear hi)))
                                                    go_ret2
                                                    exact ⟨by first | rfl | (simp [errW_none, errW_some] <;> rfl) | (simp [*, errW_none, errW_some] <;> rfl), by repeat (first | (with_reducible first | exact HB.out | apply below_alloc | apply pw_below_drewN | apply below_drew1) | exact HB.out)⟩
  · rw [if_neg c4] at H
    have c4b0 : (t182 == 1) = false := beq_eq_false_iff_ne.mpr c4
    have c4b1 : (t182 != 1) = true := bne_iff_ne.mpr c4
    simp only [Option.some.injEq, Prod.mk.injEq] at H
    obtain ⟨rfl, rfl⟩ := H
    go_enter Tryd.func17, Tryd.ntmps17
    go_wp2_with (first | ((with_reducible refine gate_callee (f := 10) rfl ?_); refine goesL_ (some 15) rfl rfl Tryd.func10 (by kernel_rfl) rfl #[.int .i64 a0] rfl (by (try simp only [List.map_toArray, List.map_cons, List.map_nil]); first | done | rfl | (simp only [List.length_drop, List.length_take]; rfl)) ?_; (with_reducible refine (scarfref03_Sig.calls k a0 t182 t183 t184 _ A3.out).mono ?_); rintro e w' ⟨rfl, ⟨nd, rfl⟩⟩; refine ⟨_, rfl, ?_⟩))
    go_ret2
    exact ⟨by first | rfl | (simp [errW_none, errW_some] <;> rfl) | (simp [*, errW_none, errW_some] <;> rfl), by repeat (first | (with_reducible first | exact HB.out | apply below_alloc | apply pw_below_drewN | apply below_drew1) | exact HB.out)⟩

end Go.Proofs.YtpoapiphnhmdmaaDoor.PA
