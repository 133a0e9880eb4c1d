/- Several texts of this session, laid into one for a claim: PBx8. -/
import Derived.Test.YtckhlbpjehbnlaaGInstrShapes0
import Derived.Test.YtckhlbpjehbnlaaGInstrShapes1
import Derived.Test.YtckhlbpjehbnlaaGInstrShapes2
namespace Go.Proofs.Ytckhlbpjehbnlaa.PB
open Go.RowKit Go.Proofs.YtckhlbpjehbnlaaW.PrintWords Go.Proofs.YtckhlbpjehbnlaaW.PrintLast Go.Proofs.YtckhlbpjehbnlaaW.PrintMore
attribute [local go_sem] max2_int min2_int max_two min_two max_three min_three max_four min_four   -- for this text's walks alone
set_option linter.unusedVariables false
set_option linter.unusedSimpArgs false
mutual
def scarfref05_Shape.j0 : Nat → Int → Int → Bool → Option (Int × Int)
  | 0, _, _, _ => none
  | k + 1, x0, x4, x28 => if x28 = true then (some (1, 0)) else ((scarfref05_one.f k x0 (([2, 3, 4] : List Int))).bind fun t134 => (if t134 = true then (some (2, 0)) else ((scarfref05_one.f k x0 (([12, 13, 16, 32, 33, 34, 35, 36, 210] : List Int))).bind fun t138 => (if t138 = true then (some (3, 0)) else (if x0 = 14 then (some (4, 0)) else (if x0 = 17 then (some (5, 0)) else (if x0 = 28 then (some (6, 0)) else (if x4 > 0 then (some (7, 0)) else ((scarfref05_one.f k x0 (([37, 38, 63, 64, 64523, 64527, 64528, 64529] : List Int))).bind fun t142 => (if t142 = true then (some (8, 0)) else (if x0 = 64522 then (scarfref05_Shape.j1 k x0 true) else (scarfref05_Shape.j1 k x0 (x0 == 64526)))))))))))))
def scarfref05_Shape.j1 : Nat → Int → Bool → Option (Int × Int)
  | 0, _, _ => none
  | k + 1, x0, x51 => if x51 = true then (some (9, 0)) else (if x0 = 65 then (scarfref05_Shape.j2 k x0 true) else (scarfref05_Shape.j2 k x0 (x0 == 66)))
def scarfref05_Shape.j2 : Nat → Int → Bool → Option (Int × Int)
  | 0, _, _ => none
  | k + 1, x0, x57 => if x57 = true then (some (10, 0)) else (if x0 = 208 then (some (11, 0)) else ((scarfref05_one.f k x0 (([42, 43, 56, 57, 67, 68] : List Int))).bind fun t146 => (if t146 = true then (scarfref05_Shape.j3 k x0 true) else (if x0 ≥ 91 then (if x0 ≤ 102 then (scarfref05_Shape.j3 k x0 true) else (if x0 ≥ 139 then (if x0 ≤ 166 then (scarfref05_Shape.j3 k x0 true) else (if x0 ≥ 168 then (if x0 ≤ 171 then (scarfref05_Shape.j3 k x0 true) else (if x0 ≥ 174 then (if x0 ≤ 191 then (scarfref05_Shape.j3 k x0 true) else (if x0 ≥ 64512 then (scarfref05_Shape.j3 k x0 (decide (x0 ≤ 64519))) else (scarfref05_Shape.j3 k x0 false))) else (if x0 ≥ 64512 then (scarfref05_Shape.j3 k x0 (decide (x0 ≤ 64519))) else (scarfref05_Shape.j3 k x0 false)))) else (if x0 ≥ 174 then (if x0 ≤ 191 then (scarfref05_Shape.j3 k x0 true) else (if x0 ≥ 64512 then (scarfref05_Shape.j3 k x0 (decide (x0 ≤ 64519))) else (scarfref05_Shape.j3 k x0 false))) else (if x0 ≥ 64512 then (scarfref05_Shape.j3 k x0 (decide (x0 ≤ 64519))) else (scarfref05_Shape.j3 k x0 false))))) else (if x0 ≥ 168 then (if x0 ≤ 171 then (scarfref05_Shape.j3 k x0 true) else (if x0 ≥ 174 then (if x0 ≤ 191 then (scarfref05_Shape.j3 k x0 true) else (if x0 ≥ 64512 then (scarfref05_Shape.j3 k x0 (decide (x0 ≤ 64519))) else (scarfref05_Shape.j3 k x0 false))) else (if x0 ≥ 64512 then (scarfref05_Shape.j3 k x0 (decide (x0 ≤ 64519))) else (scarfref05_Shape.j3 k x0 false)))) else (if x0 ≥ 174 then (if x0 ≤ 191 then (scarfref05_Shape.j3 k x0 true) else (if x0 ≥ 64512 then (scarfref05_Shape.j3 k x0 (decide (x0 ≤ 64519))) else (scarfref05_Shape.j3 k x0 false))) else (if x0 ≥ 64512 then (scarfref05_Shape.j3 k x0 (decide (x0 ≤ 64519))) else (scarfref05_Shape.j3 k x0 false)))))) else (if x0 ≥ 139 then (if x0 ≤ 166 then (scarfref05_Shape.j3 k x0 true) else (if x0 ≥ 168 then (if x0 ≤ 171 then (scarfref05_Shape.j3 k x0 true) else (if x0 ≥ 174 then (if x0 ≤ 191 then (scarfref05_Shape.j3 k x0 true) else (if x0 ≥ 64512 then (scarfref05_Shape.j3 k x0 (decide (x0 ≤ 64519))) else (scarfref05_Shape.j3 k x0 false))) else (if x0 ≥ 64512 then (scarfref05_Shape.j3 k x0 (decide (x0 ≤ 64519))) else (scarfref05_Shape.j3 k x0 false)))) else (if x0 ≥ 174 then (if x0 ≤ 191 then (scarfref05_Shape.j3 k x0 true) else (if x0 ≥ 64512 then (scarfref05_Shape.j3 k x0 (decide (x0 ≤ 64519))) else (scarfref05_Shape.j3 k x0 false))) else (if x0 ≥ 64512 then (scarfref05_Shape.j3 k x0 (decide (x0 ≤ 64519))) else (scarfref05_Shape.j3 k x0 false))))) else (if x0 ≥ 168 then (if x0 ≤ 171 then (scarfref05_Shape.j3 k x0 true) else (if x0 ≥ 174 then (if x0 ≤ 191 then (scarfref05_Shape.j3 k x0 true) else (if x0 ≥ 64512 then (scarfref05_Shape.j3 k x0 (decide (x0 ≤ 64519))) else (scarfref05_Shape.j3 k x0 false))) else (if x0 ≥ 64512 then (scarfref05_Shape.j3 k x0 (decide (x0 ≤ 64519))) else (scarfref05_Shape.j3 k x0 false)))) else (if x0 ≥ 174 then (if x0 ≤ 191 then (scarfref05_Shape.j3 k x0 true) else (if x0 ≥ 64512 then (scarfref05_Shape.j3 k x0 (decide (x0 ≤ 64519))) else (scarfref05_Shape.j3 k x0 false))) else (if x0 ≥ 64512 then (scarfref05_Shape.j3 k x0 (decide (x0 ≤ 64519))) else (scarfref05_Shape.j3 k x0 false)))))))))
def scarfref05_Shape.j3 : Nat → Int → Bool → Option (Int × Int)
  | 0, _, _ => none
  | k + 1, x0, x102 => if x102 = true then (some (0, 3)) else (if x0 = 253 then (some (0, 4)) else (some (0, 5)))
end
def scarfref05_Shape.f (k : Nat) (a0 : Int) : Option (Int × Int) := (scarfref04_Width.f k a0).bind fun bt121 => ((scarfref03_Sig.f k a0).bind fun bt124 => (if bt124.1 > 0 then (scarfref05_Shape.j0 k a0 bt121.1 true) else ((scarfref05_one.f k a0 (([0, 1, 15, 26, 27, 209] : List Int))).bind fun t130 => (scarfref05_Shape.j0 k a0 bt121.1 t130))))
theorem scarfref05_Shape.mono_l : ∀ k, (∀ y0 y1 y2, LeO (scarfref05_Shape.j0 k y0 y1 y2) (scarfref05_Shape.j0 (k + 1) y0 y1 y2)) ∧ (∀ y0 y1, LeO (scarfref05_Shape.j1 k y0 y1) (scarfref05_Shape.j1 (k + 1) y0 y1)) ∧ (∀ y0 y1, LeO (scarfref05_Shape.j2 k y0 y1) (scarfref05_Shape.j2 (k + 1) y0 y1)) ∧ (∀ y0 y1, LeO (scarfref05_Shape.j3 k y0 y1) (scarfref05_Shape.j3 (k + 1) y0 y1))
  | 0 => ⟨fun _ _ _ r h => by simp [scarfref05_Shape.j0] at h, fun _ _ r h => by simp [scarfref05_Shape.j1] at h, fun _ _ r h => by simp [scarfref05_Shape.j2] at h, fun _ _ r h => by simp [scarfref05_Shape.j3] at h⟩
  | k + 1 => by
    obtain ⟨ih0, ih1, ih2, ih3⟩ := scarfref05_Shape.mono_l k
    refine ⟨?_, ?_, ?_, ?_⟩
    · intro y0 y1 y2
      unfold scarfref05_Shape.j0
      repeat' first
      | (with_reducible exact ih0 _ _ _)
      | (with_reducible exact ih1 _ _)
      | (with_reducible exact ih2 _ _)
      | (with_reducible exact ih3 _ _)
      | (with_reducible exact scarfref03_Sig.mono _ _)
      | (with_reducible exact scarfref04_Width.mono _ _)
      | (with_reducible exact scarfref05_one.mono _ _ _)
      | (with_reducible exact LeO.refl _)
      | (with_reducible exact LeO.none _)
      | (with_reducible refine LeO.ite ?_ ?_)
      | (with_reducible refine LeO.bind ?_ (fun _ => ?_))
      | exact ih0 _ _ _
      | exact ih1 _ _
      | exact ih2 _ _
      | exact ih3 _ _
      | exact scarfref03_Sig.mono _ _
      | exact scarfref04_Width.mono _ _
      | exact scarfref05_one.mono _ _ _
      | exact LeO.none _
      | refine LeO.ite ?_ ?_
      | refine LeO.bind ?_ (fun _ => ?_)
    · intro y0 y1
      unfold scarfref05_Shape.j1
      repeat' first
      | (with_reducible exact ih0 _ _ _)
      | (with_reducible exact ih1 _ _)
      | (with_reducible exact ih2 _ _)
      | (with_reducible exact ih3 _ _)
      | (with_reducible exact scarfref03_Sig.mono _ _)
      | (with_reducible exact scarfref04_Width.mono _ _)
      | (with_reducible exact scarfref05_one.mono _ _ _)
      | (with_reducible exact LeO.refl _)
      | (with_reducible exact LeO.none _)
      | (with_reducible refine LeO.ite ?_ ?_)
      | (with_reducible refine LeO.bind ?_ (fun _ => ?_))
      | exact ih0 _ _ _
      | exact ih1 _ _
      | exact ih2 _ _
      | exact ih3 _ _
      | exact scarfref03_Sig.mono _ _
      | exact scarfref04_Width.mono _ _
      | exact scarfref05_one.mono _ _ _
      | exact LeO.none _
      | refine LeO.ite ?_ ?_
      | refine LeO.bind ?_ (fun _ => ?_)
    · intro y0 y1
      unfold scarfref05_Shape.j2
      repeat' first
      | (with_reducible exact ih0 _ _ _)
      | (with_reducible exact ih1 _ _)
      | (with_reducible exact ih2 _ _)
      | (with_reducible exact ih3 _ _)
      | (with_reducible exact scarfref03_Sig.mono _ _)
      | (with_reducible exact scarfref04_Width.mono _ _)
      | (with_reducible exact scarfref05_one.mono _ _ _)
      | (with_reducible exact LeO.refl _)
      | (with_reducible exact LeO.none _)
      | (with_reducible refine LeO.ite ?_ ?_)
      | (with_reducible refine LeO.bind ?_ (fun _ => ?_))
      | exact ih0 _ _ _
      | exact ih1 _ _
      | exact ih2 _ _
      | exact ih3 _ _
      | exact scarfref03_Sig.mono _ _
      | exact scarfref04_Width.mono _ _
      | exact scarfref05_one.mono _ _ _
      | exact LeO.none _
      | refine LeO.ite ?_ ?_
      | refine LeO.bind ?_ (fun _ => ?_)
    · intro y0 y1
      unfold scarfref05_Shape.j3
      repeat' first
      | (with_reducible exact ih0 _ _ _)
      | (with_reducible exact ih1 _ _)
      | (with_reducible exact ih2 _ _)
      | (with_reducible exact ih3 _ _)
      | (with_reducible exact scarfref03_Sig.mono _ _)
      | (with_reducible exact scarfref04_Width.mono _ _)
      | (with_reducible exact scarfref05_one.mono _ _ _)
      | (with_reducible exact LeO.refl _)
      | (with_reducible exact LeO.none _)
      | (with_reducible refine LeO.ite ?_ ?_)
      | (with_reducible refine LeO.bind ?_ (fun _ => ?_))
      | exact ih0 _ _ _
      | exact ih1 _ _
      | exact ih2 _ _
      | exact ih3 _ _
      | exact scarfref03_Sig.mono _ _
      | exact scarfref04_Width.mono _ _
      | exact scarfref05_one.mono _ _ _
      | exact LeO.none _
      | refine LeO.ite ?_ ?_
      | refine LeO.bind ?_ (fun _ => ?_)
theorem scarfref05_Shape.mono : ∀ a0 k, LeO (scarfref05_Shape.f k a0) (scarfref05_Shape.f (k + 1) a0) := by
  intro a0 k
  obtain ⟨ih0, ih1, ih2, ih3⟩ := scarfref05_Shape.mono_l k
  unfold scarfref05_Shape.f
  repeat' first
      | (with_reducible exact ih0 _ _ _)
      | (with_reducible exact ih1 _ _)
      | (with_reducible exact ih2 _ _)
      | (with_reducible exact ih3 _ _)
      | (with_reducible exact scarfref03_Sig.mono _ _)
      | (with_reducible exact scarfref04_Width.mono _ _)
      | (with_reducible exact scarfref05_one.mono _ _ _)
      | (with_reducible exact LeO.refl _)
      | (with_reducible exact LeO.none _)
      | (with_reducible refine LeO.ite ?_ ?_)
      | (with_reducible refine LeO.bind ?_ (fun _ => ?_))
      | exact ih0 _ _ _
      | exact ih1 _ _
      | exact ih2 _ _
      | exact ih3 _ _
      | exact scarfref03_Sig.mono _ _
      | exact scarfref04_Width.mono _ _
      | exact scarfref05_one.mono _ _ _
      | exact LeO.none _
      | refine LeO.ite ?_ ?_
      | refine LeO.bind ?_ (fun _ => ?_)
set_option maxHeartbeats 8000000 in
set_option maxRecDepth 100000 in
theorem scarfref05_Shape.calls (k : Nat) (a0 : Int) (r1 : Int) (r2 : Int) (w : World) (h : scarfref05_Shape.f k a0 = some (r1, r2)) :
    Calls Try.prog 11 #[.int .i64 a0] w fun e w' => e = .returned (.tuple #[.int .i64 r1, .int .i64 r2]) ∧ Below w.heap.size w w' := by
  have HB := Aside0.mk (Below.refl w.heap.size w)
  have H : ((scarfref04_Width.f k a0).bind fun bt121 => ((scarfref03_Sig.f k a0).bind fun bt124 => (if bt124.1 > 0 then (scarfref05_Shape.j0 k a0 bt121.1 true) else ((scarfref05_one.f k a0 (([0, 1, 15, 26, 27, 209] : List Int))).bind fun t130 => (scarfref05_Shape.j0 k a0 bt121.1 t130))))) = some (r1, r2) := h
  clear h
  replace H := Option.bind_eq_some_iff.mp H
  obtain ⟨⟨t121, t122, t123⟩, A20, H⟩ := H
  replace H : ((scarfref03_Sig.f k a0).bind fun bt124 => (if bt124.1 > 0 then (scarfref05_Shape.j0 k a0 t121 true) else ((scarfref05_one.f k a0 (([0, 1, 15, 26, 27, 209] : List Int))).bind fun t130 => (scarfref05_Shape.j0 k a0 t121 t130)))) = some (r1, r2) := H
  have A2 := Aside0.mk A20
  clear A20
  replace H := Option.bind_eq_some_iff.mp H
  obtain ⟨⟨t124, t125, t126⟩, A30, H⟩ := H
  replace H : (if t124 > 0 then (scarfref05_Shape.j0 k a0 t121 true) else ((scarfref05_one.f k a0 (([0, 1, 15, 26, 27, 209] : List Int))).bind fun t130 => (scarfref05_Shape.j0 k a0 t121 t130))) = some (r1, r2) := H
  have A3 := Aside0.mk A30
  clear A30
  have HC4 := Aside0.mk H
  clear H
  go_enter Try.func11, Try.ntmps11
  go_upto_region 3 with (first | ((with_reducible refine gate_callee (f := 25) rfl ?_); refine goesL_ (some 12) rfl rfl Try.func25 (by kernel_rfl) rfl #[.int .i64 a0] rfl (by (try simp only [List.map_toArray, List.map_cons, List.map_nil]); first | done | rfl | (simp only [List.length_drop, List.length_take]; rfl)) ?_; (with_reducible refine (scarfref04_Width.calls k a0 t121 t122 t123 _ A2.out).mono ?_); rintro e w5 ⟨rfl, hb⟩; refine ⟨_, rfl, ?_⟩; have n0_ := Aside0.mk (below_step (by repeat (first | (with_reducible first | exact HB.out | apply below_alloc | apply pw_below_drewN | apply below_drew1) | exact HB.out)) hb); clear HB; have HB := n0_; clear n0_; (try clear hb); (try clear hb2); (try clear hk); (try clear hi)) | ((with_reducible refine gate_callee (f := 26) rfl ?_); refine goesL_ (some 18) rfl rfl Try.func26 (by kernel_rfl) rfl #[.int .i64 a0] rfl (by (try simp only [List.map_toArray, List.map_cons, List.map_nil]); first | done | rfl | (simp only [List.length_drop, List.length_take]; rfl)) ?_; (with_reducible refine (scarfref03_Sig.calls k a0 t124 t125 t126 _ A3.out).mono ?_); rintro e w' ⟨rfl, ⟨nd, rfl⟩⟩; refine ⟨_, rfl, ?_⟩))
  (try simp only [Act.put, List.setIfInBounds_toArray, List.set_cons_zero, List.set_cons_succ])
  go_cut [28] (fun v28 wc => ∃ (kq : Nat) (x28_3 : Bool), v28 = .bool x28_3 ∧ Aside0 (scarfref05_Shape.j0 kq a0 t121 x28_3 = some (r1, r2)) ∧ Aside0 (kq ≤ k) ∧ Aside0 (Below w.heap.size w wc))
  case first =>
    have H := HC4.out
    clear HC4
    by_cases c6 : t124 > 0
    · rw [if_pos c6] at H
      have c6b0 : decide (0 < t124) = true := decide_eq_true c6
      clear c6
      (first | rw [c6b0] | (simp only [i64_w, i32_w]; rw [c6b0]) | skip)
      have H' := Aside0.mk H
      clear H
      go_wp2
      go_meet
      case rel => exact ⟨_, (true), (by first | rfl | (simp; done) | (simp [*]; done)), H', ⟨by first | omega | exact Nat.le_refl _⟩, ⟨by repeat (first | (with_reducible first | exact HB.out | apply below_alloc | apply pw_below_drewN | apply below_drew1) | exact HB.out)⟩⟩
    · rw [if_neg c6] at H
      have c6b0 : decide (0 < t124) = false := decide_eq_false c6
      clear c6
      (first | rw [c6b0] | (simp only [i64_w, i32_w]; rw [c6b0]) | skip)
      obtain ⟨y127, hy127⟩ : ∃ y_ : List Int, y_ = (([0, 1, 15, 26, 27, 209] : List Int)) := ⟨_, rfl⟩
      replace H : ((scarfref05_one.f k a0 y127).bind fun t130 => (scarfref05_Shape.j0 k a0 t121 t130)) = some (r1, r2) := by first | (rw [hy127]; with_reducible exact H) | (have H2_ := (Option.bind_some _ _).symm.trans H; rw [hy127]; with_reducible exact H2_) | (have H2_ := (Option.bind_some _ _).symm.trans H; with_reducible exact H2_) | with_reducible exact H | (rw [hy127]; exact H) | exact H
      have Ny127 := Aside0.mk hy127
      clear hy127
      replace H := Option.bind_eq_some_iff.mp H
      obtain ⟨t130, A70, H⟩ := H
      replace H : (scarfref05_Shape.j0 k a0 t121 t130) = some (r1, r2) := H
      have A7 := Aside0.mk A70
      clear A70
      have H' := Aside0.mk H
      clear H
      go_wp2_with (first | ((with_reducible refine gate_dst (N := 26) rfl ?_); (try (refine gate_guard (by rfl) ?_; dsimp only)); refine Kd.R_lit (Kd.int .i64) _ 3 ?hg (N := 26) ?hd (xs := ([0, 1, 15, 26, 27, 209] : List Int)) (inner := [.int .i64 0, .int .i64 1, .int .i64 15, .int .i64 26, .int .i64 27, .int .i64 209]) (ok := fun _ => True) (okp := fun _ => True) ?hr ?hp (fun _ hk => hk) trivial (Below.refl _ _) (Nat.le_refl _) (by simp) ?_; (case hd => rfl); (case hg => rfl); (case hr => first | (go_simp; done) | (go_simp; rfl)); (case hp => exact (Reps.one (show Kd.M (Kd.int .i64) _ _ _ 0 [.int .i64 0] from rfl) (Reps.one (show Kd.M (Kd.int .i64) _ _ _ 1 [.int .i64 1] from rfl) (Reps.one (show Kd.M (Kd.int .i64) _ _ _ 15 [.int .i64 15] from rfl) (Reps.one (show Kd.M (Kd.int .i64) _ _ _ 26 [.int .i64 26] from rfl) (Reps.one (show Kd.M (Kd.int .i64) _ _ _ 27 [.int .i64 27] from rfl) (Reps.one (show Kd.M (Kd.int .i64) _ _ _ 209 [.int .i64 209] from rfl) (Reps.none _ _)))))))); intro v128 w8 ho9 hb hg_ hnew_; clear hg_ hnew_; (first | rw [← Ny127.out] at ho9 | (simp only [Int.reduceToNat] at ho9; rw [← Ny127.out] at ho9)); have n0_ := Aside0.mk (Kd.R_lower ho9 (below_size (by repeat (first | (with_reducible first | exact HB.out | apply below_alloc | apply pw_below_drewN | apply below_drew1) | exact HB.out)))); have n1_ := Aside0.mk (below_step (by repeat (first | (with_reducible first | exact HB.out | apply below_alloc | apply pw_below_drewN | apply below_drew1) | exact HB.out)) hb); clear HB; have HO129 := n0_; have HB := n1_; clear n0_ n1_; clear hb ho9; obtain ⟨Ao10, co10, eo10⟩ := Kd.R_slice HO129.out; subst eo10) | (go_at_call 27; (with_reducible refine (scarfref05_one.calls k a0 _ _ y127 t130 _ ?side1 ?side2 A7.out).mono ?_); (case side1 => repeat (first | exact (Kd.R_reads' HO129.out).2.2 | (with_reducible refine Kd.C_alloc ?_ _) | (with_reducible refine Kd.C_drewN ?_ _) | (with_reducible refine Kd.C_drew ?_))); (case side2 => exact (Kd.R_reads' HO129.out).2.1); rintro e w' ⟨rfl, ⟨nd, rfl⟩⟩))
      go_meet
      case rel => exact ⟨_, (t130), (by first | rfl | (simp; done) | (simp [*]; done)), H', ⟨by first | omega | exact Nat.le_refl _⟩, ⟨by repeat (first | (with_reducible first | exact HB.out | apply below_alloc | apply pw_below_drewN | apply below_drew1) | exact HB.out)⟩⟩
  case rest =>
    clear HC4
    try clear c1
    try clear c2
    try clear p2
    try clear c6
    try clear c6b0
    obtain ⟨kq, x28_3, rfl, HA, HJ3, HB⟩ := hcut
    cases kq with
    | zero => exact absurd HA.out (by simp [scarfref05_Shape.j0])
    | succ kj3 =>
      have H := HA.out
      clear HA
      simp only [scarfref05_Shape.j0] at H
      by_cases c11 : x28_3 = true
      · subst c11
        have H1 : (some (1, 0)) = some (r1, r2) := by rw [if_pos rfl] at H; exact H
        clear H
        have H := H1
        clear H1
        simp only [Option.some.injEq, Prod.mk.injEq] at H
        obtain ⟨rfl, rfl⟩ := H
        go_wp2
        go_ret2
        exact ⟨by first | rfl | (simp [errW_none, errW_some] <;> rfl) | (simp [*, errW_none, errW_some] <;> rfl), by repeat (first | (with_reducible first | exact HB.out | apply below_alloc | apply pw_below_drewN | apply below_drew1) | exact HB.out)⟩
      · replace c11 := Bool.eq_false_iff.mpr c11
        subst c11
        have H1 : ((scarfref05_one.f kj3 a0 (([2, 3, 4] : List Int))).bind fun t134 => (if t134 = true then (some (2, 0)) else ((scarfref05_one.f kj3 a0 (([12, 13, 16, 32, 33, 34, 35, 36, 210] : List Int))).bind fun t138 => (if t138 = true then (some (3, 0)) else (if a0 = 14 then (some (4, 0)) else (if a0 = 17 then (some (5, 0)) else (if a0 = 28 then (some (6, 0)) else (if t121 > 0 then (some (7, 0)) else ((scarfref05_one.f kj3 a0 (([37, 38, 63, 64, 64523, 64527, 64528, 64529] : List Int))).bind fun t142 => (if t142 = true then (some (8, 0)) else (if a0 = 64522 then (scarfref05_Shape.j1 kj3 a0 true) else (scarfref05_Shape.j1 kj3 a0 (a0 == 64526))))))))))))) = some (r1, r2) := by rw [if_neg (show ¬ (false = true) by decide)] at H; exact H
        clear H
        have H := H1
        clear H1
        obtain ⟨y131, hy131⟩ : ∃ y_ : List Int, y_ = (([2, 3, 4] : List Int)) := ⟨_, rfl⟩
        replace H : ((scarfref05_one.f kj3 a0 y131).bind fun t134 => (if t134 = true then (some (2, 0)) else ((scarfref05_one.f kj3 a0 (([12, 13, 16, 32, 33, 34, 35, 36, 210] : List Int))).bind fun t138 => (if t138 = true then (some (3, 0)) else (if a0 = 14 then (some (4, 0)) else (if a0 = 17 then (some (5, 0)) else (if a0 = 28 then (some (6, 0)) else (if t121 > 0 then (some (7, 0)) else ((scarfref05_one.f kj3 a0 (([37, 38, 63, 64, 64523, 64527, 64528, 64529] : List Int))).bind fun t142 => (if t142 = true then (some (8, 0)) else (if a0 = 64522 then (scarfref05_Shape.j1 kj3 a0 true) else (scarfref05_Shape.j1 kj3 a0 (a0 == 64526))))))))))))) = some (r1, r2) := by first | (rw [hy131]; with_reducible exact H) | (have H2_ := (Option.bind_some _ _).symm.trans H; rw [hy131]; with_reducible exact H2_) | (have H2_ := (Option.bind_some _ _).symm.trans H; with_reducible exact H2_) | with_reducible exact H | (rw [hy131]; exact H) | exact H
        have Ny131 := Aside0.mk hy131
        clear hy131
        replace H := Option.bind_eq_some_iff.mp H
        obtain ⟨t134, A120, H⟩ := H
        replace H : (if t134 = true then (some (2, 0)) else ((scarfref05_one.f kj3 a0 (([12, 13, 16, 32, 33, 34, 35, 36, 210] : List Int))).bind fun t138 => (if t138 = true then (some (3, 0)) else (if a0 = 14 then (some (4, 0)) else (if a0 = 17 then (some (5, 0)) else (if a0 = 28 then (some (6, 0)) else (if t121 > 0 then (some (7, 0)) else ((scarfref05_one.f kj3 a0 (([37, 38, 63, 64, 64523, 64527, 64528, 64529] : List Int))).bind fun t142 => (if t142 = true then (some (8, 0)) else (if a0 = 64522 then (scarfref05_Shape.j1 kj3 a0 true) else (scarfref05_Shape.j1 kj3 a0 (a0 == 64526)))))))))))) = some (r1, r2) := H
        have A12 := Aside0.mk A120
        clear A120
        by_cases c13 : t134 = true
        · subst c13
          have H1 : (some (2, 0)) = some (r1, r2) := by rw [if_pos rfl] at H; exact H
          clear H
          have H := H1
          clear H1
          simp only [Option.some.injEq, Prod.mk.injEq] at H
          obtain ⟨rfl, rfl⟩ := H
          go_wp2_with (first | ((with_reducible refine gate_dst (N := 30) rfl ?_); (try (refine gate_guard (by rfl) ?_; dsimp only)); refine Kd.R_lit (Kd.int .i64) _ 3 ?hg (N := 30) ?hd (xs := ([2, 3, 4] : List Int)) (inner := [.int .i64 2, .int .i64 3, .int .i64 4]) (ok := fun _ => True) (okp := fun _ => True) ?hr ?hp (fun _ hk => hk) trivial (Below.refl _ _) (Nat.le_refl _) (by simp) ?_; (case hd => rfl); (case hg => rfl); (case hr => first | (go_simp; done) | (go_simp; rfl)); (case hp => exact (Reps.one (show Kd.M (Kd.int .i64) _ _ _ 2 [.int .i64 2] from rfl) (Reps.one (show Kd.M (Kd.int .i64) _ _ _ 3 [.int .i64 3] from rfl) (Reps.one (show Kd.M (Kd.int .i64) _ _ _ 4 [.int .i64 4] from rfl) (Reps.none _ _))))); intro v132 w14 ho15 hb hg_ hnew_; clear hg_ hnew_; (first | rw [← Ny131.out] at ho15 | (simp only [Int.reduceToNat] at ho15; rw [← Ny131.out] at ho15)); have n0_ := Aside0.mk (Kd.R_lower ho15 (below_size (by repeat (first | (with_reducible first | exact HB.out | apply below_alloc | apply pw_below_drewN | apply below_drew1) | exact HB.out)))); have n1_ := Aside0.mk (below_step (by repeat (first | (with_reducible first | exact HB.out | apply below_alloc | apply pw_below_drewN | apply below_drew1) | exact HB.out)) hb); clear HB; have HO133 := n0_; have HB := n1_; clear n0_ n1_; clear hb ho15; obtain ⟨Ao16, co16, eo16⟩ := Kd.R_slice HO133.out; subst eo16) | ((with_reducible refine gate_callee (f := 27) rfl ?_); refine goesL_ (some 31) rfl rfl Try.func27 (by kernel_rfl) rfl #[.int .i64 a0, .slice Ao16 y131.length co16] rfl (by (try simp only [List.map_toArray, List.map_cons, List.map_nil]); first | done | rfl | (simp only [List.length_drop, List.length_take]; rfl)) ?_; (with_reducible refine (scarfref05_one.calls kj3 a0 _ _ y131 true _ ?side1 ?side2 A12.out).mono ?_); (case side1 => repeat (first | exact (Kd.R_reads' HO133.out).2.2 | (with_reducible refine Kd.C_alloc ?_ _) | (with_reducible refine Kd.C_drewN ?_ _) | (with_reducible refine Kd.C_drew ?_))); (case side2 => exact (Kd.R_reads' HO133.out).2.1); rintro e w' ⟨rfl, ⟨nd, rfl⟩⟩; refine ⟨_, rfl, ?_⟩))
          go_ret2
          exact ⟨by first | rfl | (simp [errW_none, errW_some] <;> rfl) | (simp [*, errW_none, errW_some] <;> rfl), by repeat (first | (with_reducible first | exact HB.out | apply below_alloc | apply pw_below_drewN | apply below_drew1) | exact HB.out)⟩
        · replace c13 := Bool.eq_false_iff.mpr c13
          subst c13
          have H1 : ((scarfref05_one.f kj3 a0 (([12, 13, 16, 32, 33, 34, 35, 36, 210] : List Int))).bind fun t138 => (if t138 = true then (some (3, 0)) else (if a0 = 14 then (some (4, 0)) else (if a0 = 17 then (some (5, 0)) else (if a0 = 28 then (some (6, 0)) else (if t121 > 0 then (some (7, 0)) else ((scarfref05_one.f kj3 a0 (([37, 38, 63, 64, 64523, 64527, 64528, 64529] : List Int))).bind fun t142 => (if t142 = true then (some (8, 0)) else (if a0 = 64522 then (scarfref05_Shape.j1 kj3 a0 true) else (scarfref05_Shape.j1 kj3 a0 (a0 == 64526))))))))))) = some (r1, r2) := by rw [if_neg (show ¬ (false = true) by decide)] at H; exact H
          clear H
          have H := H1
          clear H1
          obtain ⟨y135, hy135⟩ : ∃ y_ : List Int, y_ = (([12, 13, 16, 32, 33, 34, 35, 36, 210] : List Int)) := ⟨_, rfl⟩
          replace H : ((scarfref05_one.f kj3 a0 y135).bind fun t138 => (if t138 = true then (some (3, 0)) else (if a0 = 14 then (some (4, 0)) else (if a0 = 17 then (some (5, 0)) else (if a0 = 28 then (some (6, 0)) else (if t121 > 0 then (some (7, 0)) else ((scarfref05_one.f kj3 a0 (([37, 38, 63, 64, 64523, 64527, 64528, 64529] : List Int))).bind fun t142 => (if t142 = true then (some (8, 0)) else (if a0 = 64522 then (scarfref05_Shape.j1 kj3 a0 true) else (scarfref05_Shape.j1 kj3 a0 (a0 == 64526))))))))))) = some (r1, r2) := by first | (rw [hy135]; with_reducible exact H) | (have H2_ := (Option.bind_some _ _).symm.trans H; rw [hy135]; with_reducible exact H2_) | (have H2_ := (Option.bind_some _ _).symm.trans H; with_reducible exact H2_) | with_reducible exact H | (rw [hy135]; exact H) | exact H
          have Ny135 := Aside0.mk hy135
          clear hy135
          replace H := Option.bind_eq_some_iff.mp H
          obtain ⟨t138, A170, H⟩ := H
          replace H : (if t138 = true then (some (3, 0)) else (if a0 = 14 then (some (4, 0)) else (if a0 = 17 then (some (5, 0)) else (if a0 = 28 then (some (6, 0)) else (if t121 > 0 then (some (7, 0)) else ((scarfref05_one.f kj3 a0 (([37, 38, 63, 64, 64523, 64527, 64528, 64529] : List Int))).bind fun t142 => (if t142 = true then (some (8, 0)) else (if a0 = 64522 then (scarfref05_Shape.j1 kj3 a0 true) else (scarfref05_Shape.j1 kj3 a0 (a0 == 64526)))))))))) = some (r1, r2) := H
          have A17 := Aside0.mk A170
          clear A170
          by_cases c18 : t138 = true
          · subst c18
            have H1 : (some (3, 0)) = some (r1, r2) := by rw [if_pos rfl] at H; exact H
            clear H
            have H := H1
            clear H1
            simp only [Option.some.injEq, Prod.mk.injEq] at H
            obtain ⟨rfl, rfl⟩ := H
            go_wp2_with (first | ((with_reducible refine gate_dst (N := 30) rfl ?_); (try (refine gate_guard (by rfl) ?_; dsimp only)); refine Kd.R_lit (Kd.int .i64) _ 3 ?hg (N := 30) ?hd (xs := ([2, 3, 4] : List Int)) (inner := [.int .i64 2, .int .i64 3, .int .i64 4]) (ok := fun _ => True) (okp := fun _ => True) ?hr ?hp (fun _ hk => hk) trivial (Below.refl _ _) (Nat.le_refl _) (by simp) ?_; (case hd => rfl); (case hg => rfl); (case hr => first | (go_simp; done) | (go_simp; rfl)); (case hp => exact (Reps.one (show Kd.M (Kd.int .i64) _ _ _ 2 [.int .i64 2] from rfl) (Reps.one (show Kd.M (Kd.int .i64) _ _ _ 3 [.int .i64 3] from rfl) (Reps.one (show Kd.M (Kd.int .i64) _ _ _ 4 [.int .i64 4] from rfl) (Reps.none _ _))))); intro v132 w19 ho20 hb hg_ hnew_; clear hg_ hnew_; (first | rw [← Ny131.out] at ho20 | (simp only [Int.reduceToNat] at ho20; rw [← Ny131.out] at ho20)); have n0_ := Aside0.mk (Kd.R_lower ho20 (below_size (by repeat (first | (with_reducible first | exact HB.out | apply below_alloc | apply pw_below_drewN | apply below_drew1) | exact HB.out)))); have n1_ := Aside0.mk (below_step (by repeat (first | (with_reducible first | exact HB.out | apply below_alloc | apply pw_below_drewN | apply below_drew1) | exact HB.out)) hb); clear HB; have HO133 := n0_; have HB := n1_; clear n0_ n1_; clear hb ho20; obtain ⟨Ao21, co21, eo21⟩ := Kd.R_slice HO133.out; subst eo21) | ((with_reducible refine gate_callee (f := 27) rfl ?_); refine goesL_ (some 31) rfl rfl Try.func27 (by kernel_rfl) rfl #[.int .i64 a0, .slice Ao21 y131.length co21] rfl (by (try simp only [List.map_toArray, List.map_cons, List.map_nil]); first | done | rfl | (simp only [List.length_drop, List.length_take]; rfl)) ?_; (with_reducible refine (scarfref05_one.calls kj3 a0 _ _ y131 false _ ?side1 ?side2 A12.out).mono ?_); (case side1 => repeat (first | exact (Kd.R_reads' HO133.out).2.2 | (with_reducible refine Kd.C_alloc ?_ _) | (with_reducible refine Kd.C_drewN ?_ _) | (with_reducible refine Kd.C_drew ?_))); (case side2 => exact (Kd.R_reads' HO133.out).2.1); rintro e w' ⟨rfl, ⟨nd, rfl⟩⟩; refine ⟨_, rfl, ?_⟩) | ((with_reducible refine gate_dst (N := 33) rfl ?_); (try (refine gate_guard (by rfl) ?_; dsimp only)); refine Kd.R_lit (Kd.int .i64) _ 3 ?hg (N := 33) ?hd (xs := ([12, 13, 16, 32, 33, 34, 35, 36, 210] : List Int)) (inner := [.int .i64 12, .int .i64 13, .int .i64 16, .int .i64 32, .int .i64 33, .int .i64 34, .int .i64 35, .int .i64 36, .int .i64 210]) (ok := fun _ => True) (okp := fun _ => True) ?hr ?hp (fun _ hk => hk) trivial (Below.refl _ _) (Nat.le_refl _) (by simp) ?_; (case hd => rfl); (case hg => rfl); (case hr => first | (go_simp; done) | (go_simp; rfl)); (case hp => exact (Reps.one (show Kd.M (Kd.int .i64) _ _ _ 12 [.int .i64 12] from rfl) (Reps.one (show Kd.M (Kd.int .i64) _ _ _ 13 [.int .i64 13] from rfl) (Reps.one (show Kd.M (Kd.int .i64) _ _ _ 16 [.int .i64 16] from rfl) (Reps.one (show Kd.M (Kd.int .i64) _ _ _ 32 [.int .i64 32] from rfl) (Reps.one (show Kd.M (Kd.int .i64) _ _ _ 33 [.int .i64 33] from rfl) (Reps.one (show Kd.M (Kd.int .i64) _ _ _ 34 [.int .i64 34] from rfl) (Reps.one (show Kd.M (Kd.int .i64) _ _ _ 35 [.int .i64 35] from rfl) (Reps.one (show Kd.M (Kd.int .i64) _ _ _ 36 [.int .i64 36] from rfl) (Reps.one (show Kd.M (Kd.int .i64) _ _ _ 210 [.int .i64 210] from rfl) (Reps.none _ _))))))))))); intro v136 w22 ho23 hb hg_ hnew_; clear hg_ hnew_; (first | rw [← Ny135.out] at ho23 | (simp only [Int.reduceToNat] at ho23; rw [← Ny135.out] at ho23)); have n0_ := Aside0.mk (Kd.R_elder' (by (with_reducible repeat (first | apply Kd.R_alloc | apply Kd.R_drewN | apply Kd.R_drew)); exact HO133.out) (Kd.R_base ho23) hb); have n1_ := Aside0.mk (Kd.R_lower (Kd.R_new' ho23 (Kd.R_lt (by (with_reducible repeat (first | apply Kd.R_alloc | apply Kd.R_drewN | apply Kd.R_drew)); exact HO133.out))) (below_size (by repeat (first | (with_reducible first | exact HB.out | apply below_alloc | apply pw_below_drewN | apply below_drew1) | exact HB.out)))); have n2_ := Aside0.mk (below_step (by repeat (first | (with_reducible first | exact HB.out | apply below_alloc | apply pw_below_drewN | apply below_drew1) | exact HB.out)) hb); clear HO133; clear HB; have HO133 := n0_; have HO137 := n1_; have HB := n2_; clear n0_ n1_ n2_; clear hb ho23; obtain ⟨Ao24, co24, eo24⟩ := Kd.R_slice HO137.out; subst eo24) | ((with_reducible refine gate_callee (f := 27) rfl ?_); refine goesL_ (some 34) rfl rfl Try.func27 (by kernel_rfl) rfl #[.int .i64 a0, .slice Ao24 y135.length co24] rfl (by (try simp only [List.map_toArray, List.map_cons, List.map_nil]); first | done | rfl | (simp only [List.length_drop, List.length_take]; rfl)) ?_; (with_reducible refine (scarfref05_one.calls kj3 a0 _ _ y135 true _ ?side1 ?side2 A17.out).mono ?_); (case side1 => repeat (first | exact (Kd.R_reads' HO137.out).2.2 | (with_reducible refine Kd.C_alloc ?_ _) | (with_reducible refine Kd.C_drewN ?_ _) | (with_reducible refine Kd.C_drew ?_))); (case side2 => exact (Kd.R_reads' HO137.out).2.1); rintro e w' ⟨rfl, ⟨nd, rfl⟩⟩; refine ⟨_, rfl, ?_⟩))
            go_ret2
            exact ⟨by first | rfl | (simp [errW_none, errW_some] <;> rfl) | (simp [*, errW_none, errW_some] <;> rfl), by repeat (first | (with_reducible first | exact HB.out | apply below_alloc | apply pw_below_drewN | apply below_drew1) | exact HB.out)⟩
          · replace c18 := Bool.eq_false_iff.mpr c18
            subst c18
            have H1 : (if a0 = 14 then (some (4, 0)) else (if a0 = 17 then (some (5, 0)) else (if a0 = 28 then (some (6, 0)) else (if t121 > 0 then (some (7, 0)) else ((scarfref05_one.f kj3 a0 (([37, 38, 63, 64, 64523, 64527, 64528, 64529] : List Int))).bind fun t142 => (if t142 = true then (some (8, 0)) else (if a0 = 64522 then (scarfref05_Shape.j1 kj3 a0 true) else (scarfref05_Shape.j1 kj3 a0 (a0 == 64526))))))))) = some (r1, r2) := by rw [if_neg (show ¬ (false = true) by decide)] at H; exact H
            clear H
            have H := H1
            clear H1
            by_cases c25 : a0 = 14
            · rw [if_pos c25] at H
              have c25b0 : (a0 == 14) = true := beq_iff_eq.mpr c25
              have c25b1 : (a0 != 14) = false := bne_eq_false_iff_eq.mpr c25
              clear c25
              simp only [Option.some.injEq, Prod.mk.injEq] at H
              obtain ⟨rfl, rfl⟩ := H
              go_wp2_with (first | ((with_reducible refine gate_dst (N := 30) rfl ?_); (try (refine gate_guard (by rfl) ?_; dsimp only)); refine Kd.R_lit (Kd.int .i64) _ 3 ?hg (N := 30) ?hd (xs := ([2, 3, 4] : List Int)) (inner := [.int .i64 2, .int .i64 3, .int .i64 4]) (ok := fun _ => True) (okp := fun _ => True) ?hr ?hp (fun _ hk => hk) trivial (Below.refl _ _) (Nat.le_refl _) (by simp) ?_; (case hd => rfl); (case hg => rfl); (case hr => first | (go_simp; done) | (go_simp; rfl)); (case hp => exact (Reps.one (show Kd.M (Kd.int .i64) _ _ _ 2 [.int .i64 2] from rfl) (Reps.one (show Kd.M (Kd.int .i64) _ _ _ 3 [.int .i64 3] from rfl) (Reps.one (show Kd.M (Kd.int .i64) _ _ _ 4 [.int .i64 4] from rfl) (Reps.none _ _))))); intro v132 w26 ho27 hb hg_ hnew_; clear hg_ hnew_; (first | rw [← Ny131.out] at ho27 | (simp only [Int.reduceToNat] at ho27; rw [← Ny131.out] at ho27)); have n0_ := Aside0.mk (Kd.R_lower ho27 (below_size (by repeat (first | (with_reducible first | exact HB.out | apply below_alloc | apply pw_below_drewN | apply below_drew1) | exact HB.out)))); have n1_ := Aside0.mk (below_step (by repeat (first | (with_reducible first | exact HB.out | apply below_alloc | apply pw_below_drewN | apply below_drew1) | exact HB.out)) hb); clear HB; have HO133 := n0_; have HB := n1_; clear n0_ n1_; clear hb ho27; obtain ⟨Ao28, co28, eo28⟩ := Kd.R_slice HO133.out; subst eo28) | ((with_reducible refine gate_callee (f := 27) rfl ?_); refine goesL_ (some 31) rfl rfl Try.func27 (by kernel_rfl) rfl #[.int .i64 a0, .slice Ao28 y131.length co28] rfl (by (try simp only [List.map_toArray, List.map_cons, List.map_nil]); first | done | rfl | (simp only [List.length_drop, List.length_take]; rfl)) ?_; (with_reducible refine (scarfref05_one.calls kj3 a0 _ _ y131 false _ ?side1 ?side2 A12.out).mono ?_); (case side1 => repeat (first | exact (Kd.R_reads' HO133.out).2.2 | (with_reducible refine Kd.C_alloc ?_ _) | (with_reducible refine Kd.C_drewN ?_ _) | (with_reducible refine Kd.C_drew ?_))); (case side2 => exact (Kd.R_reads' HO133.out).2.1); rintro e w' ⟨rfl, ⟨nd, rfl⟩⟩; refine ⟨_, rfl, ?_⟩) | ((with_reducible refine gate_dst (N := 33) rfl ?_); (try (refine gate_guard (by rfl) ?_; dsimp only)); refine Kd.R_lit (Kd.int .i64) _ 3 ?hg (N := 33) ?hd (xs := ([12, 13, 16, 32, 33, 34, 35, 36, 210] : List Int)) (inner := [.int .i64 12, .int .i64 13, .int .i64 16, .int .i64 32, .int .i64 33, .int .i64 34, .int .i64 35, .int .i64 36, .int .i64 210]) (ok := fun _ => True) (okp := fun _ => True) ?hr ?hp (fun _ hk => hk) trivial (Below.refl _ _) (Nat.le_refl _) (by simp) ?_; (case hd => rfl); (case hg => rfl); (case hr => first | (go_simp; done) | (go_simp; rfl)); (case hp => exact (Reps.one (show Kd.M (Kd.int .i64) _ _ _ 12 [.int .i64 12] from rfl) (Reps.one (show Kd.M (Kd.int .i64) _ _ _ 13 [.int .i64 13] from rfl) (Reps.one (show Kd.M (Kd.int .i64) _ _ _ 16 [.int .i64 16] from rfl) (Reps.one (show Kd.M (Kd.int .i64) _ _ _ 32 [.int .i64 32] from rfl) (Reps.one (show Kd.M (Kd.int .i64) _ _ _ 33 [.int .i64 33] from rfl) (Reps.one (show Kd.M (Kd.int .i64) _ _ _ 34 [.int .i64 34] from rfl) (Reps.one (show Kd.M (Kd.int .i64) _ _ _ 35 [.int .i64 35] from rfl) (Reps.one (show Kd.M (Kd.int .i64) _ _ _ 36 [.int .i64 36] from rfl) (Reps.one (show Kd.M (Kd.int .i64) _ _ _ 210 [.int .i64 210] from rfl) (Reps.none _ _))))))))))); intro v136 w29 ho30 hb hg_ hnew_; clear hg_ hnew_; (first | rw [← Ny135.out] at ho30 | (simp only [Int.reduceToNat] at ho30; rw [← Ny135.out] at ho30)); have n0_ := Aside0.mk (Kd.R_elder' (by (with_reducible repeat (first | apply Kd.R_alloc | apply Kd.R_drewN | apply Kd.R_drew)); exact HO133.out) (Kd.R_base ho30) hb); have n1_ := Aside0.mk (Kd.R_lower (Kd.R_new' ho30 (Kd.R_lt (by (with_reducible repeat (first | apply Kd.R_alloc | apply Kd.R_drewN | apply Kd.R_drew)); exact HO133.out))) (below_size (by repeat (first | (with_reducible first | exact HB.out | apply below_alloc | apply pw_below_drewN | apply below_drew1) | exact HB.out)))); have n2_ := Aside0.mk (below_step (by repeat (first | (with_reducible first | exact HB.out | apply below_alloc | apply pw_below_drewN | apply below_drew1) | exact HB.out)) hb); clear HO133; clear HB; have HO133 := n0_; have HO137 := n1_; have HB := n2_; clear n0_ n1_ n2_; clear hb ho30; obtain ⟨Ao31, co31, eo31⟩ := Kd.R_slice HO137.out; subst eo31) | ((with_reducible refine gate_callee (f := 27) rfl ?_); refine goesL_ (some 34) rfl rfl Try.func27 (by kernel_rfl) rfl #[.int .i64 a0, .slice Ao31 y135.length co31] rfl (by (try simp only [List.map_toArray, List.map_cons, List.map_nil]); first | done | rfl | (simp only [List.length_drop, List.length_take]; rfl)) ?_; (with_reducible refine (scarfref05_one.calls kj3 a0 _ _ y135 false _ ?side1 ?side2 A17.out).mono ?_); (case side1 => repeat (first | exact (Kd.R_reads' HO137.out).2.2 | (with_reducible refine Kd.C_alloc ?_ _) | (with_reducible refine Kd.C_drewN ?_ _) | (with_reducible refine Kd.C_drew ?_))); (case side2 => exact (Kd.R_reads' HO137.out).2.1); rintro e w' ⟨rfl, ⟨nd, rfl⟩⟩; refine ⟨_, rfl, ?_⟩))
              go_ret2
              exact ⟨by first | rfl | (simp [errW_none, errW_some] <;> rfl) | (simp [*, errW_none, errW_some] <;> rfl), by repeat (first | (with_reducible first | exact HB.out | apply below_alloc | apply pw_below_drewN | apply below_drew1) | exact HB.out)⟩
            · rw [if_neg c25] at H
              have c25b0 : (a0 == 14) = false := beq_eq_false_iff_ne.mpr c25
              have c25b1 : (a0 != 14) = true := bne_iff_ne.mpr c25
              by_cases c32 : a0 = 17
              · rw [if_pos c32] at H
                have c32b0 : (a0 == 17) = true := beq_iff_eq.mpr c32
                have c32b1 : (a0 != 17) = false := bne_eq_false_iff_eq.mpr c32
                clear c32
                simp only [Option.some.injEq, Prod.mk.injEq] at H
                obtain ⟨rfl, rfl⟩ := H
                go_wp2_with (first | ((with_reducible refine gate_dst (N := 30) rfl ?_); (try (refine gate_guard (by rfl) ?_; dsimp only)); refine Kd.R_lit (Kd.int .i64) _ 3 ?hg (N := 30) ?hd (xs := ([2, 3, 4] : List Int)) (inner := [.int .i64 2, .int .i64 3, .int .i64 4]) (ok := fun _ => True) (okp := fun _ => True) ?hr ?hp (fun _ hk => hk) trivial (Below.refl _ _) (Nat.le_refl _) (by simp) ?_; (case hd => rfl); (case hg => rfl); (case hr => first | (go_simp; done) | (go_simp; rfl)); (case hp => exact (Reps.one (show Kd.M (Kd.int .i64) _ _ _ 2 [.int .i64 2] from rfl) (Reps.one (show Kd.M (Kd.int .i64) _ _ _ 3 [.int .i64 3] from rfl) (Reps.one (show Kd.M (Kd.int .i64) _ _ _ 4 [.int .i64 4] from rfl) (Reps.none _ _))))); intro v132 w33 ho34 hb hg_ hnew_; clear hg_ hnew_; (first | rw [← Ny131.out] at ho34 | (simp only [Int.reduceToNat] at ho34; rw [← Ny131.out] at ho34)); have n0_ := Aside0.mk (Kd.R_lower ho34 (below_size (by repeat (first | (with_reducible first | exact HB.out | apply below_alloc | apply pw_below_drewN | apply below_drew1) | exact HB.out)))); have n1_ := Aside0.mk (below_step (by repeat (first | (with_reducible first | exact HB.out | apply below_alloc | apply pw_below_drewN | apply below_drew1) | exact HB.out)) hb); clear HB; have HO133 := n0_; have HB := n1_; clear n0_ n1_; clear hb ho34; obtain ⟨Ao35, co35, eo35⟩ := Kd.R_slice HO133.out; subst eo35) | ((with_reducible refine gate_callee (f := 27) rfl ?_); refine goesL_ (some 31) rfl rfl Try.func27 (by kernel_rfl) rfl #[.int .i64 a0, .slice Ao35 y131.length co35] rfl (by (try simp only [List.map_toArray, List.map_cons, List.map_nil]); first | done | rfl | (simp only [List.length_drop, List.length_take]; rfl)) ?_; (with_reducible refine (scarfref05_one.calls kj3 a0 _ _ y131 false _ ?side1 ?side2 A12.out).mono ?_); (case side1 => repeat (first | exact (Kd.R_reads' HO133.out).2.2 | (with_reducible refine Kd.C_alloc ?_ _) | (with_reducible refine Kd.C_drewN ?_ _) | (with_reducible refine Kd.C_drew ?_))); (case side2 => exact (Kd.R_reads' HO133.out).2.1); rintro e w' ⟨rfl, ⟨nd, rfl⟩⟩; refine ⟨_, rfl, ?_⟩) | ((with_reducible refine gate_dst (N := 33) rfl ?_); (try (refine gate_guard (by rfl) ?_; dsimp only)); refine Kd.R_lit (Kd.int .i64) _ 3 ?hg (N := 33) ?hd (xs := ([12, 13, 16, 32, 33, 34, 35, 36, 210] : List Int)) (inner := [.int .i64 12, .int .i64 13, .int .i64 16, .int .i64 32, .int .i64 33, .int .i64 34, .int .i64 35, .int .i64 36, .int .i64 210]) (ok := fun _ => True) (okp := fun _ => True) ?hr ?hp (fun _ hk => hk) trivial (Below.refl _ _) (Nat.le_refl _) (by simp) ?_; (case hd => rfl); (case hg => rfl); (case hr => first | (go_simp; done) | (go_simp; rfl)); (case hp => exact (Reps.one (show Kd.M (Kd.int .i64) _ _ _ 12 [.int .i64 12] from rfl) (Reps.one (show Kd.M (Kd.int .i64) _ _ _ 13 [.int .i64 13] from rfl) (Reps.one (show Kd.M (Kd.int .i64) _ _ _ 16 [.int .i64 16] from rfl) (Reps.one (show Kd.M (Kd.int .i64) _ _ _ 32 [.int .i64 32] from rfl) (Reps.one (show Kd.M (Kd.int .i64) _ _ _ 33 [.int .i64 33] from rfl) (Reps.one (show Kd.M (Kd.int .i64) _ _ _ 34 [.int .i64 34] from rfl) (Reps.one (show Kd.M (Kd.int .i64) _ _ _ 35 [.int .i64 35] from rfl) (Reps.one (show Kd.M (Kd.int .i64) _ _ _ 36 [.int .i64 36] from rfl) (Reps.one (show Kd.M (Kd.int .i64) _ _ _ 210 [.int .i64 210] from rfl) (Reps.none _ _))))))))))); intro v136 w36 ho37 hb hg_ hnew_; clear hg_ hnew_; (first | rw [← Ny135.out] at ho37 | (simp only [Int.reduceToNat] at ho37; rw [← Ny135.out] at ho37)); have n0_ := Aside0.mk (Kd.R_elder' (by (with_reducible repeat (first | apply Kd.R_alloc | apply Kd.R_drewN | apply Kd.R_drew)); exact HO133.out) (Kd.R_base ho37) hb); have n1_ := Aside0.mk (Kd.R_lower (Kd.R_new' ho37 (Kd.R_lt (by (with_reducible repeat (first | apply Kd.R_alloc | apply Kd.R_drewN | apply Kd.R_drew)); exact HO133.out))) (below_size (by repeat (first | (with_reducible first | exact HB.out | apply below_alloc | apply pw_below_drewN | apply below_drew1) | exact HB.out)))); have n2_ := Aside0.mk (below_step (by repeat (first | (with_reducible first | exact HB.out | apply below_alloc | apply pw_below_drewN | apply below_drew1) | exact HB.out)) hb); clear HO133; clear HB; have HO133 := n0_; have HO137 := n1_; have HB := n2_; clear n0_ n1_ n2_; clear hb ho37; obtain ⟨Ao38, co38, eo38⟩ := Kd.R_slice HO137.out; subst eo38) | ((with_reducible refine gate_callee (f := 27) rfl ?_); refine goesL_ (some 34) rfl rfl Try.func27 (by kernel_rfl) rfl #[.int .i64 a0, .slice Ao38 y135.length co38] rfl (by (try simp only [List.map_toArray, List.map_cons, List.map_nil]); first | done | rfl | (simp only [List.length_drop, List.length_take]; rfl)) ?_; (with_reducible refine (scarfref05_one.calls kj3 a0 _ _ y135 false _ ?side1 ?side2 A17.out).mono ?_); (case side1 => repeat (first | exact (Kd.R_reads' HO137.out).2.2 | (with_reducible refine Kd.C_alloc ?_ _) | (with_reducible refine Kd.C_drewN ?_ _) | (with_reducible refine Kd.C_drew ?_))); (case side2 => exact (Kd.R_reads' HO137.out).2.1); rintro e w' ⟨rfl, ⟨nd, rfl⟩⟩; refine ⟨_, rfl, ?_⟩))
                go_ret2
                exact ⟨by first | rfl | (simp [errW_none, errW_some] <;> rfl) | (simp [*, errW_none, errW_some] <;> rfl), by repeat (first | (with_reducible first | exact HB.out | apply below_alloc | apply pw_below_drewN | apply below_drew1) | exact HB.out)⟩
              · rw [if_neg c32] at H
                have c32b0 : (a0 == 17) = false := beq_eq_false_iff_ne.mpr c32
                have c32b1 : (a0 != 17) = true := bne_iff_ne.mpr c32
                by_cases c39 : a0 = 28
                · rw [if_pos c39] at H
                  have c39b0 : (a0 == 28) = true := beq_iff_eq.mpr c39
                  have c39b1 : (a0 != 28) = false := bne_eq_false_iff_eq.mpr c39
                  clear c39
                  simp only [Option.some.injEq, Prod.mk.injEq] at H
                  obtain ⟨rfl, rfl⟩ := H
                  go_wp2_with (first | ((with_reducible refine gate_dst (N := 30) rfl ?_); (try (refine gate_guard (by rfl) ?_; dsimp only)); refine Kd.R_lit (Kd.int .i64) _ 3 ?hg (N := 30) ?hd (xs := ([2, 3, 4] : List Int)) (inner := [.int .i64 2, .int .i64 3, .int .i64 4]) (ok := fun _ => True) (okp := fun _ => True) ?hr ?hp (fun _ hk => hk) trivial (Below.refl _ _) (Nat.le_refl _) (by simp) ?_; (case hd => rfl); (case hg => rfl); (case hr => first | (go_simp; done) | (go_simp; rfl)); (case hp => exact (Reps.one (show Kd.M (Kd.int .i64) _ _ _ 2 [.int .i64 2] from rfl) (Reps.one (show Kd.M (Kd.int .i64) _ _ _ 3 [.int .i64 3] from rfl) (Reps.one (show Kd.M (Kd.int .i64) _ _ _ 4 [.int .i64 4] from rfl) (Reps.none _ _))))); intro v132 w40 ho41 hb hg_ hnew_; clear hg_ hnew_; (first | rw [← Ny131.out] at ho41 | (simp only [Int.reduceToNat] at ho41; rw [← Ny131.out] at ho41)); have n0_ := Aside0.mk (Kd.R_lower ho41 (below_size (by repeat (first | (with_reducible first | exact HB.out | apply below_alloc | apply pw_below_drewN | apply below_drew1) | exact HB.out)))); have n1_ := Aside0.mk (below_step (by repeat (first | (with_reducible first | exact HB.out | apply below_alloc | apply pw_below_drewN | apply below_drew1) | exact HB.out)) hb); clear HB; have HO133 := n0_; have HB := n1_; clear n0_ n1_; clear hb ho41; obtain ⟨Ao42, co42, eo42⟩ := Kd.R_slice HO133.out; subst eo42) | ((with_reducible refine gate_callee (f := 27) rfl ?_); refine goesL_ (some 31) rfl rfl Try.func27 (by kernel_rfl) rfl #[.int .i64 a0, .slice Ao42 y131.length co42] rfl (by (try simp only [List.map_toArray, List.map_cons, List.map_nil]); first | done | rfl | (simp only [List.length_drop, List.length_take]; rfl)) ?_; (with_reducible refine (scarfref05_one.calls kj3 a0 _ _ y131 false _ ?side1 ?side2 A12.out).mono ?_); (case side1 => repeat (first | exact (Kd.R_reads' HO133.out).2.2 | (with_reducible refine Kd.C_alloc ?_ _) | (with_reducible refine Kd.C_drewN ?_ _) | (with_reducible refine Kd.C_drew ?_))); (case side2 => exact (Kd.R_reads' HO133.out).2.1); rintro e w' ⟨rfl, ⟨nd, rfl⟩⟩; refine ⟨_, rfl, ?_⟩) | ((with_reducible refine gate_dst (N := 33) rfl ?_); (try (refine gate_guard (by rfl) ?_; dsimp only)); refine Kd.R_lit (Kd.int .i64) _ 3 ?hg (N := 33) ?hd (xs := ([12, 13, 16, 32, 33, 34, 35, 36, 210] : List Int)) (inner := [.int .i64 12, .int .i64 13, .int .i64 16, .int .i64 32, .int .i64 33, .int .i64 34, .int .i64 35, .int .i64 36, .int .i64 210]) (ok := fun _ => True) (okp := fun _ => True) ?hr ?hp (fun _ hk => hk) trivial (Below.refl _ _) (Nat.le_refl _) (by simp) ?_; (case hd => rfl); (case hg => rfl); (case hr => first | (go_simp; done) | (go_simp; rfl)); (case hp => exact (Reps.one (show Kd.M (Kd.int .i64) _ _ _ 12 [.int .i64 12] from rfl) (Reps.one (show Kd.M (Kd.int .i64) _ _ _ 13 [.int .i64 13] from rfl) (Reps.one (show Kd.M (Kd.int .i64) _ _ _ 16 [.int .i64 16] from rfl) (Reps.one (show Kd.M (Kd.int .i64) _ _ _ 32 [.int .i64 32] from rfl) (Reps.one (show Kd.M (Kd.int .i64) _ _ _ 33 [.int .i64 33] from rfl) (Reps.one (show Kd.M (Kd.int .i64) _ _ _ 34 [.int .i64 34] from rfl) (Reps.one (show Kd.M (Kd.int .i64) _ _ _ 35 [.int .i64 35] from rfl) (Reps.one (show Kd.M (Kd.int .i64) _ _ _ 36 [.int .i64 36] from rfl) (Reps.one (show Kd.M (Kd.int .i64) _ _ _ 210 [.int .i64 210] from rfl) (Reps.none _ _))))))))))); intro v136 w43 ho44 hb hg_ hnew_; clear hg_ hnew_; (first | rw [← Ny135.out] at ho44 | (simp only [Int.reduceToNat] at ho44; rw [← Ny135.out] at ho44)); have n0_ := Aside0.mk (Kd.R_elder' (by (with_reducible repeat (first | apply Kd.R_alloc | apply Kd.R_drewN | apply Kd.R_drew)); exact HO133.out) (Kd.R_base ho44) hb); have n1_ := Aside0.mk (Kd.R_lower (Kd.R_new' ho44 (Kd.R_lt (by (with_reducible repeat (first | apply Kd.R_alloc | apply Kd.R_drewN | apply Kd.R_drew)); exact HO133.out))) (below_size (by repeat (first | (with_reducible first | exact HB.out | apply below_alloc | apply pw_below_drewN | apply below_drew1) | exact HB.out)))); have n2_ := Aside0.mk (below_step (by repeat (first | (with_reducible first | exact HB.out | apply below_alloc | apply pw_below_drewN | apply below_drew1) | exact HB.out)) hb); clear HO133; clear HB; have HO133 := n0_; have HO137 := n1_; have HB := n2_; clear n0_ n1_ n2_; clear hb ho44; obtain ⟨Ao45, co45, eo45⟩ := Kd.R_slice HO137.out; subst eo45) | ((with_reducible refine gate_callee (f := 27) rfl ?_); refine goesL_ (some 34) rfl rfl Try.func27 (by kernel_rfl) rfl #[.int .i64 a0, .slice Ao45 y135.length co45] rfl (by (try simp only [List.map_toArray, List.map_cons, List.map_nil]); first | done | rfl | (simp only [List.length_drop, List.length_take]; rfl)) ?_; (with_reducible refine (scarfref05_one.calls kj3 a0 _ _ y135 false _ ?side1 ?side2 A17.out).mono ?_); (case side1 => repeat (first | exact (Kd.R_reads' HO137.out).2.2 | (with_reducible refine Kd.C_alloc ?_ _) | (with_reducible refine Kd.C_drewN ?_ _) | (with_reducible refine Kd.C_drew ?_))); (case side2 => exact (Kd.R_reads' HO137.out).2.1); rintro e w' ⟨rfl, ⟨nd, rfl⟩⟩; refine ⟨_, rfl, ?_⟩))
                  go_ret2
                  exact ⟨by first | rfl | (simp [errW_none, errW_some] <;> rfl) | (simp [*, errW_none, errW_some] <;> rfl), by repeat (first | (with_reducible first | exact HB.out | apply below_alloc | apply pw_below_drewN | apply below_drew1) | exact HB.out)⟩
                · rw [if_neg c39] at H
                  have c39b0 : (a0 == 28) = false := beq_eq_false_iff_ne.mpr c39
                  have c39b1 : (a0 != 28) = true := bne_iff_ne.mpr c39
                  by_cases c46 : t121 > 0
                  · rw [if_pos c46] at H
                    have c46b0 : decide (0 < t121) = true := decide_eq_true c46
                    clear c46
                    simp only [Option.some.injEq, Prod.mk.injEq] at H
                    obtain ⟨rfl, rfl⟩ := H
                    go_wp2_with (first | ((with_reducible refine gate_dst (N := 30) rfl ?_); (try (refine gate_guard (by rfl) ?_; dsimp only)); refine Kd.R_lit (Kd.int .i64) _ 3 ?hg (N := 30) ?hd (xs := ([2, 3, 4] : List Int)) (inner := [.int .i64 2, .int .i64 3, .int .i64 4]) (ok := fun _ => True) (okp := fun _ => True) ?hr ?hp (fun _ hk => hk) trivial (Below.refl _ _) (Nat.le_refl _) (by simp) ?_; (case hd => rfl); (case hg => rfl); (case hr => first | (go_simp; done) | (go_simp; rfl)); (case hp => exact (Reps.one (show Kd.M (Kd.int .i64) _ _ _ 2 [.int .i64 2] from rfl) (Reps.one (show Kd.M (Kd.int .i64) _ _ _ 3 [.int .i64 3] from rfl) (Reps.one (show Kd.M (Kd.int .i64) _ _ _ 4 [.int .i64 4] from rfl) (Reps.none _ _))))); intro v132 w47 ho48 hb hg_ hnew_; clear hg_ hnew_; (first | rw [← Ny131.out] at ho48 | (simp only [Int.reduceToNat] at ho48; rw [← Ny131.out] at ho48)); have n0_ := Aside0.mk (Kd.R_lower ho48 (below_size (by repeat (first | (with_reducible first | exact HB.out | apply below_alloc | apply pw_below_drewN | apply below_drew1) | exact HB.out)))); have n1_ := Aside0.mk (below_step (by repeat (first | (with_reducible first | exact HB.out | apply below_alloc | apply pw_below_drewN | apply below_drew1) | exact HB.out)) hb); clear HB; have HO133 := n0_; have HB := n1_; clear n0_ n1_; clear hb ho48; obtain ⟨Ao49, co49, eo49⟩ := Kd.R_slice HO133.out; subst eo49) | ((with_reducible refine gate_callee (f := 27) rfl ?_); refine goesL_ (some 31) rfl rfl Try.func27 (by kernel_rfl) rfl #[.int .i64 a0, .slice Ao49 y131.length co49] rfl (by (try simp only [List.map_toArray, List.map_cons, List.map_nil]); first | done | rfl | (simp only [List.length_drop, List.length_take]; rfl)) ?_; (with_reducible refine (scarfref05_one.calls kj3 a0 _ _ y131 false _ ?side1 ?side2 A12.out).mono ?_); (case side1 => repeat (first | exact (Kd.R_reads' HO133.out).2.2 | (with_reducible refine Kd.C_alloc ?_ _) | (with_reducible refine Kd.C_drewN ?_ _) | (with_reducible refine Kd.C_drew ?_))); (case side2 => exact (Kd.R_reads' HO133.out).2.1); rintro e w' ⟨rfl, ⟨nd, rfl⟩⟩; refine ⟨_, rfl, ?_⟩) | ((with_reducible refine gate_dst (N := 33) rfl ?_); (try (refine gate_guard (by rfl) ?_; dsimp only)); refine Kd.R_lit (Kd.int .i64) _ 3 ?hg (N := 33) ?hd (xs := ([12, 13, 16, 32, 33, 34, 35, 36, 210] : List Int)) (inner := [.int .i64 12, .int .i64 13, .int .i64 16, .int .i64 32, .int .i64 33, .int .i64 34, .int .i64 35, .int .i64 36, .int .i64 210]) (ok := fun _ => True) (okp := fun _ => True) ?hr ?hp (fun _ hk => hk) trivial (Below.refl _ _) (Nat.le_refl _) (by simp) ?_; (case hd => rfl); (case hg => rfl); (case hr => first | (go_simp; done) | (go_simp; rfl)); (case hp => exact (Reps.one (show Kd.M (Kd.int .i64) _ _ _ 12 [.int .i64 12] from rfl) (Reps.one (show Kd.M (Kd.int .i64) _ _ _ 13 [.int .i64 13] from rfl) (Reps.one (show Kd.M (Kd.int .i64) _ _ _ 16 [.int .i64 16] from rfl) (Reps.one (show Kd.M (Kd.int .i64) _ _ _ 32 [.int .i64 32] from rfl) (Reps.one (show Kd.M (Kd.int .i64) _ _ _ 33 [.int .i64 33] from rfl) (Reps.one (show Kd.M (Kd.int .i64) _ _ _ 34 [.int .i64 34] from rfl) (Reps.one (show Kd.M (Kd.int .i64) _ _ _ 35 [.int .i64 35] from rfl) (Reps.one (show Kd.M (Kd.int .i64) _ _ _ 36 [.int .i64 36] from rfl) (Reps.one (show Kd.M (Kd.int .i64) _ _ _ 210 [.int .i64 210] from rfl) (Reps.none _ _))))))))))); intro v136 w50 ho51 hb hg_ hnew_; clear hg_ hnew_; (first | rw [← Ny135.out] at ho51 | (simp only [Int.reduceToNat] at ho51; rw [← Ny135.out] at ho51)); have n0_ := Aside0.mk (Kd.R_elder' (by (with_reducible repeat (first | apply Kd.R_alloc | apply Kd.R_drewN | apply Kd.R_drew)); exact HO133.out) (Kd.R_base ho51) hb); have n1_ := Aside0.mk (Kd.R_lower (Kd.R_new' ho51 (Kd.R_lt (by (with_reducible repeat (first | apply Kd.R_alloc | apply Kd.R_drewN | apply Kd.R_drew)); exact HO133.out))) (below_size (by repeat (first | (with_reducible first | exact HB.out | apply below_alloc | apply pw_below_drewN | apply below_drew1) | exact HB.out)))); have n2_ := Aside0.mk (below_step (by repeat (first | (with_reducible first | exact HB.out | apply below_alloc | apply pw_below_drewN | apply below_drew1) | exact HB.out)) hb); clear HO133; clear HB; have HO133 := n0_; have HO137 := n1_; have HB := n2_; clear n0_ n1_ n2_; clear hb ho51; obtain ⟨Ao52, co52, eo52⟩ := Kd.R_slice HO137.out; subst eo52) | ((with_reducible refine gate_callee (f := 27) rfl ?_); refine goesL_ (some 34) rfl rfl Try.func27 (by kernel_rfl) rfl #[.int .i64 a0, .slice Ao52 y135.length co52] rfl (by (try simp only [List.map_toArray, List.map_cons, List.map_nil]); first | done | rfl | (simp only [List.length_drop, List.length_take]; rfl)) ?_; (with_reducible refine (scarfref05_one.calls kj3 a0 _ _ y135 false _ ?side1 ?side2 A17.out).mono ?_); (case side1 => repeat (first | exact (Kd.R_reads' HO137.out).2.2 | (with_reducible refine Kd.C_alloc ?_ _) | (with_reducible refine Kd.C_drewN ?_ _) | (with_reducible refine Kd.C_drew ?_))); (case side2 => exact (Kd.R_reads' HO137.out).2.1); rintro e w' ⟨rfl, ⟨nd, rfl⟩⟩; refine ⟨_, rfl, ?_⟩))
                    go_ret2
                    exact ⟨by first | rfl | (simp [errW_none, errW_some] <;> rfl) | (simp [*, errW_none, errW_some] <;> rfl), by repeat (first | (with_reducible first | exact HB.out | apply below_alloc | apply pw_below_drewN | apply below_drew1) | exact HB.out)⟩
                  · rw [if_neg c46] at H
                    have c46b0 : decide (0 < t121) = false := decide_eq_false c46
                    clear c46
                    obtain ⟨y139, hy139⟩ : ∃ y_ : List Int, y_ = (([37, 38, 63, 64, 64523, 64527, 64528, 64529] : List Int)) := ⟨_, rfl⟩
                    replace H : ((scarfref05_one.f kj3 a0 y139).bind fun t142 => (if t142 = true then (some (8, 0)) else (if a0 = 64522 then (scarfref05_Shape.j1 kj3 a0 true) else (scarfref05_Shape.j1 kj3 a0 (a0 == 64526))))) = some (r1, r2) := by first | (rw [hy139]; with_reducible exact H) | (have H2_ := (Option.bind_some _ _).symm.trans H; rw [hy139]; with_reducible exact H2_) | (have H2_ := (Option.bind_some _ _).symm.trans H; with_reducible exact H2_) | with_reducible exact H | (rw [hy139]; exact H) | exact H
                    have Ny139 := Aside0.mk hy139
                    clear hy139
                    replace H := Option.bind_eq_some_iff.mp H
                    obtain ⟨t142, A530, H⟩ := H
                    replace H : (if t142 = true then (some (8, 0)) else (if a0 = 64522 then (scarfref05_Shape.j1 kj3 a0 true) else (scarfref05_Shape.j1 kj3 a0 (a0 == 64526)))) = some (r1, r2) := H
                    have A53 := Aside0.mk A530
                    clear A530
                    by_cases c54 : t142 = true
                    · subst c54
                      have H1 : (some (8, 0)) = some (r1, r2) := by rw [if_pos rfl] at H; exact H
                      clear H
                      have H := H1
                      clear H1
                      simp only [Option.some.injEq, Prod.mk.injEq] at H
                      obtain ⟨rfl, rfl⟩ := H
                      go_wp2_with (first | ((with_reducible refine gate_dst (N := 30) rfl ?_); (try (refine gate_guard (by rfl) ?_; dsimp only)); refine Kd.R_lit (Kd.int .i64) _ 3 ?hg (N := 30) ?hd (xs := ([2, 3, 4] : List Int)) (inner := [.int .i64 2, .int .i64 3, .int .i64 4]) (ok := fun _ => True) (okp := fun _ => True) ?hr ?hp (fun _ hk => hk) trivial (Below.refl _ _) (Nat.le_refl _) (by simp) ?_; (case hd => rfl); (case hg => rfl); (case hr => first | (go_simp; done) | (go_simp; rfl)); (case hp => exact (Reps.one (show Kd.M (Kd.int .i64) _ _ _ 2 [.int .i64 2] from rfl) (Reps.one (show Kd.M (Kd.int .i64) _ _ _ 3 [.int .i64 3] from rfl) (Reps.one (show Kd.M (Kd.int .i64) _ _ _ 4 [.int .i64 4] from rfl) (Reps.none _ _))))); intro v132 w55 ho56 hb hg_ hnew_; clear hg_ hnew_; (first | rw [← Ny131.out] at ho56 | (simp only [Int.reduceToNat] at ho56; rw [← Ny131.out] at ho56)); have n0_ := Aside0.mk (Kd.R_lower ho56 (below_size (by repeat (first | (with_reducible first | exact HB.out | apply below_alloc | apply pw_below_drewN | apply below_drew1) | exact HB.out)))); have n1_ := Aside0.mk (below_step (by repeat (first | (with_reducible first | exact HB.out | apply below_alloc | apply pw_below_drewN | apply below_drew1) | exact HB.out)) hb); clear HB; have HO133 := n0_; have HB := n1_; clear n0_ n1_; clear hb ho56; obtain ⟨Ao57, co57, eo57⟩ := Kd.R_slice HO133.out; subst eo57) | ((with_reducible refine gate_callee (f := 27) rfl ?_); refine goesL_ (some 31) rfl rfl Try.func27 (by kernel_rfl) rfl #[.int .i64 a0, .slice Ao57 y131.length co57] rfl (by (try simp only [List.map_toArray, List.map_cons, List.map_nil]); first | done | rfl | (simp only [List.length_drop, List.length_take]; rfl)) ?_; (with_reducible refine (scarfref05_one.calls kj3 a0 _ _ y131 false _ ?side1 ?side2 A12.out).mono ?_); (case side1 => repeat (first | exact (Kd.R_reads' HO133.out).2.2 | (with_reducible refine Kd.C_alloc ?_ _) | (with_reducible refine Kd.C_drewN ?_ _) | (with_reducible refine Kd.C_drew ?_))); (case side2 => exact (Kd.R_reads' HO133.out).2.1); rintro e w' ⟨rfl, ⟨nd, rfl⟩⟩; refine ⟨_, rfl, ?_⟩) | ((with_reducible refine gate_dst (N := 33) rfl ?_); (try (refine gate_guard (by rfl) ?_; dsimp only)); refine Kd.R_lit (Kd.int .i64) _ 3 ?hg (N := 33) ?hd (xs := ([12, 13, 16, 32, 33, 34, 35, 36, 210] : List Int)) (inner := [.int .i64 12, .int .i64 13, .int .i64 16, .int .i64 32, .int .i64 33, .int .i64 34, .int .i64 35, .int .i64 36, .int .i64 210]) (ok := fun _ => True) (okp := fun _ => True) ?hr ?hp (fun _ hk => hk) trivial (Below.refl _ _) (Nat.le_refl _) (by simp) ?_; (case hd => rfl); (case hg => rfl); (case hr => first | (go_simp; done) | (go_simp; rfl)); (case hp => exact (Reps.one (show Kd.M (Kd.int .i64) _ _ _ 12 [.int .i64 12] from rfl) (Reps.one (show Kd.M (Kd.int .i64) _ _ _ 13 [.int .i64 13] from rfl) (Reps.one (show Kd.M (Kd.int .i64) _ _ _ 16 [.int .i64 16] from rfl) (Reps.one (show Kd.M (Kd.int .i64) _ _ _ 32 [.int .i64 32] from rfl) (Reps.one (show Kd.M (Kd.int .i64) _ _ _ 33 [.int .i64 33] from rfl) (Reps.one (show Kd.M (Kd.int .i64) _ _ _ 34 [.int .i64 34] from rfl) (Reps.one (show Kd.M (Kd.int .i64) _ _ _ 35 [.int .i64 35] from rfl) (Reps.one (show Kd.M (Kd.int .i64) _ _ _ 36 [.int .i64 36] from rfl) (Reps.one (show Kd.M (Kd.int .i64) _ _ _ 210 [.int .i64 210] from rfl) (Reps.none _ _))))))))))); intro v136 w58 ho59 hb hg_ hnew_; clear hg_ hnew_; (first | rw [← Ny135.out] at ho59 | (simp only [Int.reduceToNat] at ho59; rw [← Ny135.out] at ho59)); have n0_ := Aside0.mk (Kd.R_elder' (by (with_reducible repeat (first | apply Kd.R_alloc | apply Kd.R_drewN | apply Kd.R_drew)); exact HO133.out) (Kd.R_base ho59) hb); have n1_ := Aside0.mk (Kd.R_lower (Kd.R_new' ho59 (Kd.R_lt (by (with_reducible repeat (first | apply Kd.R_alloc | apply Kd.R_drewN | apply Kd.R_drew)); exact HO133.out))) (below_size (by repeat (first | (with_reducible first | exact HB.out | apply below_alloc | apply pw_below_drewN | apply below_drew1) | exact HB.out)))); have n2_ := Aside0.mk (below_step (by repeat (first | (with_reducible first | exact HB.out | apply below_alloc | apply pw_below_drewN | apply below_drew1) | exact HB.out)) hb); clear HO133; clear HB; have HO133 := n0_; have HO137 := n1_; have HB := n2_; clear n0_ n1_ n2_; clear hb ho59; obtain ⟨Ao60, co60, eo60⟩ := Kd.R_slice HO137.out; subst eo60) | ((with_reducible refine gate_callee (f := 27) rfl ?_); refine goesL_ (some 34) rfl rfl Try.func27 (by kernel_rfl) rfl #[.int .i64 a0, .slice Ao60 y135.length co60] rfl (by (try simp only [List.map_toArray, List.map_cons, List.map_nil]); first | done | rfl | (simp only [List.length_drop, List.length_take]; rfl)) ?_; (with_reducible refine (scarfref05_one.calls kj3 a0 _ _ y135 false _ ?side1 ?side2 A17.out).mono ?_); (case side1 => repeat (first | exact (Kd.R_reads' HO137.out).2.2 | (with_reducible refine Kd.C_alloc ?_ _) | (with_reducible refine Kd.C_drewN ?_ _) | (with_reducible refine Kd.C_drew ?_))); (case side2 => exact (Kd.R_reads' HO137.out).2.1); rintro e w' ⟨rfl, ⟨nd, rfl⟩⟩; refine ⟨_, rfl, ?_⟩) | ((with_reducible refine gate_dst (N := 44) rfl ?_); (try (refine gate_guard (by rfl) ?_; dsimp only)); refine Kd.R_lit (Kd.int .i64) _ 3 ?hg (N := 44) ?hd (xs := ([37, 38, 63, 64, 64523, 64527, 64528, 64529] : List Int)) (inner := [.int .i64 37, .int .i64 38, .int .i64 63, .int .i64 64, .int .i64 64523, .int .i64 64527, .int .i64 64528, .int .i64 64529]) (ok := fun _ => True) (okp := fun _ => True) ?hr ?hp (fun _ hk => hk) trivial (Below.refl _ _) (Nat.le_refl _) (by simp) ?_; (case hd => rfl); (case hg => rfl); (case hr => first | (go_simp; done) | (go_simp; rfl)); (case hp => exact (Reps.one (show Kd.M (Kd.int .i64) _ _ _ 37 [.int .i64 37] from rfl) (Reps.one (show Kd.M (Kd.int .i64) _ _ _ 38 [.int .i64 38] from rfl) (Reps.one (show Kd.M (Kd.int .i64) _ _ _ 63 [.int .i64 63] from rfl) (Reps.one (show Kd.M (Kd.int .i64) _ _ _ 64 [.int .i64 64] from rfl) (Reps.one (show Kd.M (Kd.int .i64) _ _ _ 64523 [.int .i64 64523] from rfl) (Reps.one (show Kd.M (Kd.int .i64) _ _ _ 64527 [.int .i64 64527] from rfl) (Reps.one (show Kd.M (Kd.int .i64) _ _ _ 64528 [.int .i64 64528] from rfl) (Reps.one (show Kd.M (Kd.int .i64) _ _ _ 64529 [.int .i64 64529] from rfl) (Reps.none _ _)))))))))); intro v140 w61 ho62 hb hg_ hnew_; clear hg_ hnew_; (first | rw [← Ny139.out] at ho62 | (simp only [Int.reduceToNat] at ho62; rw [← Ny139.out] at ho62)); have n0_ := Aside0.mk (Kd.R_elder' (by (with_reducible repeat (first | apply Kd.R_alloc | apply Kd.R_drewN | apply Kd.R_drew)); exact HO133.out) (Kd.R_base ho62) hb); have n1_ := Aside0.mk (Kd.R_elder' (by (with_reducible repeat (first | apply Kd.R_alloc | apply Kd.R_drewN | apply Kd.R_drew)); exact HO137.out) (Kd.R_base ho62) hb); have n2_ := Aside0.mk (Kd.R_lower (Kd.R_new' (Kd.R_new' ho62 (Kd.R_lt (by (with_reducible repeat (first | apply Kd.R_alloc | apply Kd.R_drewN | apply Kd.R_drew)); exact HO133.out))) (Kd.R_lt (by (with_reducible repeat (first | apply Kd.R_alloc | apply Kd.R_drewN | apply Kd.R_drew)); exact HO137.out))) (below_size (by repeat (first | (with_reducible first | exact HB.out | apply below_alloc | apply pw_below_drewN | apply below_drew1) | exact HB.out)))); have n3_ := Aside0.mk (below_step (by repeat (first | (with_reducible first | exact HB.out | apply below_alloc | apply pw_below_drewN | apply below_drew1) | exact HB.out)) hb); clear HO133; clear HO137; clear HB; have HO133 := n0_; have HO137 := n1_; have HO141 := n2_; have HB := n3_; clear n0_ n1_ n2_ n3_; clear hb ho62; obtain ⟨Ao63, co63, eo63⟩ := Kd.R_slice HO141.out; subst eo63) | ((with_reducible refine gate_callee (f := 27) rfl ?_); refine goesL_ (some 45) rfl rfl Try.func27 (by kernel_rfl) rfl #[.int .i64 a0, .slice Ao63 y139.length co63] rfl (by (try simp only [List.map_toArray, List.map_cons, List.map_nil]); first | done | rfl | (simp only [List.length_drop, List.length_take]; rfl)) ?_; (with_reducible refine (scarfref05_one.calls kj3 a0 _ _ y139 true _ ?side1 ?side2 A53.out).mono ?_); (case side1 => repeat (first | exact (Kd.R_reads' HO141.out).2.2 | (with_reducible refine Kd.C_alloc ?_ _) | (with_reducible refine Kd.C_drewN ?_ _) | (with_reducible refine Kd.C_drew ?_))); (case side2 => exact (Kd.R_reads' HO141.out).2.1); rintro e w' ⟨rfl, ⟨nd, rfl⟩⟩; refine ⟨_, rfl, ?_⟩))
                      go_ret2
                      exact ⟨by first | rfl | (simp [errW_none, errW_some] <;> rfl) | (simp [*, errW_none, errW_some] <;> rfl), by repeat (first | (with_reducible first | exact HB.out | apply below_alloc | apply pw_below_drewN | apply below_drew1) | exact HB.out)⟩
                    · replace c54 := Bool.eq_false_iff.mpr c54
                      subst c54
                      have H1 : (if a0 = 64522 then (scarfref05_Shape.j1 kj3 a0 true) else (scarfref05_Shape.j1 kj3 a0 (a0 == 64526))) = some (r1, r2) := by rw [if_neg (show ¬ (false = true) by decide)] at H; exact H
                      clear H
                      have H := H1
                      clear H1
                      have HC64 := Aside0.mk H
                      clear H
                      go_upto_region 19 with (first | ((with_reducible refine gate_dst (N := 30) rfl ?_); (try (refine gate_guard (by rfl) ?_; dsimp only)); refine Kd.R_lit (Kd.int .i64) _ 3 ?hg (N := 30) ?hd (xs := ([2, 3, 4] : List Int)) (inner := [.int .i64 2, .int .i64 3, .int .i64 4]) (ok := fun _ => True) (okp := fun _ => True) ?hr ?hp (fun _ hk => hk) trivial (Below.refl _ _) (Nat.le_refl _) (by simp) ?_; (case hd => rfl); (case hg => rfl); (case hr => first | (go_simp; done) | (go_simp; rfl)); (case hp => exact (Reps.one (show Kd.M (Kd.int .i64) _ _ _ 2 [.int .i64 2] from rfl) (Reps.one (show Kd.M (Kd.int .i64) _ _ _ 3 [.int .i64 3] from rfl) (Reps.one (show Kd.M (Kd.int .i64) _ _ _ 4 [.int .i64 4] from rfl) (Reps.none _ _))))); intro v132 w65 ho66 hb hg_ hnew_; clear hg_ hnew_; (first | rw [← Ny131.out] at ho66 | (simp only [Int.reduceToNat] at ho66; rw [← Ny131.out] at ho66)); have n0_ := Aside0.mk (Kd.R_lower ho66 (below_size (by repeat (first | (with_reducible first | exact HB.out | apply below_alloc | apply pw_below_drewN | apply below_drew1) | exact HB.out)))); have n1_ := Aside0.mk (below_step (by repeat (first | (with_reducible first | exact HB.out | apply below_alloc | apply pw_below_drewN | apply below_drew1) | exact HB.out)) hb); clear HB; have HO133 := n0_; have HB := n1_; clear n0_ n1_; clear hb ho66; obtain ⟨Ao67, co67, eo67⟩ := Kd.R_slice HO133.out; subst eo67) | ((with_reducible refine gate_callee (f := 27) rfl ?_); refine goesL_ (some 31) rfl rfl Try.func27 (by kernel_rfl) rfl #[.int .i64 a0, .slice Ao67 y131.length co67] rfl (by (try simp only [List.map_toArray, List.map_cons, List.map_nil]); first | done | rfl | (simp only [List.length_drop, List.length_take]; rfl)) ?_; (with_reducible refine (scarfref05_one.calls kj3 a0 _ _ y131 false _ ?side1 ?side2 A12.out).mono ?_); (case side1 => repeat (first | exact (Kd.R_reads' HO133.out).2.2 | (with_reducible refine Kd.C_alloc ?_ _) | (with_reducible refine Kd.C_drewN ?_ _) | (with_reducible refine Kd.C_drew ?_))); (case side2 => exact (Kd.R_reads' HO133.out).2.1); rintro e w' ⟨rfl, ⟨nd, rfl⟩⟩; refine ⟨_, rfl, ?_⟩) | ((with_reducible refine gate_dst (N := 33) rfl ?_); (try (refine gate_guard (by rfl) ?_; dsimp only)); refine Kd.R_lit (Kd.int .i64) _ 3 ?hg (N := 33) ?hd (xs := ([12, 13, 16, 32, 33, 34, 35, 36, 210] : List Int)) (inner := [.int .i64 12, .int .i64 13, .int .i64 16, .int .i64 32, .int .i64 33, .int .i64 34, .int .i64 35, .int .i64 36, .int .i64 210]) (ok := fun _ => True) (okp := fun _ => True) ?hr ?hp (fun _ hk => hk) trivial (Below.refl _ _) (Nat.le_refl _) (by simp) ?_; (case hd => rfl); (case hg => rfl); (case hr => first | (go_simp; done) | (go_simp; rfl)); (case hp => exact (Reps.one (show Kd.M (Kd.int .i64) _ _ _ 12 [.int .i64 12] from rfl) (Reps.one (show Kd.M (Kd.int .i64) _ _ _ 13 [.int .i64 13] from rfl) (Reps.one (show Kd.M (Kd.int .i64) _ _ _ 16 [.int .i64 16] from rfl) (Reps.one (show Kd.M (Kd.int .i64) _ _ _ 32 [.int .i64 32] from rfl) (Reps.one (show Kd.M (Kd.int .i64) _ _ _ 33 [.int .i64 33] from rfl) (Reps.one (show Kd.M (Kd.int .i64) _ _ _ 34 [.int .i64 34] from rfl) (Reps.one (show Kd.M (Kd.int .i64) _ _ _ 35 [.int .i64 35] from rfl) (Reps.one (show Kd.M (Kd.int .i64) _ _ _ 36 [.int .i64 36] from rfl) (Reps.one (show Kd.M (Kd.int .i64) _ _ _ 210 [.int .i64 210] from rfl) (Reps.none _ _))))))))))); intro v136 w68 ho69 hb hg_ hnew_; clear hg_ hnew_; (first | rw [← Ny135.out] at ho69 | (simp only [Int.reduceToNat] at ho69; rw [← Ny135.out] at ho69)); have n0_ := Aside0.mk (Kd.R_elder' (by (with_reducible repeat (first | apply Kd.R_alloc | apply Kd.R_drewN | apply Kd.R_drew)); exact HO133.out) (Kd.R_base ho69) hb); have n1_ := Aside0.mk (Kd.R_lower (Kd.R_new' ho69 (Kd.R_lt (by (with_reducible repeat (first | apply Kd.R_alloc | apply Kd.R_drewN | apply Kd.R_drew)); exact HO133.out))) (below_size (by repeat (first | (with_reducible first | exact HB.out | apply below_alloc | apply pw_below_drewN | apply below_drew1) | exact HB.out)))); have n2_ := Aside0.mk (below_step (by repeat (first | (with_reducible first | exact HB.out | apply below_alloc | apply pw_below_drewN | apply below_drew1) | exact HB.out)) hb); clear HO133; clear HB; have HO133 := n0_; have HO137 := n1_; have HB := n2_; clear n0_ n1_ n2_; clear hb ho69; obtain ⟨Ao70, co70, eo70⟩ := Kd.R_slice HO137.out; subst eo70) | ((with_reducible refine gate_callee (f := 27) rfl ?_); refine goesL_ (some 34) rfl rfl Try.func27 (by kernel_rfl) rfl #[.int .i64 a0, .slice Ao70 y135.length co70] rfl (by (try simp only [List.map_toArray, List.map_cons, List.map_nil]); first | done | rfl | (simp only [List.length_drop, List.length_take]; rfl)) ?_; (with_reducible refine (scarfref05_one.calls kj3 a0 _ _ y135 false _ ?side1 ?side2 A17.out).mono ?_); (case side1 => repeat (first | exact (Kd.R_reads' HO137.out).2.2 | (with_reducible refine Kd.C_alloc ?_ _) | (with_reducible refine Kd.C_drewN ?_ _) | (with_reducible refine Kd.C_drew ?_))); (case side2 => exact (Kd.R_reads' HO137.out).2.1); rintro e w' ⟨rfl, ⟨nd, rfl⟩⟩; refine ⟨_, rfl, ?_⟩) | ((with_reducible refine gate_dst (N := 44) rfl ?_); (try (refine gate_guard (by rfl) ?_; dsimp only)); refine Kd.R_lit (Kd.int .i64) _ 3 ?hg (N := 44) ?hd (xs := ([37, 38, 63, 64, 64523, 64527, 64528, 64529] : List Int)) (inner := [.int .i64 37, .int .i64 38, .int .i64 63, .int .i64 64, .int .i64 64523, .int .i64 64527, .int .i64 64528, .int .i64 64529]) (ok := fun _ => True) (okp := fun _ => True) ?hr ?hp (fun _ hk => hk) trivial (Below.refl _ _) (Nat.le_refl _) (by simp) ?_; (case hd => rfl); (case hg => rfl); (case hr => first | (go_simp; done) | (go_simp; rfl)); (case hp => exact (Reps.one (show Kd.M (Kd.int .i64) _ _ _ 37 [.int .i64 37] from rfl) (Reps.one (show Kd.M (Kd.int .i64) _ _ _ 38 [.int .i64 38] from rfl) (Reps.one (show Kd.M (Kd.int .i64) _ _ _ 63 [.int .i64 63] from rfl) (Reps.one (show Kd.M (Kd.int .i64) _ _ _ 64 [.int .i64 64] from rfl) (Reps.one (show Kd.M (Kd.int .i64) _ _ _ 64523 [.int .i64 64523] from rfl) (Reps.one (show Kd.M (Kd.int .i64) _ _ _ 64527 [.int .i64 64527] from rfl) (Reps.one (show Kd.M (Kd.int .i64) _ _ _ 64528 [.int .i64 64528] from rfl) (Reps.one (show Kd.M (Kd.int .i64) _ _ _ 64529 [.int .i64 64529] from rfl) (Reps.none _ _)))))))))); intro v140 w71 ho72 hb hg_ hnew_; clear hg_ hnew_; (first | rw [← Ny139.out] at ho72 | (simp only [Int.reduceToNat] at ho72; rw [← Ny139.out] at ho72)); have n0_ := Aside0.mk (Kd.R_elder' (by (with_reducible repeat (first | apply Kd.R_alloc | apply Kd.R_drewN | apply Kd.R_drew)); exact HO133.out) (Kd.R_base ho72) hb); have n1_ := Aside0.mk (Kd.R_elder' (by (with_reducible repeat (first | apply Kd.R_alloc | apply Kd.R_drewN | apply Kd.R_drew)); exact HO137.out) (Kd.R_base ho72) hb); have n2_ := Aside0.mk (Kd.R_lower (Kd.R_new' (Kd.R_new' ho72 (Kd.R_lt (by (with_reducible repeat (first | apply Kd.R_alloc | apply Kd.R_drewN | apply Kd.R_drew)); exact HO133.out))) (Kd.R_lt (by (with_reducible repeat (first | apply Kd.R_alloc | apply Kd.R_drewN | apply Kd.R_drew)); exact HO137.out))) (below_size (by repeat (first | (with_reducible first | exact HB.out | apply below_alloc | apply pw_below_drewN | apply below_drew1) | exact HB.out)))); have n3_ := Aside0.mk (below_step (by repeat (first | (with_reducible first | exact HB.out | apply below_alloc | apply pw_below_drewN | apply below_drew1) | exact HB.out)) hb); clear HO133; clear HO137; clear HB; have HO133 := n0_; have HO137 := n1_; have HO141 := n2_; have HB := n3_; clear n0_ n1_ n2_ n3_; clear hb ho72; obtain ⟨Ao73, co73, eo73⟩ := Kd.R_slice HO141.out; subst eo73) | ((with_reducible refine gate_callee (f := 27) rfl ?_); refine goesL_ (some 45) rfl rfl Try.func27 (by kernel_rfl) rfl #[.int .i64 a0, .slice Ao73 y139.length co73] rfl (by (try simp only [List.map_toArray, List.map_cons, List.map_nil]); first | done | rfl | (simp only [List.length_drop, List.length_take]; rfl)) ?_; (with_reducible refine (scarfref05_one.calls kj3 a0 _ _ y139 false _ ?side1 ?side2 A53.out).mono ?_); (case side1 => repeat (first | exact (Kd.R_reads' HO141.out).2.2 | (with_reducible refine Kd.C_alloc ?_ _) | (with_reducible refine Kd.C_drewN ?_ _) | (with_reducible refine Kd.C_drew ?_))); (case side2 => exact (Kd.R_reads' HO141.out).2.1); rintro e w' ⟨rfl, ⟨nd, rfl⟩⟩; refine ⟨_, rfl, ?_⟩))
                      (try simp only [Act.put, List.setIfInBounds_toArray, List.set_cons_zero, List.set_cons_succ])
                      go_cut [51] (fun v51 wc => ∃ (kq : Nat) (x51_63 : Bool), v51 = .bool x51_63 ∧ Aside0 (scarfref05_Shape.j1 kq a0 x51_63 = some (r1, r2)) ∧ Aside0 (kq ≤ kj3) ∧ Aside0 (Below w.heap.size w wc))
                      case first =>
                        have H := HC64.out
                        clear HC64
                        by_cases c74 : a0 = 64522
                        · rw [if_pos c74] at H
                          have c74b0 : (a0 == 64522) = true := beq_iff_eq.mpr c74
                          have c74b1 : (a0 != 64522) = false := bne_eq_false_iff_eq.mpr c74
                          clear c74
                          (first | rw [c74b0] | (simp only [i64_w, i32_w]; rw [c74b0]) | skip)
                          have H' := Aside0.mk H
                          clear H
                          go_wp2
                          go_meet
                          case rel => exact ⟨_, (true), (by first | rfl | (simp; done) | (simp [*]; done)), H', ⟨by have := HJ3.out; first | omega | exact Nat.le_refl _⟩, ⟨by repeat (first | (with_reducible first | exact HB.out | apply below_alloc | apply pw_below_drewN | apply below_drew1) | exact HB.out)⟩⟩
                        · rw [if_neg c74] at H
                          have c74b0 : (a0 == 64522) = false := beq_eq_false_iff_ne.mpr c74
                          have c74b1 : (a0 != 64522) = true := bne_iff_ne.mpr c74
                          (first | rw [c74b0] | (simp only [i64_w, i32_w]; rw [c74b0]) | skip)
                          have H' := Aside0.mk H
                          clear H
                          go_wp2
                          go_meet
                          case rel => exact ⟨_, ((a0 == 64526)), (by first | rfl | (simp; done) | (simp [*]; done)), H', ⟨by have := HJ3.out; first | omega | exact Nat.le_refl _⟩, ⟨by repeat (first | (with_reducible first | exact HB.out | apply below_alloc | apply pw_below_drewN | apply below_drew1) | exact HB.out)⟩⟩
                      case rest =>
                        clear HC64
                        try clear c1
                        try clear c2
                        try clear p2
                        try clear c3
                        try clear c4
                        try clear c5
                        try clear c6
                        try clear c6b0
                        try clear c7
                        try clear c11
                        try clear c13
                        try clear c18
                        try clear c25
                        try clear c25b0
                        try clear c25b1
                        try clear c26
                        try clear c27
                        try clear c32
                        try clear c32b0
                        try clear c32b1
                        try clear c39
                        try clear c39b0
                        try clear c39b1
                        try clear c46
                        try clear c46b0
                        try clear c54
                        try clear c74
                        try clear c74b0
                        try clear c74b1
                        try clear p2
                        obtain ⟨kq, x51_63, rfl, HA, HJ63, HB⟩ := hcut
                        cases kq with
                        | zero => exact absurd HA.out (by simp [scarfref05_Shape.j1])
                        | succ kj63 =>
                          have H := HA.out
                          clear HA
                          simp only [scarfref05_Shape.j1] at H
                          by_cases c75 : x51_63 = true
                          · subst c75
                            have H1 : (some (9, 0)) = some (r1, r2) := by rw [if_pos rfl] at H; exact H
                            clear H
                            have H := H1
                            clear H1
                            simp only [Option.some.injEq, Prod.mk.injEq] at H
                            obtain ⟨rfl, rfl⟩ := H
                            go_wp2
                            go_ret2
                            exact ⟨by first | rfl | (simp [errW_none, errW_some] <;> rfl) | (simp [*, errW_none, errW_some] <;> rfl), by repeat (first | (with_reducible first | exact HB.out | apply below_alloc | apply pw_below_drewN | apply below_drew1) | exact HB.out)⟩
                          · replace c75 := Bool.eq_false_iff.mpr c75
                            subst c75
                            have H1 : (if a0 = 65 then (scarfref05_Shape.j2 kj63 a0 true) else (scarfref05_Shape.j2 kj63 a0 (a0 == 66))) = some (r1, r2) := by rw [if_neg (show ¬ (false = true) by decide)] at H; exact H
                            clear H
                            have H := H1
                            clear H1
                            have HC76 := Aside0.mk H
                            clear H
                            go_upto_region 21 with (fail)
                            go_cut [57] (fun v57 wc => ∃ (kq : Nat) (x57_75 : Bool), v57 = .bool x57_75 ∧ Aside0 (scarfref05_Shape.j2 kq a0 x57_75 = some (r1, r2)) ∧ Aside0 (kq ≤ kj63) ∧ Aside0 (Below w.heap.size w wc))
                            case first =>
                              have H := HC76.out
                              clear HC76
                              by_cases c77 : a0 = 65
                              · rw [if_pos c77] at H
                                have c77b0 : (a0 == 65) = true := beq_iff_eq.mpr c77
                                have c77b1 : (a0 != 65) = false := bne_eq_false_iff_eq.mpr c77
                                clear c77
                                (first | rw [c77b0] | (simp only [i64_w, i32_w]; rw [c77b0]) | skip)
                                have H' := Aside0.mk H
                                clear H
                                go_wp2
                                go_meet
                                case rel => exact ⟨_, (true), (by first | rfl | (simp; done) | (simp [*]; done)), H', ⟨by have := HJ3.out; have := HJ63.out; first | omega | exact Nat.le_refl _⟩, ⟨by repeat (first | (with_reducible first | exact HB.out | apply below_alloc | apply pw_below_drewN | apply below_drew1) | exact HB.out)⟩⟩
                              · rw [if_neg c77] at H
                                have c77b0 : (a0 == 65) = false := beq_eq_false_iff_ne.mpr c77
                                have c77b1 : (a0 != 65) = true := bne_iff_ne.mpr c77
                                (first | rw [c77b0] | (simp only [i64_w, i32_w]; rw [c77b0]) | skip)
                                have H' := Aside0.mk H
                                clear H
                                go_wp2
                                go_meet
                                case rel => exact ⟨_, ((a0 == 66)), (by first | rfl | (simp; done) | (simp [*]; done)), H', ⟨by have := HJ3.out; have := HJ63.out; first | omega | exact Nat.le_refl _⟩, ⟨by repeat (first | (with_reducible first | exact HB.out | apply below_alloc | apply pw_below_drewN | apply below_drew1) | exact HB.out)⟩⟩
                            case rest =>
                              clear HC76
                              try clear c1
                              try clear c2
                              try clear p2
                              try clear c3
                              try clear c4
                              try clear c5
                              try clear c6
                              try clear c6b0
                              try clear c7
                              try clear c11
                              try clear c13
                              try clear c18
                              try clear c25
                              try clear c25b0
                              try clear c25b1
                              try clear c26
                              try clear c27
                              try clear c32
                              try clear c32b0
                              try clear c32b1
                              try clear c39
                              try clear c39b0
                              try clear c39b1
                              try clear c46
                              try clear c46b0
                              try clear c54
                              try clear c74
                              try clear c74b0
                              try clear c74b1
                              try clear c75
                              try clear c77
                              try clear c77b0
                              try clear c77b1
                              try clear p2
                              obtain ⟨kq, x57_75, rfl, HA, HJ75, HB⟩ := hcut
                              cases kq with
                              | zero => exact absurd HA.out (by simp [scarfref05_Shape.j2])
                              | succ kj75 =>
                                have H := HA.out
                                clear HA
                                simp only [scarfref05_Shape.j2] at H
                                by_cases c78 : x57_75 = true
                                · subst c78
                                  have H1 : (some (10, 0)) = some (r1, r2) := by rw [if_pos rfl] at H; exact H
                                  clear H
                                  have H := H1
                                  clear H1
                                  simp only [Option.some.injEq, Prod.mk.injEq] at H
                                  obtain ⟨rfl, rfl⟩ := H
                                  go_wp2
                                  go_ret2
                                  exact ⟨by first | rfl | (simp [errW_none, errW_some] <;> rfl) | (simp [*, errW_none, errW_some] <;> rfl), by repeat (first | (with_reducible first | exact HB.out | apply below_alloc | apply pw_below_drewN | apply below_drew1) | exact HB.out)⟩
                                · replace c78 := Bool.eq_false_iff.mpr c78
                                  subst c78
                                  have H1 : (if a0 = 208 then (some (11, 0)) else ((scarfref05_one.f kj75 a0 (([42, 43, 56, 57, 67, 68] : List Int))).bind fun t146 => (if t146 = true then (scarfref05_Shape.j3 kj75 a0 true) else (if a0 ≥ 91 then (if a0 ≤ 102 then (scarfref05_Shape.j3 kj75 a0 true) else (if a0 ≥ 139 then (if a0 ≤ 166 then (scarfref05_Shape.j3 kj75 a0 true) else (if a0 ≥ 168 then (if a0 ≤ 171 then (scarfref05_Shape.j3 kj75 a0 true) else (if a0 ≥ 174 then (if a0 ≤ 191 then (scarfref05_Shape.j3 kj75 a0 true) else (if a0 ≥ 64512 then (scarfref05_Shape.j3 kj75 a0 (decide (a0 ≤ 64519))) else (scarfref05_Shape.j3 kj75 a0 false))) else (if a0 ≥ 64512 then (scarfref05_Shape.j3 kj75 a0 (decide (a0 ≤ 64519))) else (scarfref05_Shape.j3 kj75 a0 false)))) else (if a0 ≥ 174 then (if a0 ≤ 191 then (scarfref05_Shape.j3 kj75 a0 true) else (if a0 ≥ 64512 then (scarfref05_Shape.j3 kj75 a0 (decide (a0 ≤ 64519))) else (scarfref05_Shape.j3 kj75 a0 false))) else (if a0 ≥ 64512 then (scarfref05_Shape.j3 kj75 a0 (decide (a0 ≤ 64519))) else (scarfref05_Shape.j3 kj75 a0 false))))) else (if a0 ≥ 168 then (if a0 ≤ 171 then (scarfref05_Shape.j3 kj75 a0 true) else (if a0 ≥ 174 then (if a0 ≤ 191 then (scarfref05_Shape.j3 kj75 a0 true) else (if a0 ≥ 64512 then (scarfref05_Shape.j3 kj75 a0 (decide (a0 ≤ 64519))) else (scarfref05_Shape.j3 kj75 a0 false))) else (if a0 ≥ 64512 then (scarfref05_Shape.j3 kj75 a0 (decide (a0 ≤ 64519))) else (scarfref05_Shape.j3 kj75 a0 false)))) else (if a0 ≥ 174 then (if a0 ≤ 191 then (scarfref05_Shape.j3 kj75 a0 true) else (if a0 ≥ 64512 then (scarfref05_Shape.j3 kj75 a0 (decide (a0 ≤ 64519))) else (scarfref05_Shape.j3 kj75 a0 false))) else (if a0 ≥ 64512 then (scarfref05_Shape.j3 kj75 a0 (decide (a0 ≤ 64519))) else (scarfref05_Shape.j3 kj75 a0 false)))))) else (if a0 ≥ 139 then (if a0 ≤ 166 then (scarfref05_Shape.j3 kj75 a0 true) else (if a0 ≥ 168 then (if a0 ≤ 171 then (scarfref05_Shape.j3 kj75 a0 true) else (if a0 ≥ 174 then (if a0 ≤ 191 then (scarfref05_Shape.j3 kj75 a0 true) else (if a0 ≥ 64512 then (scarfref05_Shape.j3 kj75 a0 (decide (a0 ≤ 64519))) else (scarfref05_Shape.j3 kj75 a0 false))) else (if a0 ≥ 64512 then (scarfref05_Shape.j3 kj75 a0 (decide (a0 ≤ 64519))) else (scarfref05_Shape.j3 kj75 a0 false)))) else (if a0 ≥ 174 then (if a0 ≤ 191 then (scarfref05_Shape.j3 kj75 a0 true) else (if a0 ≥ 64512 then (scarfref05_Shape.j3 kj75 a0 (decide (a0 ≤ 64519))) else (scarfref05_Shape.j3 kj75 a0 false))) else (if a0 ≥ 64512 then (scarfref05_Shape.j3 kj75 a0 (decide (a0 ≤ 64519))) else (scarfref05_Shape.j3 kj75 a0 false))))) else (if a0 ≥ 168 then (if a0 ≤ 171 then (scarfref05_Shape.j3 kj75 a0 true) else (if a0 ≥ 174 then (if a0 ≤ 191 then (scarfref05_Shape.j3 kj75 a0 true) else (if a0 ≥ 64512 then (scarfref05_Shape.j3 kj75 a0 (decide (a0 ≤ 64519))) else (scarfref05_Shape.j3 kj75 a0 false))) else (if a0 ≥ 64512 then (scarfref05_Shape.j3 kj75 a0 (decide (a0 ≤ 64519))) else (scarfref05_Shape.j3 kj75 a0 false)))) else (if a0 ≥ 174 then (if a0 ≤ 191 then (scarfref05_Shape.j3 kj75 a0 true) else (if a0 ≥ 64512 then (scarfref05_Shape.j3 kj75 a0 (decide (a0 ≤ 64519))) else (scarfref05_Shape.j3 kj75 a0 false))) else (if a0 ≥ 64512 then (scarfref05_Shape.j3 kj75 a0 (decide (a0 ≤ 64519))) else (scarfref05_Shape.j3 kj75 a0 false))))))))) = some (r1, r2) := by rw [if_neg (show ¬ (false = true) by decide)] at H; exact H
                                  clear H
                                  have H := H1
                                  clear H1
                                  by_cases c79 : a0 = 208
                                  · rw [if_pos c79] at H
                                    have c79b0 : (a0 == 208) = true := beq_iff_eq.mpr c79
                                    have c79b1 : (a0 != 208) = false := bne_eq_false_iff_eq.mpr c79
                                    clear c79
                                    simp only [Option.some.injEq, Prod.mk.injEq] at H
                                    obtain ⟨rfl, rfl⟩ := H
                                    go_wp2
                                    go_ret2
                                    exact ⟨by first | rfl | (simp [errW_none, errW_some] <;> rfl) | (simp [*, errW_none, errW_some] <;> rfl), by repeat (first | (with_reducible first | exact HB.out | apply below_alloc | apply pw_below_drewN | apply below_drew1) | exact HB.out)⟩
                                  · rw [if_neg c79] at H
                                    have c79b0 : (a0 == 208) = false := beq_eq_false_iff_ne.mpr c79
                                    have c79b1 : (a0 != 208) = true := bne_iff_ne.mpr c79
                                    have HC80 := Aside0.mk H
                                    clear H
                                    go_upto_region 25 with (fail)
                                    go_cut [102] (fun v102 wc => ∃ (kq : Nat) (x102_79 : Bool), v102 = .bool x102_79 ∧ Aside0 (scarfref05_Shape.j3 kq a0 x102_79 = some (r1, r2)) ∧ Aside0 (kq ≤ kj75) ∧ Aside0 (Below w.heap.size w wc))
                                    case first =>
                                      have H := HC80.out
                                      clear HC80
                                      obtain ⟨y143, hy143⟩ : ∃ y_ : List Int, y_ = (([42, 43, 56, 57, 67, 68] : List Int)) := ⟨_, rfl⟩
                                      replace H : ((scarfref05_one.f kj75 a0 y143).bind fun t146 => (if t146 = true then (scarfref05_Shape.j3 kj75 a0 true) else (if a0 ≥ 91 then (if a0 ≤ 102 then (scarfref05_Shape.j3 kj75 a0 true) else (if a0 ≥ 139 then (if a0 ≤ 166 then (scarfref05_Shape.j3 kj75 a0 true) else (if a0 ≥ 168 then (if a0 ≤ 171 then (scarfref05_Shape.j3 kj75 a0 true) else (if a0 ≥ 174 then (if a0 ≤ 191 then (scarfref05_Shape.j3 kj75 a0 true) else (if a0 ≥ 64512 then (scarfref05_Shape.j3 kj75 a0 (decide (a0 ≤ 64519))) else (scarfref05_Shape.j3 kj75 a0 false))) else (if a0 ≥ 64512 then (scarfref05_Shape.j3 kj75 a0 (decide (a0 ≤ 64519))) else (scarfref05_Shape.j3 kj75 a0 false)))) else (if a0 ≥ 174 then (if a0 ≤ 191 then (scarfref05_Shape.j3 kj75 a0 true) else (if a0 ≥ 64512 then (scarfref05_Shape.j3 kj75 a0 (decide (a0 ≤ 64519))) else (scarfref05_Shape.j3 kj75 a0 false))) else (if a0 ≥ 64512 then (scarfref05_Shape.j3 kj75 a0 (decide (a0 ≤ 64519))) else (scarfref05_Shape.j3 kj75 a0 false))))) else (if a0 ≥ 168 then (if a0 ≤ 171 then (scarfref05_Shape.j3 kj75 a0 true) else (if a0 ≥ 174 then (if a0 ≤ 191 then (scarfref05_Shape.j3 kj75 a0 true) else (if a0 ≥ 64512 then (scarfref05_Shape.j3 kj75 a0 (decide (a0 ≤ 64519))) else (scarfref05_Shape.j3 kj75 a0 false))) else (if a0 ≥ 64512 then (scarfref05_Shape.j3 kj75 a0 (decide (a0 ≤ 64519))) else (scarfref05_Shape.j3 kj75 a0 false)))) else (if a0 ≥ 174 then (if a0 ≤ 191 then (scarfref05_Shape.j3 kj75 a0 true) else (if a0 ≥ 64512 then (scarfref05_Shape.j3 kj75 a0 (decide (a0 ≤ 64519))) else (scarfref05_Shape.j3 kj75 a0 false))) else (if a0 ≥ 64512 then (scarfref05_Shape.j3 kj75 a0 (decide (a0 ≤ 64519))) else (scarfref05_Shape.j3 kj75 a0 false)))))) else (if a0 ≥ 139 then (if a0 ≤ 166 then (scarfref05_Shape.j3 kj75 a0 true) else (if a0 ≥ 168 then (if a0 ≤ 171 then (scarfref05_Shape.j3 kj75 a0 true) else (if a0 ≥ 174 then (if a0 ≤ 191 then (scarfref05_Shape.j3 kj75 a0 true) else (if a0 ≥ 64512 then (scarfref05_Shape.j3 kj75 a0 (decide (a0 ≤ 64519))) else (scarfref05_Shape.j3 kj75 a0 false))) else (if a0 ≥ 64512 then (scarfref05_Shape.j3 kj75 a0 (decide (a0 ≤ 64519))) else (scarfref05_Shape.j3 kj75 a0 false)))) else (if a0 ≥ 174 then (if a0 ≤ 191 then (scarfref05_Shape.j3 kj75 a0 true) else (if a0 ≥ 64512 then (scarfref05_Shape.j3 kj75 a0 (decide (a0 ≤ 64519))) else (scarfref05_Shape.j3 kj75 a0 false))) else (if a0 ≥ 64512 then (scarfref05_Shape.j3 kj75 a0 (decide (a0 ≤ 64519))) else (scarfref05_Shape.j3 kj75 a0 false))))) else (if a0 ≥ 168 then (if a0 ≤ 171 then (scarfref05_Shape.j3 kj75 a0 true) else (if a0 ≥ 174 then (if a0 ≤ 191 then (scarfref05_Shape.j3 kj75 a0 true) else (if a0 ≥ 64512 then (scarfref05_Shape.j3 kj75 a0 (decide (a0 ≤ 64519))) else (scarfref05_Shape.j3 kj75 a0 false))) else (if a0 ≥ 64512 then (scarfref05_Shape.j3 kj75 a0 (decide (a0 ≤ 64519))) else (scarfref05_Shape.j3 kj75 a0 false)))) else (if a0 ≥ 174 then (if a0 ≤ 191 then (scarfref05_Shape.j3 kj75 a0 true) else (if a0 ≥ 64512 then (scarfref05_Shape.j3 kj75 a0 (decide (a0 ≤ 64519))) else (scarfref05_Shape.j3 kj75 a0 false))) else (if a0 ≥ 64512 then (scarfref05_Shape.j3 kj75 a0 (decide (a0 ≤ 64519))) else (scarfref05_Shape.j3 kj75 a0 false)))))))) = some (r1, r2) := by first | (rw [hy143]; with_reducible exact H) | (have H2_ := (Option.bind_some _ _).symm.trans H; rw [hy143]; with_reducible exact H2_) | (have H2_ := (Option.bind_some _ _).symm.trans H; with_reducible exact H2_) | with_reducible exact H | (rw [hy143]; exact H) | exact H
                                      have Ny143 := Aside0.mk hy143
                                      clear hy143
                                      replace H := Option.bind_eq_some_iff.mp H
                                      obtain ⟨t146, A810, H⟩ := H
                                      replace H : (if t146 = true then (scarfref05_Shape.j3 kj75 a0 true) else (if a0 ≥ 91 then (if a0 ≤ 102 then (scarfref05_Shape.j3 kj75 a0 true) else (if a0 ≥ 139 then (if a0 ≤ 166 then (scarfref05_Shape.j3 kj75 a0 true) else (if a0 ≥ 168 then (if a0 ≤ 171 then (scarfref05_Shape.j3 kj75 a0 true) else (if a0 ≥ 174 then (if a0 ≤ 191 then (scarfref05_Shape.j3 kj75 a0 true) else (if a0 ≥ 64512 then (scarfref05_Shape.j3 kj75 a0 (decide (a0 ≤ 64519))) else (scarfref05_Shape.j3 kj75 a0 false))) else (if a0 ≥ 64512 then (scarfref05_Shape.j3 kj75 a0 (decide (a0 ≤ 64519))) else (scarfref05_Shape.j3 kj75 a0 false)))) else (if a0 ≥ 174 then (if a0 ≤ 191 then (scarfref05_Shape.j3 kj75 a0 true) else (if a0 ≥ 64512 then (scarfref05_Shape.j3 kj75 a0 (decide (a0 ≤ 64519))) else (scarfref05_Shape.j3 kj75 a0 false))) else (if a0 ≥ 64512 then (scarfref05_Shape.j3 kj75 a0 (decide (a0 ≤ 64519))) else (scarfref05_Shape.j3 kj75 a0 false))))) else (if a0 ≥ 168 then (if a0 ≤ 171 then (scarfref05_Shape.j3 kj75 a0 true) else (if a0 ≥ 174 then (if a0 ≤ 191 then (scarfref05_Shape.j3 kj75 a0 true) else (if a0 ≥ 64512 then (scarfref05_Shape.j3 kj75 a0 (decide (a0 ≤ 64519))) else (scarfref05_Shape.j3 kj75 a0 false))) else (if a0 ≥ 64512 then (scarfref05_Shape.j3 kj75 a0 (decide (a0 ≤ 64519))) else (scarfref05_Shape.j3 kj75 a0 false)))) else (if a0 ≥ 174 then (if a0 ≤ 191 then (scarfref05_Shape.j3 kj75 a0 true) else (if a0 ≥ 64512 then (scarfref05_Shape.j3 kj75 a0 (decide (a0 ≤ 64519))) else (scarfref05_Shape.j3 kj75 a0 false))) else (if a0 ≥ 64512 then (scarfref05_Shape.j3 kj75 a0 (decide (a0 ≤ 64519))) else (scarfref05_Shape.j3 kj75 a0 false)))))) else (if a0 ≥ 139 then (if a0 ≤ 166 then (scarfref05_Shape.j3 kj75 a0 true) else (if a0 ≥ 168 then (if a0 ≤ 171 then (scarfref05_Shape.j3 kj75 a0 true) else (if a0 ≥ 174 then (if a0 ≤ 191 then (scarfref05_Shape.j3 kj75 a0 true) else (if a0 ≥ 64512 then (scarfref05_Shape.j3 kj75 a0 (decide (a0 ≤ 64519))) else (scarfref05_Shape.j3 kj75 a0 false))) else (if a0 ≥ 64512 then (scarfref05_Shape.j3 kj75 a0 (decide (a0 ≤ 64519))) else (scarfref05_Shape.j3 kj75 a0 false)))) else (if a0 ≥ 174 then (if a0 ≤ 191 then (scarfref05_Shape.j3 kj75 a0 true) else (if a0 ≥ 64512 then (scarfref05_Shape.j3 kj75 a0 (decide (a0 ≤ 64519))) else (scarfref05_Shape.j3 kj75 a0 false))) else (if a0 ≥ 64512 then (scarfref05_Shape.j3 kj75 a0 (decide (a0 ≤ 64519))) else (scarfref05_Shape.j3 kj75 a0 false))))) else (if a0 ≥ 168 then (if a0 ≤ 171 then (scarfref05_Shape.j3 kj75 a0 true) else (if a0 ≥ 174 then (if a0 ≤ 191 then (scarfref05_Shape.j3 kj75 a0 true) else (if a0 ≥ 64512 then (scarfref05_Shape.j3 kj75 a0 (decide (a0 ≤ 64519))) else (scarfref05_Shape.j3 kj75 a0 false))) else (if a0 ≥ 64512 then (scarfref05_Shape.j3 kj75 a0 (decide (a0 ≤ 64519))) else (scarfref05_Shape.j3 kj75 a0 false)))) else (if a0 ≥ 174 then (if a0 ≤ 191 then (scarfref05_Shape.j3 kj75 a0 true) else (if a0 ≥ 64512 then (scarfref05_Shape.j3 kj75 a0 (decide (a0 ≤ 64519))) else (scarfref05_Shape.j3 kj75 a0 false))) else (if a0 ≥ 64512 then (scarfref05_Shape.j3 kj75 a0 (decide (a0 ≤ 64519))) else (scarfref05_Shape.j3 kj75 a0 false))))))) = some (r1, r2) := H
                                      have A81 := Aside0.mk A810
                                      clear A810
                                      by_cases c82 : t146 = true
                                      · subst c82
                                        have H1 : (scarfref05_Shape.j3 kj75 a0 true) = some (r1, r2) := by rw [if_pos rfl] at H; exact H
                                        clear H
                                        have H := H1
                                        clear H1
                                        have H' := Aside0.mk H
                                        clear H
                                        go_wp2_with (first | ((with_reducible refine gate_dst (N := 61) rfl ?_); (try (refine gate_guard (by rfl) ?_; dsimp only)); refine Kd.R_lit (Kd.int .i64) _ 3 ?hg (N := 61) ?hd (xs := ([42, 43, 56, 57, 67, 68] : List Int)) (inner := [.int .i64 42, .int .i64 43, .int .i64 56, .int .i64 57, .int .i64 67, .int .i64 68]) (ok := fun _ => True) (okp := fun _ => True) ?hr ?hp (fun _ hk => hk) trivial (Below.refl _ _) (Nat.le_refl _) (by simp) ?_; (case hd => rfl); (case hg => rfl); (case hr => first | (go_simp; done) | (go_simp; rfl)); (case hp => exact (Reps.one (show Kd.M (Kd.int .i64) _ _ _ 42 [.int .i64 42] from rfl) (Reps.one (show Kd.M (Kd.int .i64) _ _ _ 43 [.int .i64 43] from rfl) (Reps.one (show Kd.M (Kd.int .i64) _ _ _ 56 [.int .i64 56] from rfl) (Reps.one (show Kd.M (Kd.int .i64) _ _ _ 57 [.int .i64 57] from rfl) (Reps.one (show Kd.M (Kd.int .i64) _ _ _ 67 [.int .i64 67] from rfl) (Reps.one (show Kd.M (Kd.int .i64) _ _ _ 68 [.int .i64 68] from rfl) (Reps.none _ _)))))))); intro v144 w83 ho84 hb hg_ hnew_; clear hg_ hnew_; (first | rw [← Ny143.out] at ho84 | (simp only [Int.reduceToNat] at ho84; rw [← Ny143.out] at ho84)); have n0_ := Aside0.mk (Kd.R_lower ho84 (below_size (by repeat (first | (with_reducible first | exact HB.out | apply below_alloc | apply pw_below_drewN | apply below_drew1) | exact HB.out)))); have n1_ := Aside0.mk (below_step (by repeat (first | (with_reducible first | exact HB.out | apply below_alloc | apply pw_below_drewN | apply below_drew1) | exact HB.out)) hb); clear HB; have HO145 := n0_; have HB := n1_; clear n0_ n1_; clear hb ho84; obtain ⟨Ao85, co85, eo85⟩ := Kd.R_slice HO145.out; subst eo85) | ((with_reducible refine gate_callee (f := 27) rfl ?_); refine goesL_ (some 62) rfl rfl Try.func27 (by kernel_rfl) rfl #[.int .i64 a0, .slice Ao85 y143.length co85] rfl (by (try simp only [List.map_toArray, List.map_cons, List.map_nil]); first | done | rfl | (simp only [List.length_drop, List.length_take]; rfl)) ?_; (with_reducible refine (scarfref05_one.calls kj75 a0 _ _ y143 true _ ?side1 ?side2 A81.out).mono ?_); (case side1 => repeat (first | exact (Kd.R_reads' HO145.out).2.2 | (with_reducible refine Kd.C_alloc ?_ _) | (with_reducible refine Kd.C_drewN ?_ _) | (with_reducible refine Kd.C_drew ?_))); (case side2 => exact (Kd.R_reads' HO145.out).2.1); rintro e w' ⟨rfl, ⟨nd, rfl⟩⟩; refine ⟨_, rfl, ?_⟩))
                                        go_meet
                                        case rel => exact ⟨_, (true), (by first | rfl | (simp; done) | (simp [*]; done)), H', ⟨by have := HJ3.out; have := HJ63.out; have := HJ75.out; first | omega | exact Nat.le_refl _⟩, ⟨by repeat (first | (with_reducible first | exact HB.out | apply below_alloc | apply pw_below_drewN | apply below_drew1) | exact HB.out)⟩⟩
                                      · replace c82 := Bool.eq_false_iff.mpr c82
                                        subst c82
                                        have H1 : (if a0 ≥ 91 then (if a0 ≤ 102 then (scarfref05_Shape.j3 kj75 a0 true) else (if a0 ≥ 139 then (if a0 ≤ 166 then (scarfref05_Shape.j3 kj75 a0 true) else (if a0 ≥ 168 then (if a0 ≤ 171 then (scarfref05_Shape.j3 kj75 a0 true) else (if a0 ≥ 174 then (if a0 ≤ 191 then (scarfref05_Shape.j3 kj75 a0 true) else (if a0 ≥ 64512 then (scarfref05_Shape.j3 kj75 a0 (decide (a0 ≤ 64519))) else (scarfref05_Shape.j3 kj75 a0 false))) else (if a0 ≥ 64512 then (scarfref05_Shape.j3 kj75 a0 (decide (a0 ≤ 64519))) else (scarfref05_Shape.j3 kj75 a0 false)))) else (if a0 ≥ 174 then (if a0 ≤ 191 then (scarfref05_Shape.j3 kj75 a0 true) else (if a0 ≥ 64512 then (scarfref05_Shape.j3 kj75 a0 (decide (a0 ≤ 64519))) else (scarfref05_Shape.j3 kj75 a0 false))) else (if a0 ≥ 64512 then (scarfref05_Shape.j3 kj75 a0 (decide (a0 ≤ 64519))) else (scarfref05_Shape.j3 kj75 a0 false))))) else (if a0 ≥ 168 then (if a0 ≤ 171 then (scarfref05_Shape.j3 kj75 a0 true) else (if a0 ≥ 174 then (if a0 ≤ 191 then (scarfref05_Shape.j3 kj75 a0 true) else (if a0 ≥ 64512 then (scarfref05_Shape.j3 kj75 a0 (decide (a0 ≤ 64519))) else (scarfref05_Shape.j3 kj75 a0 false))) else (if a0 ≥ 64512 then (scarfref05_Shape.j3 kj75 a0 (decide (a0 ≤ 64519))) else (scarfref05_Shape.j3 kj75 a0 false)))) else (if a0 ≥ 174 then (if a0 ≤ 191 then (scarfref05_Shape.j3 kj75 a0 true) else (if a0 ≥ 64512 then (scarfref05_Shape.j3 kj75 a0 (decide (a0 ≤ 64519))) else (scarfref05_Shape.j3 kj75 a0 false))) else (if a0 ≥ 64512 then (scarfref05_Shape.j3 kj75 a0 (decide (a0 ≤ 64519))) else (scarfref05_Shape.j3 kj75 a0 false)))))) else (if a0 ≥ 139 then (if a0 ≤ 166 then (scarfref05_Shape.j3 kj75 a0 true) else (if a0 ≥ 168 then (if a0 ≤ 171 then (scarfref05_Shape.j3 kj75 a0 true) else (if a0 ≥ 174 then (if a0 ≤ 191 then (scarfref05_Shape.j3 kj75 a0 true) else (if a0 ≥ 64512 then (scarfref05_Shape.j3 kj75 a0 (decide (a0 ≤ 64519))) else (scarfref05_Shape.j3 kj75 a0 false))) else (if a0 ≥ 64512 then (scarfref05_Shape.j3 kj75 a0 (decide (a0 ≤ 64519))) else (scarfref05_Shape.j3 kj75 a0 false)))) else (if a0 ≥ 174 then (if a0 ≤ 191 then (scarfref05_Shape.j3 kj75 a0 true) else (if a0 ≥ 64512 then (scarfref05_Shape.j3 kj75 a0 (decide (a0 ≤ 64519))) else (scarfref05_Shape.j3 kj75 a0 false))) else (if a0 ≥ 64512 then (scarfref05_Shape.j3 kj75 a0 (decide (a0 ≤ 64519))) else (scarfref05_Shape.j3 kj75 a0 false))))) else (if a0 ≥ 168 then (if a0 ≤ 171 then (scarfref05_Shape.j3 kj75 a0 true) else (if a0 ≥ 174 then (if a0 ≤ 191 then (scarfref05_Shape.j3 kj75 a0 true) else (if a0 ≥ 64512 then (scarfref05_Shape.j3 kj75 a0 (decide (a0 ≤ 64519))) else (scarfref05_Shape.j3 kj75 a0 false))) else (if a0 ≥ 64512 then (scarfref05_Shape.j3 kj75 a0 (decide (a0 ≤ 64519))) else (scarfref05_Shape.j3 kj75 a0 false)))) else (if a0 ≥ 174 then (if a0 ≤ 191 then (scarfref05_Shape.j3 kj75 a0 true) else (if a0 ≥ 64512 then (scarfref05_Shape.j3 kj75 a0 (decide (a0 ≤ 64519))) else (scarfref05_Shape.j3 kj75 a0 false))) else (if a0 ≥ 64512 then (scarfref05_Shape.j3 kj75 a0 (decide (a0 ≤ 64519))) else (scarfref05_Shape.j3 kj75 a0 false)))))) = some (r1, r2) := by rw [if_neg (show ¬ (false = true) by decide)] at H; exact H
                                        clear H
                                        have H := H1
                                        clear H1
                                        have hi_ : (a0 ≤ 90) ∨ (91 ≤ a0 ∧ a0 ≤ 102) ∨ (103 ≤ a0 ∧ a0 ≤ 138) ∨ (139 ≤ a0 ∧ a0 ≤ 166) ∨ (167 ≤ a0 ∧ a0 ≤ 167) ∨ (168 ≤ a0 ∧ a0 ≤ 171) ∨ (172 ≤ a0 ∧ a0 ≤ 173) ∨ (174 ≤ a0 ∧ a0 ≤ 191) ∨ (192 ≤ a0 ∧ a0 ≤ 64511) ∨ (64512 ≤ a0 ∧ a0 ≤ 64519) ∨ (64520 ≤ a0) := by omega
                                        rcases hi_ with h_ | h_ | h_ | h_ | h_ | h_ | h_ | h_ | h_ | h_ | h_
                                        · have d91 : decide (91 ≤ a0) = false := decide_eq_false (by omega)
                                          have d102 : decide (a0 ≤ 102) = true := decide_eq_true (by omega)
                                          have d139 : decide (139 ≤ a0) = false := decide_eq_false (by omega)
                                          have d166 : decide (a0 ≤ 166) = true := decide_eq_true (by omega)
                                          have d168 : decide (168 ≤ a0) = false := decide_eq_false (by omega)
                                          have d171 : decide (a0 ≤ 171) = true := decide_eq_true (by omega)
                                          have d174 : decide (174 ≤ a0) = false := decide_eq_false (by omega)
                                          have d191 : decide (a0 ≤ 191) = true := decide_eq_true (by omega)
                                          have d64512 : decide (64512 ≤ a0) = false := decide_eq_false (by omega)
                                          have d64519 : decide (a0 ≤ 64519) = true := decide_eq_true (by omega)
                                          rw [if_neg (show ¬ a0 ≥ 91 by omega), if_neg (show ¬ a0 ≥ 139 by omega), if_neg (show ¬ a0 ≥ 168 by omega), if_neg (show ¬ a0 ≥ 174 by omega), if_neg (show ¬ a0 ≥ 64512 by omega)] at H
                                          clear h_
                                          have H' := Aside0.mk H
                                          clear H
                                          go_wp2_with (first | ((with_reducible refine gate_dst (N := 61) rfl ?_); (try (refine gate_guard (by rfl) ?_; dsimp only)); refine Kd.R_lit (Kd.int .i64) _ 3 ?hg (N := 61) ?hd (xs := ([42, 43, 56, 57, 67, 68] : List Int)) (inner := [.int .i64 42, .int .i64 43, .int .i64 56, .int .i64 57, .int .i64 67, .int .i64 68]) (ok := fun _ => True) (okp := fun _ => True) ?hr ?hp (fun _ hk => hk) trivial (Below.refl _ _) (Nat.le_refl _) (by simp) ?_; (case hd => rfl); (case hg => rfl); (case hr => first | (go_simp; done) | (go_simp; rfl)); (case hp => exact (Reps.one (show Kd.M (Kd.int .i64) _ _ _ 42 [.int .i64 42] from rfl) (Reps.one (show Kd.M (Kd.int .i64) _ _ _ 43 [.int .i64 43] from rfl) (Reps.one (show Kd.M (Kd.int .i64) _ _ _ 56 [.int .i64 56] from rfl) (Reps.one (show Kd.M (Kd.int .i64) _ _ _ 57 [.int .i64 57] from rfl) (Reps.one (show Kd.M (Kd.int .i64) _ _ _ 67 [.int .i64 67] from rfl) (Reps.one (show Kd.M (Kd.int .i64) _ _ _ 68 [.int .i64 68] from rfl) (Reps.none _ _)))))))); intro v144 w88 ho89 hb hg_ hnew_; clear hg_ hnew_; (first | rw [← Ny143.out] at ho89 | (simp only [Int.reduceToNat] at ho89; rw [← Ny143.out] at ho89)); have n0_ := Aside0.mk (Kd.R_lower ho89 (below_size (by repeat (first | (with_reducible first | exact HB.out | apply below_alloc | apply pw_below_drewN | apply below_drew1) | exact HB.out)))); have n1_ := Aside0.mk (below_step (by repeat (first | (with_reducible first | exact HB.out | apply below_alloc | apply pw_below_drewN | apply below_drew1) | exact HB.out)) hb); clear HB; have HO145 := n0_; have HB := n1_; clear n0_ n1_; clear hb ho89; obtain ⟨Ao90, co90, eo90⟩ := Kd.R_slice HO145.out; subst eo90) | ((with_reducible refine gate_callee (f := 27) rfl ?_); refine goesL_ (some 62) rfl rfl Try.func27 (by kernel_rfl) rfl #[.int .i64 a0, .slice Ao90 y143.length co90] rfl (by (try simp only [List.map_toArray, List.map_cons, List.map_nil]); first | done | rfl | (simp only [List.length_drop, List.length_take]; rfl)) ?_; (with_reducible refine (scarfref05_one.calls kj75 a0 _ _ y143 false _ ?side1 ?side2 A81.out).mono ?_); (case side1 => repeat (first | exact (Kd.R_reads' HO145.out).2.2 | (with_reducible refine Kd.C_alloc ?_ _) | (with_reducible refine Kd.C_drewN ?_ _) | (with_reducible refine Kd.C_drew ?_))); (case side2 => exact (Kd.R_reads' HO145.out).2.1); rintro e w' ⟨rfl, ⟨nd, rfl⟩⟩; refine ⟨_, rfl, ?_⟩))
                                          go_meet
                                          case rel => exact ⟨_, (false), (by first | rfl | (simp; done) | (simp [*]; done)), H', ⟨by have := HJ3.out; have := HJ63.out; have := HJ75.out; first | omega | exact Nat.le_refl _⟩, ⟨by repeat (first | (with_reducible first | exact HB.out | apply below_alloc | apply pw_below_drewN | apply below_drew1) | exact HB.out)⟩⟩
                                        · have d91 : decide (91 ≤ a0) = true := decide_eq_true (by omega)
                                          have d102 : decide (a0 ≤ 102) = true := decide_eq_true (by omega)
                                          have d139 : decide (139 ≤ a0) = false := decide_eq_false (by omega)
                                          have d166 : decide (a0 ≤ 166) = true := decide_eq_true (by omega)
                                          have d168 : decide (168 ≤ a0) = false := decide_eq_false (by omega)
                                          have d171 : decide (a0 ≤ 171) = true := decide_eq_true (by omega)
                                          have d174 : decide (174 ≤ a0) = false := decide_eq_false (by omega)
                                          have d191 : decide (a0 ≤ 191) = true := decide_eq_true (by omega)
                                          have d64512 : decide (64512 ≤ a0) = false := decide_eq_false (by omega)
                                          have d64519 : decide (a0 ≤ 64519) = true := decide_eq_true (by omega)
                                          rw [if_pos (show a0 ≥ 91 by omega), if_pos (show a0 ≤ 102 by omega)] at H
                                          clear h_
                                          have H' := Aside0.mk H
                                          clear H
                                          go_wp2_with (first | ((with_reducible refine gate_dst (N := 61) rfl ?_); (try (refine gate_guard (by rfl) ?_; dsimp only)); refine Kd.R_lit (Kd.int .i64) _ 3 ?hg (N := 61) ?hd (xs := ([42, 43, 56, 57, 67, 68] : List Int)) (inner := [.int .i64 42, .int .i64 43, .int .i64 56, .int .i64 57, .int .i64 67, .int .i64 68]) (ok := fun _ => True) (okp := fun _ => True) ?hr ?hp (fun _ hk => hk) trivial (Below.refl _ _) (Nat.le_refl _) (by simp) ?_; (case hd => rfl); (case hg => rfl); (case hr => first | (go_simp; done) | (go_simp; rfl)); (case hp => exact (Reps.one (show Kd.M (Kd.int .i64) _ _ _ 42 [.int .i64 42] from rfl) (Reps.one (show Kd.M (Kd.int .i64) _ _ _ 43 [.int .i64 43] from rfl) (Reps.one (show Kd.M (Kd.int .i64) _ _ _ 56 [.int .i64 56] from rfl) (Reps.one (show Kd.M (Kd.int .i64) _ _ _ 57 [.int .i64 57] from rfl) (Reps.one (show Kd.M (Kd.int .i64) _ _ _ 67 [.int .i64 67] from rfl) (Reps.one (show Kd.M (Kd.int .i64) _ _ _ 68 [.int .i64 68] from rfl) (Reps.none _ _)))))))); intro v144 w88 ho89 hb hg_ hnew_; clear hg_ hnew_; (first | rw [← Ny143.out] at ho89 | (simp only [Int.reduceToNat] at ho89; rw [← Ny143.out] at ho89)); have n0_ := Aside0.mk (Kd.R_lower ho89 (below_size (by repeat (first | (with_reducible first | exact HB.out | apply below_alloc | apply pw_below_drewN | apply below_drew1) | exact HB.out)))); have n1_ := Aside0.mk (below_step (by repeat (first | (with_reducible first | exact HB.out | apply below_alloc | apply pw_below_drewN | apply below_drew1) | exact HB.out)) hb); clear HB; have HO145 := n0_; have HB := n1_; clear n0_ n1_; clear hb ho89; obtain ⟨Ao90, co90, eo90⟩ := Kd.R_slice HO145.out; subst eo90) | ((with_reducible refine gate_callee (f := 27) rfl ?_); refine goesL_ (some 62) rfl rfl Try.func27 (by kernel_rfl) rfl #[.int .i64 a0, .slice Ao90 y143.length co90] rfl (by (try simp only [List.map_toArray, List.map_cons, List.map_nil]); first | done | rfl | (simp only [List.length_drop, List.length_take]; rfl)) ?_; (with_reducible refine (scarfref05_one.calls kj75 a0 _ _ y143 false _ ?side1 ?side2 A81.out).mono ?_); (case side1 => repeat (first | exact (Kd.R_reads' HO145.out).2.2 | (with_reducible refine Kd.C_alloc ?_ _) | (with_reducible refine Kd.C_drewN ?_ _) | (with_reducible refine Kd.C_drew ?_))); (case side2 => exact (Kd.R_reads' HO145.out).2.1); rintro e w' ⟨rfl, ⟨nd, rfl⟩⟩; refine ⟨_, rfl, ?_⟩))
                                          go_meet
                                          case rel => exact ⟨_, (true), (by first | rfl | (simp; done) | (simp [*]; done)), H', ⟨by have := HJ3.out; have := HJ63.out; have := HJ75.out; first | omega | exact Nat.le_refl _⟩, ⟨by repeat (first | (with_reducible first | exact HB.out | apply below_alloc | apply pw_below_drewN | apply below_drew1) | exact HB.out)⟩⟩
                                        · have d91 : decide (91 ≤ a0) = true := decide_eq_true (by omega)
                                          have d102 : decide (a0 ≤ 102) = false := decide_eq_false (by omega)
                                          have d139 : decide (139 ≤ a0) = false := decide_eq_false (by omega)
                                          have d166 : decide (a0 ≤ 166) = true := decide_eq_true (by omega)
                                          have d168 : decide (168 ≤ a0) = false := decide_eq_false (by omega)
                                          have d171 : decide (a0 ≤ 171) = true := decide_eq_true (by omega)
                                          have d174 : decide (174 ≤ a0) = false := decide_eq_false (by omega)
                                          have d191 : decide (a0 ≤ 191) = true := decide_eq_true (by omega)
                                          have d64512 : decide (64512 ≤ a0) = false := decide_eq_false (by omega)
                                          have d64519 : decide (a0 ≤ 64519) = true := decide_eq_true (by omega)
                                          rw [if_pos (show a0 ≥ 91 by omega), if_neg (show ¬ a0 ≤ 102 by omega), if_neg (show ¬ a0 ≥ 139 by omega), if_neg (show ¬ a0 ≥ 168 by omega), if_neg (show ¬ a0 ≥ 174 by omega), if_neg (show ¬ a0 ≥ 64512 by omega)] at H
                                          clear h_
                                          have H' := Aside0.mk H
                                          clear H
                                          go_wp2_with (first | ((with_reducible refine gate_dst (N := 61) rfl ?_); (try (refine gate_guard (by rfl) ?_; dsimp only)); refine Kd.R_lit (Kd.int .i64) _ 3 ?hg (N := 61) ?hd (xs := ([42, 43, 56, 57, 67, 68] : List Int)) (inner := [.int .i64 42, .int .i64 43, .int .i64 56, .int .i64 57, .int .i64 67, .int .i64 68]) (ok := fun _ => True) (okp := fun _ => True) ?hr ?hp (fun _ hk => hk) trivial (Below.refl _ _) (Nat.le_refl _) (by simp) ?_; (case hd => rfl); (case hg => rfl); (case hr => first | (go_simp; done) | (go_simp; rfl)); (case hp => exact (Reps.one (show Kd.M (Kd.int .i64) _ _ _ 42 [.int .i64 42] from rfl) (Reps.one (show Kd.M (Kd.int .i64) _ _ _ 43 [.int .i64 43] from rfl) (Reps.one (show Kd.M (Kd.int .i64) _ _ _ 56 [.int .i64 56] from rfl) (Reps.one (show Kd.M (Kd.int .i64) _ _ _ 57 [.int .i64 57] from rfl) (Reps.one (show Kd.M (Kd.int .i64) _ _ _ 67 [.int .i64 67] from rfl) (Reps.one (show Kd.M (Kd.int .i64) _ _ _ 68 [.int .i64 68] from rfl) (Reps.none _ _)))))))); intro v144 w88 ho89 hb hg_ hnew_; clear hg_ hnew_; (first | rw [← Ny143.out] at ho89 | (simp only [Int.reduceToNat] at ho89; rw [← Ny143.out] at ho89)); have n0_ := Aside0.mk (Kd.R_lower ho89 (below_size (by repeat (first | (with_reducible first | exact HB.out | apply below_alloc | apply pw_below_drewN | apply below_drew1) | exact HB.out)))); have n1_ := Aside0.mk (below_step (by repeat (first | (with_reducible first | exact HB.out | apply below_alloc | apply pw_below_drewN | apply below_drew1) | exact HB.out)) hb); clear HB; have HO145 := n0_; have HB := n1_; clear n0_ n1_; clear hb ho89; obtain ⟨Ao90, co90, eo90⟩ := Kd.R_slice HO145.out; subst eo90) | ((with_reducible refine gate_callee (f := 27) rfl ?_); refine goesL_ (some 62) rfl rfl Try.func27 (by kernel_rfl) rfl #[.int .i64 a0, .slice Ao90 y143.length co90] rfl (by (try simp only [List.map_toArray, List.map_cons, List.map_nil]); first | done | rfl | (simp only [List.length_drop, List.length_take]; rfl)) ?_; (with_reducible refine (scarfref05_one.calls kj75 a0 _ _ y143 false _ ?side1 ?side2 A81.out).mono ?_); (case side1 => repeat (first | exact (Kd.R_reads' HO145.out).2.2 | (with_reducible refine Kd.C_alloc ?_ _) | (with_reducible refine Kd.C_drewN ?_ _) | (with_reducible refine Kd.C_drew ?_))); (case side2 => exact (Kd.R_reads' HO145.out).2.1); rintro e w' ⟨rfl, ⟨nd, rfl⟩⟩; refine ⟨_, rfl, ?_⟩))
                                          go_meet
                                          case rel => exact ⟨_, (false), (by first | rfl | (simp; done) | (simp [*]; done)), H', ⟨by have := HJ3.out; have := HJ63.out; have := HJ75.out; first | omega | exact Nat.le_refl _⟩, ⟨by repeat (first | (with_reducible first | exact HB.out | apply below_alloc | apply pw_below_drewN | apply below_drew1) | exact HB.out)⟩⟩
                                        · have d91 : decide (91 ≤ a0) = true := decide_eq_true (by omega)
                                          have d102 : decide (a0 ≤ 102) = false := decide_eq_false (by omega)
                                          have d139 : decide (139 ≤ a0) = true := decide_eq_true (by omega)
                                          have d166 : decide (a0 ≤ 166) = true := decide_eq_true (by omega)
                                          have d168 : decide (168 ≤ a0) = false := decide_eq_false (by omega)
                                          have d171 : decide (a0 ≤ 171) = true := decide_eq_true (by omega)
                                          have d174 : decide (174 ≤ a0) = false := decide_eq_false (by omega)
                                          have d191 : decide (a0 ≤ 191) = true := decide_eq_true (by omega)
                                          have d64512 : decide (64512 ≤ a0) = false := decide_eq_false (by omega)
                                          have d64519 : decide (a0 ≤ 64519) = true := decide_eq_true (by omega)
                                          rw [if_pos (show a0 ≥ 91 by omega), if_neg (show ¬ a0 ≤ 102 by omega), if_pos (show a0 ≥ 139 by omega), if_pos (show a0 ≤ 166 by omega)] at H
                                          clear h_
                                          have H' := Aside0.mk H
                                          clear H
                                          go_wp2_with (first | ((with_reducible refine gate_dst (N := 61) rfl ?_); (try (refine gate_guard (by rfl) ?_; dsimp only)); refine Kd.R_lit (Kd.int .i64) _ 3 ?hg (N := 61) ?hd (xs := ([42, 43, 56, 57, 67, 68] : List Int)) (inner := [.int .i64 42, .int .i64 43, .int .i64 56, .int .i64 57, .int .i64 67, .int .i64 68]) (ok := fun _ => True) (okp := fun _ => True) ?hr ?hp (fun _ hk => hk) trivial (Below.refl _ _) (Nat.le_refl _) (by simp) ?_; (case hd => rfl); (case hg => rfl); (case hr => first | (go_simp; done) | (go_simp; rfl)); (case hp => exact (Reps.one (show Kd.M (Kd.int .i64) _ _ _ 42 [.int .i64 42] from rfl) (Reps.one (show Kd.M (Kd.int .i64) _ _ _ 43 [.int .i64 43] from rfl) (Reps.one (show Kd.M (Kd.int .i64) _ _ _ 56 [.int .i64 56] from rfl) (Reps.one (show Kd.M (Kd.int .i64) _ _ _ 57 [.int .i64 57] from rfl) (Reps.one (show Kd.M (Kd.int .i64) _ _ _ 67 [.int .i64 67] from rfl) (Reps.one (show Kd.M (Kd.int .i64) _ _ _ 68 [.int .i64 68] from rfl) (Reps.none _ _)))))))); intro v144 w88 ho89 hb hg_ hnew_; clear hg_ hnew_; (first | rw [← Ny143.out] at ho89 | (simp only [Int.reduceToNat] at ho89; rw [← Ny143.out] at ho89)); have n0_ := Aside0.mk (Kd.R_lower ho89 (below_size (by repeat (first | (with_reducible first | exact HB.out | apply below_alloc | apply pw_below_drewN | apply below_drew1) | exact HB.out)))); have n1_ := Aside0.mk (below_step (by repeat (first | (with_reducible first | exact HB.out | apply below_alloc | apply pw_below_drewN | apply below_drew1) | exact HB.out)) hb); clear HB; have HO145 := n0_; have HB := n1_; clear n0_ n1_; clear hb ho89; obtain ⟨Ao90, co90, eo90⟩ := Kd.R_slice HO145.out; subst eo90) | ((with_reducible refine gate_callee (f := 27) rfl ?_); refine goesL_ (some 62) rfl rfl Try.func27 (by kernel_rfl) rfl #[.int .i64 a0, .slice Ao90 y143.length co90] rfl (by (try simp only [List.map_toArray, List.map_cons, List.map_nil]); first | done | rfl | (simp only [List.length_drop, List.length_take]; rfl)) ?_; (with_reducible refine (scarfref05_one.calls kj75 a0 _ _ y143 false _ ?side1 ?side2 A81.out).mono ?_); (case side1 => repeat (first | exact (Kd.R_reads' HO145.out).2.2 | (with_reducible refine Kd.C_alloc ?_ _) | (with_reducible refine Kd.C_drewN ?_ _) | (with_reducible refine Kd.C_drew ?_))); (case side2 => exact (Kd.R_reads' HO145.out).2.1); rintro e w' ⟨rfl, ⟨nd, rfl⟩⟩; refine ⟨_, rfl, ?_⟩))
                                          go_meet
                                          case rel => exact ⟨_, (true), (by first | rfl | (simp; done) | (simp [*]; done)), H', ⟨by have := HJ3.out; have := HJ63.out; have := HJ75.out; first | omega | exact Nat.le_refl _⟩, ⟨by repeat (first | (with_reducible first | exact HB.out | apply below_alloc | apply pw_below_drewN | apply below_drew1) | exact HB.out)⟩⟩
                                        · have d91 : decide (91 ≤ a0) = true := decide_eq_true (by omega)
                                          have d102 : decide (a0 ≤ 102) = false := decide_eq_false (by omega)
                                          have d139 : decide (139 ≤ a0) = true := decide_eq_true (by omega)
                                          have d166 : decide (a0 ≤ 166) = false := decide_eq_false (by omega)
                                          have d168 : decide (168 ≤ a0) = false := decide_eq_false (by omega)
                                          have d171 : decide (a0 ≤ 171) = true := decide_eq_true (by omega)
                                          have d174 : decide (174 ≤ a0) = false := decide_eq_false (by omega)
                                          have d191 : decide (a0 ≤ 191) = true := decide_eq_true (by omega)
                                          have d64512 : decide (64512 ≤ a0) = false := decide_eq_false (by omega)
                                          have d64519 : decide (a0 ≤ 64519) = true := decide_eq_true (by omega)
                                          rw [if_pos (show a0 ≥ 91 by omega), if_neg (show ¬ a0 ≤ 102 by omega), if_pos (show a0 ≥ 139 by omega), if_neg (show ¬ a0 ≤ 166 by omega), if_neg (show ¬ a0 ≥ 168 by omega), if_neg (show ¬ a0 ≥ 174 by omega), if_neg (show ¬ a0 ≥ 64512 by omega)] at H
                                          clear h_
                                          have H' := Aside0.mk H
                                          clear H
                                          go_wp2_with (first | ((with_reducible refine gate_dst (N := 61) rfl ?_); (try (refine gate_guard (by rfl) ?_; dsimp only)); refine Kd.R_lit (Kd.int .i64) _ 3 ?hg (N := 61) ?hd (xs := ([42, 43, 56, 57, 67, 68] : List Int)) (inner := [.int .i64 42, .int .i64 43, .int .i64 56, .int .i64 57, .int .i64 67, .int .i64 68]) (ok := fun _ => True) (okp := fun _ => True) ?hr ?hp (fun _ hk => hk) trivial (Below.refl _ _) (Nat.le_refl _) (by simp) ?_; (case hd => rfl); (case hg => rfl); (case hr => first | (go_simp; done) | (go_simp; rfl)); (case hp => exact (Reps.one (show Kd.M (Kd.int .i64) _ _ _ 42 [.int .i64 42] from rfl) (Reps.one (show Kd.M (Kd.int .i64) _ _ _ 43 [.int .i64 43] from rfl) (Reps.one (show Kd.M (Kd.int .i64) _ _ _ 56 [.int .i64 56] from rfl) (Reps.one (show Kd.M (Kd.int .i64) _ _ _ 57 [.int .i64 57] from rfl) (Reps.one (show Kd.M (Kd.int .i64) _ _ _ 67 [.int .i64 67] from rfl) (Reps.one (show Kd.M (Kd.int .i64) _ _ _ 68 [.int .i64 68] from rfl) (Reps.none _ _)))))))); intro v144 w88 ho89 hb hg_ hnew_; clear hg_ hnew_; (first | rw [← Ny143.out] at ho89 | (simp only [Int.reduceToNat] at ho89; rw [← Ny143.out] at ho89)); have n0_ := Aside0.mk (Kd.R_lower ho89 (below_size (by repeat (first | (with_reducible first | exact HB.out | apply below_alloc | apply pw_below_drewN | apply below_drew1) | exact HB.out)))); have n1_ := Aside0.mk (below_step (by repeat (first | (with_reducible first | exact HB.out | apply below_alloc | apply pw_below_drewN | apply below_drew1) | exact HB.out)) hb); clear HB; have HO145 := n0_; have HB := n1_; clear n0_ n1_; clear hb ho89; obtain ⟨Ao90, co90, eo90⟩ := Kd.R_slice HO145.out; subst eo90) | ((with_reducible refine gate_callee (f := 27) rfl ?_); refine goesL_ (some 62) rfl rfl Try.func27 (by kernel_rfl) rfl #[.int .i64 a0, .slice Ao90 y143.length co90] rfl (by (try simp only [List.map_toArray, List.map_cons, List.map_nil]); first | done | rfl | (simp only [List.length_drop, List.length_take]; rfl)) ?_; (with_reducible refine (scarfref05_one.calls kj75 a0 _ _ y143 false _ ?side1 ?side2 A81.out).mono ?_); (case side1 => repeat (first | exact (Kd.R_reads' HO145.out).2.2 | (with_reducible refine Kd.C_alloc ?_ _) | (with_reducible refine Kd.C_drewN ?_ _) | (with_reducible refine Kd.C_drew ?_))); (case side2 => exact (Kd.R_reads' HO145.out).2.1); rintro e w' ⟨rfl, ⟨nd, rfl⟩⟩; refine ⟨_, rfl, ?_⟩))
                                          go_meet
                                          case rel => exact ⟨_, (false), (by first | rfl | (simp; done) | (simp [*]; done)), H', ⟨by have := HJ3.out; have := HJ63.out; have := HJ75.out; first | omega | exact Nat.le_refl _⟩, ⟨by repeat (first | (with_reducible first | exact HB.out | apply below_alloc | apply pw_below_drewN | apply below_drew1) | exact HB.out)⟩⟩
                                        · have d91 : decide (91 ≤ a0) = true := decide_eq_true (by omega)
                                          have d102 : decide (a0 ≤ 102) = false := decide_eq_false (by omega)
                                          have d139 : decide (139 ≤ a0) = true := decide_eq_true (by omega)
                                          have d166 : decide (a0 ≤ 166) = false := decide_eq_false (by omega)
                                          have d168 : decide (168 ≤ a0) = true := decide_eq_true (by omega)
                                          have d171 : decide (a0 ≤ 171) = true := decide_eq_true (by omega)
                                          have d174 : decide (174 ≤ a0) = false := decide_eq_false (by omega)
                                          have d191 : decide (a0 ≤ 191) = true := decide_eq_true (by omega)
                                          have d64512 : decide (64512 ≤ a0) = false := decide_eq_false (by omega)
                                          have d64519 : decide (a0 ≤ 64519) = true := decide_eq_true (by omega)
                                          rw [if_pos (show a0 ≥ 91 by omega), if_neg (show ¬ a0 ≤ 102 by omega), if_pos (show a0 ≥ 139 by omega), if_neg (show ¬ a0 ≤ 166 by omega), if_pos (show a0 ≥ 168 by omega), if_pos (show a0 ≤ 171 by omega)] at H
                                          clear h_
                                          have H' := Aside0.mk H
                                          clear H
                                          go_wp2_with (first | ((with_reducible refine gate_dst (N := 61) rfl ?_); (try (refine gate_guard (by rfl) ?_; dsimp only)); refine Kd.R_lit (Kd.int .i64) _ 3 ?hg (N := 61) ?hd (xs := ([42, 43, 56, 57, 67, 68] : List Int)) (inner := [.int .i64 42, .int .i64 43, .int .i64 56, .int .i64 57, .int .i64 67, .int .i64 68]) (ok := fun _ => True) (okp := fun _ => True) ?hr ?hp (fun _ hk => hk) trivial (Below.refl _ _) (Nat.le_refl _) (by simp) ?_; (case hd => rfl); (case hg => rfl); (case hr => first | (go_simp; done) | (go_simp; rfl)); (case hp => exact (Reps.one (show Kd.M (Kd.int .i64) _ _ _ 42 [.int .i64 42] from rfl) (Reps.one (show Kd.M (Kd.int .i64) _ _ _ 43 [.int .i64 43] from rfl) (Reps.one (show Kd.M (Kd.int .i64) _ _ _ 56 [.int .i64 56] from rfl) (Reps.one (show Kd.M (Kd.int .i64) _ _ _ 57 [.int .i64 57] from rfl) (Reps.one (show Kd.M (Kd.int .i64) _ _ _ 67 [.int .i64 67] from rfl) (Reps.one (show Kd.M (Kd.int .i64) _ _ _ 68 [.int .i64 68] from rfl) (Reps.none _ _)))))))); intro v144 w88 ho89 hb hg_ hnew_; clear hg_ hnew_; (first | rw [← Ny143.out] at ho89 | (simp only [Int.reduceToNat] at ho89; rw [← Ny143.out] at ho89)); have n0_ := Aside0.mk (Kd.R_lower ho89 (below_size (by repeat (first | (with_reducible first | exact HB.out | apply below_alloc | apply pw_below_drewN | apply below_drew1) | exact HB.out)))); have n1_ := Aside0.mk (below_step (by repeat (first | (with_reducible first | exact HB.out | apply below_alloc | apply pw_below_drewN | apply below_drew1) | exact HB.out)) hb); clear HB; have HO145 := n0_; have HB := n1_; clear n0_ n1_; clear hb ho89; obtain ⟨Ao90, co90, eo90⟩ := Kd.R_slice HO145.out; subst eo90) | ((with_reducible refine gate_callee (f := 27) rfl ?_); refine goesL_ (some 62) rfl rfl Try.func27 (by kernel_rfl) rfl #[.int .i64 a0, .slice Ao90 y143.length co90] rfl (by (try simp only [List.map_toArray, List.map_cons, List.map_nil]); first | done | rfl | (simp only [List.length_drop, List.length_take]; rfl)) ?_; (with_reducible refine (scarfref05_one.calls kj75 a0 _ _ y143 false _ ?side1 ?side2 A81.out).mono ?_); (case side1 => repeat (first | exact (Kd.R_reads' HO145.out).2.2 | (with_reducible refine Kd.C_alloc ?_ _) | (with_reducible refine Kd.C_drewN ?_ _) | (with_reducible refine Kd.C_drew ?_))); (case side2 => exact (Kd.R_reads' HO145.out).2.1); rintro e w' ⟨rfl, ⟨nd, rfl⟩⟩; refine ⟨_, rfl, ?_⟩))
                                          go_meet
                                          case rel => exact ⟨_, (true), (by first | rfl | (simp; done) | (simp [*]; done)), H', ⟨by have := HJ3.out; have := HJ63.out; have := HJ75.out; first | omega | exact Nat.le_refl _⟩, ⟨by repeat (first | (with_reducible first | exact HB.out | apply below_alloc | apply pw_below_drewN | apply below_drew1) | exact HB.out)⟩⟩
                                        · have d91 : decide (91 ≤ a0) = true := decide_eq_true (by omega)
                                          have d102 : decide (a0 ≤ 102) = false := decide_eq_false (by omega)
                                          have d139 : decide (139 ≤ a0) = true := decide_eq_true (by omega)
                                          have d166 : decide (a0 ≤ 166) = false := decide_eq_false (by omega)
                                          have d168 : decide (168 ≤ a0) = true := decide_eq_true (by omega)
                                          have d171 : decide (a0 ≤ 171) = false := decide_eq_false (by omega)
                                          have d174 : decide (174 ≤ a0) = false := decide_eq_false (by omega)
                                          have d191 : decide (a0 ≤ 191) = true := decide_eq_true (by omega)
                                          have d64512 : decide (64512 ≤ a0) = false := decide_eq_false (by omega)
                                          have d64519 : decide (a0 ≤ 64519) = true := decide_eq_true (by omega)
                                          rw [if_pos (show a0 ≥ 91 by omega), if_neg (show ¬ a0 ≤ 102 by omega), if_pos (show a0 ≥ 139 by omega), if_neg (show ¬ a0 ≤ 166 by omega), if_pos (show a0 ≥ 168 by omega), if_neg (show ¬ a0 ≤ 171 by omega), if_neg (show ¬ a0 ≥ 174 by omega), if_neg (show ¬ a0 ≥ 64512 by omega)] at H
                                          clear h_
                                          have H' := Aside0.mk H
                                          clear H
                                          go_wp2_with (first | ((with_reducible refine gate_dst (N := 61) rfl ?_); (try (refine gate_guard (by rfl) ?_; dsimp only)); refine Kd.R_lit (Kd.int .i64) _ 3 ?hg (N := 61) ?hd (xs := ([42, 43, 56, 57, 67, 68] : List Int)) (inner := [.int .i64 42, .int .i64 43, .int .i64 56, .int .i64 57, .int .i64 67, .int .i64 68]) (ok := fun _ => True) (okp := fun _ => True) ?hr ?hp (fun _ hk => hk) trivial (Below.refl _ _) (Nat.le_refl _) (by simp) ?_; (case hd => rfl); (case hg => rfl); (case hr => first | (go_simp; done) | (go_simp; rfl)); (case hp => exact (Reps.one (show Kd.M (Kd.int .i64) _ _ _ 42 [.int .i64 42] from rfl) (Reps.one (show Kd.M (Kd.int .i64) _ _ _ 43 [.int .i64 43] from rfl) (Reps.one (show Kd.M (Kd.int .i64) _ _ _ 56 [.int .i64 56] from rfl) (Reps.one (show Kd.M (Kd.int .i64) _ _ _ 57 [.int .i64 57] from rfl) (Reps.one (show Kd.M (Kd.int .i64) _ _ _ 67 [.int .i64 67] from rfl) (Reps.one (show Kd.M (Kd.int .i64) _ _ _ 68 [.int .i64 68] from rfl) (Reps.none _ _)))))))); intro v144 w88 ho89 hb hg_ hnew_; clear hg_ hnew_; (first | rw [← Ny143.out] at ho89 | (simp only [Int.reduceToNat] at ho89; rw [← Ny143.out] at ho89)); have n0_ := Aside0.mk (Kd.R_lower ho89 (below_size (by repeat (first | (with_reducible first | exact HB.out | apply below_alloc | apply pw_below_drewN | apply below_drew1) | exact HB.out)))); have n1_ := Aside0.mk (below_step (by repeat (first | (with_reducible first | exact HB.out | apply below_alloc | apply pw_below_drewN | apply below_drew1) | exact HB.out)) hb); clear HB; have HO145 := n0_; have HB := n1_; clear n0_ n1_; clear hb ho89; obtain ⟨Ao90, co90, eo90⟩ := Kd.R_slice HO145.out; subst eo90) | ((with_reducible refine gate_callee (f := 27) rfl ?_); refine goesL_ (some 62) rfl rfl Try.func27 (by kernel_rfl) rfl #[.int .i64 a0, .slice Ao90 y143.length co90] rfl (by (try simp only [List.map_toArray, List.map_cons, List.map_nil]); first | done | rfl | (simp only [List.length_drop, List.length_take]; rfl)) ?_; (with_reducible refine (scarfref05_one.calls kj75 a0 _ _ y143 false _ ?side1 ?side2 A81.out).mono ?_); (case side1 => repeat (first | exact (Kd.R_reads' HO145.out).2.2 | (with_reducible refine Kd.C_alloc ?_ _) | (with_reducible refine Kd.C_drewN ?_ _) | (with_reducible refine Kd.C_drew ?_))); (case side2 => exact (Kd.R_reads' HO145.out).2.1); rintro e w' ⟨rfl, ⟨nd, rfl⟩⟩; refine ⟨_, rfl, ?_⟩))
                                          go_meet
                                          case rel => exact ⟨_, (false), (by first | rfl | (simp; done) | (simp [*]; done)), H', ⟨by have := HJ3.out; have := HJ63.out; have := HJ75.out; first | omega | exact Nat.le_refl _⟩, ⟨by repeat (first | (with_reducible first | exact HB.out | apply below_alloc | apply pw_below_drewN | apply below_drew1) | exact HB.out)⟩⟩
                                        · have d91 : decide (91 ≤ a0) = true := decide_eq_true (by omega)
                                          have d102 : decide (a0 ≤ 102) = false := decide_eq_false (by omega)
                                          have d139 : decide (139 ≤ a0) = true := decide_eq_true (by omega)
                                          have d166 : decide (a0 ≤ 166) = false := decide_eq_false (by omega)
                                          have d168 : decide (168 ≤ a0) = true := decide_eq_true (by omega)
                                          have d171 : decide (a0 ≤ 171) = false := decide_eq_false (by omega)
                                          have d174 : decide (174 ≤ a0) = true := decide_eq_true (by omega)
                                          have d191 : decide (a0 ≤ 191) = true := decide_eq_true (by omega)
                                          have d64512 : decide (64512 ≤ a0) = false := decide_eq_false (by omega)
                                          have d64519 : decide (a0 ≤ 64519) = true := decide_eq_true (by omega)
                                          rw [if_pos (show a0 ≥ 91 by omega), if_neg (show ¬ a0 ≤ 102 by omega), if_pos (show a0 ≥ 139 by omega), if_neg (show ¬ a0 ≤ 166 by omega), if_pos (show a0 ≥ 168 by omega), if_neg (show ¬ a0 ≤ 171 by omega), if_pos (show a0 ≥ 174 by omega), if_pos (show a0 ≤ 191 by omega)] at H
                                          clear h_
                                          have H' := Aside0.mk H
                                          clear H
                                          go_wp2_with (first | ((with_reducible refine gate_dst (N := 61) rfl ?_); (try (refine gate_guard (by rfl) ?_; dsimp only)); refine Kd.R_lit (Kd.int .i64) _ 3 ?hg (N := 61) ?hd (xs := ([42, 43, 56, 57, 67, 68] : List Int)) (inner := [.int .i64 42, .int .i64 43, .int .i64 56, .int .i64 57, .int .i64 67, .int .i64 68]) (ok := fun _ => True) (okp := fun _ => True) ?hr ?hp (fun _ hk => hk) trivial (Below.refl _ _) (Nat.le_refl _) (by simp) ?_; (case hd => rfl); (case hg => rfl); (case hr => first | (go_simp; done) | (go_simp; rfl)); (case hp => exact (Reps.one (show Kd.M (Kd.int .i64) _ _ _ 42 [.int .i64 42] from rfl) (Reps.one (show Kd.M (Kd.int .i64) _ _ _ 43 [.int .i64 43] from rfl) (Reps.one (show Kd.M (Kd.int .i64) _ _ _ 56 [.int .i64 56] from rfl) (Reps.one (show Kd.M (Kd.int .i64) _ _ _ 57 [.int .i64 57] from rfl) (Reps.one (show Kd.M (Kd.int .i64) _ _ _ 67 [.int .i64 67] from rfl) (Reps.one (show Kd.M (Kd.int .i64) _ _ _ 68 [.int .i64 68] from rfl) (Reps.none _ _)))))))); intro v144 w88 ho89 hb hg_ hnew_; clear hg_ hnew_; (first | rw [← Ny143.out] at ho89 | (simp only [Int.reduceToNat] at ho89; rw [← Ny143.out] at ho89)); have n0_ := Aside0.mk (Kd.R_lower ho89 (below_size (by repeat (first | (with_reducible first | exact HB.out | apply below_alloc | apply pw_below_drewN | apply below_drew1) | exact HB.out)))); have n1_ := Aside0.mk (below_step (by repeat (first | (with_reducible first | exact HB.out | apply below_alloc | apply pw_below_drewN | apply below_drew1) | exact HB.out)) hb); clear HB; have HO145 := n0_; have HB := n1_; clear n0_ n1_; clear hb ho89; obtain ⟨Ao90, co90, eo90⟩ := Kd.R_slice HO145.out; subst eo90) | ((with_reducible refine gate_callee (f := 27) rfl ?_); refine goesL_ (some 62) rfl rfl Try.func27 (by kernel_rfl) rfl #[.int .i64 a0, .slice Ao90 y143.length co90] rfl (by (try simp only [List.map_toArray, List.map_cons, List.map_nil]); first | done | rfl | (simp only [List.length_drop, List.length_take]; rfl)) ?_; (with_reducible refine (scarfref05_one.calls kj75 a0 _ _ y143 false _ ?side1 ?side2 A81.out).mono ?_); (case side1 => repeat (first | exact (Kd.R_reads' HO145.out).2.2 | (with_reducible refine Kd.C_alloc ?_ _) | (with_reducible refine Kd.C_drewN ?_ _) | (with_reducible refine Kd.C_drew ?_))); (case side2 => exact (Kd.R_reads' HO145.out).2.1); rintro e w' ⟨rfl, ⟨nd, rfl⟩⟩; refine ⟨_, rfl, ?_⟩))
                                          go_meet
                                          case rel => exact ⟨_, (true), (by first | rfl | (simp; done) | (simp [*]; done)), H', ⟨by have := HJ3.out; have := HJ63.out; have := HJ75.out; first | omega | exact Nat.le_refl _⟩, ⟨by repeat (first | (with_reducible first | exact HB.out | apply below_alloc | apply pw_below_drewN | apply below_drew1) | exact HB.out)⟩⟩
                                        · have d91 : decide (91 ≤ a0) = true := decide_eq_true (by omega)
                                          have d102 : decide (a0 ≤ 102) = false := decide_eq_false (by omega)
                                          have d139 : decide (139 ≤ a0) = true := decide_eq_true (by omega)
                                          have d166 : decide (a0 ≤ 166) = false := decide_eq_false (by omega)
                                          have d168 : decide (168 ≤ a0) = true := decide_eq_true (by omega)
                                          have d171 : decide (a0 ≤ 171) = false := decide_eq_false (by omega)
                                          have d174 : decide (174 ≤ a0) = true := decide_eq_true (by omega)
                                          have d191 : decide (a0 ≤ 191) = false := decide_eq_false (by omega)
                                          have d64512 : decide (64512 ≤ a0) = false := decide_eq_false (by omega)
                                          have d64519 : decide (a0 ≤ 64519) = true := decide_eq_true (by omega)
                                          rw [if_pos (show a0 ≥ 91 by omega), if_neg (show ¬ a0 ≤ 102 by omega), if_pos (show a0 ≥ 139 by omega), if_neg (show ¬ a0 ≤ 166 by omega), if_pos (show a0 ≥ 168 by omega), if_neg (show ¬ a0 ≤ 171 by omega), if_pos (show a0 ≥ 174 by omega), if_neg (show ¬ a0 ≤ 191 by omega), if_neg (show ¬ a0 ≥ 64512 by omega)] at H
                                          clear h_
                                          have H' := Aside0.mk H
                                          clear H
                                          go_wp2_with (first | ((with_reducible refine gate_dst (N := 61) rfl ?_); (try (refine gate_guard (by rfl) ?_; dsimp only)); refine Kd.R_lit (Kd.int .i64) _ 3 ?hg (N := 61) ?hd (xs := ([42, 43, 56, 57, 67, 68] : List Int)) (inner := [.int .i64 42, .int .i64 43, .int .i64 56, .int .i64 57, .int .i64 67, .int .i64 68]) (ok := fun _ => True) (okp := fun _ => True) ?hr ?hp (fun _ hk => hk) trivial (Below.refl _ _) (Nat.le_refl _) (by simp) ?_; (case hd => rfl); (case hg => rfl); (case hr => first | (go_simp; done) | (go_simp; rfl)); (case hp => exact (Reps.one (show Kd.M (Kd.int .i64) _ _ _ 42 [.int .i64 42] from rfl) (Reps.one (show Kd.M (Kd.int .i64) _ _ _ 43 [.int .i64 43] from rfl) (Reps.one (show Kd.M (Kd.int .i64) _ _ _ 56 [.int .i64 56] from rfl) (Reps.one (show Kd.M (Kd.int .i64) _ _ _ 57 [.int .i64 57] from rfl) (Reps.one (show Kd.M (Kd.int .i64) _ _ _ 67 [.int .i64 67] from rfl) (Reps.one (show Kd.M (Kd.int .i64) _ _ _ 68 [.int .i64 68] from rfl) (Reps.none _ _)))))))); intro v144 w88 ho89 hb hg_ hnew_; clear hg_ hnew_; (first | rw [← Ny143.out] at ho89 | (simp only [Int.reduceToNat] at ho89; rw [← Ny143.out] at ho89)); have n0_ := Aside0.mk (Kd.R_lower ho89 (below_size (by repeat (first | (with_reducible first | exact HB.out | apply below_alloc | apply pw_below_drewN | apply below_drew1) | exact HB.out)))); have n1_ := Aside0.mk (below_step (by repeat (first | (with_reducible first | exact HB.out | apply below_alloc | apply pw_below_drewN | apply below_drew1) | exact HB.out)) hb); clear HB; have HO145 := n0_; have HB := n1_; clear n0_ n1_; clear hb ho89; obtain ⟨Ao90, co90, eo90⟩ := Kd.R_slice HO145.out; subst eo90) | ((with_reducible refine gate_callee (f := 27) rfl ?_); refine goesL_ (some 62) rfl rfl Try.func27 (by kernel_rfl) rfl #[.int .i64 a0, .slice Ao90 y143.length co90] rfl (by (try simp only [List.map_toArray, List.map_cons, List.map_nil]); first | done | rfl | (simp only [List.length_drop, List.length_take]; rfl)) ?_; (with_reducible refine (scarfref05_one.calls kj75 a0 _ _ y143 false _ ?side1 ?side2 A81.out).mono ?_); (case side1 => repeat (first | exact (Kd.R_reads' HO145.out).2.2 | (with_reducible refine Kd.C_alloc ?_ _) | (with_reducible refine Kd.C_drewN ?_ _) | (with_reducible refine Kd.C_drew ?_))); (case side2 => exact (Kd.R_reads' HO145.out).2.1); rintro e w' ⟨rfl, ⟨nd, rfl⟩⟩; refine ⟨_, rfl, ?_⟩))
                                          go_meet
                                          case rel => exact ⟨_, (false), (by first | rfl | (simp; done) | (simp [*]; done)), H', ⟨by have := HJ3.out; have := HJ63.out; have := HJ75.out; first | omega | exact Nat.le_refl _⟩, ⟨by repeat (first | (with_reducible first | exact HB.out | apply below_alloc | apply pw_below_drewN | apply below_drew1) | exact HB.out)⟩⟩
                                        · have d91 : decide (91 ≤ a0) = true := decide_eq_true (by omega)
                                          have d102 : decide (a0 ≤ 102) = false := decide_eq_false (by omega)
                                          have d139 : decide (139 ≤ a0) = true := decide_eq_true (by omega)
                                          have d166 : decide (a0 ≤ 166) = false := decide_eq_false (by omega)
                                          have d168 : decide (168 ≤ a0) = true := decide_eq_true (by omega)
                                          have d171 : decide (a0 ≤ 171) = false := decide_eq_false (by omega)
                                          have d174 : decide (174 ≤ a0) = true := decide_eq_true (by omega)
                                          have d191 : decide (a0 ≤ 191) = false := decide_eq_false (by omega)
                                          have d64512 : decide (64512 ≤ a0) = true := decide_eq_true (by omega)
                                          have d64519 : decide (a0 ≤ 64519) = true := decide_eq_true (by omega)
                                          rw [if_pos (show a0 ≥ 91 by omega), if_neg (show ¬ a0 ≤ 102 by omega), if_pos (show a0 ≥ 139 by omega), if_neg (show ¬ a0 ≤ 166 by omega), if_pos (show a0 ≥ 168 by omega), if_neg (show ¬ a0 ≤ 171 by omega), if_pos (show a0 ≥ 174 by omega), if_neg (show ¬ a0 ≤ 191 by omega), if_pos (show a0 ≥ 64512 by omega), d64519] at H
                                          clear h_
                                          have H' := Aside0.mk H
                                          clear H
                                          go_wp2_with (first | ((with_reducible refine gate_dst (N := 61) rfl ?_); (try (refine gate_guard (by rfl) ?_; dsimp only)); refine Kd.R_lit (Kd.int .i64) _ 3 ?hg (N := 61) ?hd (xs := ([42, 43, 56, 57, 67, 68] : List Int)) (inner := [.int .i64 42, .int .i64 43, .int .i64 56, .int .i64 57, .int .i64 67, .int .i64 68]) (ok := fun _ => True) (okp := fun _ => True) ?hr ?hp (fun _ hk => hk) trivial (Below.refl _ _) (Nat.le_refl _) (by simp) ?_; (case hd => rfl); (case hg => rfl); (case hr => first | (go_simp; done) | (go_simp; rfl)); (case hp => exact (Reps.one (show Kd.M (Kd.int .i64) _ _ _ 42 [.int .i64 42] from rfl) (Reps.one (show Kd.M (Kd.int .i64) _ _ _ 43 [.int .i64 43] from rfl) (Reps.one (show Kd.M (Kd.int .i64) _ _ _ 56 [.int .i64 56] from rfl) (Reps.one (show Kd.M (Kd.int .i64) _ _ _ 57 [.int .i64 57] from rfl) (Reps.one (show Kd.M (Kd.int .i64) _ _ _ 67 [.int .i64 67] from rfl) (Reps.one (show Kd.M (Kd.int .i64) _ _ _ 68 [.int .i64 68] from rfl) (Reps.none _ _)))))))); intro v144 w88 ho89 hb hg_ hnew_; clear hg_ hnew_; (first | rw [← Ny143.out] at ho89 | (simp only [Int.reduceToNat] at ho89; rw [← Ny143.out] at ho89)); have n0_ := Aside0.mk (Kd.R_lower ho89 (below_size (by repeat (first | (with_reducible first | exact HB.out | apply below_alloc | apply pw_below_drewN | apply below_drew1) | exact HB.out)))); have n1_ := Aside0.mk (below_step (by repeat (first | (with_reducible first | exact HB.out | apply below_alloc | apply pw_below_drewN | apply below_drew1) | exact HB.out)) hb); clear HB; have HO145 := n0_; have HB := n1_; clear n0_ n1_; clear hb ho89; obtain ⟨Ao90, co90, eo90⟩ := Kd.R_slice HO145.out; subst eo90) | ((with_reducible refine gate_callee (f := 27) rfl ?_); refine goesL_ (some 62) rfl rfl Try.func27 (by kernel_rfl) rfl #[.int .i64 a0, .slice Ao90 y143.length co90] rfl (by (try simp only [List.map_toArray, List.map_cons, List.map_nil]); first | done | rfl | (simp only [List.length_drop, List.length_take]; rfl)) ?_; (with_reducible refine (scarfref05_one.calls kj75 a0 _ _ y143 false _ ?side1 ?side2 A81.out).mono ?_); (case side1 => repeat (first | exact (Kd.R_reads' HO145.out).2.2 | (with_reducible refine Kd.C_alloc ?_ _) | (with_reducible refine Kd.C_drewN ?_ _) | (with_reducible refine Kd.C_drew ?_))); (case side2 => exact (Kd.R_reads' HO145.out).2.1); rintro e w' ⟨rfl, ⟨nd, rfl⟩⟩; refine ⟨_, rfl, ?_⟩))
                                          go_meet
                                          case rel => exact ⟨_, (true), (by first | rfl | (simp; done) | (simp [*]; done)), H', ⟨by have := HJ3.out; have := HJ63.out; have := HJ75.out; first | omega | exact Nat.le_refl _⟩, ⟨by repeat (first | (with_reducible first | exact HB.out | apply below_alloc | apply pw_below_drewN | apply below_drew1) | exact HB.out)⟩⟩
                                        · have d91 : decide (91 ≤ a0) = true := decide_eq_true (by omega)
                                          have d102 : decide (a0 ≤ 102) = false := decide_eq_false (by omega)
                                          have d139 : decide (139 ≤ a0) = true := decide_eq_true (by omega)
                                          have d166 : decide (a0 ≤ 166) = false := decide_eq_false (by omega)
                                          have d168 : decide (168 ≤ a0) = true := decide_eq_true (by omega)
                                          have d171 : decide (a0 ≤ 171) = false := decide_eq_false (by omega)
                                          have d174 : decide (174 ≤ a0) = true := decide_eq_true (by omega)
                                          have d191 : decide (a0 ≤ 191) = false := decide_eq_false (by omega)
                                          have d64512 : decide (64512 ≤ a0) = true := decide_eq_true (by omega)
                                          have d64519 : decide (a0 ≤ 64519) = false := decide_eq_false (by omega)
                                          rw [if_pos (show a0 ≥ 91 by omega), if_neg (show ¬ a0 ≤ 102 by omega), if_pos (show a0 ≥ 139 by omega), if_neg (show ¬ a0 ≤ 166 by omega), if_pos (show a0 ≥ 168 by omega), if_neg (show ¬ a0 ≤ 171 by omega), if_pos (show a0 ≥ 174 by omega), if_neg (show ¬ a0 ≤ 191 by omega), if_pos (show a0 ≥ 64512 by omega), d64519] at H
                                          clear h_
                                          have H' := Aside0.mk H
                                          clear H
                                          go_wp2_with (first | ((with_reducible refine gate_dst (N := 61) rfl ?_); (try (refine gate_guard (by rfl) ?_; dsimp only)); refine Kd.R_lit (Kd.int .i64) _ 3 ?hg (N := 61) ?hd (xs := ([42, 43, 56, 57, 67, 68] : List Int)) (inner := [.int .i64 42, .int .i64 43, .int .i64 56, .int .i64 57, .int .i64 67, .int .i64 68]) (ok := fun _ => True) (okp := fun _ => True) ?hr ?hp (fun _ hk => hk) trivial (Below.refl _ _) (Nat.le_refl _) (by simp) ?_; (case hd => rfl); (case hg => rfl); (case hr => first | (go_simp; done) | (go_simp; rfl)); (case hp => exact (Reps.one (show Kd.M (Kd.int .i64) _ _ _ 42 [.int .i64 42] from rfl) (Reps.one (show Kd.M (Kd.int .i64) _ _ _ 43 [.int .i64 43] from rfl) (Reps.one (show Kd.M (Kd.int .i64) _ _ _ 56 [.int .i64 56] from rfl) (Reps.one (show Kd.M (Kd.int .i64) _ _ _ 57 [.int .i64 57] from rfl) (Reps.one (show Kd.M (Kd.int .i64) _ _ _ 67 [.int .i64 67] from rfl) (Reps.one (show Kd.M (Kd.int .i64) _ _ _ 68 [.int .i64 68] from rfl) (Reps.none _ _)))))))); intro v144 w88 ho89 hb hg_ hnew_; clear hg_ hnew_; (first | rw [← Ny143.out] at ho89 | (simp only [Int.reduceToNat] at ho89; rw [← Ny143.out] at ho89)); have n0_ := Aside0.mk (Kd.R_lower ho89 (below_size (by repeat (first | (with_reducible first | exact HB.out | apply below_alloc | apply pw_below_drewN | apply below_drew1) | exact HB.out)))); have n1_ := Aside0.mk (below_step (by repeat (first | (with_reducible first | exact HB.out | apply below_alloc | apply pw_below_drewN | apply below_drew1) | exact HB.out)) hb); clear HB; have HO145 := n0_; have HB := n1_; clear n0_ n1_; clear hb ho89; obtain ⟨Ao90, co90, eo90⟩ := Kd.R_slice HO145.out; subst eo90) | ((with_reducible refine gate_callee (f := 27) rfl ?_); refine goesL_ (some 62) rfl rfl Try.func27 (by kernel_rfl) rfl #[.int .i64 a0, .slice Ao90 y143.length co90] rfl (by (try simp only [List.map_toArray, List.map_cons, List.map_nil]); first | done | rfl | (simp only [List.length_drop, List.length_take]; rfl)) ?_; (with_reducible refine (scarfref05_one.calls kj75 a0 _ _ y143 false _ ?side1 ?side2 A81.out).mono ?_); (case side1 => repeat (first | exact (Kd.R_reads' HO145.out).2.2 | (with_reducible refine Kd.C_alloc ?_ _) | (with_reducible refine Kd.C_drewN ?_ _) | (with_reducible refine Kd.C_drew ?_))); (case side2 => exact (Kd.R_reads' HO145.out).2.1); rintro e w' ⟨rfl, ⟨nd, rfl⟩⟩; refine ⟨_, rfl, ?_⟩))
                                          go_meet
                                          case rel => exact ⟨_, (false), (by first | rfl | (simp; done) | (simp [*]; done)), H', ⟨by have := HJ3.out; have := HJ63.out; have := HJ75.out; first | omega | exact Nat.le_refl _⟩, ⟨by repeat (first | (with_reducible first | exact HB.out | apply below_alloc | apply pw_below_drewN | apply below_drew1) | exact HB.out)⟩⟩
                                    case rest =>
                                      clear HC80
                                      try clear c1
                                      try clear c2
                                      try clear p2
                                      try clear c7
                                      try clear c8
                                      try clear c9
                                      try clear c10
                                      try clear c11
                                      try clear c12
                                      try clear c13
                                      try clear c14
                                      try clear c15
                                      try clear c16
                                      try clear c17
                                      try clear c18
                                      try clear c19
                                      try clear c20
                                      try clear c21
                                      try clear c22
                                      try clear c23
                                      try clear c24
                                      try clear c25
                                      try clear c26
                                      try clear c27
                                      try clear c79
                                      try clear c79b0
                                      try clear c79b1
                                      try clear c82
                                      try clear c86
                                      try clear c86b0
                                      try clear c87
                                      try clear c87b0
                                      try clear c91
                                      try clear c91b0
                                      try clear c92
                                      try clear c92b0
                                      try clear c96
                                      try clear c96b0
                                      try clear c97
                                      try clear c97b0
                                      try clear c101
                                      try clear c101b0
                                      try clear c102
                                      try clear c102b0
                                      try clear c106
                                      try clear c106b0
                                      try clear c113
                                      try clear c113b0
                                      try clear c120
                                      try clear c120b0
                                      try clear c121
                                      try clear c121b0
                                      try clear c125
                                      try clear c125b0
                                      try clear c132
                                      try clear c132b0
                                      try clear c139
                                      try clear c139b0
                                      try clear c140
                                      try clear c140b0
                                      try clear c144
                                      try clear c144b0
                                      try clear c145
                                      try clear c145b0
                                      try clear c149
                                      try clear c149b0
                                      try clear c156
                                      try clear c156b0
                                      try clear c163
                                      try clear c163b0
                                      try clear c164
                                      try clear c164b0
                                      try clear c168
                                      try clear c168b0
                                      try clear c175
                                      try clear c175b0
                                      try clear c182
                                      try clear c182b0
                                      try clear c183
                                      try clear c183b0
                                      try clear c187
                                      try clear c187b0
                                      try clear c188
                                      try clear c188b0
                                      try clear c192
                                      try clear c192b0
                                      try clear c193
                                      try clear c193b0
                                      try clear c197
                                      try clear c197b0
                                      try clear c204
                                      try clear c204b0
                                      try clear c211
                                      try clear c211b0
                                      try clear c212
                                      try clear c212b0
                                      try clear c216
                                      try clear c216b0
                                      try clear c223
                                      try clear c223b0
                                      try clear c230
                                      try clear c230b0
                                      try clear c231
                                      try clear c231b0
                                      try clear c235
                                      try clear c235b0
                                      try clear c236
                                      try clear c236b0
                                      try clear c240
                                      try clear c240b0
                                      try clear c247
                                      try clear c247b0
                                      try clear c254
                                      try clear c254b0
                                      try clear c255
                                      try clear c255b0
                                      try clear c259
                                      try clear c259b0
                                      try clear c266
                                      try clear c266b0
                                      obtain ⟨kq, x102_79, rfl, HA, HJ79, HB⟩ := hcut
                                      cases kq with
                                      | zero => exact absurd HA.out (by simp [scarfref05_Shape.j3])
                                      | succ kj79 =>
                                        have H := HA.out
                                        clear HA
                                        simp only [scarfref05_Shape.j3] at H
                                        by_cases c273 : x102_79 = true
                                        · subst c273
                                          have H1 : (some (0, 3)) = some (r1, r2) := by rw [if_pos rfl] at H; exact H
                                          clear H
                                          have H := H1
                                          clear H1
                                          simp only [Option.some.injEq, Prod.mk.injEq] at H
                                          obtain ⟨rfl, rfl⟩ := H
                                          go_wp2
                                          go_ret2
                                          exact ⟨by first | rfl | (simp [errW_none, errW_some] <;> rfl) | (simp [*, errW_none, errW_some] <;> rfl), by repeat (first | (with_reducible first | exact HB.out | apply below_alloc | apply pw_below_drewN | apply below_drew1) | exact HB.out)⟩
                                        · replace c273 := Bool.eq_false_iff.mpr c273
                                          subst c273
                                          have H1 : (if a0 = 253 then (some (0, 4)) else (some (0, 5))) = some (r1, r2) := by rw [if_neg (show ¬ (false = true) by decide)] at H; exact H
                                          clear H
                                          have H := H1
                                          clear H1
                                          by_cases c274 : a0 = 253
                                          · rw [if_pos c274] at H
                                            have c274b0 : (a0 == 253) = true := beq_iff_eq.mpr c274
                                            have c274b1 : (a0 != 253) = false := bne_eq_false_iff_eq.mpr c274
                                            clear c274
                                            simp only [Option.some.injEq, Prod.mk.injEq] at H
                                            obtain ⟨rfl, rfl⟩ := H
                                            go_wp2
                                            go_ret2
                                            exact ⟨by first | rfl | (simp [errW_none, errW_some] <;> rfl) | (simp [*, errW_none, errW_some] <;> rfl), by repeat (first | (with_reducible first | exact HB.out | apply below_alloc | apply pw_below_drewN | apply below_drew1) | exact HB.out)⟩
                                          · rw [if_neg c274] at H
                                            have c274b0 : (a0 == 253) = false := beq_eq_false_iff_ne.mpr c274
                                            have c274b1 : (a0 != 253) = true := bne_iff_ne.mpr c274
                                            simp only [Option.some.injEq, Prod.mk.injEq] at H
                                            obtain ⟨rfl, rfl⟩ := H
                                            go_wp2
                                            go_ret2
                                            exact ⟨by first | rfl | (simp [errW_none, errW_some] <;> rfl) | (simp [*, errW_none, errW_some] <;> rfl), by repeat (first | (with_reducible first | exact HB.out | apply below_alloc | apply pw_below_drewN | apply below_drew1) | exact HB.out)⟩
end Go.Proofs.Ytckhlbpjehbnlaa.PB
