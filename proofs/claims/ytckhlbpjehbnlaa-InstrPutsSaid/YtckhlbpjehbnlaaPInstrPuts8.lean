/- Several texts, laid into one for a claim: PBx46, PBx47, PBx48, PBx49, PBx50, PBx51, PBx52. -/
import Derived.Test.YtckhlbpjehbnlaaPInstrPuts1
import Derived.Test.YtckhlbpjehbnlaaPInstrPuts7
namespace Go.Proofs.Ytckhlbpjehbnlaa.PB
open Go.RowKit Go.Proofs.YtckhlbpjehbnlaaW.PrintWords Go.Proofs.YtckhlbpjehbnlaaW.PrintLast Go.Proofs.YtckhlbpjehbnlaaW.PrintMore
attribute [local go_sem] max2_int min2_int max_two min_two max_three min_three max_four min_four   -- for this text's walks alone
set_option linter.unusedVariables false
set_option linter.unusedSimpArgs false
mutual
def scarfref05_Count.l0 : Nat → List (S54) → Int → Int → Int → Option (Int)
 | 0, _, _, _, _ => none
 | k + 1, x0, x1, x5, x6 => if x6 < (x0.length : Int) then (if 0 ≤ x6 then ((scarfref05_May.f k ((rd_T54 x0 x6).f0) ((rd_T54 x0 x6).f1) ((rd_T54 x0 x6).f2) ((rd_T54 x0 x6).f3) ((rd_T54 x0 x6).f4) ((rd_T54 x0 x6).f5) ((rd_T54 x0 x6).f6)).bind fun t300 => (if t300 = true then (if ((rd_T54 x0 x6).f0) ≥ 2 then (scarfref05_Count.j1 k x0 x1 (wrap64 (x5 + 1)) x6 (decide (((rd_T54 x0 x6).f0) ≤ 4))) else (scarfref05_Count.j1 k x0 x1 (wrap64 (x5 + 1)) x6 false)) else (some (-1)))) else (none)) else (some x5)
def scarfref05_Count.j1 : Nat → List (S54) → Int → Int → Int → Bool → Option (Int)
 | 0, _, _, _, _, _ => none
 | k + 1, x0, x1, x5, x6, x36 => if x36 = true then (if x1 = 32 then (some (-1)) else (if 0 ≤ x6 then (if x6 < (x0.length : Int) then ((scarfref05_Count.f k ((rd_T54 x0 x6).f5) (wrap64 (x1 + 1))).bind fun t304 => ((scarfref05_Count.f k ((rd_T54 x0 x6).f6) (wrap64 (x1 + 1))).bind fun t306 => (if t304 < 0 then (scarfref05_Count.j2 k x0 x1 x5 x6 t304 t306 true) else (scarfref05_Count.j2 k x0 x1 x5 x6 t304 t306 (decide (t306 < 0)))))) else (none)) else (none))) else (if x5 > 8192 then (some (-1)) else (scarfref05_Count.l0 k x0 x1 x5 (wrap64 (x6 + 1))))
def scarfref05_Count.j2 : Nat → List (S54) → Int → Int → Int → Int → Int → Bool → Option (Int)
 | 0, _, _, _, _, _, _, _ => none
 | k + 1, x0, x1, x5, x6, x7, x8, x60 => if x60 = true then (some (-1)) else (if (wrap64 ((wrap64 (x5 + x7)) + x8)) > 8192 then (some (-1)) else (scarfref05_Count.l0 k x0 x1 (wrap64 ((wrap64 (x5 + x7)) + x8)) (wrap64 (x6 + 1))))
def scarfref05_Count.f : Nat → List (S54) → Int → Option (Int)
 | 0, _, _ => none
 | k + 1, l0, a1 => scarfref05_Count.l0 k l0 a1 0 0
end
theorem scarfref05_Count.mono_l : ∀ k, (∀ y0 y1, LeO (scarfref05_Count.f k y0 y1) (scarfref05_Count.f (k + 1) y0 y1)) ∧ (∀ y0 y1 y2 y3, LeO (scarfref05_Count.l0 k y0 y1 y2 y3) (scarfref05_Count.l0 (k + 1) y0 y1 y2 y3)) ∧ (∀ y0 y1 y2 y3 y4, LeO (scarfref05_Count.j1 k y0 y1 y2 y3 y4) (scarfref05_Count.j1 (k + 1) y0 y1 y2 y3 y4)) ∧ (∀ y0 y1 y2 y3 y4 y5 y6, LeO (scarfref05_Count.j2 k y0 y1 y2 y3 y4 y5 y6) (scarfref05_Count.j2 (k + 1) y0 y1 y2 y3 y4 y5 y6))
 | 0 => ⟨fun _ _ r h => by simp [scarfref05_Count.f] at h, fun _ _ _ _ r h => by simp [scarfref05_Count.l0] at h, fun _ _ _ _ _ r h => by simp [scarfref05_Count.j1] at h, fun _ _ _ _ _ _ _ r h => by simp [scarfref05_Count.j2] at h⟩
 | k + 1 => by
  obtain ⟨ih0, ih1, ih2, ih3⟩ := scarfref05_Count.mono_l k; refine ⟨?_, ?_, ?_, ?_⟩
  ·intro y0 y1; unfold scarfref05_Count.f; repeat' first
   | (with_reducible exact ih0 _ _)
   | (with_reducible exact ih1 _ _ _ _)
   | (with_reducible exact ih2 _ _ _ _ _)
   | (with_reducible exact ih3 _ _ _ _ _ _ _)
   | (with_reducible exact scarfref05_May.mono _ _ _ _ _ _ _ _)
   | (with_reducible exact LeO.refl _)
   | (with_reducible exact LeO.none _)
   | (with_reducible refine LeO.ite ?_ ?_)
   | (with_reducible refine LeO.bind ?_ (fun _ => ?_))
   | exact ih0 _ _
   | exact ih1 _ _ _ _
   | exact ih2 _ _ _ _ _
   | exact ih3 _ _ _ _ _ _ _
   | exact scarfref05_May.mono _ _ _ _ _ _ _ _
   | exact LeO.none _
   | refine LeO.ite ?_ ?_
   | refine LeO.bind ?_ (fun _ => ?_)
  ·intro y0 y1 y2 y3; unfold scarfref05_Count.l0; repeat' first
   | (with_reducible exact ih0 _ _)
   | (with_reducible exact ih1 _ _ _ _)
   | (with_reducible exact ih2 _ _ _ _ _)
   | (with_reducible exact ih3 _ _ _ _ _ _ _)
   | (with_reducible exact scarfref05_May.mono _ _ _ _ _ _ _ _)
   | (with_reducible exact LeO.refl _)
   | (with_reducible exact LeO.none _)
   | (with_reducible refine LeO.ite ?_ ?_)
   | (with_reducible refine LeO.bind ?_ (fun _ => ?_))
   | exact ih0 _ _
   | exact ih1 _ _ _ _
   | exact ih2 _ _ _ _ _
   | exact ih3 _ _ _ _ _ _ _
   | exact scarfref05_May.mono _ _ _ _ _ _ _ _
   | exact LeO.none _
   | refine LeO.ite ?_ ?_
   | refine LeO.bind ?_ (fun _ => ?_)
  ·intro y0 y1 y2 y3 y4; unfold scarfref05_Count.j1; repeat' first
   | (with_reducible exact ih0 _ _)
   | (with_reducible exact ih1 _ _ _ _)
   | (with_reducible exact ih2 _ _ _ _ _)
   | (with_reducible exact ih3 _ _ _ _ _ _ _)
   | (with_reducible exact scarfref05_May.mono _ _ _ _ _ _ _ _)
   | (with_reducible exact LeO.refl _)
   | (with_reducible exact LeO.none _)
   | (with_reducible refine LeO.ite ?_ ?_)
   | (with_reducible refine LeO.bind ?_ (fun _ => ?_))
   | exact ih0 _ _
   | exact ih1 _ _ _ _
   | exact ih2 _ _ _ _ _
   | exact ih3 _ _ _ _ _ _ _
   | exact scarfref05_May.mono _ _ _ _ _ _ _ _
   | exact LeO.none _
   | refine LeO.ite ?_ ?_
   | refine LeO.bind ?_ (fun _ => ?_)
  ·intro y0 y1 y2 y3 y4 y5 y6; unfold scarfref05_Count.j2; repeat' first
   | (with_reducible exact ih0 _ _)
   | (with_reducible exact ih1 _ _ _ _)
   | (with_reducible exact ih2 _ _ _ _ _)
   | (with_reducible exact ih3 _ _ _ _ _ _ _)
   | (with_reducible exact scarfref05_May.mono _ _ _ _ _ _ _ _)
   | (with_reducible exact LeO.refl _)
   | (with_reducible exact LeO.none _)
   | (with_reducible refine LeO.ite ?_ ?_)
   | (with_reducible refine LeO.bind ?_ (fun _ => ?_))
   | exact ih0 _ _
   | exact ih1 _ _ _ _
   | exact ih2 _ _ _ _ _
   | exact ih3 _ _ _ _ _ _ _
   | exact scarfref05_May.mono _ _ _ _ _ _ _ _
   | exact LeO.none _
   | refine LeO.ite ?_ ?_
   | refine LeO.bind ?_ (fun _ => ?_)
theorem scarfref05_Count.mono : ∀ a0 a1 k, LeO (scarfref05_Count.f k a0 a1) (scarfref05_Count.f (k + 1) a0 a1) := by
 intro a0 a1 k; obtain ⟨ih0, ih1, ih2, ih3⟩ := scarfref05_Count.mono_l k; exact ih0 a0 a1
def scarfref05_Count.T11 : Bool × List (List Nat × List Nat) := (true, [([], []), ([], []), ([0, 1], [0, 1]), ([2], [2]), ([3], [3]), ([], []), ([5], [5]), ([4, 6], [4, 6]), ([], []), ([], []), ([8, 9], [8, 9]), ([10], [10]), ([11], [11]), ([], []), ([13], [13]), ([12, 14, 7], [12, 14]), ([7, 15, 0, 1, 2, 3, 4, 5, 6, 7], [7]), ([15, 16, 0, 1, 2, 3, 4, 5, 6, 7, 8, 9, 10, 11, 12, 13, 14, 15, 16], [15])])
def scarfref05_Count.B11 : List Nat := [0, 0, 3, 7, 15, 0, 32, 127, 0, 0, 768, 1792, 3840, 0, 8192, 32767, 65535, 131071]
theorem scarfref05_Count.tab11 : rtab .any (opsOf Try.f18 11) = scarfref05_Count.T11 := by kernel_rfl
theorem scarfref05_Count.bits11 : waitsOk scarfref05_Count.T11.2 scarfref05_Count.B11 = true := by kernel_rfl
set_option maxHeartbeats 8000000 in
set_option maxRecDepth 100000 in
theorem scarfref05_Count.calls (k : Nat) : ∀ (A0 : Option Addr) (c0 : Nat) (l0 : List (S54)) (a1 : Int) (r : Int) (w : World) (hr0 : Kd.C k54 w A0 l0.length l0) (hc0 : l0.length ≤ c0) (h : scarfref05_Count.f k l0 a1 = some r),
 Calls Try.prog 18 #[.slice A0 l0.length c0, .int .i64 a1] w fun e w' => e = .returned (.int .i64 r) ∧ Below w.heap.size w w' := by
 induction k using Nat.strongRecOn with
 | _ k ih =>
 intro A0 c0 l0 a1 r w hr0 hc0 h; cases k with
 | zero => exact absurd h (by simp [scarfref05_Count.f])
 | succ k =>
 simp only [scarfref05_Count.f] at h; have hu54 := Try.underlying54; have HR0 := Aside0.mk hr0; have HC0 := Aside0.mk hc0; clear hr0 hc0; have HB := Aside0.mk (Below.refl w.heap.size w); have H : (scarfref05_Count.l0 k l0 a1 0 0) = some r := h; clear h; have H' := Aside0.mk H; clear H; go_enter Try.func18, Try.ntmps18; go_wp2
 go_loopg [5, 6] k (fun kq v5 v6 w' => ∃ (x5_1 : Int) (x6_1 : Int), v5 = .int .i64 x5_1 ∧ v6 = .int .i64 x6_1 ∧ Aside0 (scarfref05_Count.l0 kq l0 a1 x5_1 x6_1 = some r) ∧ Aside0 (kq ≤ k) ∧ Aside0 (Below w.heap.size w w'))
 case atStart => exact ⟨(0), (0), (by first | rfl | (simp; done) | (simp [*]; done)), (by first | rfl | (simp; done) | (simp [*]; done)), H', ⟨Nat.le_refl _⟩, ⟨by repeat (first | (with_reducible first | exact HB.out | apply below_alloc | apply pw_below_drewN | apply below_drew1) | exact HB.out)⟩⟩
 case round =>
  clear H'; (try clear c1); (try clear p2); obtain ⟨x5_1, x6_1, rfl, rfl, HA, HK1, HB⟩ := hrel; cases gk with
  | zero => exact absurd HA.out (by simp [scarfref05_Count.l0])
  | succ k1 =>
   have H := HA.out; clear HA; simp only [scarfref05_Count.l0] at H; by_cases c3 : x6_1 < (l0.length : Int)
   ·rw [if_pos c3] at H; have c3b0 : decide (x6_1 < (l0.length : Int)) = true := decide_eq_true c3; clear c3; by_cases c4 : 0 ≤ x6_1
    ·rw [if_pos c4] at H; have c4b0 : decide (0 ≤ x6_1) = true := decide_eq_true c4; clear c4; replace H := Option.bind_eq_some_iff.mp H; obtain ⟨t300, A50, H⟩ := H; replace H : (if t300 = true then (if ((rd_T54 l0 x6_1).f0) ≥ 2 then (scarfref05_Count.j1 k1 l0 a1 (wrap64 (x5_1 + 1)) x6_1 (decide (((rd_T54 l0 x6_1).f0) ≤ 4))) else (scarfref05_Count.j1 k1 l0 a1 (wrap64 (x5_1 + 1)) x6_1 false)) else (some (-1))) = some r := H; have A5 := Aside0.mk A50; clear A50; by_cases c6 : t300 = true
     ·subst c6; have H1 : (if ((rd_T54 l0 x6_1).f0) ≥ 2 then (scarfref05_Count.j1 k1 l0 a1 (wrap64 (x5_1 + 1)) x6_1 (decide (((rd_T54 l0 x6_1).f0) ≤ 4))) else (scarfref05_Count.j1 k1 l0 a1 (wrap64 (x5_1 + 1)) x6_1 false)) = some r := by rw [if_pos rfl] at H; exact H
      clear H; have H := H1; clear H1; have HC7 := Aside0.mk H; clear H; have p299 : 0 ≤ (x6_1 : Int) := of_decide_eq_true (by first | (with_reducible assumption) | assumption); have q299 : x6_1 < (l0.length : Int) := of_decide_eq_true (by first | (with_reducible assumption) | assumption); obtain ⟨ad299, A299_4, c299_4, A299_5, c299_5, A299_6, c299_6, e299, hx299_0, hx299_1, hx299_2, hx299_3, hx299_4, hx299_5, hx299_6, hl299_4, hi299_4, hl299_5, hi299_5, hl299_6, hi299_6⟩ := at_T54 HR0.out x6_1 p299 q299; cases e299; replace hx299_0 := (HB.out.cell (World.block_lt_of_cell? w _ hx299_0)).trans hx299_0; replace hx299_1 := (HB.out.cell (World.block_lt_of_cell? w _ hx299_1)).trans hx299_1; replace hx299_2 := (HB.out.cell (World.block_lt_of_cell? w _ hx299_2)).trans hx299_2; replace hx299_3 := (HB.out.cell (World.block_lt_of_cell? w _ hx299_3)).trans hx299_3; replace hx299_4 := (HB.out.cell (World.block_lt_of_cell? w _ hx299_4)).trans hx299_4; replace hx299_5 := (HB.out.cell (World.block_lt_of_cell? w _ hx299_5)).trans hx299_5; replace hx299_6 := (HB.out.cell (World.block_lt_of_cell? w _ hx299_6)).trans hx299_6; have HR299_4 := Aside0.mk hi299_4; have HC299_4 := Aside0.mk hl299_4; clear hi299_4 hl299_4; have HR299_5 := Aside0.mk hi299_5; have HC299_5 := Aside0.mk hl299_5; clear hi299_5 hl299_5; have HR299_6 := Aside0.mk hi299_6; have HC299_6 := Aside0.mk hl299_6; clear hi299_6 hl299_6; replace p299 := eq_true p299; replace q299 := eq_true q299; go_upto_region 8 with (first | ((with_reducible refine gate_callee (f := 34) rfl ?_); refine goesL_ (some 19) rfl rfl Try.func34 (by kernel_rfl) rfl #[.agg #[.int .i64 ((rd_T54 l0 x6_1).f0), .int .i64 ((rd_T54 l0 x6_1).f1), .int .i64 ((rd_T54 l0 x6_1).f2), .int .i64 ((rd_T54 l0 x6_1).f3), .slice A299_4 ((rd_T54 l0 x6_1).f4).length c299_4, .slice A299_5 ((rd_T54 l0 x6_1).f5).length c299_5, .slice A299_6 ((rd_T54 l0 x6_1).f6).length c299_6]] rfl (by (try simp only [List.map_toArray, List.map_cons, List.map_nil]); first | done | rfl | (simp only [List.length_drop, List.length_take]; rfl)) ?_; (with_reducible refine (scarfref05_May.calls k1 ((rd_T54 l0 x6_1).f0) ((rd_T54 l0 x6_1).f1) ((rd_T54 l0 x6_1).f2) ((rd_T54 l0 x6_1).f3) _ _ ((rd_T54 l0 x6_1).f4) _ _ ((rd_T54 l0 x6_1).f5) _ _ ((rd_T54 l0 x6_1).f6) true _ ?side1 ?side2 ?side3 ?side4 ?side5 ?side6 A5.out).mono ?_); (case side1 => repeat (first | exact (Kd.C_below HR299_4.out HB.out) | (with_reducible refine Kd.C_alloc ?_ _) | (with_reducible refine Kd.C_drewN ?_ _) | (with_reducible refine Kd.C_drew ?_))); (case side2 => exact HC299_4.out); (case side3 => repeat (first | exact (Kd.C_below HR299_5.out HB.out) | (with_reducible refine Kd.C_alloc ?_ _) | (with_reducible refine Kd.C_drewN ?_ _) | (with_reducible refine Kd.C_drew ?_))); (case side4 => exact HC299_5.out); (case side5 => repeat (first | exact (Kd.C_below HR299_6.out HB.out) | (with_reducible refine Kd.C_alloc ?_ _) | (with_reducible refine Kd.C_drewN ?_ _) | (with_reducible refine Kd.C_drew ?_))); (case side6 => exact HC299_6.out); rintro e w8 ⟨rfl, hb⟩; refine ⟨_, rfl, ?_⟩; have n0_ := Aside0.mk (below_step (by repeat (first | (with_reducible first | exact HB.out | apply below_alloc | apply pw_below_drewN | apply below_drew1) | exact HB.out)) hb); clear HB; have HB := n0_; clear n0_; (try clear hb); (try clear hb2); (try clear hk); (try clear hi)))
      (try simp only [Act.put, List.setIfInBounds_toArray, List.set_cons_zero, List.set_cons_succ]); go_cut [36] (fun v36 wc => ∃ (kq : Nat) (x36_6 : Bool), v36 = .bool x36_6 ∧ Aside0 (scarfref05_Count.j1 kq l0 a1 (wrap64 (x5_1 + 1)) x6_1 x36_6 = some r) ∧ Aside0 (kq ≤ k1) ∧ Aside0 (Below w.heap.size w wc))
      case first =>
       have H := HC7.out; clear HC7; by_cases c9 : ((rd_T54 l0 x6_1).f0) ≥ 2
       ·rw [if_pos c9] at H; have c9b0 : decide (2 ≤ ((rd_T54 l0 x6_1).f0)) = true := decide_eq_true c9; clear c9; (first | rw [c9b0] | (simp only [i64_w, i32_w]; rw [c9b0]) | skip); have H' := Aside0.mk H; clear H; have p301 : 0 ≤ (x6_1 : Int) := of_decide_eq_true (by first | (with_reducible assumption) | assumption); have q301 : x6_1 < (l0.length : Int) := of_decide_eq_true (by first | (with_reducible assumption) | assumption); obtain ⟨ad301, A301_4, c301_4, A301_5, c301_5, A301_6, c301_6, e301, hx301_0, hx301_1, hx301_2, hx301_3, hx301_4, hx301_5, hx301_6, hl301_4, hi301_4, hl301_5, hi301_5, hl301_6, hi301_6⟩ := at_T54 HR0.out x6_1 p301 q301; obtain rfl : ad299 = ad301 := (by injection e301)
        replace hx301_0 := (HB.out.cell (World.block_lt_of_cell? w _ hx301_0)).trans hx301_0; replace hx301_1 := (HB.out.cell (World.block_lt_of_cell? w _ hx301_1)).trans hx301_1; replace hx301_2 := (HB.out.cell (World.block_lt_of_cell? w _ hx301_2)).trans hx301_2; replace hx301_3 := (HB.out.cell (World.block_lt_of_cell? w _ hx301_3)).trans hx301_3; replace hx301_4 := (HB.out.cell (World.block_lt_of_cell? w _ hx301_4)).trans hx301_4; replace hx301_5 := (HB.out.cell (World.block_lt_of_cell? w _ hx301_5)).trans hx301_5; replace hx301_6 := (HB.out.cell (World.block_lt_of_cell? w _ hx301_6)).trans hx301_6; have HR301_4 := Aside0.mk hi301_4; have HC301_4 := Aside0.mk hl301_4; clear hi301_4 hl301_4; have HR301_5 := Aside0.mk hi301_5; have HC301_5 := Aside0.mk hl301_5; clear hi301_5 hl301_5; have HR301_6 := Aside0.mk hi301_6; have HC301_6 := Aside0.mk hl301_6; clear hi301_6 hl301_6; replace p301 := eq_true p301; replace q301 := eq_true q301; have p302 : 0 ≤ (x6_1 : Int) := of_decide_eq_true (by first | (with_reducible assumption) | assumption); have q302 : x6_1 < (l0.length : Int) := of_decide_eq_true (by first | (with_reducible assumption) | assumption); obtain ⟨ad302, A302_4, c302_4, A302_5, c302_5, A302_6, c302_6, e302, hx302_0, hx302_1, hx302_2, hx302_3, hx302_4, hx302_5, hx302_6, hl302_4, hi302_4, hl302_5, hi302_5, hl302_6, hi302_6⟩ := at_T54 HR0.out x6_1 p302 q302; obtain rfl : ad299 = ad302 := (by injection e302)
        replace hx302_0 := (HB.out.cell (World.block_lt_of_cell? w _ hx302_0)).trans hx302_0; replace hx302_1 := (HB.out.cell (World.block_lt_of_cell? w _ hx302_1)).trans hx302_1; replace hx302_2 := (HB.out.cell (World.block_lt_of_cell? w _ hx302_2)).trans hx302_2; replace hx302_3 := (HB.out.cell (World.block_lt_of_cell? w _ hx302_3)).trans hx302_3; replace hx302_4 := (HB.out.cell (World.block_lt_of_cell? w _ hx302_4)).trans hx302_4; replace hx302_5 := (HB.out.cell (World.block_lt_of_cell? w _ hx302_5)).trans hx302_5; replace hx302_6 := (HB.out.cell (World.block_lt_of_cell? w _ hx302_6)).trans hx302_6; have HR302_4 := Aside0.mk hi302_4; have HC302_4 := Aside0.mk hl302_4; clear hi302_4 hl302_4; have HR302_5 := Aside0.mk hi302_5; have HC302_5 := Aside0.mk hl302_5; clear hi302_5 hl302_5; have HR302_6 := Aside0.mk hi302_6; have HC302_6 := Aside0.mk hl302_6; clear hi302_6 hl302_6; replace p302 := eq_true p302; replace q302 := eq_true q302; have ea_ := Option.some.inj (hx301_4.symm.trans hx302_4)
        injection ea_ with ea_ en_ ec_
        subst ea_; subst ec_; clear en_; have ea_ := Option.some.inj (hx301_5.symm.trans hx302_5)
        injection ea_ with ea_ en_ ec_
        subst ea_; subst ec_; clear en_; have ea_ := Option.some.inj (hx301_6.symm.trans hx302_6)
        injection ea_ with ea_ en_ ec_
        subst ea_; subst ec_; clear en_; go_wp2; go_meet; case rel => exact ⟨_, (decide (((rd_T54 l0 x6_1).f0) ≤ 4)), (by first | rfl | (simp; done) | (simp [*]; done)), H', ⟨by have := HK1.out; first | omega | exact Nat.le_refl _⟩, ⟨by repeat (first | (with_reducible first | exact HB.out | apply below_alloc | apply pw_below_drewN | apply below_drew1) | exact HB.out)⟩⟩
       ·rw [if_neg c9] at H; have c9b0 : decide (2 ≤ ((rd_T54 l0 x6_1).f0)) = false := decide_eq_false c9; clear c9; (first | rw [c9b0] | (simp only [i64_w, i32_w]; rw [c9b0]) | skip); have H' := Aside0.mk H; clear H; have p301 : 0 ≤ (x6_1 : Int) := of_decide_eq_true (by first | (with_reducible assumption) | assumption); have q301 : x6_1 < (l0.length : Int) := of_decide_eq_true (by first | (with_reducible assumption) | assumption); obtain ⟨ad301, A301_4, c301_4, A301_5, c301_5, A301_6, c301_6, e301, hx301_0, hx301_1, hx301_2, hx301_3, hx301_4, hx301_5, hx301_6, hl301_4, hi301_4, hl301_5, hi301_5, hl301_6, hi301_6⟩ := at_T54 HR0.out x6_1 p301 q301; obtain rfl : ad299 = ad301 := (by injection e301)
        replace hx301_0 := (HB.out.cell (World.block_lt_of_cell? w _ hx301_0)).trans hx301_0; replace hx301_1 := (HB.out.cell (World.block_lt_of_cell? w _ hx301_1)).trans hx301_1; replace hx301_2 := (HB.out.cell (World.block_lt_of_cell? w _ hx301_2)).trans hx301_2; replace hx301_3 := (HB.out.cell (World.block_lt_of_cell? w _ hx301_3)).trans hx301_3; replace hx301_4 := (HB.out.cell (World.block_lt_of_cell? w _ hx301_4)).trans hx301_4; replace hx301_5 := (HB.out.cell (World.block_lt_of_cell? w _ hx301_5)).trans hx301_5; replace hx301_6 := (HB.out.cell (World.block_lt_of_cell? w _ hx301_6)).trans hx301_6; have HR301_4 := Aside0.mk hi301_4; have HC301_4 := Aside0.mk hl301_4; clear hi301_4 hl301_4; have HR301_5 := Aside0.mk hi301_5; have HC301_5 := Aside0.mk hl301_5; clear hi301_5 hl301_5; have HR301_6 := Aside0.mk hi301_6; have HC301_6 := Aside0.mk hl301_6; clear hi301_6 hl301_6; replace p301 := eq_true p301; replace q301 := eq_true q301; go_wp2; go_meet; case rel => exact ⟨_, (false), (by first | rfl | (simp; done) | (simp [*]; done)), H', ⟨by have := HK1.out; first | omega | exact Nat.le_refl _⟩, ⟨by repeat (first | (with_reducible first | exact HB.out | apply below_alloc | apply pw_below_drewN | apply below_drew1) | exact HB.out)⟩⟩
      case rest =>
       clear HC7; (try clear c1); (try clear c2); (try clear p2 p2); (try clear q2); (try clear hx2); (try clear c3 c3b0); (try clear p3); (try clear q3); (try clear hx3); (try clear c4 c4b0); (try clear c6); (try clear p6); (try clear c9 c9b0); (try clear hx299_0); (try clear hx299_1); (try clear hx299_2); (try clear hx299_3); (try clear hx299_4); (try clear hx299_5); (try clear hx299_6); (try clear hx301_0); (try clear hx301_1); (try clear hx301_2); (try clear hx301_3); (try clear hx301_4); (try clear hx301_5); (try clear hx301_6); (try clear hx302_0); (try clear hx302_1); (try clear hx302_2); (try clear hx302_3); (try clear hx302_4); (try clear hx302_5); (try clear hx302_6); (try clear p299); (try clear p301); (try clear p302); (try clear q299); (try clear q301); (try clear q302); obtain ⟨kq, x36_6, rfl, HA, HJ6, HB⟩ := hcut; cases kq with
       | zero => exact absurd HA.out (by simp [scarfref05_Count.j1])
       | succ kj6 =>
        have H := HA.out; clear HA; simp only [scarfref05_Count.j1] at H; by_cases c10 : x36_6 = true
        ·subst c10; have H1 : (if a1 = 32 then (some (-1)) else (if 0 ≤ x6_1 then (if x6_1 < (l0.length : Int) then ((scarfref05_Count.f kj6 ((rd_T54 l0 x6_1).f5) (wrap64 (a1 + 1))).bind fun t304 => ((scarfref05_Count.f kj6 ((rd_T54 l0 x6_1).f6) (wrap64 (a1 + 1))).bind fun t306 => (if t304 < 0 then (scarfref05_Count.j2 kj6 l0 a1 (wrap64 (x5_1 + 1)) x6_1 t304 t306 true) else (scarfref05_Count.j2 kj6 l0 a1 (wrap64 (x5_1 + 1)) x6_1 t304 t306 (decide (t306 < 0)))))) else (none)) else (none))) = some r := by rw [if_pos rfl] at H; exact H
         clear H; have H := H1; clear H1; by_cases c11 : a1 = 32
         ·rw [if_pos c11] at H; have c11b0 : (a1 == 32) = true := beq_iff_eq.mpr c11; have c11b1 : (a1 != 32) = false := bne_eq_false_iff_eq.mpr c11; clear c11; obtain rfl := Option.some.inj H; go_wp2
          go_ret
          exact ⟨by first | rfl | (simp [errW_none, errW_some] <;> rfl) | (simp [*, errW_none, errW_some] <;> rfl), by repeat (first | (with_reducible first | exact HB.out | apply below_alloc | apply pw_below_drewN | apply below_drew1) | exact HB.out)⟩
         ·rw [if_neg c11] at H; have c11b0 : (a1 == 32) = false := beq_eq_false_iff_ne.mpr c11; have c11b1 : (a1 != 32) = true := bne_iff_ne.mpr c11; by_cases c12 : 0 ≤ x6_1
          ·rw [if_pos c12] at H; have c12b0 : decide (0 ≤ x6_1) = true := decide_eq_true c12; clear c12; by_cases c13 : x6_1 < (l0.length : Int)
           ·rw [if_pos c13] at H; have c13b0 : decide (x6_1 < (l0.length : Int)) = true := decide_eq_true c13; clear c13; replace H := Option.bind_eq_some_iff.mp H; obtain ⟨t304, A140, H⟩ := H; replace H : ((scarfref05_Count.f kj6 ((rd_T54 l0 x6_1).f6) (wrap64 (a1 + 1))).bind fun t306 => (if t304 < 0 then (scarfref05_Count.j2 kj6 l0 a1 (wrap64 (x5_1 + 1)) x6_1 t304 t306 true) else (scarfref05_Count.j2 kj6 l0 a1 (wrap64 (x5_1 + 1)) x6_1 t304 t306 (decide (t306 < 0))))) = some r := H; have A14 := Aside0.mk A140; clear A140; replace H := Option.bind_eq_some_iff.mp H; obtain ⟨t306, A150, H⟩ := H; replace H : (if t304 < 0 then (scarfref05_Count.j2 kj6 l0 a1 (wrap64 (x5_1 + 1)) x6_1 t304 t306 true) else (scarfref05_Count.j2 kj6 l0 a1 (wrap64 (x5_1 + 1)) x6_1 t304 t306 (decide (t306 < 0)))) = some r := H; have A15 := Aside0.mk A150; clear A150; have HC16 := Aside0.mk H; clear H; try go_wp2
            have n0_ := Aside0.mk (below_drew1 HB.out); clear HB; have HB := n0_; clear n0_; have p303 : 0 ≤ (x6_1 : Int) := of_decide_eq_true (by first | (with_reducible assumption) | assumption); have q303 : x6_1 < (l0.length : Int) := of_decide_eq_true (by first | (with_reducible assumption) | assumption); obtain ⟨ad303, A303_4, c303_4, A303_5, c303_5, A303_6, c303_6, e303, hx303_0, hx303_1, hx303_2, hx303_3, hx303_4, hx303_5, hx303_6, hl303_4, hi303_4, hl303_5, hi303_5, hl303_6, hi303_6⟩ := at_T54 HR0.out x6_1 p303 q303; have hw303_6 := hx303_6; have hw303_5 := hx303_5; have hw303_4 := hx303_4; have hw303_3 := hx303_3; have hw303_2 := hx303_2; have hw303_1 := hx303_1; have hw303_0 := hx303_0; obtain rfl : ad299 = ad303 := (by injection e303)
            replace hx303_0 := (HB.out.cell (World.block_lt_of_cell? w _ hx303_0)).trans hx303_0; replace hx303_1 := (HB.out.cell (World.block_lt_of_cell? w _ hx303_1)).trans hx303_1; replace hx303_2 := (HB.out.cell (World.block_lt_of_cell? w _ hx303_2)).trans hx303_2; replace hx303_3 := (HB.out.cell (World.block_lt_of_cell? w _ hx303_3)).trans hx303_3; replace hx303_4 := (HB.out.cell (World.block_lt_of_cell? w _ hx303_4)).trans hx303_4; replace hx303_5 := (HB.out.cell (World.block_lt_of_cell? w _ hx303_5)).trans hx303_5; replace hx303_6 := (HB.out.cell (World.block_lt_of_cell? w _ hx303_6)).trans hx303_6; have HR303_4 := Aside0.mk hi303_4; have HC303_4 := Aside0.mk hl303_4; clear hi303_4 hl303_4; have HR303_5 := Aside0.mk hi303_5; have HC303_5 := Aside0.mk hl303_5; clear hi303_5 hl303_5; have HR303_6 := Aside0.mk hi303_6; have HC303_6 := Aside0.mk hl303_6; clear hi303_6 hl303_6; replace p303 := eq_true p303; replace q303 := eq_true q303; have p305 : 0 ≤ (x6_1 : Int) := of_decide_eq_true (by first | (with_reducible assumption) | assumption); have q305 : x6_1 < (l0.length : Int) := of_decide_eq_true (by first | (with_reducible assumption) | assumption); obtain ⟨ad305, A305_4, c305_4, A305_5, c305_5, A305_6, c305_6, e305, hx305_0, hx305_1, hx305_2, hx305_3, hx305_4, hx305_5, hx305_6, hl305_4, hi305_4, hl305_5, hi305_5, hl305_6, hi305_6⟩ := at_T54 HR0.out x6_1 p305 q305; have hw305_6 := hx305_6; have hw305_5 := hx305_5; have hw305_4 := hx305_4; have hw305_3 := hx305_3; have hw305_2 := hx305_2; have hw305_1 := hx305_1; have hw305_0 := hx305_0; obtain rfl : ad299 = ad305 := (by injection e305)
            replace hx305_0 := (HB.out.cell (World.block_lt_of_cell? w _ hx305_0)).trans hx305_0; replace hx305_1 := (HB.out.cell (World.block_lt_of_cell? w _ hx305_1)).trans hx305_1; replace hx305_2 := (HB.out.cell (World.block_lt_of_cell? w _ hx305_2)).trans hx305_2; replace hx305_3 := (HB.out.cell (World.block_lt_of_cell? w _ hx305_3)).trans hx305_3; replace hx305_4 := (HB.out.cell (World.block_lt_of_cell? w _ hx305_4)).trans hx305_4; replace hx305_5 := (HB.out.cell (World.block_lt_of_cell? w _ hx305_5)).trans hx305_5; replace hx305_6 := (HB.out.cell (World.block_lt_of_cell? w _ hx305_6)).trans hx305_6; have HR305_4 := Aside0.mk hi305_4; have HC305_4 := Aside0.mk hl305_4; clear hi305_4 hl305_4; have HR305_5 := Aside0.mk hi305_5; have HC305_5 := Aside0.mk hl305_5; clear hi305_5 hl305_5; have HR305_6 := Aside0.mk hi305_6; have HC305_6 := Aside0.mk hl305_6; clear hi305_6 hl305_6; replace p305 := eq_true p305; replace q305 := eq_true q305; have ea_ := Option.some.inj (hx303_4.symm.trans hx305_4)
            injection ea_ with ea_ en_ ec_
            subst ea_; subst ec_; clear en_; have ea_ := Option.some.inj (hx303_5.symm.trans hx305_5)
            injection ea_ with ea_ en_ ec_
            subst ea_; subst ec_; clear en_; have ea_ := Option.some.inj (hx303_6.symm.trans hx305_6)
            injection ea_ with ea_ en_ ec_
            subst ea_; subst ec_; clear en_; refine start_ (n := 18) (S := fun w' => w'.cell? (ad299.add ((x6_1).toNat * 7)) = some (.int .i64 ((rd_T54 l0 x6_1).f0)) ∧ w'.cell? ⟨(ad299.add ((x6_1).toNat * 7)).block, (ad299.add ((x6_1).toNat * 7)).off + 1, none⟩ = some (.int .i64 ((rd_T54 l0 x6_1).f1)) ∧ w'.cell? ⟨(ad299.add ((x6_1).toNat * 7)).block, (ad299.add ((x6_1).toNat * 7)).off + 2, none⟩ = some (.int .i64 ((rd_T54 l0 x6_1).f2)) ∧ w'.cell? ⟨(ad299.add ((x6_1).toNat * 7)).block, (ad299.add ((x6_1).toNat * 7)).off + 3, none⟩ = some (.int .i64 ((rd_T54 l0 x6_1).f3)) ∧ w'.cell? ⟨(ad299.add ((x6_1).toNat * 7)).block, (ad299.add ((x6_1).toNat * 7)).off + 4, none⟩ = some (.slice A303_4 ((rd_T54 l0 x6_1).f4).length c303_4) ∧ w'.cell? ⟨(ad299.add ((x6_1).toNat * 7)).block, (ad299.add ((x6_1).toNat * 7)).off + 5, none⟩ = some (.slice A303_5 ((rd_T54 l0 x6_1).f5).length c303_5) ∧ w'.cell? ⟨(ad299.add ((x6_1).toNat * 7)).block, (ad299.add ((x6_1).toNat * 7)).off + 6, none⟩ = some (.slice A303_6 ((rd_T54 l0 x6_1).f6).length c303_6) ∧ w'.cell? (ad299.add ((x6_1).toNat * 7)) = some (.int .i64 ((rd_T54 l0 x6_1).f0)) ∧ w'.cell? ⟨(ad299.add ((x6_1).toNat * 7)).block, (ad299.add ((x6_1).toNat * 7)).off + 1, none⟩ = some (.int .i64 ((rd_T54 l0 x6_1).f1)) ∧ w'.cell? ⟨(ad299.add ((x6_1).toNat * 7)).block, (ad299.add ((x6_1).toNat * 7)).off + 2, none⟩ = some (.int .i64 ((rd_T54 l0 x6_1).f2)) ∧ w'.cell? ⟨(ad299.add ((x6_1).toNat * 7)).block, (ad299.add ((x6_1).toNat * 7)).off + 3, none⟩ = some (.int .i64 ((rd_T54 l0 x6_1).f3)) ∧ w'.cell? ⟨(ad299.add ((x6_1).toNat * 7)).block, (ad299.add ((x6_1).toNat * 7)).off + 4, none⟩ = some (.slice A303_4 ((rd_T54 l0 x6_1).f4).length c303_4) ∧ w'.cell? ⟨(ad299.add ((x6_1).toNat * 7)).block, (ad299.add ((x6_1).toNat * 7)).off + 5, none⟩ = some (.slice A303_5 ((rd_T54 l0 x6_1).f5).length c303_5) ∧ w'.cell? ⟨(ad299.add ((x6_1).toNat * 7)).block, (ad299.add ((x6_1).toNat * 7)).off + 6, none⟩ = some (.slice A303_6 ((rd_T54 l0 x6_1).f6).length c303_6)) (ds := []) #[false, false, false, false, false, false, false, false, false, false, false, false, false, false, false, false, false, false] (by kernel_rfl) rfl rfl ⟨((HB.out.cell (World.block_lt_of_cell? w _ hw303_0)).trans hw303_0), ((HB.out.cell (World.block_lt_of_cell? w _ hw303_1)).trans hw303_1), ((HB.out.cell (World.block_lt_of_cell? w _ hw303_2)).trans hw303_2), ((HB.out.cell (World.block_lt_of_cell? w _ hw303_3)).trans hw303_3), ((HB.out.cell (World.block_lt_of_cell? w _ hw303_4)).trans hw303_4), ((HB.out.cell (World.block_lt_of_cell? w _ hw303_5)).trans hw303_5), ((HB.out.cell (World.block_lt_of_cell? w _ hw303_6)).trans hw303_6), ((HB.out.cell (World.block_lt_of_cell? w _ hw305_0)).trans hw305_0), ((HB.out.cell (World.block_lt_of_cell? w _ hw305_1)).trans hw305_1), ((HB.out.cell (World.block_lt_of_cell? w _ hw305_2)).trans hw305_2), ((HB.out.cell (World.block_lt_of_cell? w _ hw305_3)).trans hw305_3), ((HB.out.cell (World.block_lt_of_cell? w _ hw305_4)).trans hw305_4), ((HB.out.cell (World.block_lt_of_cell? w _ hw305_5)).trans hw305_5), ((HB.out.cell (World.block_lt_of_cell? w _ hw305_6)).trans hw305_6)⟩ (fun hHeld => ?_); refine with_tabW scarfref05_Count.tab11 scarfref05_Count.bits11 (fun HT_ HW_ => ?_); generalize wc.drew = w17 at HB HR303_4 HR303_5 HR303_6 HR305_4 HR305_5 HR305_6 hx303_0 hx303_1 hx303_2 hx303_3 hx303_4 hx303_5 hx303_6 hx305_0 hx305_1 hx305_2 hx305_3 hx305_4 hx305_5 hx305_6 hHeld ⊢; refine pure_ (i := 0) (N := some 39) (v := ?_) (a' := ?_) #[true, false, false, false, false, false, false, false, false, false, false, false, false, false, false, false, false, false] rfl rfl (any_of HT_.out (by kernel_rfl)) (fun _ _ _ h => h) (Or.inl ⟨by rfl, ?_⟩) ?_ ?_; rotate_left
            ·intro w'; go_simp
             with_reducible rfl
            rotate_left
            ·simp only [Act.put, List.setIfInBounds_toArray, List.set_cons_zero, List.set_cons_succ, i64_w, i32_w]
             rfl
            refine pure_ (i := 1) (N := some 40) (v := ?_) (a' := ?_) #[true, true, false, false, false, false, false, false, false, false, false, false, false, false, false, false, false, false] rfl rfl (any_of HT_.out (by kernel_rfl)) (fun _ _ _ h => h) (Or.inl ⟨by rfl, ?_⟩) ?_ ?_; rotate_left
            ·intro w'; go_simp
             with_reducible rfl
            rotate_left
            ·simp only [Act.put, List.setIfInBounds_toArray, List.set_cons_zero, List.set_cons_succ, i64_w, i32_w]
             rfl
            refine pure_ (i := 2) (N := some 41) (v := ?_) (a' := ?_) #[true, true, true, false, false, false, false, false, false, false, false, false, false, false, false, false, false, false] rfl rfl (any_of HT_.out (by kernel_rfl)) (fun _ _ _ h => h) (Or.inl ⟨by rfl, ?_⟩) ?_ ?_; rotate_left
            ·intro w'; go_simp
             with_reducible rfl
            rotate_left
            ·simp only [Act.put, List.setIfInBounds_toArray, List.set_cons_zero, List.set_cons_succ, i64_w, i32_w]
             rfl
            refine pure_ (i := 3) (N := some 42) (v := ?_) (a' := ?_) #[true, true, true, true, false, false, false, false, false, false, false, false, false, false, false, false, false, false] rfl rfl (any_of HT_.out (by kernel_rfl)) (fun _ _ _ h => h) (Or.inl ⟨by rfl, ?_⟩) ?_ ?_; rotate_left
            ·intro w'; go_simp
             with_reducible rfl
            rotate_left
            ·simp only [Act.put, List.setIfInBounds_toArray, List.set_cons_zero, List.set_cons_succ, i64_w, i32_w]
             rfl
            refine pure_ (i := 5) (N := some 44) (v := ?_) (a' := ?_) #[true, true, true, true, false, true, false, false, false, false, false, false, false, false, false, false, false, false] rfl rfl (any_of HT_.out (by kernel_rfl)) (fun _ _ _ h => h) (Or.inl ⟨by rfl, ?_⟩) ?_ ?_; rotate_left
            ·intro w'; go_simp
             with_reducible rfl
            rotate_left
            ·simp only [Act.put, List.setIfInBounds_toArray, List.set_cons_zero, List.set_cons_succ, i64_w, i32_w]
             rfl
            refine pure_ (i := 6) (N := some 45) (v := ?_) (a' := ?_) #[true, true, true, true, false, true, true, false, false, false, false, false, false, false, false, false, false, false] rfl rfl (any_of HT_.out (by kernel_rfl)) (fun _ _ _ h => h) (Or.inl ⟨by rfl, ?_⟩) ?_ ?_; rotate_left
            ·intro w'; go_simp
             with_reducible rfl
            rotate_left
            ·simp only [Act.put, List.setIfInBounds_toArray, List.set_cons_zero, List.set_cons_succ, i64_w, i32_w]
             rfl
            refine pure_ (i := 8) (N := some 47) (v := ?_) (a' := ?_) #[true, true, true, true, false, true, true, false, true, false, false, false, false, false, false, false, false, false] rfl rfl (any_of HT_.out (by kernel_rfl)) (fun _ _ _ h => h) (Or.inl ⟨by rfl, ?_⟩) ?_ ?_; rotate_left
            ·intro w'; go_simp
             with_reducible rfl
            rotate_left
            ·simp only [Act.put, List.setIfInBounds_toArray, List.set_cons_zero, List.set_cons_succ, i64_w, i32_w]
             rfl
            refine pure_ (i := 9) (N := some 48) (v := ?_) (a' := ?_) #[true, true, true, true, false, true, true, false, true, true, false, false, false, false, false, false, false, false] rfl rfl (any_of HT_.out (by kernel_rfl)) (fun _ _ _ h => h) (Or.inl ⟨by rfl, ?_⟩) ?_ ?_; rotate_left
            ·intro w'; go_simp
             with_reducible rfl
            rotate_left
            ·simp only [Act.put, List.setIfInBounds_toArray, List.set_cons_zero, List.set_cons_succ, i64_w, i32_w]
             rfl
            refine pure_ (i := 10) (N := some 49) (v := ?_) (a' := ?_) #[true, true, true, true, false, true, true, false, true, true, true, false, false, false, false, false, false, false] rfl rfl (any_of HT_.out (by kernel_rfl)) (fun _ _ _ h => h) (Or.inl ⟨by rfl, ?_⟩) ?_ ?_; rotate_left
            ·intro w'; go_simp
             with_reducible rfl
            rotate_left
            ·simp only [Act.put, List.setIfInBounds_toArray, List.set_cons_zero, List.set_cons_succ, i64_w, i32_w]
             rfl
            refine pure_ (i := 11) (N := some 50) (v := ?_) (a' := ?_) #[true, true, true, true, false, true, true, false, true, true, true, true, false, false, false, false, false, false] rfl rfl (any_of HT_.out (by kernel_rfl)) (fun _ _ _ h => h) (Or.inl ⟨by rfl, ?_⟩) ?_ ?_; rotate_left
            ·intro w'; go_simp
             with_reducible rfl
            rotate_left
            ·simp only [Act.put, List.setIfInBounds_toArray, List.set_cons_zero, List.set_cons_succ, i64_w, i32_w]
             rfl
            refine pure_ (i := 13) (N := some 52) (v := ?_) (a' := ?_) #[true, true, true, true, false, true, true, false, true, true, true, true, false, true, false, false, false, false] rfl rfl (any_of HT_.out (by kernel_rfl)) (fun _ _ _ h => h) (Or.inl ⟨by rfl, ?_⟩) ?_ ?_; rotate_left
            ·intro w'; go_simp
             with_reducible rfl
            rotate_left
            ·simp only [Act.put, List.setIfInBounds_toArray, List.set_cons_zero, List.set_cons_succ, i64_w, i32_w]
             rfl
            refine pure_ (i := 14) (N := some 53) (v := ?_) (a' := ?_) #[true, true, true, true, false, true, true, false, true, true, true, true, false, true, true, false, false, false] rfl rfl (any_of HT_.out (by kernel_rfl)) (fun _ _ _ h => h) (Or.inl ⟨by rfl, ?_⟩) ?_ ?_; rotate_left
            ·intro w'; go_simp
             with_reducible rfl
            rotate_left
            ·simp only [Act.put, List.setIfInBounds_toArray, List.set_cons_zero, List.set_cons_succ, i64_w, i32_w]
             rfl
            refine take_ (i := 4) (N := some 43) (v := ?_) (a' := ?_) #[true, true, true, true, true, true, true, false, true, true, true, true, false, true, true, false, false, false] rfl rfl (take_ofW HT_.out HW_.out (by kernel_rfl)) (fun _ _ _ h => h) (Or.inl ⟨by rfl, ?_⟩) hHeld ?_ ?_; rotate_left
            ·rintro w' ⟨s0, s1, s2, s3, s4, s5, s6, s7, s8, s9, s10, s11, s12, s13⟩; go_simp
             with_reducible rfl
            rotate_left
            ·simp only [Act.put, List.setIfInBounds_toArray, List.set_cons_zero, List.set_cons_succ, i64_w, i32_w]
             rfl
            refine take_ (i := 12) (N := some 51) (v := ?_) (a' := ?_) #[true, true, true, true, true, true, true, false, true, true, true, true, true, true, true, false, false, false] rfl rfl (take_ofW HT_.out HW_.out (by kernel_rfl)) (fun _ _ _ h => h) (Or.inl ⟨by rfl, ?_⟩) hHeld ?_ ?_; rotate_left
            ·rintro w' ⟨s0, s1, s2, s3, s4, s5, s6, s7, s8, s9, s10, s11, s12, s13⟩; go_simp
             with_reducible rfl
            rotate_left
            ·simp only [Act.put, List.setIfInBounds_toArray, List.set_cons_zero, List.set_cons_succ, i64_w, i32_w]
             rfl
            refine one_ (i := 7) (N := some 46) #[true, true, true, true, true, true, true, true, true, true, true, true, true, true, true, false, false, false] rfl rfl (one_of HT_.out (by kernel_rfl)) (by decide) (fun K hK => ?_); refine goes_ Try.func18 (by kernel_rfl) rfl #[.slice A303_5 ((rd_T54 l0 x6_1).f5).length c303_5, .int .i64 (wrap64 (a1 + 1))] (by rfl) rfl rfl (by (try simp only [List.map_toArray, List.map_cons, List.map_nil]); first | done | rfl | (simp only [List.length_drop, List.length_take]; rfl)) ?_
            with_reducible refine (ih kj6 (by have := HK1.out; have := HJ6.out; omega) _ _ ((rd_T54 l0 x6_1).f5) (wrap64 (a1 + 1)) t304 _ ?side1 ?side2 A14.out).mono ?_
            (case side1 => repeat (first | exact (Kd.C_below HR303_5.out HB.out) | (with_reducible refine Kd.C_alloc ?_ _) | (with_reducible refine Kd.C_drewN ?_ _) | (with_reducible refine Kd.C_drew ?_))); (case side2 => exact HC303_5.out); rintro e w18 ⟨rfl, hb⟩; refine ⟨_, rfl, ?_⟩; have n0_ := Aside0.mk (below_step (by repeat (first | (with_reducible first | exact HB.out | apply below_alloc | apply pw_below_drewN | apply below_drew1) | exact HB.out)) hb); clear HB; have HB := n0_; clear n0_; (try clear hb); (try clear hb2); (try clear hk); (try clear hi); refine hK.out _ _ ⟨((HB.out.cell (World.block_lt_of_cell? w _ hw303_0)).trans hw303_0), ((HB.out.cell (World.block_lt_of_cell? w _ hw303_1)).trans hw303_1), ((HB.out.cell (World.block_lt_of_cell? w _ hw303_2)).trans hw303_2), ((HB.out.cell (World.block_lt_of_cell? w _ hw303_3)).trans hw303_3), ((HB.out.cell (World.block_lt_of_cell? w _ hw303_4)).trans hw303_4), ((HB.out.cell (World.block_lt_of_cell? w _ hw303_5)).trans hw303_5), ((HB.out.cell (World.block_lt_of_cell? w _ hw303_6)).trans hw303_6), ((HB.out.cell (World.block_lt_of_cell? w _ hw305_0)).trans hw305_0), ((HB.out.cell (World.block_lt_of_cell? w _ hw305_1)).trans hw305_1), ((HB.out.cell (World.block_lt_of_cell? w _ hw305_2)).trans hw305_2), ((HB.out.cell (World.block_lt_of_cell? w _ hw305_3)).trans hw305_3), ((HB.out.cell (World.block_lt_of_cell? w _ hw305_4)).trans hw305_4), ((HB.out.cell (World.block_lt_of_cell? w _ hw305_5)).trans hw305_5), ((HB.out.cell (World.block_lt_of_cell? w _ hw305_6)).trans hw305_6)⟩ (fun hHeld => ?_); clear hK K; refine norm_ (a' := ?_) ?_ ?_; rotate_left
            ·show Act.put _ (some 46) _ = _; simp only [Act.put, List.setIfInBounds_toArray, List.set_cons_zero, List.set_cons_succ, i64_w, i32_w]
             rfl
            refine one_ (i := 15) (N := some 54) #[true, true, true, true, true, true, true, true, true, true, true, true, true, true, true, true, false, false] rfl rfl (one_of HT_.out (by kernel_rfl)) (by decide) (fun K hK => ?_); refine goes_ Try.func18 (by kernel_rfl) rfl #[.slice A303_6 ((rd_T54 l0 x6_1).f6).length c303_6, .int .i64 (wrap64 (a1 + 1))] (by rfl) rfl rfl (by (try simp only [List.map_toArray, List.map_cons, List.map_nil]); first | done | rfl | (simp only [List.length_drop, List.length_take]; rfl)) ?_
            with_reducible refine (ih kj6 (by have := HK1.out; have := HJ6.out; omega) _ _ ((rd_T54 l0 x6_1).f6) (wrap64 (a1 + 1)) t306 _ ?side1 ?side2 A15.out).mono ?_
            (case side1 => repeat (first | exact (Kd.C_below HR305_6.out HB.out) | (with_reducible refine Kd.C_alloc ?_ _) | (with_reducible refine Kd.C_drewN ?_ _) | (with_reducible refine Kd.C_drew ?_))); (case side2 => exact HC305_6.out); rintro e w19 ⟨rfl, hb⟩; refine ⟨_, rfl, ?_⟩; have n0_ := Aside0.mk (below_step (by repeat (first | (with_reducible first | exact HB.out | apply below_alloc | apply pw_below_drewN | apply below_drew1) | exact HB.out)) hb); clear HB; have HB := n0_; clear n0_; (try clear hb); (try clear hb2); (try clear hk); (try clear hi); refine hK.out _ _ ⟨((HB.out.cell (World.block_lt_of_cell? w _ hw303_0)).trans hw303_0), ((HB.out.cell (World.block_lt_of_cell? w _ hw303_1)).trans hw303_1), ((HB.out.cell (World.block_lt_of_cell? w _ hw303_2)).trans hw303_2), ((HB.out.cell (World.block_lt_of_cell? w _ hw303_3)).trans hw303_3), ((HB.out.cell (World.block_lt_of_cell? w _ hw303_4)).trans hw303_4), ((HB.out.cell (World.block_lt_of_cell? w _ hw303_5)).trans hw303_5), ((HB.out.cell (World.block_lt_of_cell? w _ hw303_6)).trans hw303_6), ((HB.out.cell (World.block_lt_of_cell? w _ hw305_0)).trans hw305_0), ((HB.out.cell (World.block_lt_of_cell? w _ hw305_1)).trans hw305_1), ((HB.out.cell (World.block_lt_of_cell? w _ hw305_2)).trans hw305_2), ((HB.out.cell (World.block_lt_of_cell? w _ hw305_3)).trans hw305_3), ((HB.out.cell (World.block_lt_of_cell? w _ hw305_4)).trans hw305_4), ((HB.out.cell (World.block_lt_of_cell? w _ hw305_5)).trans hw305_5), ((HB.out.cell (World.block_lt_of_cell? w _ hw305_6)).trans hw305_6)⟩ (fun hHeld => ?_); clear hK K; refine norm_ (a' := ?_) ?_ ?_; rotate_left
            ·show Act.put _ (some 54) _ = _; simp only [Act.put, List.setIfInBounds_toArray, List.set_cons_zero, List.set_cons_succ, i64_w, i32_w]
             rfl
            refine pure_ (i := 16) (N := some 7) (v := ?_) (a' := ?_) #[true, true, true, true, true, true, true, true, true, true, true, true, true, true, true, true, true, false] rfl rfl (any_of HT_.out (by kernel_rfl)) (fun _ _ _ h => h) (Or.inl ⟨by rfl, ?_⟩) ?_ ?_; rotate_left
            ·intro w'; go_simp
             with_reducible rfl
            rotate_left
            ·simp only [Act.put, List.setIfInBounds_toArray, List.set_cons_zero, List.set_cons_succ, i64_w, i32_w]
             rfl
            refine pure_ (i := 17) (N := some 8) (v := ?_) (a' := ?_) #[true, true, true, true, true, true, true, true, true, true, true, true, true, true, true, true, true, true] rfl rfl (any_of HT_.out (by kernel_rfl)) (fun _ _ _ h => h) (Or.inl ⟨by rfl, ?_⟩) ?_ ?_; rotate_left
            ·intro w'; go_simp
             with_reducible rfl
            rotate_left
            ·simp only [Act.put, List.setIfInBounds_toArray, List.set_cons_zero, List.set_cons_succ, i64_w, i32_w]
             rfl
            refine done_ (done_of HT_.out (by kernel_rfl)) ?_; go_upto_region 12 with (fail)
            go_cut [60] (fun v60 wc => ∃ (kq : Nat) (x60_15 : Bool), v60 = .bool x60_15 ∧ Aside0 (scarfref05_Count.j2 kq l0 a1 (wrap64 (x5_1 + 1)) x6_1 t304 t306 x60_15 = some r) ∧ Aside0 (kq ≤ kj6) ∧ Aside0 (Below w.heap.size w wc))
            case first =>
             have H := HC16.out; clear HC16; by_cases c20 : t304 < 0
             ·rw [if_pos c20] at H; have c20b0 : decide (t304 < 0) = true := decide_eq_true c20; clear c20; (first | rw [c20b0] | (simp only [i64_w, i32_w]; rw [c20b0]) | skip); have H' := Aside0.mk H; clear H; go_wp2; go_meet; case rel => exact ⟨_, (true), (by first | rfl | (simp; done) | (simp [*]; done)), H', ⟨by have := HK1.out; have := HJ6.out; first | omega | exact Nat.le_refl _⟩, ⟨by repeat (first | (with_reducible first | exact HB.out | apply below_alloc | apply pw_below_drewN | apply below_drew1) | exact HB.out)⟩⟩
             ·rw [if_neg c20] at H; have c20b0 : decide (t304 < 0) = false := decide_eq_false c20; clear c20; (first | rw [c20b0] | (simp only [i64_w, i32_w]; rw [c20b0]) | skip); have H' := Aside0.mk H; clear H; go_wp2; go_meet; case rel => exact ⟨_, (decide (t306 < 0)), (by first | rfl | (simp; done) | (simp [*]; done)), H', ⟨by have := HK1.out; have := HJ6.out; first | omega | exact Nat.le_refl _⟩, ⟨by repeat (first | (with_reducible first | exact HB.out | apply below_alloc | apply pw_below_drewN | apply below_drew1) | exact HB.out)⟩⟩
            case rest =>
             clear HC16; (try clear c1); (try clear c2); (try clear p2 p2); (try clear q2 q2); (try clear hx2); (try clear c3 c3b0); (try clear p3 p3); (try clear q3 q3); (try clear hx3); (try clear c4 c4b0); (try clear c6); (try clear p6 p6); (try clear c9 c9b0); (try clear c10); (try clear c11 c11b0 c11b1); (try clear c12 c12b0); (try clear c13 c13b0); (try clear c18); (try clear c20 c20b0); (try clear hx299_0); (try clear hx299_1); (try clear hx299_2); (try clear hx299_3); (try clear hx299_4); (try clear hx299_5); (try clear hx299_6); (try clear hx301_0); (try clear hx301_1); (try clear hx301_2); (try clear hx301_3); (try clear hx301_4); (try clear hx301_5); (try clear hx301_6); (try clear hx302_0); (try clear hx302_1); (try clear hx302_2); (try clear hx302_3); (try clear hx302_4); (try clear hx302_5); (try clear hx302_6); (try clear hx303_0); (try clear hx303_1); (try clear hx303_2); (try clear hx303_3); (try clear hx303_4); (try clear hx303_5); (try clear hx303_6); (try clear hx305_0); (try clear hx305_1); (try clear hx305_2); (try clear hx305_3); (try clear hx305_4); (try clear hx305_5); (try clear hx305_6); (try clear p299); (try clear p301); (try clear p302); (try clear p303); (try clear p305); (try clear q299); (try clear q301); (try clear q302); (try clear q303); (try clear q305); obtain ⟨kq, x60_15, rfl, HA, HJ15, HB⟩ := hcut; cases kq with
             | zero => exact absurd HA.out (by simp [scarfref05_Count.j2])
             | succ kj15 =>
              have H := HA.out; clear HA; simp only [scarfref05_Count.j2] at H; by_cases c21 : x60_15 = true
              ·subst c21; have H1 : (some (-1)) = some r := by rw [if_pos rfl] at H; exact H
               clear H; have H := H1; clear H1; obtain rfl := Option.some.inj H; go_wp2
               go_ret
               exact ⟨by first | rfl | (simp [errW_none, errW_some] <;> rfl) | (simp [*, errW_none, errW_some] <;> rfl), by repeat (first | (with_reducible first | exact HB.out | apply below_alloc | apply pw_below_drewN | apply below_drew1) | exact HB.out)⟩
              ·replace c21 := Bool.eq_false_iff.mpr c21; subst c21; have H1 : (if (wrap64 ((wrap64 ((wrap64 (x5_1 + 1)) + t304)) + t306)) > 8192 then (some (-1)) else (scarfref05_Count.l0 kj15 l0 a1 (wrap64 ((wrap64 ((wrap64 (x5_1 + 1)) + t304)) + t306)) (wrap64 (x6_1 + 1)))) = some r := by rw [if_neg (show ¬ (false = true) by decide)] at H; exact H
               clear H; have H := H1; clear H1; by_cases c22 : (wrap64 ((wrap64 ((wrap64 (x5_1 + 1)) + t304)) + t306)) > 8192
               ·rw [if_pos c22] at H; have c22b0 : decide (8192 < (wrap64 ((wrap64 ((wrap64 (x5_1 + 1)) + t304)) + t306))) = true := decide_eq_true c22; clear c22; obtain rfl := Option.some.inj H; go_wp2
                go_ret
                exact ⟨by first | rfl | (simp [errW_none, errW_some] <;> rfl) | (simp [*, errW_none, errW_some] <;> rfl), by repeat (first | (with_reducible first | exact HB.out | apply below_alloc | apply pw_below_drewN | apply below_drew1) | exact HB.out)⟩
               ·rw [if_neg c22] at H; have c22b0 : decide (8192 < (wrap64 ((wrap64 ((wrap64 (x5_1 + 1)) + t304)) + t306))) = false := decide_eq_false c22; clear c22; have H' := Aside0.mk H; clear H; go_wp2
                go_roundg kj15
                case measure => have := HK1.out; have := HJ6.out; have := HJ15.out; omega
                case rel => exact ⟨(wrap64 ((wrap64 ((wrap64 (x5_1 + 1)) + t304)) + t306)), (wrap64 (x6_1 + 1)), (by first | rfl | (simp; done) | (simp [*]; done)), (by first | rfl | (simp; done) | (simp [*]; done)), H', ⟨by have := HK1.out; have := HJ6.out; have := HJ15.out; omega⟩, ⟨by repeat (first | (with_reducible first | exact HB.out | apply below_alloc | apply pw_below_drewN | apply below_drew1) | exact HB.out)⟩⟩
           ·rw [if_neg c13] at H; exact absurd H (by simp)
          ·rw [if_neg c12] at H; exact absurd H (by simp)
        ·replace c10 := Bool.eq_false_iff.mpr c10; subst c10; have H1 : (if (wrap64 (x5_1 + 1)) > 8192 then (some (-1)) else (scarfref05_Count.l0 kj6 l0 a1 (wrap64 (x5_1 + 1)) (wrap64 (x6_1 + 1)))) = some r := by rw [if_neg (show ¬ (false = true) by decide)] at H; exact H
         clear H; have H := H1; clear H1; by_cases c23 : (wrap64 (x5_1 + 1)) > 8192
         ·rw [if_pos c23] at H; have c23b0 : decide (8192 < (wrap64 (x5_1 + 1))) = true := decide_eq_true c23; clear c23; obtain rfl := Option.some.inj H; go_wp2
          go_ret
          exact ⟨by first | rfl | (simp [errW_none, errW_some] <;> rfl) | (simp [*, errW_none, errW_some] <;> rfl), by repeat (first | (with_reducible first | exact HB.out | apply below_alloc | apply pw_below_drewN | apply below_drew1) | exact HB.out)⟩
         ·rw [if_neg c23] at H; have c23b0 : decide (8192 < (wrap64 (x5_1 + 1))) = false := decide_eq_false c23; clear c23; have H' := Aside0.mk H; clear H; go_wp2
          go_roundg kj6
          case measure => have := HK1.out; have := HJ6.out; omega
          case rel => exact ⟨((wrap64 (x5_1 + 1))), (wrap64 (x6_1 + 1)), (by first | rfl | (simp; done) | (simp [*]; done)), (by first | rfl | (simp; done) | (simp [*]; done)), H', ⟨by have := HK1.out; have := HJ6.out; omega⟩, ⟨by repeat (first | (with_reducible first | exact HB.out | apply below_alloc | apply pw_below_drewN | apply below_drew1) | exact HB.out)⟩⟩
     ·replace c6 := Bool.eq_false_iff.mpr c6; subst c6; have H1 : (some (-1)) = some r := by rw [if_neg (show ¬ (false = true) by decide)] at H; exact H
      clear H; have H := H1; clear H1; obtain rfl := Option.some.inj H; have p299 : 0 ≤ (x6_1 : Int) := of_decide_eq_true (by first | (with_reducible assumption) | assumption); have q299 : x6_1 < (l0.length : Int) := of_decide_eq_true (by first | (with_reducible assumption) | assumption); obtain ⟨ad299, A299_4, c299_4, A299_5, c299_5, A299_6, c299_6, e299, hx299_0, hx299_1, hx299_2, hx299_3, hx299_4, hx299_5, hx299_6, hl299_4, hi299_4, hl299_5, hi299_5, hl299_6, hi299_6⟩ := at_T54 HR0.out x6_1 p299 q299; cases e299; replace hx299_0 := (HB.out.cell (World.block_lt_of_cell? w _ hx299_0)).trans hx299_0; replace hx299_1 := (HB.out.cell (World.block_lt_of_cell? w _ hx299_1)).trans hx299_1; replace hx299_2 := (HB.out.cell (World.block_lt_of_cell? w _ hx299_2)).trans hx299_2; replace hx299_3 := (HB.out.cell (World.block_lt_of_cell? w _ hx299_3)).trans hx299_3; replace hx299_4 := (HB.out.cell (World.block_lt_of_cell? w _ hx299_4)).trans hx299_4; replace hx299_5 := (HB.out.cell (World.block_lt_of_cell? w _ hx299_5)).trans hx299_5; replace hx299_6 := (HB.out.cell (World.block_lt_of_cell? w _ hx299_6)).trans hx299_6; have HR299_4 := Aside0.mk hi299_4; have HC299_4 := Aside0.mk hl299_4; clear hi299_4 hl299_4; have HR299_5 := Aside0.mk hi299_5; have HC299_5 := Aside0.mk hl299_5; clear hi299_5 hl299_5; have HR299_6 := Aside0.mk hi299_6; have HC299_6 := Aside0.mk hl299_6; clear hi299_6 hl299_6; replace p299 := eq_true p299; replace q299 := eq_true q299; go_wp2_with (first | ((with_reducible refine gate_callee (f := 34) rfl ?_); refine goesL_ (some 19) rfl rfl Try.func34 (by kernel_rfl) rfl #[.agg #[.int .i64 ((rd_T54 l0 x6_1).f0), .int .i64 ((rd_T54 l0 x6_1).f1), .int .i64 ((rd_T54 l0 x6_1).f2), .int .i64 ((rd_T54 l0 x6_1).f3), .slice A299_4 ((rd_T54 l0 x6_1).f4).length c299_4, .slice A299_5 ((rd_T54 l0 x6_1).f5).length c299_5, .slice A299_6 ((rd_T54 l0 x6_1).f6).length c299_6]] rfl (by (try simp only [List.map_toArray, List.map_cons, List.map_nil]); first | done | rfl | (simp only [List.length_drop, List.length_take]; rfl)) ?_; (with_reducible refine (scarfref05_May.calls k1 ((rd_T54 l0 x6_1).f0) ((rd_T54 l0 x6_1).f1) ((rd_T54 l0 x6_1).f2) ((rd_T54 l0 x6_1).f3) _ _ ((rd_T54 l0 x6_1).f4) _ _ ((rd_T54 l0 x6_1).f5) _ _ ((rd_T54 l0 x6_1).f6) false _ ?side1 ?side2 ?side3 ?side4 ?side5 ?side6 A5.out).mono ?_); (case side1 => repeat (first | exact (Kd.C_below HR299_4.out HB.out) | (with_reducible refine Kd.C_alloc ?_ _) | (with_reducible refine Kd.C_drewN ?_ _) | (with_reducible refine Kd.C_drew ?_))); (case side2 => exact HC299_4.out); (case side3 => repeat (first | exact (Kd.C_below HR299_5.out HB.out) | (with_reducible refine Kd.C_alloc ?_ _) | (with_reducible refine Kd.C_drewN ?_ _) | (with_reducible refine Kd.C_drew ?_))); (case side4 => exact HC299_5.out); (case side5 => repeat (first | exact (Kd.C_below HR299_6.out HB.out) | (with_reducible refine Kd.C_alloc ?_ _) | (with_reducible refine Kd.C_drewN ?_ _) | (with_reducible refine Kd.C_drew ?_))); (case side6 => exact HC299_6.out); rintro e w24 ⟨rfl, hb⟩; refine ⟨_, rfl, ?_⟩; have n0_ := Aside0.mk (below_step (by repeat (first | (with_reducible first | exact HB.out | apply below_alloc | apply pw_below_drewN | apply below_drew1) | exact HB.out)) hb); clear HB; have HB := n0_; clear n0_; (try clear hb); (try clear hb2); (try clear hk); (try clear hi)))
      go_ret
      exact ⟨by first | rfl | (simp [errW_none, errW_some] <;> rfl) | (simp [*, errW_none, errW_some] <;> rfl), by repeat (first | (with_reducible first | exact HB.out | apply below_alloc | apply pw_below_drewN | apply below_drew1) | exact HB.out)⟩
    ·rw [if_neg c4] at H; exact absurd H (by simp)
   ·rw [if_neg c3] at H; have c3b0 : decide (x6_1 < (l0.length : Int)) = false := decide_eq_false c3; clear c3; obtain rfl := Option.some.inj H; go_wp2
    go_ret
    exact ⟨by first | rfl | (simp [errW_none, errW_some] <;> rfl) | (simp [*, errW_none, errW_some] <;> rfl), by repeat (first | (with_reducible first | exact HB.out | apply below_alloc | apply pw_below_drewN | apply below_drew1) | exact HB.out)⟩
def scarfref05_byte1.f (a0 : Int) : Option (ByteArray) := some (strOfNums (([(a0) % 256] : List Int)))
set_option maxHeartbeats 8000000 in
set_option maxRecDepth 100000 in
theorem scarfref05_byte1.calls (a0 : Int) (r : ByteArray) (w : World) (h : scarfref05_byte1.f a0 = some r) :
 Calls Try.prog 32 #[.int .i64 a0] w fun e w' => e = .returned (.string r) ∧ Below w.heap.size w w' := by
 have HB := Aside0.mk (Below.refl w.heap.size w); have H : (some (strOfNums (([(a0) % 256] : List Int)))) = some r := h; clear h; obtain ⟨y307, hy307⟩ : ∃ y_ : List Int, y_ = (([(a0) % 256] : List Int)) := ⟨_, rfl⟩
 replace H : (some (strOfNums y307)) = some r := by first | (rw [hy307]; with_reducible exact H) | (have H2_ := (Option.bind_some _ _).symm.trans H; rw [hy307]; with_reducible exact H2_) | (have H2_ := (Option.bind_some _ _).symm.trans H; with_reducible exact H2_) | with_reducible exact H | (rw [hy307]; exact H) | exact H
 have Ny307 := Aside0.mk hy307; clear hy307; obtain rfl := Option.some.inj H; go_enter Try.func32, Try.ntmps32; go_wp2_with (first | ((with_reducible refine gate_dst (N := 5) rfl ?_); refine Kd.R_lit (Kd.int .u8) _ 5 ?hg (N := 5) ?hd (xs := ([(a0) % 256] : List Int)) (inner := [.int .u8 ((a0) % 256)]) (ok := fun _ => True) (okp := fun _ => True) ?hr ?hp (fun _ hk => hk) trivial (Below.refl _ _) (Nat.le_refl _) (by simp) ?_; (case hd => rfl); (case hg => rfl); (case hr => first | (go_simp; done) | (go_simp; rfl)); (case hp => exact (Reps.one (show Kd.M (Kd.int .u8) _ _ _ ((a0) % 256) [.int .u8 ((a0) % 256)] from rfl) (Reps.none _ _))); intro v308 w2 ho3 hb hg_ hnew_; clear hg_ hnew_; (first | rw [← Ny307.out] at ho3 | (simp only [Int.reduceToNat] at ho3; rw [← Ny307.out] at ho3)); have n0_ := Aside0.mk (Kd.R_lower ho3 (below_size (by repeat (first | (with_reducible first | exact HB.out | apply below_alloc | apply pw_below_drewN | apply below_drew1) | exact HB.out)))); have n1_ := Aside0.mk (below_step (by repeat (first | (with_reducible first | exact HB.out | apply below_alloc | apply pw_below_drewN | apply below_drew1) | exact HB.out)) hb); clear HB; have HO309 := n0_; have HB := n1_; clear n0_ n1_; clear hb ho3; have hcv4 := own_string (P := Try.prog) Try.underlying43 Try.underlying5 Try.underlying9 (Kd.own_of_R HO309.out)))
 go_ret
 exact ⟨by first | rfl | (simp [errW_none, errW_some] <;> rfl) | (simp [*, errW_none, errW_some] <;> rfl), by repeat (first | (with_reducible first | exact HB.out | apply below_alloc | apply pw_below_drewN | apply below_drew1) | exact HB.out)⟩
def scarfref01_one.f (a0 : Int) : Option (ByteArray) := some (strOfNums (([(a0) % 256] : List Int)))
set_option maxHeartbeats 8000000 in
set_option maxRecDepth 100000 in
theorem scarfref01_one.calls (a0 : Int) (r : ByteArray) (w : World) (h : scarfref01_one.f a0 = some r) :
 Calls Try.prog 62 #[.int .i64 a0] w fun e w' => e = .returned (.string r) ∧ Below w.heap.size w w' := by
 have HB := Aside0.mk (Below.refl w.heap.size w); have H : (some (strOfNums (([(a0) % 256] : List Int)))) = some r := h; clear h; obtain ⟨y310, hy310⟩ : ∃ y_ : List Int, y_ = (([(a0) % 256] : List Int)) := ⟨_, rfl⟩
 replace H : (some (strOfNums y310)) = some r := by first | (rw [hy310]; with_reducible exact H) | (have H2_ := (Option.bind_some _ _).symm.trans H; rw [hy310]; with_reducible exact H2_) | (have H2_ := (Option.bind_some _ _).symm.trans H; with_reducible exact H2_) | with_reducible exact H | (rw [hy310]; exact H) | exact H
 have Ny310 := Aside0.mk hy310; clear hy310; obtain rfl := Option.some.inj H; go_enter Try.func62, Try.ntmps62; go_wp2_with (first | ((with_reducible refine gate_dst (N := 5) rfl ?_); refine Kd.R_lit (Kd.int .u8) _ 5 ?hg (N := 5) ?hd (xs := ([(a0) % 256] : List Int)) (inner := [.int .u8 ((a0) % 256)]) (ok := fun _ => True) (okp := fun _ => True) ?hr ?hp (fun _ hk => hk) trivial (Below.refl _ _) (Nat.le_refl _) (by simp) ?_; (case hd => rfl); (case hg => rfl); (case hr => first | (go_simp; done) | (go_simp; rfl)); (case hp => exact (Reps.one (show Kd.M (Kd.int .u8) _ _ _ ((a0) % 256) [.int .u8 ((a0) % 256)] from rfl) (Reps.none _ _))); intro v311 w2 ho3 hb hg_ hnew_; clear hg_ hnew_; (first | rw [← Ny310.out] at ho3 | (simp only [Int.reduceToNat] at ho3; rw [← Ny310.out] at ho3)); have n0_ := Aside0.mk (Kd.R_lower ho3 (below_size (by repeat (first | (with_reducible first | exact HB.out | apply below_alloc | apply pw_below_drewN | apply below_drew1) | exact HB.out)))); have n1_ := Aside0.mk (below_step (by repeat (first | (with_reducible first | exact HB.out | apply below_alloc | apply pw_below_drewN | apply below_drew1) | exact HB.out)) hb); clear HB; have HO312 := n0_; have HB := n1_; clear n0_ n1_; clear hb ho3; have hcv4 := own_string (P := Try.prog) Try.underlying43 Try.underlying5 Try.underlying9 (Kd.own_of_R HO312.out)))
 go_ret
 exact ⟨by first | rfl | (simp [errW_none, errW_some] <;> rfl) | (simp [*, errW_none, errW_some] <;> rfl), by repeat (first | (with_reducible first | exact HB.out | apply below_alloc | apply pw_below_drewN | apply below_drew1) | exact HB.out)⟩
def scarfref01_PutU.f : Nat → Int → Option (ByteArray)
 | 0, _ => none
 | k + 1, a0 => if a0 < 0 then (some (⟨#[]⟩ : ByteArray)) else (if a0 < 128 then ((scarfref01_one.f a0).bind fun t313 => (some t313)) else ((scarfref01_one.f (wrap64 (128 + (Int.tmod a0 128)))).bind fun t314 => ((scarfref01_PutU.f k (wrap64 (Int.tdiv a0 128))).bind fun t315 => (if t314.size + t315.size ≤ 9223372036854775807 then (some (t314 ++ t315)) else (none)))))
set_option maxHeartbeats 8000000 in
set_option maxRecDepth 100000 in
theorem scarfref01_PutU.calls (k : Nat) : ∀ (a0 : Int) (r : ByteArray) (w : World) (h : scarfref01_PutU.f k a0 = some r),
 Calls Try.prog 52 #[.int .i64 a0] w fun e w' => e = .returned (.string r) ∧ Below w.heap.size w w' := by
 induction k using Nat.strongRecOn with
 | _ k ih =>
 intro a0 r w h; cases k with
 | zero => exact absurd h (by simp [scarfref01_PutU.f])
 | succ k =>
 simp only [scarfref01_PutU.f] at h; have HB := Aside0.mk (Below.refl w.heap.size w); have H : (if a0 < 0 then (some (⟨#[]⟩ : ByteArray)) else (if a0 < 128 then ((scarfref01_one.f a0).bind fun t313 => (some t313)) else ((scarfref01_one.f (wrap64 (128 + (Int.tmod a0 128)))).bind fun t314 => ((scarfref01_PutU.f k (wrap64 (Int.tdiv a0 128))).bind fun t315 => (if t314.size + t315.size ≤ 9223372036854775807 then (some (t314 ++ t315)) else (none)))))) = some r := h; clear h; by_cases c2 : a0 < 0
 ·rw [if_pos c2] at H; have c2b0 : decide (a0 < 0) = true := decide_eq_true c2; clear c2; obtain rfl := Option.some.inj H; go_enter Try.func52, Try.ntmps52; go_wp2
  go_ret
  exact ⟨by first | rfl | (simp [errW_none, errW_some] <;> rfl) | (simp [*, errW_none, errW_some] <;> rfl), by repeat (first | (with_reducible first | exact HB.out | apply below_alloc | apply pw_below_drewN | apply below_drew1) | exact HB.out)⟩
 ·rw [if_neg c2] at H; have c2b0 : decide (a0 < 0) = false := decide_eq_false c2; clear c2; by_cases c3 : a0 < 128
  ·rw [if_pos c3] at H; have c3b0 : decide (a0 < 128) = true := decide_eq_true c3; clear c3; replace H := Option.bind_eq_some_iff.mp H; obtain ⟨t313, A40, H⟩ := H; replace H : (some t313) = some r := H; have A4 := Aside0.mk A40; clear A40; obtain rfl := Option.some.inj H; go_enter Try.func52, Try.ntmps52; go_wp2_with (first | ((with_reducible refine gate_callee (f := 62) rfl ?_); refine goesL_ (some 8) rfl rfl Try.func62 (by kernel_rfl) rfl #[.int .i64 a0] rfl (by (try simp only [List.map_toArray, List.map_cons, List.map_nil]); first | done | rfl | (simp only [List.length_drop, List.length_take]; rfl)) ?_; (with_reducible refine (scarfref01_one.calls a0 t313 _ A4.out).mono ?_); rintro e w5 ⟨rfl, hb⟩; refine ⟨_, rfl, ?_⟩; have n0_ := Aside0.mk (below_step (by repeat (first | (with_reducible first | exact HB.out | apply below_alloc | apply pw_below_drewN | apply below_drew1) | exact HB.out)) hb); clear HB; have HB := n0_; clear n0_; (try clear hb); (try clear hb2); (try clear hk); (try clear hi)))
   go_ret
   exact ⟨by first | rfl | (simp [errW_none, errW_some] <;> rfl) | (simp [*, errW_none, errW_some] <;> rfl), by repeat (first | (with_reducible first | exact HB.out | apply below_alloc | apply pw_below_drewN | apply below_drew1) | exact HB.out)⟩
  ·rw [if_neg c3] at H; have c3b0 : decide (a0 < 128) = false := decide_eq_false c3; clear c3; replace H := Option.bind_eq_some_iff.mp H; obtain ⟨t314, A60, H⟩ := H; replace H : ((scarfref01_PutU.f k (wrap64 (Int.tdiv a0 128))).bind fun t315 => (if t314.size + t315.size ≤ 9223372036854775807 then (some (t314 ++ t315)) else (none))) = some r := H; have A6 := Aside0.mk A60; clear A60; replace H := Option.bind_eq_some_iff.mp H; obtain ⟨t315, A70, H⟩ := H; replace H : (if t314.size + t315.size ≤ 9223372036854775807 then (some (t314 ++ t315)) else (none)) = some r := H; have A7 := Aside0.mk A70; clear A70; by_cases c8 : t314.size + t315.size ≤ 9223372036854775807
   ·rw [if_pos c8] at H; have c8b0 := eq_true c8; have c8b1 : decide (t314.size + t315.size ≤ 9223372036854775807) = true := decide_eq_true c8; try have c8b2 : (9223372036854775807 < t314.size + t315.size) = False := eq_false (Nat.not_lt.2 c8)
    obtain rfl := Option.some.inj H; go_enter Try.func52, Try.ntmps52; go_wp2_with (first | ((with_reducible refine gate_callee (f := 62) rfl ?_); refine goesL_ (some 12) rfl rfl Try.func62 (by kernel_rfl) rfl #[.int .i64 (wrap64 (128 + (Int.tmod a0 128)))] rfl (by (try simp only [List.map_toArray, List.map_cons, List.map_nil]); first | done | rfl | (simp only [List.length_drop, List.length_take]; rfl)) ?_; (with_reducible refine (scarfref01_one.calls (wrap64 (128 + (Int.tmod a0 128))) t314 _ A6.out).mono ?_); rintro e w9 ⟨rfl, hb⟩; refine ⟨_, rfl, ?_⟩; have n0_ := Aside0.mk (below_step (by repeat (first | (with_reducible first | exact HB.out | apply below_alloc | apply pw_below_drewN | apply below_drew1) | exact HB.out)) hb); clear HB; have HB := n0_; clear n0_; (try clear hb); (try clear hb2); (try clear hk); (try clear hi)) | ((with_reducible refine gate_callee (f := 52) rfl ?_); refine goesL_ (some 15) rfl rfl Try.func52 (by kernel_rfl) rfl #[.int .i64 (wrap64 (Int.tdiv a0 128))] rfl (by (try simp only [List.map_toArray, List.map_cons, List.map_nil]); first | done | rfl | (simp only [List.length_drop, List.length_take]; rfl)) ?_; (with_reducible refine (ih k (by omega) (wrap64 (Int.tdiv a0 128)) t315 _ A7.out).mono ?_); rintro e w10 ⟨rfl, hb⟩; refine ⟨_, rfl, ?_⟩; have n0_ := Aside0.mk (below_step (by repeat (first | (with_reducible first | exact HB.out | apply below_alloc | apply pw_below_drewN | apply below_drew1) | exact HB.out)) hb); clear HB; have HB := n0_; clear n0_; (try clear hb); (try clear hb2); (try clear hk); (try clear hi)))
    go_ret
    exact ⟨by first | rfl | (simp [errW_none, errW_some] <;> rfl) | (simp [*, errW_none, errW_some] <;> rfl), by repeat (first | (with_reducible first | exact HB.out | apply below_alloc | apply pw_below_drewN | apply below_drew1) | exact HB.out)⟩
   ·rw [if_neg c8] at H; exact absurd H (by simp)
def scarfref01_floor.f (a0 : Int) : Option (Int) := if a0 ≥ 0 then (some (wrap64 (Int.tdiv a0 128))) else (some (wrap64 (-(wrap64 ((wrap64 (Int.tdiv (wrap64 (-(wrap64 (a0 + 1)))) 128)) + 1)))))
set_option maxHeartbeats 8000000 in
set_option maxRecDepth 100000 in
theorem scarfref01_floor.calls (a0 : Int) (r : Int) (w : World) (h : scarfref01_floor.f a0 = some r) :
 Calls Try.prog 63 #[.int .i64 a0] w fun e w' => e = .returned (.int .i64 r) ∧ Drawn0 w w' := by
 have H : (if a0 ≥ 0 then (some (wrap64 (Int.tdiv a0 128))) else (some (wrap64 (-(wrap64 ((wrap64 (Int.tdiv (wrap64 (-(wrap64 (a0 + 1)))) 128)) + 1)))))) = some r := h; clear h; by_cases c2 : a0 ≥ 0
 ·rw [if_pos c2] at H; have c2b0 : decide (0 ≤ a0) = true := decide_eq_true c2; clear c2; obtain rfl := Option.some.inj H; go_enter Try.func63, Try.ntmps63; go_wp2
  go_ret
  exact ⟨by first | rfl | (simp; done) | (simp [*]; done), by repeat (first | exact Drawn0.refl _ | apply Drawn0.step)⟩
 ·rw [if_neg c2] at H; have c2b0 : decide (0 ≤ a0) = false := decide_eq_false c2; clear c2; obtain rfl := Option.some.inj H; go_enter Try.func63, Try.ntmps63; go_wp2
  go_ret
  exact ⟨by first | rfl | (simp; done) | (simp [*]; done), by repeat (first | exact Drawn0.refl _ | apply Drawn0.step)⟩
mutual
def scarfref01_PutS.j0 : Nat → Int → Bool → Option (ByteArray)
 | 0, _, _ => none
 | k + 1, x0, x8 => if x8 = true then ((scarfref01_one.f (Int.tmod (wrap64 (x0 + 128)) 128)).bind fun t316 => (some t316)) else ((scarfref01_one.f (wrap64 (128 + (Int.tmod (wrap64 ((Int.tmod x0 128) + 128)) 128)))).bind fun t317 => ((scarfref01_floor.f x0).bind fun t318 => ((scarfref01_PutS.f k t318).bind fun t319 => (if t317.size + t319.size ≤ 9223372036854775807 then (some (t317 ++ t319)) else (none)))))
def scarfref01_PutS.f : Nat → Int → Option (ByteArray)
 | 0, _ => none
 | k + 1, a0 => if a0 ≥ (-64) then (scarfref01_PutS.j0 k a0 (decide (a0 < 64))) else (scarfref01_PutS.j0 k a0 false)
end
set_option maxHeartbeats 8000000 in
set_option maxRecDepth 100000 in
theorem scarfref01_PutS.calls (k : Nat) : ∀ (a0 : Int) (r : ByteArray) (w : World) (h : scarfref01_PutS.f k a0 = some r),
 Calls Try.prog 53 #[.int .i64 a0] w fun e w' => e = .returned (.string r) ∧ Below w.heap.size w w' := by
 induction k using Nat.strongRecOn with
 | _ k ih =>
 intro a0 r w h; cases k with
 | zero => exact absurd h (by simp [scarfref01_PutS.f])
 | succ k =>
 simp only [scarfref01_PutS.f] at h; have HB := Aside0.mk (Below.refl w.heap.size w); have H : (if a0 ≥ (-64) then (scarfref01_PutS.j0 k a0 (decide (a0 < 64))) else (scarfref01_PutS.j0 k a0 false)) = some r := h; clear h; have HC2 := Aside0.mk H; clear H; go_enter Try.func53, Try.ntmps53; go_upto_region 1 with (fail)
 go_cut [8] (fun v8 wc => ∃ (kq : Nat) (x8_1 : Bool), v8 = .bool x8_1 ∧ Aside0 (scarfref01_PutS.j0 kq a0 x8_1 = some r) ∧ Aside0 (kq ≤ k) ∧ Aside0 (Below w.heap.size w wc))
 case first =>
  have H := HC2.out; clear HC2; by_cases c3 : a0 ≥ (-64)
  ·rw [if_pos c3] at H; have c3b0 : decide ((-64) ≤ a0) = true := decide_eq_true c3; clear c3; (first | rw [c3b0] | (simp only [i64_w, i32_w]; rw [c3b0]) | skip); have H' := Aside0.mk H; clear H; go_wp2; go_meet; case rel => exact ⟨_, (decide (a0 < 64)), (by first | rfl | (simp; done) | (simp [*]; done)), H', ⟨by first | omega | exact Nat.le_refl _⟩, ⟨by repeat (first | (with_reducible first | exact HB.out | apply below_alloc | apply pw_below_drewN | apply below_drew1) | exact HB.out)⟩⟩
  ·rw [if_neg c3] at H; have c3b0 : decide ((-64) ≤ a0) = false := decide_eq_false c3; clear c3; (first | rw [c3b0] | (simp only [i64_w, i32_w]; rw [c3b0]) | skip); have H' := Aside0.mk H; clear H; go_wp2; go_meet; case rel => exact ⟨_, (false), (by first | rfl | (simp; done) | (simp [*]; done)), H', ⟨by first | omega | exact Nat.le_refl _⟩, ⟨by repeat (first | (with_reducible first | exact HB.out | apply below_alloc | apply pw_below_drewN | apply below_drew1) | exact HB.out)⟩⟩
 case rest =>
  clear HC2; (try clear p2); (try clear c3 c3b0); obtain ⟨kq, x8_1, rfl, HA, HJ1, HB⟩ := hcut; cases kq with
  | zero => exact absurd HA.out (by simp [scarfref01_PutS.j0])
  | succ kj1 =>
   have H := HA.out; clear HA; simp only [scarfref01_PutS.j0] at H; by_cases c4 : x8_1 = true
   ·subst c4; have H1 : ((scarfref01_one.f (Int.tmod (wrap64 (a0 + 128)) 128)).bind fun t316 => (some t316)) = some r := by rw [if_pos rfl] at H; exact H
    clear H; have H := H1; clear H1; replace H := Option.bind_eq_some_iff.mp H; obtain ⟨t316, A50, H⟩ := H; replace H : (some t316) = some r := H; have A5 := Aside0.mk A50; clear A50; obtain rfl := Option.some.inj H; go_wp2_with (first | ((with_reducible refine gate_callee (f := 62) rfl ?_); refine goesL_ (some 12) rfl rfl Try.func62 (by kernel_rfl) rfl #[.int .i64 (Int.tmod (wrap64 (a0 + 128)) 128)] rfl (by (try simp only [List.map_toArray, List.map_cons, List.map_nil]); first | done | rfl | (simp only [List.length_drop, List.length_take]; rfl)) ?_; (with_reducible refine (scarfref01_one.calls (Int.tmod (wrap64 (a0 + 128)) 128) t316 _ A5.out).mono ?_); rintro e w6 ⟨rfl, hb⟩; refine ⟨_, rfl, ?_⟩; have n0_ := Aside0.mk (below_step (by repeat (first | (with_reducible first | exact HB.out | apply below_alloc | apply pw_below_drewN | apply below_drew1) | exact HB.out)) hb); clear HB; have HB := n0_; clear n0_; (try clear hb); (try clear hb2); (try clear hk); (try clear hi)))
    go_ret
    exact ⟨by first | rfl | (simp [errW_none, errW_some] <;> rfl) | (simp [*, errW_none, errW_some] <;> rfl), by repeat (first | (with_reducible first | exact HB.out | apply below_alloc | apply pw_below_drewN | apply below_drew1) | exact HB.out)⟩
   ·replace c4 := Bool.eq_false_iff.mpr c4; subst c4; have H1 : ((scarfref01_one.f (wrap64 (128 + (Int.tmod (wrap64 ((Int.tmod a0 128) + 128)) 128)))).bind fun t317 => ((scarfref01_floor.f a0).bind fun t318 => ((scarfref01_PutS.f kj1 t318).bind fun t319 => (if t317.size + t319.size ≤ 9223372036854775807 then (some (t317 ++ t319)) else (none))))) = some r := by rw [if_neg (show ¬ (false = true) by decide)] at H; exact H
    clear H; have H := H1; clear H1; replace H := Option.bind_eq_some_iff.mp H; obtain ⟨t317, A70, H⟩ := H; replace H : ((scarfref01_floor.f a0).bind fun t318 => ((scarfref01_PutS.f kj1 t318).bind fun t319 => (if t317.size + t319.size ≤ 9223372036854775807 then (some (t317 ++ t319)) else (none)))) = some r := H; have A7 := Aside0.mk A70; clear A70; replace H := Option.bind_eq_some_iff.mp H; obtain ⟨t318, A80, H⟩ := H; replace H : ((scarfref01_PutS.f kj1 t318).bind fun t319 => (if t317.size + t319.size ≤ 9223372036854775807 then (some (t317 ++ t319)) else (none))) = some r := H; have A8 := Aside0.mk A80; clear A80; replace H := Option.bind_eq_some_iff.mp H; obtain ⟨t319, A90, H⟩ := H; replace H : (if t317.size + t319.size ≤ 9223372036854775807 then (some (t317 ++ t319)) else (none)) = some r := H; have A9 := Aside0.mk A90; clear A90; by_cases c10 : t317.size + t319.size ≤ 9223372036854775807
    ·rw [if_pos c10] at H; have c10b0 := eq_true c10; have c10b1 : decide (t317.size + t319.size ≤ 9223372036854775807) = true := decide_eq_true c10; try have c10b2 : (9223372036854775807 < t317.size + t319.size) = False := eq_false (Nat.not_lt.2 c10)
     obtain rfl := Option.some.inj H; go_wp2_with (first | ((with_reducible refine gate_callee (f := 62) rfl ?_); refine goesL_ (some 18) rfl rfl Try.func62 (by kernel_rfl) rfl #[.int .i64 (wrap64 (128 + (Int.tmod (wrap64 ((Int.tmod a0 128) + 128)) 128)))] rfl (by (try simp only [List.map_toArray, List.map_cons, List.map_nil]); first | done | rfl | (simp only [List.length_drop, List.length_take]; rfl)) ?_; (with_reducible refine (scarfref01_one.calls (wrap64 (128 + (Int.tmod (wrap64 ((Int.tmod a0 128) + 128)) 128))) t317 _ A7.out).mono ?_); rintro e w11 ⟨rfl, hb⟩; refine ⟨_, rfl, ?_⟩; have n0_ := Aside0.mk (below_step (by repeat (first | (with_reducible first | exact HB.out | apply below_alloc | apply pw_below_drewN | apply below_drew1) | exact HB.out)) hb); clear HB; have HB := n0_; clear n0_; (try clear hb); (try clear hb2); (try clear hk); (try clear hi)) | ((with_reducible refine gate_callee (f := 63) rfl ?_); refine goesL_ (some 20) rfl rfl Try.func63 (by kernel_rfl) rfl #[.int .i64 a0] rfl (by (try simp only [List.map_toArray, List.map_cons, List.map_nil]); first | done | rfl | (simp only [List.length_drop, List.length_take]; rfl)) ?_; (with_reducible refine (scarfref01_floor.calls a0 t318 _ A8.out).mono ?_); rintro e w' ⟨rfl, ⟨nd, rfl⟩⟩; refine ⟨_, rfl, ?_⟩) | ((with_reducible refine gate_callee (f := 53) rfl ?_); refine goesL_ (some 21) rfl rfl Try.func53 (by kernel_rfl) rfl #[.int .i64 t318] rfl (by (try simp only [List.map_toArray, List.map_cons, List.map_nil]); first | done | rfl | (simp only [List.length_drop, List.length_take]; rfl)) ?_; (with_reducible refine (ih kj1 (by have := HJ1.out; omega) t318 t319 _ A9.out).mono ?_); rintro e w12 ⟨rfl, hb⟩; refine ⟨_, rfl, ?_⟩; have n0_ := Aside0.mk (below_step (by repeat (first | (with_reducible first | exact HB.out | apply below_alloc | apply pw_below_drewN | apply below_drew1) | exact HB.out)) hb); clear HB; have HB := n0_; clear n0_; (try clear hb); (try clear hb2); (try clear hk); (try clear hi)))
     go_ret
     exact ⟨by first | rfl | (simp [errW_none, errW_some] <;> rfl) | (simp [*, errW_none, errW_some] <;> rfl), by repeat (first | (with_reducible first | exact HB.out | apply below_alloc | apply pw_below_drewN | apply below_drew1) | exact HB.out)⟩
    ·rw [if_neg c10] at H; exact absurd H (by simp)
def scarfref01_PutAll.l0 : Nat → List Int → ByteArray → Int → Option (ByteArray)
 | 0, _, _, _ => none
 | k + 1, x0, x3, x4 => if x4 < (x0.length : Int) then (if 0 ≤ x4 then ((scarfref01_PutU.f k (rd x0 x4)).bind fun t322 => (if x3.size + t322.size ≤ 9223372036854775807 then (scarfref01_PutAll.l0 k x0 (x3 ++ t322) (wrap64 (x4 + 1))) else (none))) else (none)) else (some x3)
def scarfref01_PutAll.f (k : Nat) (l0 : List Int) : Option (ByteArray) := (scarfref01_PutU.f k (l0.length : Int)).bind fun t320 => (scarfref01_PutAll.l0 k l0 t320 0)
set_option maxHeartbeats 8000000 in
set_option maxRecDepth 100000 in
theorem scarfref01_PutAll.calls (k : Nat) (A0 : Option Addr) (c0 : Nat) (l0 : List Int) (r : ByteArray) (w : World) (hr0 : Kd.C (Kd.int .i64) w A0 l0.length l0) (hc0 : l0.length ≤ c0) (h : scarfref01_PutAll.f k l0 = some r) :
 Calls Try.prog 54 #[.slice A0 l0.length c0] w fun e w' => e = .returned (.string r) ∧ Below w.heap.size w w' := by
 have HR0 := Aside0.mk hr0; have HC0 := Aside0.mk hc0; clear hr0 hc0; have HB := Aside0.mk (Below.refl w.heap.size w); have H : ((scarfref01_PutU.f k (l0.length : Int)).bind fun t320 => (scarfref01_PutAll.l0 k l0 t320 0)) = some r := h; clear h; replace H := Option.bind_eq_some_iff.mp H; obtain ⟨t320, A20, H⟩ := H; replace H : (scarfref01_PutAll.l0 k l0 t320 0) = some r := H; have A2 := Aside0.mk A20; clear A20; have H' := Aside0.mk H; clear H; go_enter Try.func54, Try.ntmps54; go_wp2_with (first | ((with_reducible refine gate_callee (f := 52) rfl ?_); refine goesL_ (some 7) rfl rfl Try.func52 (by kernel_rfl) rfl #[.int .i64 (l0.length : Int)] rfl (by (try simp only [List.map_toArray, List.map_cons, List.map_nil]); first | done | rfl | (simp only [List.length_drop, List.length_take]; rfl)) ?_; (with_reducible refine (scarfref01_PutU.calls k (l0.length : Int) t320 _ A2.out).mono ?_); rintro e w3 ⟨rfl, hb⟩; refine ⟨_, rfl, ?_⟩; have n0_ := Aside0.mk (below_step (by repeat (first | (with_reducible first | exact HB.out | apply below_alloc | apply pw_below_drewN | apply below_drew1) | exact HB.out)) hb); clear HB; have HB := n0_; clear n0_; (try clear hb); (try clear hb2); (try clear hk); (try clear hi)))
 go_loopg [3, 4] k (fun kq v3 v4 w' => ∃ (x3_1 : ByteArray) (x4_1 : Int), v3 = .string x3_1 ∧ v4 = .int .i64 x4_1 ∧ Aside0 (scarfref01_PutAll.l0 kq l0 x3_1 x4_1 = some r) ∧ Aside0 (kq ≤ k) ∧ Aside0 (Below w.heap.size w w'))
 case atStart => exact ⟨(t320), (0), (by first | rfl | (simp; done) | (simp [*]; done)), (by first | rfl | (simp; done) | (simp [*]; done)), H', ⟨Nat.le_refl _⟩, ⟨by repeat (first | (with_reducible first | exact HB.out | apply below_alloc | apply pw_below_drewN | apply below_drew1) | exact HB.out)⟩⟩
 case round =>
  clear H'; (try clear p2); obtain ⟨x3_1, x4_1, rfl, rfl, HA, HK1, HB⟩ := hrel; cases gk with
  | zero => exact absurd HA.out (by simp [scarfref01_PutAll.l0])
  | succ k1 =>
   have H := HA.out; clear HA; simp only [scarfref01_PutAll.l0] at H; by_cases c4 : x4_1 < (l0.length : Int)
   ·rw [if_pos c4] at H; have c4b0 : decide (x4_1 < (l0.length : Int)) = true := decide_eq_true c4; clear c4; by_cases c5 : 0 ≤ x4_1
    ·rw [if_pos c5] at H; have c5b0 : decide (0 ≤ x4_1) = true := decide_eq_true c5; clear c5; replace H := Option.bind_eq_some_iff.mp H; obtain ⟨t322, A60, H⟩ := H; replace H : (if x3_1.size + t322.size ≤ 9223372036854775807 then (scarfref01_PutAll.l0 k1 l0 (x3_1 ++ t322) (wrap64 (x4_1 + 1))) else (none)) = some r := H; have A6 := Aside0.mk A60; clear A60; by_cases c7 : x3_1.size + t322.size ≤ 9223372036854775807
     ·rw [if_pos c7] at H; have c7b0 := eq_true c7; have c7b1 : decide (x3_1.size + t322.size ≤ 9223372036854775807) = true := decide_eq_true c7; try have c7b2 : (9223372036854775807 < x3_1.size + t322.size) = False := eq_false (Nat.not_lt.2 c7)
      have H' := Aside0.mk H; clear H; have p321 : 0 ≤ (x4_1 : Int) := of_decide_eq_true (by first | (with_reducible assumption) | assumption); have q321 : x4_1 < (l0.length : Int) := of_decide_eq_true (by first | (with_reducible assumption) | assumption); obtain ⟨ad321, e321, hx321_0⟩ := Kd.at_int HR0.out x4_1 p321 q321; cases e321; replace hx321_0 := (HB.out.cell (World.block_lt_of_cell? w _ hx321_0)).trans hx321_0; replace p321 := eq_true p321; replace q321 := eq_true q321; go_wp2_with (first | ((with_reducible refine gate_callee (f := 52) rfl ?_); refine goesL_ (some 19) rfl rfl Try.func52 (by kernel_rfl) rfl #[.int .i64 (rd l0 x4_1)] rfl (by (try simp only [List.map_toArray, List.map_cons, List.map_nil]); first | done | rfl | (simp only [List.length_drop, List.length_take]; rfl)) ?_; (with_reducible refine (scarfref01_PutU.calls k1 (rd l0 x4_1) t322 _ A6.out).mono ?_); rintro e w8 ⟨rfl, hb⟩; refine ⟨_, rfl, ?_⟩; have n0_ := Aside0.mk (below_step (by repeat (first | (with_reducible first | exact HB.out | apply below_alloc | apply pw_below_drewN | apply below_drew1) | exact HB.out)) hb); clear HB; have HB := n0_; clear n0_; (try clear hb); (try clear hb2); (try clear hk); (try clear hi)))
      go_roundg k1
      case measure => have := HK1.out; omega
      case rel => exact ⟨(x3_1 ++ t322), (wrap64 (x4_1 + 1)), (by first | rfl | (simp; done) | (simp [*]; done)), (by first | rfl | (simp; done) | (simp [*]; done)), H', ⟨by have := HK1.out; omega⟩, ⟨by repeat (first | (with_reducible first | exact HB.out | apply below_alloc | apply pw_below_drewN | apply below_drew1) | exact HB.out)⟩⟩
     ·rw [if_neg c7] at H; exact absurd H (by simp)
    ·rw [if_neg c5] at H; exact absurd H (by simp)
   ·rw [if_neg c4] at H; have c4b0 : decide (x4_1 < (l0.length : Int)) = false := decide_eq_false c4; clear c4; obtain rfl := Option.some.inj H; go_wp2
    go_ret
    exact ⟨by first | rfl | (simp [errW_none, errW_some] <;> rfl) | (simp [*, errW_none, errW_some] <;> rfl), by repeat (first | (with_reducible first | exact HB.out | apply below_alloc | apply pw_below_drewN | apply below_drew1) | exact HB.out)⟩
end Go.Proofs.Ytckhlbpjehbnlaa.PB
