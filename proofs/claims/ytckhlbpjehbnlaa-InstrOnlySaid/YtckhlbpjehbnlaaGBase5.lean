/- Several texts of this session, laid into one for a claim: PBx15, PBx16, InstrC, PBx27, InstrG. -/
import Derived.Test.YtckhlbpjehbnlaaGBase0
import Derived.Test.YtckhlbpjehbnlaaGBase1
import Derived.Test.YtckhlbpjehbnlaaGBase4
import Derived.Test.YtckhlbpjehbnlaaGBase2
import Derived.Test.YtckhlbpjehbnlaaGBase3
namespace Go.Proofs.Ytckhlbpjehbnlaa.PB
open Go.RowKit Go.Proofs.YtckhlbpjehbnlaaW.PrintWords Go.Proofs.YtckhlbpjehbnlaaW.PrintLast Go.Proofs.YtckhlbpjehbnlaaW.PrintMore
attribute [local go_sem] max2_int min2_int max_two min_two max_three min_three max_four min_four   -- for this text's walks alone
set_option linter.unusedVariables false
set_option linter.unusedSimpArgs false
mutual
def instr_count.l0 : Nat → Int → Int → List (S54) → Int → Int → Option (Int × Bool)
  | 0, _, _, _, _, _ => none
  | k + 1, x1, x6, x13, x14, x15 => if x15 < x14 then (if 0 ≤ x15 then (if x15 < (x13.length : Int) then ((instr_may.f ((rd_T54 x13 x15).f0) ((rd_T54 x13 x15).f1) ((rd_T54 x13 x15).f2) ((rd_T54 x13 x15).f3) ((rd_T54 x13 x15).f4) ((rd_T54 x13 x15).f5) ((rd_T54 x13 x15).f6)).bind fun t154 => (if t154 = true then (if x1 = 32 then (if (((rd_T54 x13 x15).f5).length : Int) > 0 then (instr_count.j1 k x1 x6 x13 x14 x15 true ((rd_T54 x13 x15).f0) ((rd_T54 x13 x15).f1) ((rd_T54 x13 x15).f2) ((rd_T54 x13 x15).f3) ((rd_T54 x13 x15).f4) ((rd_T54 x13 x15).f5) ((rd_T54 x13 x15).f6)) else (if (((rd_T54 x13 x15).f6).length : Int) > 0 then (instr_count.j1 k x1 x6 x13 x14 x15 true ((rd_T54 x13 x15).f0) ((rd_T54 x13 x15).f1) ((rd_T54 x13 x15).f2) ((rd_T54 x13 x15).f3) ((rd_T54 x13 x15).f4) ((rd_T54 x13 x15).f5) ((rd_T54 x13 x15).f6)) else ((instr_isBlock.f ((rd_T54 x13 x15).f0)).bind fun t155 => (instr_count.j1 k x1 x6 x13 x14 x15 t155 ((rd_T54 x13 x15).f0) ((rd_T54 x13 x15).f1) ((rd_T54 x13 x15).f2) ((rd_T54 x13 x15).f3) ((rd_T54 x13 x15).f4) ((rd_T54 x13 x15).f5) ((rd_T54 x13 x15).f6))))) else (instr_count.j1 k x1 x6 x13 x14 x15 false ((rd_T54 x13 x15).f0) ((rd_T54 x13 x15).f1) ((rd_T54 x13 x15).f2) ((rd_T54 x13 x15).f3) ((rd_T54 x13 x15).f4) ((rd_T54 x13 x15).f5) ((rd_T54 x13 x15).f6))) else (instr_count.j1 k x1 x6 x13 x14 x15 true ((rd_T54 x13 x15).f0) ((rd_T54 x13 x15).f1) ((rd_T54 x13 x15).f2) ((rd_T54 x13 x15).f3) ((rd_T54 x13 x15).f4) ((rd_T54 x13 x15).f5) ((rd_T54 x13 x15).f6)))) else (none)) else (none)) else (some (x6, true))
def instr_count.j1 : Nat → Int → Int → List (S54) → Int → Int → Bool → Int → Int → Int → Int → List Int → List (S54) → List (S54) → Option (Int × Bool)
  | 0, _, _, _, _, _, _, _, _, _, _, _, _, _ => none
  | k + 1, x1, x6, x13, x14, x15, x42, x154000, x154001, x154002, x154003, x154004, x154005, x154006 => if x42 = true then (some (0, false)) else ((instr_count.f k x154005 (wrap64 (x1 + 1))).bind fun bt156 => ((instr_count.f k x154006 (wrap64 (x1 + 1))).bind fun bt158 => (if bt156.2 = true then (instr_count.j2 k x1 x6 bt156.1 bt158.1 x13 x14 x15 (!bt158.2)) else (instr_count.j2 k x1 x6 bt156.1 bt158.1 x13 x14 x15 true))))
def instr_count.j2 : Nat → Int → Int → Int → Int → List (S54) → Int → Int → Bool → Option (Int × Bool)
  | 0, _, _, _, _, _, _, _, _ => none
  | k + 1, x1, x6, x9, x11, x13, x14, x15, x64 => if x64 = true then (some (0, false)) else (if (wrap64 (x6 + (wrap64 ((wrap64 (1 + x9)) + x11)))) > 8192 then (some (0, false)) else (instr_count.l0 k x1 (wrap64 (x6 + (wrap64 ((wrap64 (1 + x9)) + x11)))) x13 x14 (wrap64 (x15 + 1))))
def instr_count.f : Nat → List (S54) → Int → Option (Int × Bool)
  | 0, _, _ => none
  | k + 1, l0, a1 => instr_count.l0 k a1 0 l0 (l0.length : Int) 0
end
theorem instr_count.mono_l : ∀ k, (∀ y0 y1, LeO (instr_count.f k y0 y1) (instr_count.f (k + 1) y0 y1)) ∧ (∀ y0 y1 y2 y3 y4, LeO (instr_count.l0 k y0 y1 y2 y3 y4) (instr_count.l0 (k + 1) y0 y1 y2 y3 y4)) ∧ (∀ y0 y1 y2 y3 y4 y5 y6 y7 y8 y9 y10 y11 y12, LeO (instr_count.j1 k y0 y1 y2 y3 y4 y5 y6 y7 y8 y9 y10 y11 y12) (instr_count.j1 (k + 1) y0 y1 y2 y3 y4 y5 y6 y7 y8 y9 y10 y11 y12)) ∧ (∀ y0 y1 y2 y3 y4 y5 y6 y7, LeO (instr_count.j2 k y0 y1 y2 y3 y4 y5 y6 y7) (instr_count.j2 (k + 1) y0 y1 y2 y3 y4 y5 y6 y7))
  | 0 => ⟨fun _ _ r h => by simp [instr_count.f] at h, fun _ _ _ _ _ r h => by simp [instr_count.l0] at h, fun _ _ _ _ _ _ _ _ _ _ _ _ _ r h => by simp [instr_count.j1] at h, fun _ _ _ _ _ _ _ _ r h => by simp [instr_count.j2] at h⟩
  | k + 1 => by
    obtain ⟨ih0, ih1, ih2, ih3⟩ := instr_count.mono_l k
    refine ⟨?_, ?_, ?_, ?_⟩
    · intro y0 y1
      unfold instr_count.f
      repeat' first
      | (with_reducible exact ih0 _ _)
      | (with_reducible exact ih1 _ _ _ _ _)
      | (with_reducible exact ih2 _ _ _ _ _ _ _ _ _ _ _ _ _)
      | (with_reducible exact ih3 _ _ _ _ _ _ _ _)
      | (with_reducible exact LeO.refl _)
      | (with_reducible exact LeO.none _)
      | (with_reducible refine LeO.ite ?_ ?_)
      | (with_reducible refine LeO.bind ?_ (fun _ => ?_))
      | exact ih0 _ _
      | exact ih1 _ _ _ _ _
      | exact ih2 _ _ _ _ _ _ _ _ _ _ _ _ _
      | exact ih3 _ _ _ _ _ _ _ _
      | exact LeO.none _
      | refine LeO.ite ?_ ?_
      | refine LeO.bind ?_ (fun _ => ?_)
    · intro y0 y1 y2 y3 y4
      unfold instr_count.l0
      repeat' first
      | (with_reducible exact ih0 _ _)
      | (with_reducible exact ih1 _ _ _ _ _)
      | (with_reducible exact ih2 _ _ _ _ _ _ _ _ _ _ _ _ _)
      | (with_reducible exact ih3 _ _ _ _ _ _ _ _)
      | (with_reducible exact LeO.refl _)
      | (with_reducible exact LeO.none _)
      | (with_reducible refine LeO.ite ?_ ?_)
      | (with_reducible refine LeO.bind ?_ (fun _ => ?_))
      | exact ih0 _ _
      | exact ih1 _ _ _ _ _
      | exact ih2 _ _ _ _ _ _ _ _ _ _ _ _ _
      | exact ih3 _ _ _ _ _ _ _ _
      | exact LeO.none _
      | refine LeO.ite ?_ ?_
      | refine LeO.bind ?_ (fun _ => ?_)
    · intro y0 y1 y2 y3 y4 y5 y6 y7 y8 y9 y10 y11 y12
      unfold instr_count.j1
      repeat' first
      | (with_reducible exact ih0 _ _)
      | (with_reducible exact ih1 _ _ _ _ _)
      | (with_reducible exact ih2 _ _ _ _ _ _ _ _ _ _ _ _ _)
      | (with_reducible exact ih3 _ _ _ _ _ _ _ _)
      | (with_reducible exact LeO.refl _)
      | (with_reducible exact LeO.none _)
      | (with_reducible refine LeO.ite ?_ ?_)
      | (with_reducible refine LeO.bind ?_ (fun _ => ?_))
      | exact ih0 _ _
      | exact ih1 _ _ _ _ _
      | exact ih2 _ _ _ _ _ _ _ _ _ _ _ _ _
      | exact ih3 _ _ _ _ _ _ _ _
      | exact LeO.none _
      | refine LeO.ite ?_ ?_
      | refine LeO.bind ?_ (fun _ => ?_)
    · intro y0 y1 y2 y3 y4 y5 y6 y7
      unfold instr_count.j2
      repeat' first
      | (with_reducible exact ih0 _ _)
      | (with_reducible exact ih1 _ _ _ _ _)
      | (with_reducible exact ih2 _ _ _ _ _ _ _ _ _ _ _ _ _)
      | (with_reducible exact ih3 _ _ _ _ _ _ _ _)
      | (with_reducible exact LeO.refl _)
      | (with_reducible exact LeO.none _)
      | (with_reducible refine LeO.ite ?_ ?_)
      | (with_reducible refine LeO.bind ?_ (fun _ => ?_))
      | exact ih0 _ _
      | exact ih1 _ _ _ _ _
      | exact ih2 _ _ _ _ _ _ _ _ _ _ _ _ _
      | exact ih3 _ _ _ _ _ _ _ _
      | exact LeO.none _
      | refine LeO.ite ?_ ?_
      | refine LeO.bind ?_ (fun _ => ?_)
theorem instr_count.mono : ∀ a0 a1 k, LeO (instr_count.f k a0 a1) (instr_count.f (k + 1) a0 a1) := by
  intro a0 a1 k
  obtain ⟨ih0, ih1, ih2, ih3⟩ := instr_count.mono_l k
  exact ih0 a0 a1
set_option maxHeartbeats 8000000 in
set_option maxRecDepth 100000 in
theorem instr_count.calls (k : Nat) : ∀ (A0 : Option Addr) (c0 : Nat) (l0 : List (S54)) (a1 : Int) (r1 : Int) (r2 : Bool) (w : World) (hr0 : Kd.C k54 w A0 l0.length l0) (hc0 : l0.length ≤ c0) (h : instr_count.f k l0 a1 = some (r1, r2)),
    Calls Try.prog 33 #[.slice A0 l0.length c0, .int .i64 a1] w fun e w' => e = .returned (.tuple #[.int .i64 r1, .bool r2]) ∧ Below w.heap.size w w' := by
  induction k using Nat.strongRecOn with
  | _ k ih =>
  intro A0 c0 l0 a1 r1 r2 w hr0 hc0 h
  cases k with
  | zero => exact absurd h (by simp [instr_count.f])
  | succ k =>
  simp only [instr_count.f] at h
  have hu54 := Try.underlying54
  have HR0 := Aside0.mk hr0
  have HC0 := Aside0.mk hc0
  clear hr0 hc0
  have HB := Aside0.mk (Below.refl w.heap.size w)
  have H : (instr_count.l0 k a1 0 l0 (l0.length : Int) 0) = some (r1, r2) := h
  clear h
  have H' := Aside0.mk H
  clear H
  go_enter Try.func33, Try.ntmps33
  go_wp2
  go_loopg [6, 15] k (fun kq v6 v15 w' => ∃ (x6_1 : Int) (x15_1 : Int), v6 = .int .i64 x6_1 ∧ v15 = .int .i64 x15_1 ∧ Aside0 (instr_count.l0 kq a1 x6_1 l0 (l0.length : Int) x15_1 = some (r1, r2)) ∧ Aside0 (kq ≤ k) ∧ Aside0 (Below w.heap.size w w'))
  case atStart => exact ⟨(0), (0), (by first | rfl | (simp; done) | (simp [*]; done)), (by first | rfl | (simp; done) | (simp [*]; done)), H', ⟨Nat.le_refl _⟩, ⟨by repeat (first | (with_reducible first | exact HB.out | apply below_alloc | apply pw_below_drewN | apply below_drew1) | exact HB.out)⟩⟩
  case round =>
    clear H'
    try clear p2
    obtain ⟨x6_1, x15_1, rfl, rfl, HA, HK1, HB⟩ := hrel
    cases gk with
    | zero => exact absurd HA.out (by simp [instr_count.l0])
    | succ k1 =>
      have H := HA.out
      clear HA
      simp only [instr_count.l0] at H
      by_cases c3 : x15_1 < (l0.length : Int)
      · rw [if_pos c3] at H
        have c3b0 : decide (x15_1 < (l0.length : Int)) = true := decide_eq_true c3
        clear c3
        by_cases c4 : 0 ≤ x15_1
        · rw [if_pos c4] at H
          have c4b0 : decide (0 ≤ x15_1) = true := decide_eq_true c4
          clear c4
          by_cases c5 : x15_1 < (l0.length : Int)
          · rw [if_pos c5] at H
            have c5b0 : decide (x15_1 < (l0.length : Int)) = true := decide_eq_true c5
            clear c5
            have HC6 := Aside0.mk H
            clear H
            have p152 : 0 ≤ (x15_1 : Int) := of_decide_eq_true (by first | (with_reducible assumption) | assumption)
            have q152 : x15_1 < (l0.length : Int) := of_decide_eq_true (by first | (with_reducible assumption) | assumption)
            obtain ⟨ad152, A152_4, c152_4, A152_5, c152_5, A152_6, c152_6, e152, hx152_0, hx152_1, hx152_2, hx152_3, hx152_4, hx152_5, hx152_6, hl152_4, hi152_4, hl152_5, hi152_5, hl152_6, hi152_6⟩ := at_T54 HR0.out x15_1 p152 q152
            cases e152
            replace hx152_0 := (HB.out.cell (World.block_lt_of_cell? w _ hx152_0)).trans hx152_0
            replace hx152_1 := (HB.out.cell (World.block_lt_of_cell? w _ hx152_1)).trans hx152_1
            replace hx152_2 := (HB.out.cell (World.block_lt_of_cell? w _ hx152_2)).trans hx152_2
            replace hx152_3 := (HB.out.cell (World.block_lt_of_cell? w _ hx152_3)).trans hx152_3
            replace hx152_4 := (HB.out.cell (World.block_lt_of_cell? w _ hx152_4)).trans hx152_4
            replace hx152_5 := (HB.out.cell (World.block_lt_of_cell? w _ hx152_5)).trans hx152_5
            replace hx152_6 := (HB.out.cell (World.block_lt_of_cell? w _ hx152_6)).trans hx152_6
            have HR152_4 := Aside0.mk hi152_4
            have HC152_4 := Aside0.mk hl152_4
            clear hi152_4 hl152_4
            have HR152_5 := Aside0.mk hi152_5
            have HC152_5 := Aside0.mk hl152_5
            clear hi152_5 hl152_5
            have HR152_6 := Aside0.mk hi152_6
            have HC152_6 := Aside0.mk hl152_6
            clear hi152_6 hl152_6
            replace p152 := eq_true p152
            replace q152 := eq_true q152
            go_upto_region 5 with (first | ((with_reducible refine gate_dst (N := 8) rfl ?_); (try (refine gate_guard (by rfl) ?_; dsimp only)); refine box_event ?hg (N := 8) ?hd (cs := #[.int .i64 0, .int .i64 0, .int .i64 0, .int .i64 0, .slice none 0 0, .slice none 0 0, .slice none 0 0]) (t := 54) ?hr ?_; (case hd => rfl); (case hg => rfl); (case hr => first | (go_simp; done) | (go_simp; rfl)); intro gb153 hg w7 hbox hb; have n0_ := Aside0.mk (below_step (by repeat (first | (with_reducible first | exact HB.out | apply below_alloc | apply pw_below_drewN | apply below_drew1) | exact HB.out)) hb); have n1_ := Aside0.mk (hbox); have n2_ := Aside0.mk ((by rw [hg]; exact (below_size (by repeat (first | (with_reducible first | exact HB.out | apply below_alloc | apply pw_below_drewN | apply below_drew1) | exact HB.out))) : w.heap.size ≤ gb153)); have n3_ := Aside0.mk ((by rw [hg]; exact (below_size (by repeat (first | (with_reducible first | exact HB.out | apply below_alloc | apply pw_below_drewN | apply below_drew1) | exact HB.out))) : w.heap.size ≤ gb153)); clear HB; have HB := n0_; have BK153 := n1_; have GW153 := n2_; have GE153 := n3_; clear n0_ n1_ n2_ n3_; clear hb hbox hg; have hcz8_0 : w7.cell? ⟨gb153, 0, none⟩ = some (.int .i64 0) := (blk_cell BK153.out 0).trans rfl; have hcz8_1 : w7.cell? ⟨gb153, 1, none⟩ = some (.int .i64 0) := (blk_cell BK153.out 1).trans rfl; have hcz8_2 : w7.cell? ⟨gb153, 2, none⟩ = some (.int .i64 0) := (blk_cell BK153.out 2).trans rfl; have hcz8_3 : w7.cell? ⟨gb153, 3, none⟩ = some (.int .i64 0) := (blk_cell BK153.out 3).trans rfl; have hcz8_4 : w7.cell? ⟨gb153, 4, none⟩ = some (.slice none 0 0) := (blk_cell BK153.out 4).trans rfl; have hcz8_5 : w7.cell? ⟨gb153, 5, none⟩ = some (.slice none 0 0) := (blk_cell BK153.out 5).trans rfl; have hcz8_6 : w7.cell? ⟨gb153, 6, none⟩ = some (.slice none 0 0) := (blk_cell BK153.out 6).trans rfl; have hfz8_0 := blk_frozen BK153.out 0; have hfz8_1 := blk_frozen BK153.out 1; have hfz8_2 := blk_frozen BK153.out 2; have hfz8_3 := blk_frozen BK153.out 3; have hfz8_4 := blk_frozen BK153.out 4; have hfz8_5 := blk_frozen BK153.out 5; have hfz8_6 := blk_frozen BK153.out 6))
            (try simp only [Act.put, List.setIfInBounds_toArray, List.set_cons_zero, List.set_cons_succ])
            go_cut [42] (fun v42 wc => ∃ (kq : Nat) (x42_5 : Bool), v42 = .bool x42_5 ∧ Aside0 (instr_count.j1 kq a1 x6_1 l0 (l0.length : Int) x15_1 x42_5 ((rd_T54 l0 x15_1).f0) ((rd_T54 l0 x15_1).f1) ((rd_T54 l0 x15_1).f2) ((rd_T54 l0 x15_1).f3) ((rd_T54 l0 x15_1).f4) ((rd_T54 l0 x15_1).f5) ((rd_T54 l0 x15_1).f6) = some (r1, r2)) ∧ Aside0 (kq ≤ k1) ∧ Aside0 (wc.heap[gb153]? = some (.cells #[.int .i64 ((rd_T54 l0 x15_1).f0), .int .i64 ((rd_T54 l0 x15_1).f1), .int .i64 ((rd_T54 l0 x15_1).f2), .int .i64 ((rd_T54 l0 x15_1).f3), (.slice A152_4 ((rd_T54 l0 x15_1).f4).length c152_4), (.slice A152_5 ((rd_T54 l0 x15_1).f5).length c152_5), (.slice A152_6 ((rd_T54 l0 x15_1).f6).length c152_6)] 54 (0, 0))) ∧ Aside0 (Below w.heap.size w wc))
            case first =>
              have H := HC6.out
              clear HC6
              replace H := Option.bind_eq_some_iff.mp H
              obtain ⟨t154, A90, H⟩ := H
              replace H : (if t154 = true then (if a1 = 32 then (if (((rd_T54 l0 x15_1).f5).length : Int) > 0 then (instr_count.j1 k1 a1 x6_1 l0 (l0.length : Int) x15_1 true ((rd_T54 l0 x15_1).f0) ((rd_T54 l0 x15_1).f1) ((rd_T54 l0 x15_1).f2) ((rd_T54 l0 x15_1).f3) ((rd_T54 l0 x15_1).f4) ((rd_T54 l0 x15_1).f5) ((rd_T54 l0 x15_1).f6)) else (if (((rd_T54 l0 x15_1).f6).length : Int) > 0 then (instr_count.j1 k1 a1 x6_1 l0 (l0.length : Int) x15_1 true ((rd_T54 l0 x15_1).f0) ((rd_T54 l0 x15_1).f1) ((rd_T54 l0 x15_1).f2) ((rd_T54 l0 x15_1).f3) ((rd_T54 l0 x15_1).f4) ((rd_T54 l0 x15_1).f5) ((rd_T54 l0 x15_1).f6)) else ((instr_isBlock.f ((rd_T54 l0 x15_1).f0)).bind fun t155 => (instr_count.j1 k1 a1 x6_1 l0 (l0.length : Int) x15_1 t155 ((rd_T54 l0 x15_1).f0) ((rd_T54 l0 x15_1).f1) ((rd_T54 l0 x15_1).f2) ((rd_T54 l0 x15_1).f3) ((rd_T54 l0 x15_1).f4) ((rd_T54 l0 x15_1).f5) ((rd_T54 l0 x15_1).f6))))) else (instr_count.j1 k1 a1 x6_1 l0 (l0.length : Int) x15_1 false ((rd_T54 l0 x15_1).f0) ((rd_T54 l0 x15_1).f1) ((rd_T54 l0 x15_1).f2) ((rd_T54 l0 x15_1).f3) ((rd_T54 l0 x15_1).f4) ((rd_T54 l0 x15_1).f5) ((rd_T54 l0 x15_1).f6))) else (instr_count.j1 k1 a1 x6_1 l0 (l0.length : Int) x15_1 true ((rd_T54 l0 x15_1).f0) ((rd_T54 l0 x15_1).f1) ((rd_T54 l0 x15_1).f2) ((rd_T54 l0 x15_1).f3) ((rd_T54 l0 x15_1).f4) ((rd_T54 l0 x15_1).f5) ((rd_T54 l0 x15_1).f6))) = some (r1, r2) := H
              have A9 := Aside0.mk A90
              clear A90
              by_cases c10 : t154 = true
              · subst c10
                have H1 : (if a1 = 32 then (if (((rd_T54 l0 x15_1).f5).length : Int) > 0 then (instr_count.j1 k1 a1 x6_1 l0 (l0.length : Int) x15_1 true ((rd_T54 l0 x15_1).f0) ((rd_T54 l0 x15_1).f1) ((rd_T54 l0 x15_1).f2) ((rd_T54 l0 x15_1).f3) ((rd_T54 l0 x15_1).f4) ((rd_T54 l0 x15_1).f5) ((rd_T54 l0 x15_1).f6)) else (if (((rd_T54 l0 x15_1).f6).length : Int) > 0 then (instr_count.j1 k1 a1 x6_1 l0 (l0.length : Int) x15_1 true ((rd_T54 l0 x15_1).f0) ((rd_T54 l0 x15_1).f1) ((rd_T54 l0 x15_1).f2) ((rd_T54 l0 x15_1).f3) ((rd_T54 l0 x15_1).f4) ((rd_T54 l0 x15_1).f5) ((rd_T54 l0 x15_1).f6)) else ((instr_isBlock.f ((rd_T54 l0 x15_1).f0)).bind fun t155 => (instr_count.j1 k1 a1 x6_1 l0 (l0.length : Int) x15_1 t155 ((rd_T54 l0 x15_1).f0) ((rd_T54 l0 x15_1).f1) ((rd_T54 l0 x15_1).f2) ((rd_T54 l0 x15_1).f3) ((rd_T54 l0 x15_1).f4) ((rd_T54 l0 x15_1).f5) ((rd_T54 l0 x15_1).f6))))) else (instr_count.j1 k1 a1 x6_1 l0 (l0.length : Int) x15_1 false ((rd_T54 l0 x15_1).f0) ((rd_T54 l0 x15_1).f1) ((rd_T54 l0 x15_1).f2) ((rd_T54 l0 x15_1).f3) ((rd_T54 l0 x15_1).f4) ((rd_T54 l0 x15_1).f5) ((rd_T54 l0 x15_1).f6))) = some (r1, r2) := by rw [if_pos rfl] at H; exact H
                clear H
                have H := H1
                clear H1
                by_cases c11 : a1 = 32
                · rw [if_pos c11] at H
                  have c11b0 : (a1 == 32) = true := beq_iff_eq.mpr c11
                  have c11b1 : (a1 != 32) = false := bne_eq_false_iff_eq.mpr c11
                  clear c11
                  (first | rw [c11b0] | (simp only [i64_w, i32_w]; rw [c11b0]) | skip)
                  by_cases c12 : (((rd_T54 l0 x15_1).f5).length : Int) > 0
                  · rw [if_pos c12] at H
                    have c12b0 : decide (0 < (((rd_T54 l0 x15_1).f5).length : Int)) = true := decide_eq_true c12
                    have c12b1 : decide (0 < ((rd_T54 l0 x15_1).f5).length) = true := decide_eq_true (by omega)
                    clear c12
                    have H' := Aside0.mk H
                    clear H
                    have hcz13_0 : w7.cell? ⟨gb153, 0, none⟩ = some (.int .i64 0) := (blk_cell BK153.out 0).trans rfl
                    have hcz13_1 : w7.cell? ⟨gb153, 1, none⟩ = some (.int .i64 0) := (blk_cell BK153.out 1).trans rfl
                    have hcz13_2 : w7.cell? ⟨gb153, 2, none⟩ = some (.int .i64 0) := (blk_cell BK153.out 2).trans rfl
                    have hcz13_3 : w7.cell? ⟨gb153, 3, none⟩ = some (.int .i64 0) := (blk_cell BK153.out 3).trans rfl
                    have hcz13_4 : w7.cell? ⟨gb153, 4, none⟩ = some (.slice none 0 0) := (blk_cell BK153.out 4).trans rfl
                    have hcz13_5 : w7.cell? ⟨gb153, 5, none⟩ = some (.slice none 0 0) := (blk_cell BK153.out 5).trans rfl
                    have hcz13_6 : w7.cell? ⟨gb153, 6, none⟩ = some (.slice none 0 0) := (blk_cell BK153.out 6).trans rfl
                    have hfz13_0 := blk_frozen BK153.out 0
                    have hfz13_1 := blk_frozen BK153.out 1
                    have hfz13_2 := blk_frozen BK153.out 2
                    have hfz13_3 := blk_frozen BK153.out 3
                    have hfz13_4 := blk_frozen BK153.out 4
                    have hfz13_5 := blk_frozen BK153.out 5
                    have hfz13_6 := blk_frozen BK153.out 6
                    go_wp2_with (first | ((with_reducible refine gate_callee (f := 45) rfl ?_); refine goesL_ (some 20) rfl rfl Try.func45 (by kernel_rfl) rfl #[.agg #[.int .i64 ((rd_T54 l0 x15_1).f0), .int .i64 ((rd_T54 l0 x15_1).f1), .int .i64 ((rd_T54 l0 x15_1).f2), .int .i64 ((rd_T54 l0 x15_1).f3), .slice A152_4 ((rd_T54 l0 x15_1).f4).length c152_4, .slice A152_5 ((rd_T54 l0 x15_1).f5).length c152_5, .slice A152_6 ((rd_T54 l0 x15_1).f6).length c152_6]] rfl (by (try simp only [List.map_toArray, List.map_cons, List.map_nil]); first | done | rfl | (simp only [List.length_drop, List.length_take]; rfl)) ?_; (with_reducible refine (instr_may.calls ((rd_T54 l0 x15_1).f0) ((rd_T54 l0 x15_1).f1) ((rd_T54 l0 x15_1).f2) ((rd_T54 l0 x15_1).f3) _ _ ((rd_T54 l0 x15_1).f4) _ _ ((rd_T54 l0 x15_1).f5) _ _ ((rd_T54 l0 x15_1).f6) true _ ?side1 ?side2 ?side3 ?side4 ?side5 ?side6 A9.out).mono ?_); (case side1 => exact Kd.C_below HR152_4.out (by repeat (first | (with_reducible first | exact HB.out | apply below_alloc | apply pw_below_drewN | apply below_drew1 | refine below_set ?_ GE153.out) | exact HB.out))); (case side2 => exact HC152_4.out); (case side3 => exact Kd.C_below HR152_5.out (by repeat (first | (with_reducible first | exact HB.out | apply below_alloc | apply pw_below_drewN | apply below_drew1 | refine below_set ?_ GE153.out) | exact HB.out))); (case side4 => exact HC152_5.out); (case side5 => exact Kd.C_below HR152_6.out (by repeat (first | (with_reducible first | exact HB.out | apply below_alloc | apply pw_below_drewN | apply below_drew1 | refine below_set ?_ GE153.out) | exact HB.out))); (case side6 => exact HC152_6.out); rintro e w14 ⟨rfl, hb⟩; refine ⟨_, rfl, ?_⟩; have n0_ := Aside0.mk (blk_below (g := gb153) (o := .cells #[.int .i64 ((rd_T54 l0 x15_1).f0), .int .i64 ((rd_T54 l0 x15_1).f1), .int .i64 ((rd_T54 l0 x15_1).f2), .int .i64 ((rd_T54 l0 x15_1).f3), .slice A152_4 ((rd_T54 l0 x15_1).f4).length c152_4, .slice A152_5 ((rd_T54 l0 x15_1).f5).length c152_5, .slice A152_6 ((rd_T54 l0 x15_1).f6).length c152_6] 54 (0, 0)) (by (with_reducible repeat (first | refine blk_drewN ?_ _ | refine blk_drew ?_ | refine blk_alloc ?_ _)); refine blk_put (cs := #[.int .i64 ((rd_T54 l0 x15_1).f0), .int .i64 ((rd_T54 l0 x15_1).f1), .int .i64 ((rd_T54 l0 x15_1).f2), .int .i64 ((rd_T54 l0 x15_1).f3), .slice A152_4 ((rd_T54 l0 x15_1).f4).length c152_4, .slice A152_5 ((rd_T54 l0 x15_1).f5).length c152_5, .slice none 0 0]) ?_ 6 _ rfl; (with_reducible repeat (first | refine blk_drewN ?_ _ | refine blk_drew ?_ | refine blk_alloc ?_ _)); refine blk_put (cs := #[.int .i64 ((rd_T54 l0 x15_1).f0), .int .i64 ((rd_T54 l0 x15_1).f1), .int .i64 ((rd_T54 l0 x15_1).f2), .int .i64 ((rd_T54 l0 x15_1).f3), .slice A152_4 ((rd_T54 l0 x15_1).f4).length c152_4, .slice none 0 0, .slice none 0 0]) ?_ 5 _ rfl; (with_reducible repeat (first | refine blk_drewN ?_ _ | refine blk_drew ?_ | refine blk_alloc ?_ _)); refine blk_put (cs := #[.int .i64 ((rd_T54 l0 x15_1).f0), .int .i64 ((rd_T54 l0 x15_1).f1), .int .i64 ((rd_T54 l0 x15_1).f2), .int .i64 ((rd_T54 l0 x15_1).f3), .slice none 0 0, .slice none 0 0, .slice none 0 0]) ?_ 4 _ rfl; (with_reducible repeat (first | refine blk_drewN ?_ _ | refine blk_drew ?_ | refine blk_alloc ?_ _)); refine blk_put (cs := #[.int .i64 ((rd_T54 l0 x15_1).f0), .int .i64 ((rd_T54 l0 x15_1).f1), .int .i64 ((rd_T54 l0 x15_1).f2), .int .i64 0, .slice none 0 0, .slice none 0 0, .slice none 0 0]) ?_ 3 _ rfl; (with_reducible repeat (first | refine blk_drewN ?_ _ | refine blk_drew ?_ | refine blk_alloc ?_ _)); refine blk_put (cs := #[.int .i64 ((rd_T54 l0 x15_1).f0), .int .i64 ((rd_T54 l0 x15_1).f1), .int .i64 0, .int .i64 0, .slice none 0 0, .slice none 0 0, .slice none 0 0]) ?_ 2 _ rfl; (with_reducible repeat (first | refine blk_drewN ?_ _ | refine blk_drew ?_ | refine blk_alloc ?_ _)); refine blk_put (cs := #[.int .i64 ((rd_T54 l0 x15_1).f0), .int .i64 0, .int .i64 0, .int .i64 0, .slice none 0 0, .slice none 0 0, .slice none 0 0]) ?_ 1 _ rfl; (with_reducible repeat (first | refine blk_drewN ?_ _ | refine blk_drew ?_ | refine blk_alloc ?_ _)); refine blk_put (cs := #[.int .i64 0, .int .i64 0, .int .i64 0, .int .i64 0, .slice none 0 0, .slice none 0 0, .slice none 0 0]) ?_ 0 _ rfl; (with_reducible repeat (first | refine blk_drewN ?_ _ | refine blk_drew ?_ | refine blk_alloc ?_ _)); exact BK153.out) hb); have n1_ := Aside0.mk (below_step (by repeat (first | (with_reducible first | exact HB.out | apply below_alloc | apply pw_below_drewN | apply below_drew1 | refine below_set ?_ GE153.out) | exact HB.out)) hb); clear BK153; clear HB; have BK153 := n0_; have HB := n1_; clear n0_ n1_; (try clear hb); (try clear hb2); (try clear hk); (try clear hi); have hcz15_0 : w14.cell? ⟨gb153, 0, none⟩ = some (.int .i64 ((rd_T54 l0 x15_1).f0)) := (blk_cell BK153.out 0).trans rfl; have hcz15_1 : w14.cell? ⟨gb153, 1, none⟩ = some (.int .i64 ((rd_T54 l0 x15_1).f1)) := (blk_cell BK153.out 1).trans rfl; have hcz15_2 : w14.cell? ⟨gb153, 2, none⟩ = some (.int .i64 ((rd_T54 l0 x15_1).f2)) := (blk_cell BK153.out 2).trans rfl; have hcz15_3 : w14.cell? ⟨gb153, 3, none⟩ = some (.int .i64 ((rd_T54 l0 x15_1).f3)) := (blk_cell BK153.out 3).trans rfl; have hcz15_4 : w14.cell? ⟨gb153, 4, none⟩ = some (.slice A152_4 ((rd_T54 l0 x15_1).f4).length c152_4) := (blk_cell BK153.out 4).trans rfl; have hcz15_5 : w14.cell? ⟨gb153, 5, none⟩ = some (.slice A152_5 ((rd_T54 l0 x15_1).f5).length c152_5) := (blk_cell BK153.out 5).trans rfl; have hcz15_6 : w14.cell? ⟨gb153, 6, none⟩ = some (.slice A152_6 ((rd_T54 l0 x15_1).f6).length c152_6) := (blk_cell BK153.out 6).trans rfl; have hfz15_0 := blk_frozen BK153.out 0; have hfz15_1 := blk_frozen BK153.out 1; have hfz15_2 := blk_frozen BK153.out 2; have hfz15_3 := blk_frozen BK153.out 3; have hfz15_4 := blk_frozen BK153.out 4; have hfz15_5 := blk_frozen BK153.out 5; have hfz15_6 := blk_frozen BK153.out 6))
                    go_meet
                    case rel => exact ⟨_, (true), (by first | rfl | (simp; done) | (simp [*]; done)), H', ⟨by have := HK1.out; first | omega | exact Nat.le_refl _⟩, ⟨by (with_reducible repeat (first | refine blk_drewN ?_ _ | refine blk_drew ?_ | refine blk_alloc ?_ _)); exact BK153.out⟩, ⟨by repeat (first | (with_reducible first | exact HB.out | apply below_alloc | apply pw_below_drewN | apply below_drew1 | refine below_set ?_ GE153.out) | exact HB.out)⟩⟩
                  · rw [if_neg c12] at H
                    have c12b0 : decide (0 < (((rd_T54 l0 x15_1).f5).length : Int)) = false := decide_eq_false c12
                    have c12b1 : decide (0 < ((rd_T54 l0 x15_1).f5).length) = false := decide_eq_false (by omega)
                    clear c12
                    by_cases c16 : (((rd_T54 l0 x15_1).f6).length : Int) > 0
                    · rw [if_pos c16] at H
                      have c16b0 : decide (0 < (((rd_T54 l0 x15_1).f6).length : Int)) = true := decide_eq_true c16
                      have c16b1 : decide (0 < ((rd_T54 l0 x15_1).f6).length) = true := decide_eq_true (by omega)
                      clear c16
                      have H' := Aside0.mk H
                      clear H
                      have hcz17_0 : w7.cell? ⟨gb153, 0, none⟩ = some (.int .i64 0) := (blk_cell BK153.out 0).trans rfl
                      have hcz17_1 : w7.cell? ⟨gb153, 1, none⟩ = some (.int .i64 0) := (blk_cell BK153.out 1).trans rfl
                      have hcz17_2 : w7.cell? ⟨gb153, 2, none⟩ = some (.int .i64 0) := (blk_cell BK153.out 2).trans rfl
                      have hcz17_3 : w7.cell? ⟨gb153, 3, none⟩ = some (.int .i64 0) := (blk_cell BK153.out 3).trans rfl
                      have hcz17_4 : w7.cell? ⟨gb153, 4, none⟩ = some (.slice none 0 0) := (blk_cell BK153.out 4).trans rfl
                      have hcz17_5 : w7.cell? ⟨gb153, 5, none⟩ = some (.slice none 0 0) := (blk_cell BK153.out 5).trans rfl
                      have hcz17_6 : w7.cell? ⟨gb153, 6, none⟩ = some (.slice none 0 0) := (blk_cell BK153.out 6).trans rfl
                      have hfz17_0 := blk_frozen BK153.out 0
                      have hfz17_1 := blk_frozen BK153.out 1
                      have hfz17_2 := blk_frozen BK153.out 2
                      have hfz17_3 := blk_frozen BK153.out 3
                      have hfz17_4 := blk_frozen BK153.out 4
                      have hfz17_5 := blk_frozen BK153.out 5
                      have hfz17_6 := blk_frozen BK153.out 6
                      go_wp2_with (first | ((with_reducible refine gate_callee (f := 45) rfl ?_); refine goesL_ (some 20) rfl rfl Try.func45 (by kernel_rfl) rfl #[.agg #[.int .i64 ((rd_T54 l0 x15_1).f0), .int .i64 ((rd_T54 l0 x15_1).f1), .int .i64 ((rd_T54 l0 x15_1).f2), .int .i64 ((rd_T54 l0 x15_1).f3), .slice A152_4 ((rd_T54 l0 x15_1).f4).length c152_4, .slice A152_5 ((rd_T54 l0 x15_1).f5).length c152_5, .slice A152_6 ((rd_T54 l0 x15_1).f6).length c152_6]] rfl (by (try simp only [List.map_toArray, List.map_cons, List.map_nil]); first | done | rfl | (simp only [List.length_drop, List.length_take]; rfl)) ?_; (with_reducible refine (instr_may.calls ((rd_T54 l0 x15_1).f0) ((rd_T54 l0 x15_1).f1) ((rd_T54 l0 x15_1).f2) ((rd_T54 l0 x15_1).f3) _ _ ((rd_T54 l0 x15_1).f4) _ _ ((rd_T54 l0 x15_1).f5) _ _ ((rd_T54 l0 x15_1).f6) true _ ?side1 ?side2 ?side3 ?side4 ?side5 ?side6 A9.out).mono ?_); (case side1 => exact Kd.C_below HR152_4.out (by repeat (first | (with_reducible first | exact HB.out | apply below_alloc | apply pw_below_drewN | apply below_drew1 | refine below_set ?_ GE153.out) | exact HB.out))); (case side2 => exact HC152_4.out); (case side3 => exact Kd.C_below HR152_5.out (by repeat (first | (with_reducible first | exact HB.out | apply below_alloc | apply pw_below_drewN | apply below_drew1 | refine below_set ?_ GE153.out) | exact HB.out))); (case side4 => exact HC152_5.out); (case side5 => exact Kd.C_below HR152_6.out (by repeat (first | (with_reducible first | exact HB.out | apply below_alloc | apply pw_below_drewN | apply below_drew1 | refine below_set ?_ GE153.out) | exact HB.out))); (case side6 => exact HC152_6.out); rintro e w18 ⟨rfl, hb⟩; refine ⟨_, rfl, ?_⟩; have n0_ := Aside0.mk (blk_below (g := gb153) (o := .cells #[.int .i64 ((rd_T54 l0 x15_1).f0), .int .i64 ((rd_T54 l0 x15_1).f1), .int .i64 ((rd_T54 l0 x15_1).f2), .int .i64 ((rd_T54 l0 x15_1).f3), .slice A152_4 ((rd_T54 l0 x15_1).f4).length c152_4, .slice A152_5 ((rd_T54 l0 x15_1).f5).length c152_5, .slice A152_6 ((rd_T54 l0 x15_1).f6).length c152_6] 54 (0, 0)) (by (with_reducible repeat (first | refine blk_drewN ?_ _ | refine blk_drew ?_ | refine blk_alloc ?_ _)); refine blk_put (cs := #[.int .i64 ((rd_T54 l0 x15_1).f0), .int .i64 ((rd_T54 l0 x15_1).f1), .int .i64 ((rd_T54 l0 x15_1).f2), .int .i64 ((rd_T54 l0 x15_1).f3), .slice A152_4 ((rd_T54 l0 x15_1).f4).length c152_4, .slice A152_5 ((rd_T54 l0 x15_1).f5).length c152_5, .slice none 0 0]) ?_ 6 _ rfl; (with_reducible repeat (first | refine blk_drewN ?_ _ | refine blk_drew ?_ | refine blk_alloc ?_ _)); refine blk_put (cs := #[.int .i64 ((rd_T54 l0 x15_1).f0), .int .i64 ((rd_T54 l0 x15_1).f1), .int .i64 ((rd_T54 l0 x15_1).f2), .int .i64 ((rd_T54 l0 x15_1).f3), .slice A152_4 ((rd_T54 l0 x15_1).f4).length c152_4, .slice none 0 0, .slice none 0 0]) ?_ 5 _ rfl; (with_reducible repeat (first | refine blk_drewN ?_ _ | refine blk_drew ?_ | refine blk_alloc ?_ _)); refine blk_put (cs := #[.int .i64 ((rd_T54 l0 x15_1).f0), .int .i64 ((rd_T54 l0 x15_1).f1), .int .i64 ((rd_T54 l0 x15_1).f2), .int .i64 ((rd_T54 l0 x15_1).f3), .slice none 0 0, .slice none 0 0, .slice none 0 0]) ?_ 4 _ rfl; (with_reducible repeat (first | refine blk_drewN ?_ _ | refine blk_drew ?_ | refine blk_alloc ?_ _)); refine blk_put (cs := #[.int .i64 ((rd_T54 l0 x15_1).f0), .int .i64 ((rd_T54 l0 x15_1).f1), .int .i64 ((rd_T54 l0 x15_1).f2), .int .i64 0, .slice none 0 0, .slice none 0 0, .slice none 0 0]) ?_ 3 _ rfl; (with_reducible repeat (first | refine blk_drewN ?_ _ | refine blk_drew ?_ | refine blk_alloc ?_ _)); refine blk_put (cs := #[.int .i64 ((rd_T54 l0 x15_1).f0), .int .i64 ((rd_T54 l0 x15_1).f1), .int .i64 0, .int .i64 0, .slice none 0 0, .slice none 0 0, .slice none 0 0]) ?_ 2 _ rfl; (with_reducible repeat (first | refine blk_drewN ?_ _ | refine blk_drew ?_ | refine blk_alloc ?_ _)); refine blk_put (cs := #[.int .i64 ((rd_T54 l0 x15_1).f0), .int .i64 0, .int .i64 0, .int .i64 0, .slice none 0 0, .slice none 0 0, .slice none 0 0]) ?_ 1 _ rfl; (with_reducible repeat (first | refine blk_drewN ?_ _ | refine blk_drew ?_ | refine blk_alloc ?_ _)); refine blk_put (cs := #[.int .i64 0, .int .i64 0, .int .i64 0, .int .i64 0, .slice none 0 0, .slice none 0 0, .slice none 0 0]) ?_ 0 _ rfl; (with_reducible repeat (first | refine blk_drewN ?_ _ | refine blk_drew ?_ | refine blk_alloc ?_ _)); exact BK153.out) hb); have n1_ := Aside0.mk (below_step (by repeat (first | (with_reducible first | exact HB.out | apply below_alloc | apply pw_below_drewN | apply below_drew1 | refine below_set ?_ GE153.out) | exact HB.out)) hb); clear BK153; clear HB; have BK153 := n0_; have HB := n1_; clear n0_ n1_; (try clear hb); (try clear hb2); (try clear hk); (try clear hi); have hcz19_0 : w18.cell? ⟨gb153, 0, none⟩ = some (.int .i64 ((rd_T54 l0 x15_1).f0)) := (blk_cell BK153.out 0).trans rfl; have hcz19_1 : w18.cell? ⟨gb153, 1, none⟩ = some (.int .i64 ((rd_T54 l0 x15_1).f1)) := (blk_cell BK153.out 1).trans rfl; have hcz19_2 : w18.cell? ⟨gb153, 2, none⟩ = some (.int .i64 ((rd_T54 l0 x15_1).f2)) := (blk_cell BK153.out 2).trans rfl; have hcz19_3 : w18.cell? ⟨gb153, 3, none⟩ = some (.int .i64 ((rd_T54 l0 x15_1).f3)) := (blk_cell BK153.out 3).trans rfl; have hcz19_4 : w18.cell? ⟨gb153, 4, none⟩ = some (.slice A152_4 ((rd_T54 l0 x15_1).f4).length c152_4) := (blk_cell BK153.out 4).trans rfl; have hcz19_5 : w18.cell? ⟨gb153, 5, none⟩ = some (.slice A152_5 ((rd_T54 l0 x15_1).f5).length c152_5) := (blk_cell BK153.out 5).trans rfl; have hcz19_6 : w18.cell? ⟨gb153, 6, none⟩ = some (.slice A152_6 ((rd_T54 l0 x15_1).f6).length c152_6) := (blk_cell BK153.out 6).trans rfl; have hfz19_0 := blk_frozen BK153.out 0; have hfz19_1 := blk_frozen BK153.out 1; have hfz19_2 := blk_frozen BK153.out 2; have hfz19_3 := blk_frozen BK153.out 3; have hfz19_4 := blk_frozen BK153.out 4; have hfz19_5 := blk_frozen BK153.out 5; have hfz19_6 := blk_frozen BK153.out 6))
                      go_meet
                      case rel => exact ⟨_, (true), (by first | rfl | (simp; done) | (simp [*]; done)), H', ⟨by have := HK1.out; first | omega | exact Nat.le_refl _⟩, ⟨by (with_reducible repeat (first | refine blk_drewN ?_ _ | refine blk_drew ?_ | refine blk_alloc ?_ _)); exact BK153.out⟩, ⟨by repeat (first | (with_reducible first | exact HB.out | apply below_alloc | apply pw_below_drewN | apply below_drew1 | refine below_set ?_ GE153.out) | exact HB.out)⟩⟩
                    · rw [if_neg c16] at H
                      have c16b0 : decide (0 < (((rd_T54 l0 x15_1).f6).length : Int)) = false := decide_eq_false c16
                      have c16b1 : decide (0 < ((rd_T54 l0 x15_1).f6).length) = false := decide_eq_false (by omega)
                      clear c16
                      replace H := Option.bind_eq_some_iff.mp H
                      obtain ⟨t155, A200, H⟩ := H
                      replace H : (instr_count.j1 k1 a1 x6_1 l0 (l0.length : Int) x15_1 t155 ((rd_T54 l0 x15_1).f0) ((rd_T54 l0 x15_1).f1) ((rd_T54 l0 x15_1).f2) ((rd_T54 l0 x15_1).f3) ((rd_T54 l0 x15_1).f4) ((rd_T54 l0 x15_1).f5) ((rd_T54 l0 x15_1).f6)) = some (r1, r2) := H
                      have A20 := Aside0.mk A200
                      clear A200
                      have H' := Aside0.mk H
                      clear H
                      have hcz21_0 : w7.cell? ⟨gb153, 0, none⟩ = some (.int .i64 0) := (blk_cell BK153.out 0).trans rfl
                      have hcz21_1 : w7.cell? ⟨gb153, 1, none⟩ = some (.int .i64 0) := (blk_cell BK153.out 1).trans rfl
                      have hcz21_2 : w7.cell? ⟨gb153, 2, none⟩ = some (.int .i64 0) := (blk_cell BK153.out 2).trans rfl
                      have hcz21_3 : w7.cell? ⟨gb153, 3, none⟩ = some (.int .i64 0) := (blk_cell BK153.out 3).trans rfl
                      have hcz21_4 : w7.cell? ⟨gb153, 4, none⟩ = some (.slice none 0 0) := (blk_cell BK153.out 4).trans rfl
                      have hcz21_5 : w7.cell? ⟨gb153, 5, none⟩ = some (.slice none 0 0) := (blk_cell BK153.out 5).trans rfl
                      have hcz21_6 : w7.cell? ⟨gb153, 6, none⟩ = some (.slice none 0 0) := (blk_cell BK153.out 6).trans rfl
                      have hfz21_0 := blk_frozen BK153.out 0
                      have hfz21_1 := blk_frozen BK153.out 1
                      have hfz21_2 := blk_frozen BK153.out 2
                      have hfz21_3 := blk_frozen BK153.out 3
                      have hfz21_4 := blk_frozen BK153.out 4
                      have hfz21_5 := blk_frozen BK153.out 5
                      have hfz21_6 := blk_frozen BK153.out 6
                      go_wp2_with (first | ((with_reducible refine gate_callee (f := 45) rfl ?_); refine goesL_ (some 20) rfl rfl Try.func45 (by kernel_rfl) rfl #[.agg #[.int .i64 ((rd_T54 l0 x15_1).f0), .int .i64 ((rd_T54 l0 x15_1).f1), .int .i64 ((rd_T54 l0 x15_1).f2), .int .i64 ((rd_T54 l0 x15_1).f3), .slice A152_4 ((rd_T54 l0 x15_1).f4).length c152_4, .slice A152_5 ((rd_T54 l0 x15_1).f5).length c152_5, .slice A152_6 ((rd_T54 l0 x15_1).f6).length c152_6]] rfl (by (try simp only [List.map_toArray, List.map_cons, List.map_nil]); first | done | rfl | (simp only [List.length_drop, List.length_take]; rfl)) ?_; (with_reducible refine (instr_may.calls ((rd_T54 l0 x15_1).f0) ((rd_T54 l0 x15_1).f1) ((rd_T54 l0 x15_1).f2) ((rd_T54 l0 x15_1).f3) _ _ ((rd_T54 l0 x15_1).f4) _ _ ((rd_T54 l0 x15_1).f5) _ _ ((rd_T54 l0 x15_1).f6) true _ ?side1 ?side2 ?side3 ?side4 ?side5 ?side6 A9.out).mono ?_); (case side1 => exact Kd.C_below HR152_4.out (by repeat (first | (with_reducible first | exact HB.out | apply below_alloc | apply pw_below_drewN | apply below_drew1 | refine below_set ?_ GE153.out) | exact HB.out))); (case side2 => exact HC152_4.out); (case side3 => exact Kd.C_below HR152_5.out (by repeat (first | (with_reducible first | exact HB.out | apply below_alloc | apply pw_below_drewN | apply below_drew1 | refine below_set ?_ GE153.out) | exact HB.out))); (case side4 => exact HC152_5.out); (case side5 => exact Kd.C_below HR152_6.out (by repeat (first | (with_reducible first | exact HB.out | apply below_alloc | apply pw_below_drewN | apply below_drew1 | refine below_set ?_ GE153.out) | exact HB.out))); (case side6 => exact HC152_6.out); rintro e w22 ⟨rfl, hb⟩; refine ⟨_, rfl, ?_⟩; have n0_ := Aside0.mk (blk_below (g := gb153) (o := .cells #[.int .i64 ((rd_T54 l0 x15_1).f0), .int .i64 ((rd_T54 l0 x15_1).f1), .int .i64 ((rd_T54 l0 x15_1).f2), .int .i64 ((rd_T54 l0 x15_1).f3), .slice A152_4 ((rd_T54 l0 x15_1).f4).length c152_4, .slice A152_5 ((rd_T54 l0 x15_1).f5).length c152_5, .slice A152_6 ((rd_T54 l0 x15_1).f6).length c152_6] 54 (0, 0)) (by (with_reducible repeat (first | refine blk_drewN ?_ _ | refine blk_drew ?_ | refine blk_alloc ?_ _)); refine blk_put (cs := #[.int .i64 ((rd_T54 l0 x15_1).f0), .int .i64 ((rd_T54 l0 x15_1).f1), .int .i64 ((rd_T54 l0 x15_1).f2), .int .i64 ((rd_T54 l0 x15_1).f3), .slice A152_4 ((rd_T54 l0 x15_1).f4).length c152_4, .slice A152_5 ((rd_T54 l0 x15_1).f5).length c152_5, .slice none 0 0]) ?_ 6 _ rfl; (with_reducible repeat (first | refine blk_drewN ?_ _ | refine blk_drew ?_ | refine blk_alloc ?_ _)); refine blk_put (cs := #[.int .i64 ((rd_T54 l0 x15_1).f0), .int .i64 ((rd_T54 l0 x15_1).f1), .int .i64 ((rd_T54 l0 x15_1).f2), .int .i64 ((rd_T54 l0 x15_1).f3), .slice A152_4 ((rd_T54 l0 x15_1).f4).length c152_4, .slice none 0 0, .slice none 0 0]) ?_ 5 _ rfl; (with_reducible repeat (first | refine blk_drewN ?_ _ | refine blk_drew ?_ | refine blk_alloc ?_ _)); refine blk_put (cs := #[.int .i64 ((rd_T54 l0 x15_1).f0), .int .i64 ((rd_T54 l0 x15_1).f1), .int .i64 ((rd_T54 l0 x15_1).f2), .int .i64 ((rd_T54 l0 x15_1).f3), .slice none 0 0, .slice none 0 0, .slice none 0 0]) ?_ 4 _ rfl; (with_reducible repeat (first | refine blk_drewN ?_ _ | refine blk_drew ?_ | refine blk_alloc ?_ _)); refine blk_put (cs := #[.int .i64 ((rd_T54 l0 x15_1).f0), .int .i64 ((rd_T54 l0 x15_1).f1), .int .i64 ((rd_T54 l0 x15_1).f2), .int .i64 0, .slice none 0 0, .slice none 0 0, .slice none 0 0]) ?_ 3 _ rfl; (with_reducible repeat (first | refine blk_drewN ?_ _ | refine blk_drew ?_ | refine blk_alloc ?_ _)); refine blk_put (cs := #[.int .i64 ((rd_T54 l0 x15_1).f0), .int .i64 ((rd_T54 l0 x15_1).f1), .int .i64 0, .int .i64 0, .slice none 0 0, .slice none 0 0, .slice none 0 0]) ?_ 2 _ rfl; (with_reducible repeat (first | refine blk_drewN ?_ _ | refine blk_drew ?_ | refine blk_alloc ?_ _)); refine blk_put (cs := #[.int .i64 ((rd_T54 l0 x15_1).f0), .int .i64 0, .int .i64 0, .int .i64 0, .slice none 0 0, .slice none 0 0, .slice none 0 0]) ?_ 1 _ rfl; (with_reducible repeat (first | refine blk_drewN ?_ _ | refine blk_drew ?_ | refine blk_alloc ?_ _)); refine blk_put (cs := #[.int .i64 0, .int .i64 0, .int .i64 0, .int .i64 0, .slice none 0 0, .slice none 0 0, .slice none 0 0]) ?_ 0 _ rfl; (with_reducible repeat (first | refine blk_drewN ?_ _ | refine blk_drew ?_ | refine blk_alloc ?_ _)); exact BK153.out) hb); have n1_ := Aside0.mk (below_step (by repeat (first | (with_reducible first | exact HB.out | apply below_alloc | apply pw_below_drewN | apply below_drew1 | refine below_set ?_ GE153.out) | exact HB.out)) hb); clear BK153; clear HB; have BK153 := n0_; have HB := n1_; clear n0_ n1_; (try clear hb); (try clear hb2); (try clear hk); (try clear hi); have hcz23_0 : w22.cell? ⟨gb153, 0, none⟩ = some (.int .i64 ((rd_T54 l0 x15_1).f0)) := (blk_cell BK153.out 0).trans rfl; have hcz23_1 : w22.cell? ⟨gb153, 1, none⟩ = some (.int .i64 ((rd_T54 l0 x15_1).f1)) := (blk_cell BK153.out 1).trans rfl; have hcz23_2 : w22.cell? ⟨gb153, 2, none⟩ = some (.int .i64 ((rd_T54 l0 x15_1).f2)) := (blk_cell BK153.out 2).trans rfl; have hcz23_3 : w22.cell? ⟨gb153, 3, none⟩ = some (.int .i64 ((rd_T54 l0 x15_1).f3)) := (blk_cell BK153.out 3).trans rfl; have hcz23_4 : w22.cell? ⟨gb153, 4, none⟩ = some (.slice A152_4 ((rd_T54 l0 x15_1).f4).length c152_4) := (blk_cell BK153.out 4).trans rfl; have hcz23_5 : w22.cell? ⟨gb153, 5, none⟩ = some (.slice A152_5 ((rd_T54 l0 x15_1).f5).length c152_5) := (blk_cell BK153.out 5).trans rfl; have hcz23_6 : w22.cell? ⟨gb153, 6, none⟩ = some (.slice A152_6 ((rd_T54 l0 x15_1).f6).length c152_6) := (blk_cell BK153.out 6).trans rfl; have hfz23_0 := blk_frozen BK153.out 0; have hfz23_1 := blk_frozen BK153.out 1; have hfz23_2 := blk_frozen BK153.out 2; have hfz23_3 := blk_frozen BK153.out 3; have hfz23_4 := blk_frozen BK153.out 4; have hfz23_5 := blk_frozen BK153.out 5; have hfz23_6 := blk_frozen BK153.out 6) | (go_at_call 46; (with_reducible refine (instr_isBlock.calls ((rd_T54 l0 x15_1).f0) t155 _ A20.out).mono ?_); rintro e w' ⟨rfl, ⟨nd, rfl⟩⟩))
                      go_meet
                      case rel => exact ⟨_, (t155), (by first | rfl | (simp; done) | (simp [*]; done)), H', ⟨by have := HK1.out; first | omega | exact Nat.le_refl _⟩, ⟨by (with_reducible repeat (first | refine blk_drewN ?_ _ | refine blk_drew ?_ | refine blk_alloc ?_ _)); exact BK153.out⟩, ⟨by repeat (first | (with_reducible first | exact HB.out | apply below_alloc | apply pw_below_drewN | apply below_drew1 | refine below_set ?_ GE153.out) | exact HB.out)⟩⟩
                · rw [if_neg c11] at H
                  have c11b0 : (a1 == 32) = false := beq_eq_false_iff_ne.mpr c11
                  have c11b1 : (a1 != 32) = true := bne_iff_ne.mpr c11
                  (first | rw [c11b0] | (simp only [i64_w, i32_w]; rw [c11b0]) | skip)
                  have H' := Aside0.mk H
                  clear H
                  have hcz24_0 : w7.cell? ⟨gb153, 0, none⟩ = some (.int .i64 0) := (blk_cell BK153.out 0).trans rfl
                  have hcz24_1 : w7.cell? ⟨gb153, 1, none⟩ = some (.int .i64 0) := (blk_cell BK153.out 1).trans rfl
                  have hcz24_2 : w7.cell? ⟨gb153, 2, none⟩ = some (.int .i64 0) := (blk_cell BK153.out 2).trans rfl
                  have hcz24_3 : w7.cell? ⟨gb153, 3, none⟩ = some (.int .i64 0) := (blk_cell BK153.out 3).trans rfl
                  have hcz24_4 : w7.cell? ⟨gb153, 4, none⟩ = some (.slice none 0 0) := (blk_cell BK153.out 4).trans rfl
                  have hcz24_5 : w7.cell? ⟨gb153, 5, none⟩ = some (.slice none 0 0) := (blk_cell BK153.out 5).trans rfl
                  have hcz24_6 : w7.cell? ⟨gb153, 6, none⟩ = some (.slice none 0 0) := (blk_cell BK153.out 6).trans rfl
                  have hfz24_0 := blk_frozen BK153.out 0
                  have hfz24_1 := blk_frozen BK153.out 1
                  have hfz24_2 := blk_frozen BK153.out 2
                  have hfz24_3 := blk_frozen BK153.out 3
                  have hfz24_4 := blk_frozen BK153.out 4
                  have hfz24_5 := blk_frozen BK153.out 5
                  have hfz24_6 := blk_frozen BK153.out 6
                  go_wp2_with (first | ((with_reducible refine gate_callee (f := 45) rfl ?_); refine goesL_ (some 20) rfl rfl Try.func45 (by kernel_rfl) rfl #[.agg #[.int .i64 ((rd_T54 l0 x15_1).f0), .int .i64 ((rd_T54 l0 x15_1).f1), .int .i64 ((rd_T54 l0 x15_1).f2), .int .i64 ((rd_T54 l0 x15_1).f3), .slice A152_4 ((rd_T54 l0 x15_1).f4).length c152_4, .slice A152_5 ((rd_T54 l0 x15_1).f5).length c152_5, .slice A152_6 ((rd_T54 l0 x15_1).f6).length c152_6]] rfl (by (try simp only [List.map_toArray, List.map_cons, List.map_nil]); first | done | rfl | (simp only [List.length_drop, List.length_take]; rfl)) ?_; (with_reducible refine (instr_may.calls ((rd_T54 l0 x15_1).f0) ((rd_T54 l0 x15_1).f1) ((rd_T54 l0 x15_1).f2) ((rd_T54 l0 x15_1).f3) _ _ ((rd_T54 l0 x15_1).f4) _ _ ((rd_T54 l0 x15_1).f5) _ _ ((rd_T54 l0 x15_1).f6) true _ ?side1 ?side2 ?side3 ?side4 ?side5 ?side6 A9.out).mono ?_); (case side1 => exact Kd.C_below HR152_4.out (by repeat (first | (with_reducible first | exact HB.out | apply below_alloc | apply pw_below_drewN | apply below_drew1 | refine below_set ?_ GE153.out) | exact HB.out))); (case side2 => exact HC152_4.out); (case side3 => exact Kd.C_below HR152_5.out (by repeat (first | (with_reducible first | exact HB.out | apply below_alloc | apply pw_below_drewN | apply below_drew1 | refine below_set ?_ GE153.out) | exact HB.out))); (case side4 => exact HC152_5.out); (case side5 => exact Kd.C_below HR152_6.out (by repeat (first | (with_reducible first | exact HB.out | apply below_alloc | apply pw_below_drewN | apply below_drew1 | refine below_set ?_ GE153.out) | exact HB.out))); (case side6 => exact HC152_6.out); rintro e w25 ⟨rfl, hb⟩; refine ⟨_, rfl, ?_⟩; have n0_ := Aside0.mk (blk_below (g := gb153) (o := .cells #[.int .i64 ((rd_T54 l0 x15_1).f0), .int .i64 ((rd_T54 l0 x15_1).f1), .int .i64 ((rd_T54 l0 x15_1).f2), .int .i64 ((rd_T54 l0 x15_1).f3), .slice A152_4 ((rd_T54 l0 x15_1).f4).length c152_4, .slice A152_5 ((rd_T54 l0 x15_1).f5).length c152_5, .slice A152_6 ((rd_T54 l0 x15_1).f6).length c152_6] 54 (0, 0)) (by (with_reducible repeat (first | refine blk_drewN ?_ _ | refine blk_drew ?_ | refine blk_alloc ?_ _)); refine blk_put (cs := #[.int .i64 ((rd_T54 l0 x15_1).f0), .int .i64 ((rd_T54 l0 x15_1).f1), .int .i64 ((rd_T54 l0 x15_1).f2), .int .i64 ((rd_T54 l0 x15_1).f3), .slice A152_4 ((rd_T54 l0 x15_1).f4).length c152_4, .slice A152_5 ((rd_T54 l0 x15_1).f5).length c152_5, .slice none 0 0]) ?_ 6 _ rfl; (with_reducible repeat (first | refine blk_drewN ?_ _ | refine blk_drew ?_ | refine blk_alloc ?_ _)); refine blk_put (cs := #[.int .i64 ((rd_T54 l0 x15_1).f0), .int .i64 ((rd_T54 l0 x15_1).f1), .int .i64 ((rd_T54 l0 x15_1).f2), .int .i64 ((rd_T54 l0 x15_1).f3), .slice A152_4 ((rd_T54 l0 x15_1).f4).length c152_4, .slice none 0 0, .slice none 0 0]) ?_ 5 _ rfl; (with_reducible repeat (first | refine blk_drewN ?_ _ | refine blk_drew ?_ | refine blk_alloc ?_ _)); refine blk_put (cs := #[.int .i64 ((rd_T54 l0 x15_1).f0), .int .i64 ((rd_T54 l0 x15_1).f1), .int .i64 ((rd_T54 l0 x15_1).f2), .int .i64 ((rd_T54 l0 x15_1).f3), .slice none 0 0, .slice none 0 0, .slice none 0 0]) ?_ 4 _ rfl; (with_reducible repeat (first | refine blk_drewN ?_ _ | refine blk_drew ?_ | refine blk_alloc ?_ _)); refine blk_put (cs := #[.int .i64 ((rd_T54 l0 x15_1).f0), .int .i64 ((rd_T54 l0 x15_1).f1), .int .i64 ((rd_T54 l0 x15_1).f2), .int .i64 0, .slice none 0 0, .slice none 0 0, .slice none 0 0]) ?_ 3 _ rfl; (with_reducible repeat (first | refine blk_drewN ?_ _ | refine blk_drew ?_ | refine blk_alloc ?_ _)); refine blk_put (cs := #[.int .i64 ((rd_T54 l0 x15_1).f0), .int .i64 ((rd_T54 l0 x15_1).f1), .int .i64 0, .int .i64 0, .slice none 0 0, .slice none 0 0, .slice none 0 0]) ?_ 2 _ rfl; (with_reducible repeat (first | refine blk_drewN ?_ _ | refine blk_drew ?_ | refine blk_alloc ?_ _)); refine blk_put (cs := #[.int .i64 ((rd_T54 l0 x15_1).f0), .int .i64 0, .int .i64 0, .int .i64 0, .slice none 0 0, .slice none 0 0, .slice none 0 0]) ?_ 1 _ rfl; (with_reducible repeat (first | refine blk_drewN ?_ _ | refine blk_drew ?_ | refine blk_alloc ?_ _)); refine blk_put (cs := #[.int .i64 0, .int .i64 0, .int .i64 0, .int .i64 0, .slice none 0 0, .slice none 0 0, .slice none 0 0]) ?_ 0 _ rfl; (with_reducible repeat (first | refine blk_drewN ?_ _ | refine blk_drew ?_ | refine blk_alloc ?_ _)); exact BK153.out) hb); have n1_ := Aside0.mk (below_step (by repeat (first | (with_reducible first | exact HB.out | apply below_alloc | apply pw_below_drewN | apply below_drew1 | refine below_set ?_ GE153.out) | exact HB.out)) hb); clear BK153; clear HB; have BK153 := n0_; have HB := n1_; clear n0_ n1_; (try clear hb); (try clear hb2); (try clear hk); (try clear hi)))
                  go_meet
                  case rel => exact ⟨_, (false), (by first | rfl | (simp; done) | (simp [*]; done)), H', ⟨by have := HK1.out; first | omega | exact Nat.le_refl _⟩, ⟨by (with_reducible repeat (first | refine blk_drewN ?_ _ | refine blk_drew ?_ | refine blk_alloc ?_ _)); exact BK153.out⟩, ⟨by repeat (first | (with_reducible first | exact HB.out | apply below_alloc | apply pw_below_drewN | apply below_drew1 | refine below_set ?_ GE153.out) | exact HB.out)⟩⟩
              · replace c10 := Bool.eq_false_iff.mpr c10
                subst c10
                have H1 : (instr_count.j1 k1 a1 x6_1 l0 (l0.length : Int) x15_1 true ((rd_T54 l0 x15_1).f0) ((rd_T54 l0 x15_1).f1) ((rd_T54 l0 x15_1).f2) ((rd_T54 l0 x15_1).f3) ((rd_T54 l0 x15_1).f4) ((rd_T54 l0 x15_1).f5) ((rd_T54 l0 x15_1).f6)) = some (r1, r2) := by rw [if_neg (show ¬ (false = true) by decide)] at H; exact H
                clear H
                have H := H1
                clear H1
                have H' := Aside0.mk H
                clear H
                have hcz26_0 : w7.cell? ⟨gb153, 0, none⟩ = some (.int .i64 0) := (blk_cell BK153.out 0).trans rfl
                have hcz26_1 : w7.cell? ⟨gb153, 1, none⟩ = some (.int .i64 0) := (blk_cell BK153.out 1).trans rfl
                have hcz26_2 : w7.cell? ⟨gb153, 2, none⟩ = some (.int .i64 0) := (blk_cell BK153.out 2).trans rfl
                have hcz26_3 : w7.cell? ⟨gb153, 3, none⟩ = some (.int .i64 0) := (blk_cell BK153.out 3).trans rfl
                have hcz26_4 : w7.cell? ⟨gb153, 4, none⟩ = some (.slice none 0 0) := (blk_cell BK153.out 4).trans rfl
                have hcz26_5 : w7.cell? ⟨gb153, 5, none⟩ = some (.slice none 0 0) := (blk_cell BK153.out 5).trans rfl
                have hcz26_6 : w7.cell? ⟨gb153, 6, none⟩ = some (.slice none 0 0) := (blk_cell BK153.out 6).trans rfl
                have hfz26_0 := blk_frozen BK153.out 0
                have hfz26_1 := blk_frozen BK153.out 1
                have hfz26_2 := blk_frozen BK153.out 2
                have hfz26_3 := blk_frozen BK153.out 3
                have hfz26_4 := blk_frozen BK153.out 4
                have hfz26_5 := blk_frozen BK153.out 5
                have hfz26_6 := blk_frozen BK153.out 6
                go_wp2_with (first | ((with_reducible refine gate_callee (f := 45) rfl ?_); refine goesL_ (some 20) rfl rfl Try.func45 (by kernel_rfl) rfl #[.agg #[.int .i64 ((rd_T54 l0 x15_1).f0), .int .i64 ((rd_T54 l0 x15_1).f1), .int .i64 ((rd_T54 l0 x15_1).f2), .int .i64 ((rd_T54 l0 x15_1).f3), .slice A152_4 ((rd_T54 l0 x15_1).f4).length c152_4, .slice A152_5 ((rd_T54 l0 x15_1).f5).length c152_5, .slice A152_6 ((rd_T54 l0 x15_1).f6).length c152_6]] rfl (by (try simp only [List.map_toArray, List.map_cons, List.map_nil]); first | done | rfl | (simp only [List.length_drop, List.length_take]; rfl)) ?_; (with_reducible refine (instr_may.calls ((rd_T54 l0 x15_1).f0) ((rd_T54 l0 x15_1).f1) ((rd_T54 l0 x15_1).f2) ((rd_T54 l0 x15_1).f3) _ _ ((rd_T54 l0 x15_1).f4) _ _ ((rd_T54 l0 x15_1).f5) _ _ ((rd_T54 l0 x15_1).f6) false _ ?side1 ?side2 ?side3 ?side4 ?side5 ?side6 A9.out).mono ?_); (case side1 => exact Kd.C_below HR152_4.out (by repeat (first | (with_reducible first | exact HB.out | apply below_alloc | apply pw_below_drewN | apply below_drew1 | refine below_set ?_ GE153.out) | exact HB.out))); (case side2 => exact HC152_4.out); (case side3 => exact Kd.C_below HR152_5.out (by repeat (first | (with_reducible first | exact HB.out | apply below_alloc | apply pw_below_drewN | apply below_drew1 | refine below_set ?_ GE153.out) | exact HB.out))); (case side4 => exact HC152_5.out); (case side5 => exact Kd.C_below HR152_6.out (by repeat (first | (with_reducible first | exact HB.out | apply below_alloc | apply pw_below_drewN | apply below_drew1 | refine below_set ?_ GE153.out) | exact HB.out))); (case side6 => exact HC152_6.out); rintro e w27 ⟨rfl, hb⟩; refine ⟨_, rfl, ?_⟩; have n0_ := Aside0.mk (blk_below (g := gb153) (o := .cells #[.int .i64 ((rd_T54 l0 x15_1).f0), .int .i64 ((rd_T54 l0 x15_1).f1), .int .i64 ((rd_T54 l0 x15_1).f2), .int .i64 ((rd_T54 l0 x15_1).f3), .slice A152_4 ((rd_T54 l0 x15_1).f4).length c152_4, .slice A152_5 ((rd_T54 l0 x15_1).f5).length c152_5, .slice A152_6 ((rd_T54 l0 x15_1).f6).length c152_6] 54 (0, 0)) (by (with_reducible repeat (first | refine blk_drewN ?_ _ | refine blk_drew ?_ | refine blk_alloc ?_ _)); refine blk_put (cs := #[.int .i64 ((rd_T54 l0 x15_1).f0), .int .i64 ((rd_T54 l0 x15_1).f1), .int .i64 ((rd_T54 l0 x15_1).f2), .int .i64 ((rd_T54 l0 x15_1).f3), .slice A152_4 ((rd_T54 l0 x15_1).f4).length c152_4, .slice A152_5 ((rd_T54 l0 x15_1).f5).length c152_5, .slice none 0 0]) ?_ 6 _ rfl; (with_reducible repeat (first | refine blk_drewN ?_ _ | refine blk_drew ?_ | refine blk_alloc ?_ _)); refine blk_put (cs := #[.int .i64 ((rd_T54 l0 x15_1).f0), .int .i64 ((rd_T54 l0 x15_1).f1), .int .i64 ((rd_T54 l0 x15_1).f2), .int .i64 ((rd_T54 l0 x15_1).f3), .slice A152_4 ((rd_T54 l0 x15_1).f4).length c152_4, .slice none 0 0, .slice none 0 0]) ?_ 5 _ rfl; (with_reducible repeat (first | refine blk_drewN ?_ _ | refine blk_drew ?_ | refine blk_alloc ?_ _)); refine blk_put (cs := #[.int .i64 ((rd_T54 l0 x15_1).f0), .int .i64 ((rd_T54 l0 x15_1).f1), .int .i64 ((rd_T54 l0 x15_1).f2), .int .i64 ((rd_T54 l0 x15_1).f3), .slice none 0 0, .slice none 0 0, .slice none 0 0]) ?_ 4 _ rfl; (with_reducible repeat (first | refine blk_drewN ?_ _ | refine blk_drew ?_ | refine blk_alloc ?_ _)); refine blk_put (cs := #[.int .i64 ((rd_T54 l0 x15_1).f0), .int .i64 ((rd_T54 l0 x15_1).f1), .int .i64 ((rd_T54 l0 x15_1).f2), .int .i64 0, .slice none 0 0, .slice none 0 0, .slice none 0 0]) ?_ 3 _ rfl; (with_reducible repeat (first | refine blk_drewN ?_ _ | refine blk_drew ?_ | refine blk_alloc ?_ _)); refine blk_put (cs := #[.int .i64 ((rd_T54 l0 x15_1).f0), .int .i64 ((rd_T54 l0 x15_1).f1), .int .i64 0, .int .i64 0, .slice none 0 0, .slice none 0 0, .slice none 0 0]) ?_ 2 _ rfl; (with_reducible repeat (first | refine blk_drewN ?_ _ | refine blk_drew ?_ | refine blk_alloc ?_ _)); refine blk_put (cs := #[.int .i64 ((rd_T54 l0 x15_1).f0), .int .i64 0, .int .i64 0, .int .i64 0, .slice none 0 0, .slice none 0 0, .slice none 0 0]) ?_ 1 _ rfl; (with_reducible repeat (first | refine blk_drewN ?_ _ | refine blk_drew ?_ | refine blk_alloc ?_ _)); refine blk_put (cs := #[.int .i64 0, .int .i64 0, .int .i64 0, .int .i64 0, .slice none 0 0, .slice none 0 0, .slice none 0 0]) ?_ 0 _ rfl; (with_reducible repeat (first | refine blk_drewN ?_ _ | refine blk_drew ?_ | refine blk_alloc ?_ _)); exact BK153.out) hb); have n1_ := Aside0.mk (below_step (by repeat (first | (with_reducible first | exact HB.out | apply below_alloc | apply pw_below_drewN | apply below_drew1 | refine below_set ?_ GE153.out) | exact HB.out)) hb); clear BK153; clear HB; have BK153 := n0_; have HB := n1_; clear n0_ n1_; (try clear hb); (try clear hb2); (try clear hk); (try clear hi)))
                go_meet
                case rel => exact ⟨_, (true), (by first | rfl | (simp; done) | (simp [*]; done)), H', ⟨by have := HK1.out; first | omega | exact Nat.le_refl _⟩, ⟨by (with_reducible repeat (first | refine blk_drewN ?_ _ | refine blk_drew ?_ | refine blk_alloc ?_ _)); exact BK153.out⟩, ⟨by repeat (first | (with_reducible first | exact HB.out | apply below_alloc | apply pw_below_drewN | apply below_drew1 | refine below_set ?_ GE153.out) | exact HB.out)⟩⟩
            case rest =>
              clear HC6
              try clear c1
              try clear p1
              try clear q1
              try clear hx1
              try clear p2
              try clear c3
              try clear c3b0
              try clear c4
              try clear c4b0
              try clear c5
              try clear c5b0
              try clear c10
              try clear c11
              try clear c11b0
              try clear c11b1
              try clear c12
              try clear c12b0
              try clear c12b1
              try clear c15
              try clear p15
              try clear q15
              try clear hx15
              try clear c16
              try clear c16b0
              try clear c16b1
              try clear hcz13_0
              try clear hcz13_1
              try clear hcz13_2
              try clear hcz13_3
              try clear hcz13_4
              try clear hcz13_5
              try clear hcz13_6
              try clear hcz15_0
              try clear hcz15_1
              try clear hcz15_2
              try clear hcz15_3
              try clear hcz15_4
              try clear hcz15_5
              try clear hcz15_6
              try clear hcz17_0
              try clear hcz17_1
              try clear hcz17_2
              try clear hcz17_3
              try clear hcz17_4
              try clear hcz17_5
              try clear hcz17_6
              try clear hcz19_0
              try clear hcz19_1
              try clear hcz19_2
              try clear hcz19_3
              try clear hcz19_4
              try clear hcz19_5
              try clear hcz19_6
              try clear hcz21_0
              try clear hcz21_1
              try clear hcz21_2
              try clear hcz21_3
              try clear hcz21_4
              try clear hcz21_5
              try clear hcz21_6
              try clear hcz23_0
              try clear hcz23_1
              try clear hcz23_2
              try clear hcz23_3
              try clear hcz23_4
              try clear hcz23_5
              try clear hcz23_6
              try clear hcz24_0
              try clear hcz24_1
              try clear hcz24_2
              try clear hcz24_3
              try clear hcz24_4
              try clear hcz24_5
              try clear hcz24_6
              try clear hcz26_0
              try clear hcz26_1
              try clear hcz26_2
              try clear hcz26_3
              try clear hcz26_4
              try clear hcz26_5
              try clear hcz26_6
              try clear hcz8_0
              try clear hcz8_1
              try clear hcz8_2
              try clear hcz8_3
              try clear hcz8_4
              try clear hcz8_5
              try clear hcz8_6
              try clear hfz13_0
              try clear hfz13_1
              try clear hfz13_2
              try clear hfz13_3
              try clear hfz13_4
              try clear hfz13_5
              try clear hfz13_6
              try clear hfz15_0
              try clear hfz15_1
              try clear hfz15_2
              try clear hfz15_3
              try clear hfz15_4
              try clear hfz15_5
              try clear hfz15_6
              try clear hfz17_0
              try clear hfz17_1
              try clear hfz17_2
              try clear hfz17_3
              try clear hfz17_4
              try clear hfz17_5
              try clear hfz17_6
              try clear hfz19_0
              try clear hfz19_1
              try clear hfz19_2
              try clear hfz19_3
              try clear hfz19_4
              try clear hfz19_5
              try clear hfz19_6
              try clear hfz21_0
              try clear hfz21_1
              try clear hfz21_2
              try clear hfz21_3
              try clear hfz21_4
              try clear hfz21_5
              try clear hfz21_6
              try clear hfz23_0
              try clear hfz23_1
              try clear hfz23_2
              try clear hfz23_3
              try clear hfz23_4
              try clear hfz23_5
              try clear hfz23_6
              try clear hfz24_0
              try clear hfz24_1
              try clear hfz24_2
              try clear hfz24_3
              try clear hfz24_4
              try clear hfz24_5
              try clear hfz24_6
              try clear hfz26_0
              try clear hfz26_1
              try clear hfz26_2
              try clear hfz26_3
              try clear hfz26_4
              try clear hfz26_5
              try clear hfz26_6
              try clear hfz8_0
              try clear hfz8_1
              try clear hfz8_2
              try clear hfz8_3
              try clear hfz8_4
              try clear hfz8_5
              try clear hfz8_6
              try clear hx152_0
              try clear hx152_1
              try clear hx152_2
              try clear hx152_3
              try clear hx152_4
              try clear hx152_5
              try clear hx152_6
              try clear p152
              try clear p2
              try clear q152
              obtain ⟨kq, x42_5, rfl, HA, HJ5, BK153, HB⟩ := hcut
              cases kq with
              | zero => exact absurd HA.out (by simp [instr_count.j1])
              | succ kj5 =>
                have H := HA.out
                clear HA
                simp only [instr_count.j1] at H
                by_cases c28 : x42_5 = true
                · subst c28
                  have H1 : (some (0, false)) = some (r1, r2) := by rw [if_pos rfl] at H; exact H
                  clear H
                  have H := H1
                  clear H1
                  simp only [Option.some.injEq, Prod.mk.injEq] at H
                  obtain ⟨rfl, rfl⟩ := H
                  go_wp2
                  go_ret2
                  exact ⟨by first | rfl | (simp [errW_none, errW_some] <;> rfl) | (simp [*, errW_none, errW_some] <;> rfl), by repeat (first | (with_reducible first | exact HB.out | apply below_alloc | apply pw_below_drewN | apply below_drew1 | refine below_set ?_ GE153.out) | exact HB.out)⟩
                · replace c28 := Bool.eq_false_iff.mpr c28
                  subst c28
                  have H1 : ((instr_count.f kj5 ((rd_T54 l0 x15_1).f5) (wrap64 (a1 + 1))).bind fun bt156 => ((instr_count.f kj5 ((rd_T54 l0 x15_1).f6) (wrap64 (a1 + 1))).bind fun bt158 => (if bt156.2 = true then (instr_count.j2 kj5 a1 x6_1 bt156.1 bt158.1 l0 (l0.length : Int) x15_1 (!bt158.2)) else (instr_count.j2 kj5 a1 x6_1 bt156.1 bt158.1 l0 (l0.length : Int) x15_1 true)))) = some (r1, r2) := by rw [if_neg (show ¬ (false = true) by decide)] at H; exact H
                  clear H
                  have H := H1
                  clear H1
                  replace H := Option.bind_eq_some_iff.mp H
                  obtain ⟨⟨t156, t157⟩, A290, H⟩ := H
                  replace H : ((instr_count.f kj5 ((rd_T54 l0 x15_1).f6) (wrap64 (a1 + 1))).bind fun bt158 => (if t157 = true then (instr_count.j2 kj5 a1 x6_1 t156 bt158.1 l0 (l0.length : Int) x15_1 (!bt158.2)) else (instr_count.j2 kj5 a1 x6_1 t156 bt158.1 l0 (l0.length : Int) x15_1 true))) = some (r1, r2) := H
                  have A29 := Aside0.mk A290
                  clear A290
                  replace H := Option.bind_eq_some_iff.mp H
                  obtain ⟨⟨t158, t159⟩, A300, H⟩ := H
                  replace H : (if t157 = true then (instr_count.j2 kj5 a1 x6_1 t156 t158 l0 (l0.length : Int) x15_1 (!t159)) else (instr_count.j2 kj5 a1 x6_1 t156 t158 l0 (l0.length : Int) x15_1 true)) = some (r1, r2) := H
                  have A30 := Aside0.mk A300
                  clear A300
                  have HC31 := Aside0.mk H
                  clear H
                  have hcz32_0 : wc.cell? ⟨gb153, 0, none⟩ = some (.int .i64 ((rd_T54 l0 x15_1).f0)) := (blk_cell BK153.out 0).trans rfl
                  have hcz32_1 : wc.cell? ⟨gb153, 1, none⟩ = some (.int .i64 ((rd_T54 l0 x15_1).f1)) := (blk_cell BK153.out 1).trans rfl
                  have hcz32_2 : wc.cell? ⟨gb153, 2, none⟩ = some (.int .i64 ((rd_T54 l0 x15_1).f2)) := (blk_cell BK153.out 2).trans rfl
                  have hcz32_3 : wc.cell? ⟨gb153, 3, none⟩ = some (.int .i64 ((rd_T54 l0 x15_1).f3)) := (blk_cell BK153.out 3).trans rfl
                  have hcz32_4 : wc.cell? ⟨gb153, 4, none⟩ = some (.slice A152_4 ((rd_T54 l0 x15_1).f4).length c152_4) := (blk_cell BK153.out 4).trans rfl
                  have hcz32_5 : wc.cell? ⟨gb153, 5, none⟩ = some (.slice A152_5 ((rd_T54 l0 x15_1).f5).length c152_5) := (blk_cell BK153.out 5).trans rfl
                  have hcz32_6 : wc.cell? ⟨gb153, 6, none⟩ = some (.slice A152_6 ((rd_T54 l0 x15_1).f6).length c152_6) := (blk_cell BK153.out 6).trans rfl
                  have hfz32_0 := blk_frozen BK153.out 0
                  have hfz32_1 := blk_frozen BK153.out 1
                  have hfz32_2 := blk_frozen BK153.out 2
                  have hfz32_3 := blk_frozen BK153.out 3
                  have hfz32_4 := blk_frozen BK153.out 4
                  have hfz32_5 := blk_frozen BK153.out 5
                  have hfz32_6 := blk_frozen BK153.out 6
                  go_upto_region 9 with (first | ((with_reducible refine gate_callee (f := 33) rfl ?_); refine goesL_ (some 48) rfl rfl Try.func33 (by kernel_rfl) rfl #[.slice A152_5 ((rd_T54 l0 x15_1).f5).length c152_5, .int .i64 (wrap64 (a1 + 1))] rfl (by (try simp only [List.map_toArray, List.map_cons, List.map_nil]); first | done | rfl | (simp only [List.length_drop, List.length_take]; rfl)) ?_; (with_reducible refine (ih kj5 (by have := HK1.out; have := HJ5.out; omega) _ _ ((rd_T54 l0 x15_1).f5) (wrap64 (a1 + 1)) t156 t157 _ ?side1 ?side2 A29.out).mono ?_); (case side1 => repeat (first | exact (Kd.C_below HR152_5.out HB.out) | (with_reducible refine Kd.C_alloc ?_ _) | (with_reducible refine Kd.C_drewN ?_ _) | (with_reducible refine Kd.C_drew ?_))); (case side2 => exact HC152_5.out); rintro e w33 ⟨rfl, hb⟩; refine ⟨_, rfl, ?_⟩; have n0_ := Aside0.mk (blk_below (g := gb153) (o := .cells #[.int .i64 ((rd_T54 l0 x15_1).f0), .int .i64 ((rd_T54 l0 x15_1).f1), .int .i64 ((rd_T54 l0 x15_1).f2), .int .i64 ((rd_T54 l0 x15_1).f3), .slice A152_4 ((rd_T54 l0 x15_1).f4).length c152_4, .slice A152_5 ((rd_T54 l0 x15_1).f5).length c152_5, .slice A152_6 ((rd_T54 l0 x15_1).f6).length c152_6] 54 (0, 0)) (by (with_reducible repeat (first | refine blk_drewN ?_ _ | refine blk_drew ?_ | refine blk_alloc ?_ _)); exact BK153.out) hb); have n1_ := Aside0.mk (below_step (by repeat (first | (with_reducible first | exact HB.out | apply below_alloc | apply pw_below_drewN | apply below_drew1 | refine below_set ?_ GE153.out) | exact HB.out)) hb); clear BK153; clear HB; have BK153 := n0_; have HB := n1_; clear n0_ n1_; (try clear hb); (try clear hb2); (try clear hk); (try clear hi); have hcz34_0 : w33.cell? ⟨gb153, 0, none⟩ = some (.int .i64 ((rd_T54 l0 x15_1).f0)) := (blk_cell BK153.out 0).trans rfl; have hcz34_1 : w33.cell? ⟨gb153, 1, none⟩ = some (.int .i64 ((rd_T54 l0 x15_1).f1)) := (blk_cell BK153.out 1).trans rfl; have hcz34_2 : w33.cell? ⟨gb153, 2, none⟩ = some (.int .i64 ((rd_T54 l0 x15_1).f2)) := (blk_cell BK153.out 2).trans rfl; have hcz34_3 : w33.cell? ⟨gb153, 3, none⟩ = some (.int .i64 ((rd_T54 l0 x15_1).f3)) := (blk_cell BK153.out 3).trans rfl; have hcz34_4 : w33.cell? ⟨gb153, 4, none⟩ = some (.slice A152_4 ((rd_T54 l0 x15_1).f4).length c152_4) := (blk_cell BK153.out 4).trans rfl; have hcz34_5 : w33.cell? ⟨gb153, 5, none⟩ = some (.slice A152_5 ((rd_T54 l0 x15_1).f5).length c152_5) := (blk_cell BK153.out 5).trans rfl; have hcz34_6 : w33.cell? ⟨gb153, 6, none⟩ = some (.slice A152_6 ((rd_T54 l0 x15_1).f6).length c152_6) := (blk_cell BK153.out 6).trans rfl; have hfz34_0 := blk_frozen BK153.out 0; have hfz34_1 := blk_frozen BK153.out 1; have hfz34_2 := blk_frozen BK153.out 2; have hfz34_3 := blk_frozen BK153.out 3; have hfz34_4 := blk_frozen BK153.out 4; have hfz34_5 := blk_frozen BK153.out 5; have hfz34_6 := blk_frozen BK153.out 6) | ((with_reducible refine gate_callee (f := 33) rfl ?_); refine goesL_ (some 56) rfl rfl Try.func33 (by kernel_rfl) rfl #[.slice A152_6 ((rd_T54 l0 x15_1).f6).length c152_6, .int .i64 (wrap64 (a1 + 1))] rfl (by (try simp only [List.map_toArray, List.map_cons, List.map_nil]); first | done | rfl | (simp only [List.length_drop, List.length_take]; rfl)) ?_; (with_reducible refine (ih kj5 (by have := HK1.out; have := HJ5.out; omega) _ _ ((rd_T54 l0 x15_1).f6) (wrap64 (a1 + 1)) t158 t159 _ ?side1 ?side2 A30.out).mono ?_); (case side1 => repeat (first | exact (Kd.C_below HR152_6.out HB.out) | (with_reducible refine Kd.C_alloc ?_ _) | (with_reducible refine Kd.C_drewN ?_ _) | (with_reducible refine Kd.C_drew ?_))); (case side2 => exact HC152_6.out); rintro e w35 ⟨rfl, hb⟩; refine ⟨_, rfl, ?_⟩; have n0_ := Aside0.mk (blk_below (g := gb153) (o := .cells #[.int .i64 ((rd_T54 l0 x15_1).f0), .int .i64 ((rd_T54 l0 x15_1).f1), .int .i64 ((rd_T54 l0 x15_1).f2), .int .i64 ((rd_T54 l0 x15_1).f3), .slice A152_4 ((rd_T54 l0 x15_1).f4).length c152_4, .slice A152_5 ((rd_T54 l0 x15_1).f5).length c152_5, .slice A152_6 ((rd_T54 l0 x15_1).f6).length c152_6] 54 (0, 0)) (by (with_reducible repeat (first | refine blk_drewN ?_ _ | refine blk_drew ?_ | refine blk_alloc ?_ _)); exact BK153.out) hb); have n1_ := Aside0.mk (below_step (by repeat (first | (with_reducible first | exact HB.out | apply below_alloc | apply pw_below_drewN | apply below_drew1 | refine below_set ?_ GE153.out) | exact HB.out)) hb); clear BK153; clear HB; have BK153 := n0_; have HB := n1_; clear n0_ n1_; (try clear hb); (try clear hb2); (try clear hk); (try clear hi)))
                  (try simp only [Act.put, List.setIfInBounds_toArray, List.set_cons_zero, List.set_cons_succ])
                  go_cut [64] (fun v64 wc => ∃ (kq : Nat) (x64_30 : Bool), v64 = .bool x64_30 ∧ Aside0 (instr_count.j2 kq a1 x6_1 t156 t158 l0 (l0.length : Int) x15_1 x64_30 = some (r1, r2)) ∧ Aside0 (kq ≤ kj5) ∧ Aside0 (wc.heap[gb153]? = some (.cells #[.int .i64 ((rd_T54 l0 x15_1).f0), .int .i64 ((rd_T54 l0 x15_1).f1), .int .i64 ((rd_T54 l0 x15_1).f2), .int .i64 ((rd_T54 l0 x15_1).f3), (.slice A152_4 ((rd_T54 l0 x15_1).f4).length c152_4), (.slice A152_5 ((rd_T54 l0 x15_1).f5).length c152_5), (.slice A152_6 ((rd_T54 l0 x15_1).f6).length c152_6)] 54 (0, 0))) ∧ Aside0 (Below w.heap.size w wc))
                  case first =>
                    have H := HC31.out
                    clear HC31
                    by_cases c36 : t157 = true
                    · subst c36
                      have H1 : (instr_count.j2 kj5 a1 x6_1 t156 t158 l0 (l0.length : Int) x15_1 (!t159)) = some (r1, r2) := by rw [if_pos rfl] at H; exact H
                      clear H
                      have H := H1
                      clear H1
                      have H' := Aside0.mk H
                      clear H
                      go_wp2
                      go_meet
                      case rel => exact ⟨_, (!t159), (by first | rfl | (simp; done) | (simp [*]; done)), H', ⟨by have := HK1.out; have := HJ5.out; first | omega | exact Nat.le_refl _⟩, ⟨by (with_reducible repeat (first | refine blk_drewN ?_ _ | refine blk_drew ?_ | refine blk_alloc ?_ _)); exact BK153.out⟩, ⟨by repeat (first | (with_reducible first | exact HB.out | apply below_alloc | apply pw_below_drewN | apply below_drew1 | refine below_set ?_ GE153.out) | exact HB.out)⟩⟩
                    · replace c36 := Bool.eq_false_iff.mpr c36
                      subst c36
                      have H1 : (instr_count.j2 kj5 a1 x6_1 t156 t158 l0 (l0.length : Int) x15_1 true) = some (r1, r2) := by rw [if_neg (show ¬ (false = true) by decide)] at H; exact H
                      clear H
                      have H := H1
                      clear H1
                      have H' := Aside0.mk H
                      clear H
                      go_wp2
                      go_meet
                      case rel => exact ⟨_, (true), (by first | rfl | (simp; done) | (simp [*]; done)), H', ⟨by have := HK1.out; have := HJ5.out; first | omega | exact Nat.le_refl _⟩, ⟨by (with_reducible repeat (first | refine blk_drewN ?_ _ | refine blk_drew ?_ | refine blk_alloc ?_ _)); exact BK153.out⟩, ⟨by repeat (first | (with_reducible first | exact HB.out | apply below_alloc | apply pw_below_drewN | apply below_drew1 | refine below_set ?_ GE153.out) | exact HB.out)⟩⟩
                  case rest =>
                    clear HC31
                    try clear c1
                    try clear p1
                    try clear q1
                    try clear hx1
                    try clear c2
                    try clear p2
                    try clear c3
                    try clear c3b0
                    try clear c4
                    try clear c4b0
                    try clear c5
                    try clear c5b0
                    try clear p6
                    try clear c10
                    try clear c11
                    try clear c11b0
                    try clear c11b1
                    try clear c12
                    try clear c12b0
                    try clear c12b1
                    try clear c15
                    try clear p15
                    try clear q15
                    try clear hx15
                    try clear c16
                    try clear c16b0
                    try clear c16b1
                    try clear c28
                    try clear c33
                    try clear c36
                    try clear hcz13_0
                    try clear hcz13_1
                    try clear hcz13_2
                    try clear hcz13_3
                    try clear hcz13_4
                    try clear hcz13_5
                    try clear hcz13_6
                    try clear hcz15_0
                    try clear hcz15_1
                    try clear hcz15_2
                    try clear hcz15_3
                    try clear hcz15_4
                    try clear hcz15_5
                    try clear hcz15_6
                    try clear hcz17_0
                    try clear hcz17_1
                    try clear hcz17_2
                    try clear hcz17_3
                    try clear hcz17_4
                    try clear hcz17_5
                    try clear hcz17_6
                    try clear hcz19_0
                    try clear hcz19_1
                    try clear hcz19_2
                    try clear hcz19_3
                    try clear hcz19_4
                    try clear hcz19_5
                    try clear hcz19_6
                    try clear hcz21_0
                    try clear hcz21_1
                    try clear hcz21_2
                    try clear hcz21_3
                    try clear hcz21_4
                    try clear hcz21_5
                    try clear hcz21_6
                    try clear hcz23_0
                    try clear hcz23_1
                    try clear hcz23_2
                    try clear hcz23_3
                    try clear hcz23_4
                    try clear hcz23_5
                    try clear hcz23_6
                    try clear hcz24_0
                    try clear hcz24_1
                    try clear hcz24_2
                    try clear hcz24_3
                    try clear hcz24_4
                    try clear hcz24_5
                    try clear hcz24_6
                    try clear hcz26_0
                    try clear hcz26_1
                    try clear hcz26_2
                    try clear hcz26_3
                    try clear hcz26_4
                    try clear hcz26_5
                    try clear hcz26_6
                    try clear hcz32_0
                    try clear hcz32_1
                    try clear hcz32_2
                    try clear hcz32_3
                    try clear hcz32_4
                    try clear hcz32_5
                    try clear hcz32_6
                    try clear hcz34_0
                    try clear hcz34_1
                    try clear hcz34_2
                    try clear hcz34_3
                    try clear hcz34_4
                    try clear hcz34_5
                    try clear hcz34_6
                    try clear hcz8_0
                    try clear hcz8_1
                    try clear hcz8_2
                    try clear hcz8_3
                    try clear hcz8_4
                    try clear hcz8_5
                    try clear hcz8_6
                    try clear hfz13_0
                    try clear hfz13_1
                    try clear hfz13_2
                    try clear hfz13_3
                    try clear hfz13_4
                    try clear hfz13_5
                    try clear hfz13_6
                    try clear hfz15_0
                    try clear hfz15_1
                    try clear hfz15_2
                    try clear hfz15_3
                    try clear hfz15_4
                    try clear hfz15_5
                    try clear hfz15_6
                    try clear hfz17_0
                    try clear hfz17_1
                    try clear hfz17_2
                    try clear hfz17_3
                    try clear hfz17_4
                    try clear hfz17_5
                    try clear hfz17_6
                    try clear hfz19_0
                    try clear hfz19_1
                    try clear hfz19_2
                    try clear hfz19_3
                    try clear hfz19_4
                    try clear hfz19_5
                    try clear hfz19_6
                    try clear hfz21_0
                    try clear hfz21_1
                    try clear hfz21_2
                    try clear hfz21_3
                    try clear hfz21_4
                    try clear hfz21_5
                    try clear hfz21_6
                    try clear hfz23_0
                    try clear hfz23_1
                    try clear hfz23_2
                    try clear hfz23_3
                    try clear hfz23_4
                    try clear hfz23_5
                    try clear hfz23_6
                    try clear hfz24_0
                    try clear hfz24_1
                    try clear hfz24_2
                    try clear hfz24_3
                    try clear hfz24_4
                    try clear hfz24_5
                    try clear hfz24_6
                    try clear hfz26_0
                    try clear hfz26_1
                    try clear hfz26_2
                    try clear hfz26_3
                    try clear hfz26_4
                    try clear hfz26_5
                    try clear hfz26_6
                    try clear hfz32_0
                    try clear hfz32_1
                    try clear hfz32_2
                    try clear hfz32_3
                    try clear hfz32_4
                    try clear hfz32_5
                    try clear hfz32_6
                    try clear hfz34_0
                    try clear hfz34_1
                    try clear hfz34_2
                    try clear hfz34_3
                    try clear hfz34_4
                    try clear hfz34_5
                    try clear hfz34_6
                    try clear hfz8_0
                    try clear hfz8_1
                    try clear hfz8_2
                    try clear hfz8_3
                    try clear hfz8_4
                    try clear hfz8_5
                    try clear hfz8_6
                    try clear hx152_0
                    try clear hx152_1
                    try clear hx152_2
                    try clear hx152_3
                    try clear hx152_4
                    try clear hx152_5
                    try clear hx152_6
                    try clear p1
                    try clear p15
                    try clear p152
                    try clear p2
                    try clear q1
                    try clear q15
                    try clear q152
                    obtain ⟨kq, x64_30, rfl, HA, HJ30, BK153, HB⟩ := hcut
                    cases kq with
                    | zero => exact absurd HA.out (by simp [instr_count.j2])
                    | succ kj30 =>
                      have H := HA.out
                      clear HA
                      simp only [instr_count.j2] at H
                      by_cases c37 : x64_30 = true
                      · subst c37
                        have H1 : (some (0, false)) = some (r1, r2) := by rw [if_pos rfl] at H; exact H
                        clear H
                        have H := H1
                        clear H1
                        simp only [Option.some.injEq, Prod.mk.injEq] at H
                        obtain ⟨rfl, rfl⟩ := H
                        go_wp2
                        go_ret2
                        exact ⟨by first | rfl | (simp [errW_none, errW_some] <;> rfl) | (simp [*, errW_none, errW_some] <;> rfl), by repeat (first | (with_reducible first | exact HB.out | apply below_alloc | apply pw_below_drewN | apply below_drew1 | refine below_set ?_ GE153.out) | exact HB.out)⟩
                      · replace c37 := Bool.eq_false_iff.mpr c37
                        subst c37
                        have H1 : (if (wrap64 (x6_1 + (wrap64 ((wrap64 (1 + t156)) + t158)))) > 8192 then (some (0, false)) else (instr_count.l0 kj30 a1 (wrap64 (x6_1 + (wrap64 ((wrap64 (1 + t156)) + t158)))) l0 (l0.length : Int) (wrap64 (x15_1 + 1)))) = some (r1, r2) := by rw [if_neg (show ¬ (false = true) by decide)] at H; exact H
                        clear H
                        have H := H1
                        clear H1
                        by_cases c38 : (wrap64 (x6_1 + (wrap64 ((wrap64 (1 + t156)) + t158)))) > 8192
                        · rw [if_pos c38] at H
                          have c38b0 : decide (8192 < (wrap64 (x6_1 + (wrap64 ((wrap64 (1 + t156)) + t158))))) = true := decide_eq_true c38
                          clear c38
                          simp only [Option.some.injEq, Prod.mk.injEq] at H
                          obtain ⟨rfl, rfl⟩ := H
                          go_wp2
                          go_ret2
                          exact ⟨by first | rfl | (simp [errW_none, errW_some] <;> rfl) | (simp [*, errW_none, errW_some] <;> rfl), by repeat (first | (with_reducible first | exact HB.out | apply below_alloc | apply pw_below_drewN | apply below_drew1 | refine below_set ?_ GE153.out) | exact HB.out)⟩
                        · rw [if_neg c38] at H
                          have c38b0 : decide (8192 < (wrap64 (x6_1 + (wrap64 ((wrap64 (1 + t156)) + t158))))) = false := decide_eq_false c38
                          clear c38
                          have H' := Aside0.mk H
                          clear H
                          go_wp2
                          go_roundg kj30
                          case measure => have := HK1.out; have := HJ5.out; have := HJ30.out; omega
                          case rel => exact ⟨(wrap64 (x6_1 + (wrap64 ((wrap64 (1 + t156)) + t158)))), (wrap64 (x15_1 + 1)), (by first | rfl | (simp; done) | (simp [*]; done)), (by first | rfl | (simp; done) | (simp [*]; done)), H', ⟨by have := HK1.out; have := HJ5.out; have := HJ30.out; omega⟩, ⟨by repeat (first | (with_reducible first | exact HB.out | apply below_alloc | apply pw_below_drewN | apply below_drew1 | refine below_set ?_ GE153.out) | exact HB.out)⟩⟩
          · rw [if_neg c5] at H
            exact absurd H (by simp)
        · rw [if_neg c4] at H
          exact absurd H (by simp)
      · rw [if_neg c3] at H
        have c3b0 : decide (x15_1 < (l0.length : Int)) = false := decide_eq_false c3
        clear c3
        simp only [Option.some.injEq, Prod.mk.injEq] at H
        obtain ⟨rfl, rfl⟩ := H
        go_wp2
        go_ret2
        exact ⟨by first | rfl | (simp [errW_none, errW_some] <;> rfl) | (simp [*, errW_none, errW_some] <;> rfl), by repeat (first | (with_reducible first | exact HB.out | apply below_alloc | apply pw_below_drewN | apply below_drew1) | exact HB.out)⟩
def instr_Count.f (k : Nat) (l0 : List (S54)) : Option (Int × Bool) := (instr_count.f k l0 0).bind fun bt160 => (some (bt160.1, bt160.2))
theorem instr_Count.mono : ∀ a0 k, LeO (instr_Count.f k a0) (instr_Count.f (k + 1) a0) := by
  intro a0 k
  unfold instr_Count.f
  repeat' first
      | (with_reducible exact instr_count.mono _ _ _)
      | (with_reducible exact LeO.refl _)
      | (with_reducible exact LeO.none _)
      | (with_reducible refine LeO.ite ?_ ?_)
      | (with_reducible refine LeO.bind ?_ (fun _ => ?_))
      | exact instr_count.mono _ _ _
      | exact LeO.none _
      | refine LeO.ite ?_ ?_
      | refine LeO.bind ?_ (fun _ => ?_)
set_option maxHeartbeats 8000000 in
set_option maxRecDepth 100000 in
theorem instr_Count.calls (k : Nat) (A0 : Option Addr) (c0 : Nat) (l0 : List (S54)) (r1 : Int) (r2 : Bool) (w : World) (hr0 : Kd.C k54 w A0 l0.length l0) (hc0 : l0.length ≤ c0) (h : instr_Count.f k l0 = some (r1, r2)) :
    Calls Try.prog 17 #[.slice A0 l0.length c0] w fun e w' => e = .returned (.tuple #[.int .i64 r1, .bool r2]) ∧ Below w.heap.size w w' := by
  have HR0 := Aside0.mk hr0
  have HC0 := Aside0.mk hc0
  clear hr0 hc0
  have HB := Aside0.mk (Below.refl w.heap.size w)
  have H : ((instr_count.f k l0 0).bind fun bt160 => (some (bt160.1, bt160.2))) = some (r1, r2) := h
  clear h
  replace H := Option.bind_eq_some_iff.mp H
  obtain ⟨⟨t160, t161⟩, A20, H⟩ := H
  replace H : (some (t160, t161)) = some (r1, r2) := H
  have A2 := Aside0.mk A20
  clear A20
  simp only [Option.some.injEq, Prod.mk.injEq] at H
  obtain ⟨rfl, rfl⟩ := H
  go_enter Try.func17, Try.ntmps17
  go_wp2_with (first | ((with_reducible refine gate_callee (f := 33) rfl ?_); refine goesL_ (some 5) rfl rfl Try.func33 (by kernel_rfl) rfl #[.slice A0 l0.length c0, .int .i64 0] rfl (by (try simp only [List.map_toArray, List.map_cons, List.map_nil]); first | done | rfl | (simp only [List.length_drop, List.length_take]; rfl)) ?_; (with_reducible refine (instr_count.calls k _ _ l0 0 t160 t161 _ ?side1 ?side2 A2.out).mono ?_); (case side1 => repeat (first | exact HR0.out | (with_reducible refine Kd.C_alloc ?_ _) | (with_reducible refine Kd.C_drewN ?_ _) | (with_reducible refine Kd.C_drew ?_))); (case side2 => exact HC0.out); rintro e w3 ⟨rfl, hb⟩; refine ⟨_, rfl, ?_⟩; have n0_ := Aside0.mk (below_step (by repeat (first | (with_reducible first | exact HB.out | apply below_alloc | apply pw_below_drewN | apply below_drew1) | exact HB.out)) hb); clear HB; have HB := n0_; clear n0_; (try clear hb); (try clear hb2); (try clear hk); (try clear hi)))
  go_ret2
  exact ⟨by first | rfl | (simp [errW_none, errW_some] <;> rfl) | (simp [*, errW_none, errW_some] <;> rfl), by repeat (first | (with_reducible first | exact HB.out | apply below_alloc | apply pw_below_drewN | apply below_drew1) | exact HB.out)⟩
open Go.Proofs.Ytckhlbpjehbnlaa.Str Go.Proofs.Ytckhlbpjehbnlaa.LebS Go.Proofs.Ytckhlbpjehbnlaa.LebF
theorem may_at {x : S54} (h : WfI x) : ∃ b, instr_may.f x.f0 x.f1 x.f2 x.f3 x.f4 x.f5 x.f6 = some b ∧ (b = true ↔ okx x) := by
  obtain ⟨x, h0, h1, h2, h3, l4, h4, l5, h5, l6, h6⟩ := h
  obtain ⟨s, e, hs, hk⟩ := shp_any x.f0
  obtain ⟨t, e', ht, _⟩ := ty_at x.f1
  unfold instr_may.f
  rw [if_pos (by omega), hs, ht]
  simp only [Option.bind_some]
  refine ⟨_, rfl, ?_⟩
  have hw := wf64 h1
  constructor
  · intro hb
    rw [Bool.and_eq_true] at hb
    have he : e = 0 := by simpa using hb.1
    subst he
    exact ⟨s, (t, e'), hs, ht, hb.2, hw.1, hw.2⟩
  · rintro ⟨s', t', hs', ht', hm, _, _⟩
    rw [hs] at hs'
    rw [ht] at ht'
    obtain ⟨rfl, rfl⟩ := Prod.mk.inj (Option.some.inj hs')
    obtain rfl := Option.some.inj ht'
    simp only [beq_self_eq_true, Bool.true_and]
    exact hm
theorem sum3 (n a b : Nat) (hn : n ≤ 8192) (ha : 0 + a ≤ 8192) (hb : 0 + b ≤ 8192) : wrap64 ((n : Int) + wrap64 (wrap64 (1 + ((0 + a : Nat) : Int)) + ((0 + b : Nat) : Int))) = ((n + 1 + a + b : Nat) : Int) := by
  rw [wrap64_id (n := 1 + ((0 + a : Nat) : Int)) (by omega) (by omega), wrap64_id (n := 1 + ((0 + a : Nat) : Int) + ((0 + b : Nat) : Int)) (by omega) (by omega), wrap64_id (by omega) (by omega)]
  omega
theorem succ3 (i : Nat) (hi : i ≤ 17592186044416) : wrap64 ((i : Int) + 1) = ((i + 1 : Nat) : Int) := by
  rw [wrap64_id (by omega) (by omega)]
  omega
open Classical in
/-- What Count answers. -/
noncomputable def resC (k : Nat) (n : Nat) (l : List S54) : Int × Bool := if okD k l ∧ n + cntD k l ≤ 8192 then (((n + cntD k l : Nat) : Int), true) else (0, false)
theorem resC_yes {k n : Nat} {l : List S54} (h : okD k l) (h1 : n + cntD k l ≤ 8192) : resC k n l = (((n + cntD k l : Nat) : Int), true) := by unfold resC; rw [if_pos ⟨h, h1⟩]
theorem resC_no {k n : Nat} {l : List S54} (h : ¬ (okD k l ∧ n + cntD k l ≤ 8192)) : resC k n l = (0, false) := by unfold resC; rw [if_neg h]
theorem rd_at {l ys : List S54} {x : S54} {i : Nat} (h : l.drop i = x :: ys) : rd_T54 l (i : Int) = x ∧ i < l.length ∧ l.drop (i + 1) = ys := by
  have hi : i < l.length := by
    rcases Nat.lt_or_ge i l.length with h1 | h1
    · exact h1
    · rw [List.drop_eq_nil_of_le h1] at h; cases h
  rw [List.drop_eq_getElem_cons hi] at h
  simp only [List.cons.injEq] at h
  refine ⟨?_, hi, h.2⟩
  unfold rd_T54
  rw [Int.toNat_natCast, List.getD_eq_getElem?_getD, List.getElem?_eq_getElem hi]
  simpa using h.1
set_option maxHeartbeats 1000000 in
theorem count_l0 (k : Nat) (deep : Int) (hd : 0 ≤ deep) (hdk : deep + (k + 1 : Nat) = 33)
    (IH : ∀ (l : List S54), (k = 0 → l = []) → (∀ x ∈ l, WfI x) → l.length ≤ 17592186044416 → ∀ F : Nat, 30000 * k + 10 ≤ F → instr_count.f F l (deep + 1) = some (resC k 0 l)) (l : List S54) (hlen : l.length ≤ 17592186044416) :
    ∀ (ys : List S54) (i n F : Nat), l.drop i = ys → (∀ x ∈ ys, WfI x) → n ≤ 8192 → 30000 * k + 20 + 3 * (8193 - n) ≤ F → instr_count.l0 F deep (n : Int) l (l.length : Int) (i : Int) = some (resC (k + 1) n ys) := by
  intro ys
  induction ys with
  | nil =>
    intro i n F hdrop _ hn hF
    obtain ⟨F, rfl⟩ : ∃ q, F = q + 1 := ⟨F - 1, by omega⟩
    simp only [instr_count.l0]
    have hge : l.length ≤ i := List.drop_eq_nil_iff.mp hdrop
    rw [if_neg (by omega), resC_yes (by intro x hx; cases hx) (by show n + 0 ≤ 8192; omega)]
    rfl
  | cons x ys ih =>
    intro i n F hdrop hw hn hF
    obtain ⟨F, rfl⟩ : ∃ q, F = q + 3 := ⟨F - 3, by omega⟩
    obtain ⟨hx, hi, hdrop1⟩ := rd_at hdrop
    have hwx := hw x (by simp)
    obtain ⟨b, hb, hbk⟩ := may_at hwx
    have hcnt : cntD (k + 1) (x :: ys) = 1 + cntD k x.f5 + cntD k x.f6 + cntD (k + 1) ys := rfl
    have hok : okD (k + 1) (x :: ys) ↔ (okx x ∧ okD k x.f5 ∧ okD k x.f6 ∧ (k = 0 → blk x.f0 = false)) ∧ okD (k + 1) ys := by
      constructor
      · intro h; exact ⟨h x (by simp), fun y hy => h y (by simp [hy])⟩
      · rintro ⟨h1, h2⟩ y hy
        rcases List.mem_cons.mp hy with rfl | hy
        · exact h1
        · exact h2 y hy
    rw [instr_count.l0, if_pos (by omega), if_pos (by omega), if_pos (by omega), hx, hb]
    simp only [Option.bind_some]
    have jno : instr_count.j1 (F + 2) deep (n : Int) l (l.length : Int) (i : Int) true x.f0 x.f1 x.f2 x.f3 x.f4 x.f5 x.f6 = some (0, false) := by simp only [instr_count.j1, if_true]
    cases b with
    | false =>
      simp only [Bool.false_eq_true, if_false]
      rw [jno, resC_no]
      rintro ⟨h1, _⟩
      exact absurd (hbk.mpr (hok.mp h1).1.1) (by simp)
    | true =>
      simp only [if_true]
      have hokx := hbk.mp rfl
      -- where instructions may stand
      have hj : (k = 0 → x.f5 = []) → (k = 0 → x.f6 = []) → (k = 0 → blk x.f0 = false) → instr_count.j1 (F + 2) deep (n : Int) l (l.length : Int) (i : Int) false x.f0 x.f1 x.f2 x.f3 x.f4 x.f5 x.f6 = some (resC (k + 1) n (x :: ys)) := by
        intro k5 k6 kb
        obtain ⟨_, _, _, _, _, _, _, l5, h5, l6, h6⟩ := hwx
        simp only [instr_count.j1, Bool.false_eq_true, if_false]
        rw [wrap64_id (by omega) (by omega), IH x.f5 k5 h5 l5 (F + 1) (by omega), Option.bind_some, IH x.f6 k6 h6 l6 (F + 1) (by omega), Option.bind_some]
        by_cases c5 : okD k x.f5 ∧ 0 + cntD k x.f5 ≤ 8192
        · by_cases c6 : okD k x.f6 ∧ 0 + cntD k x.f6 ≤ 8192
          · rw [resC_yes c5.1 c5.2, resC_yes c6.1 c6.2]
            simp only [if_true, Bool.not_true, instr_count.j2, Bool.false_eq_true, if_false]
            rw [sum3 n _ _ hn c5.2 c6.2]
            by_cases hbig : n + 1 + cntD k x.f5 + cntD k x.f6 ≤ 8192
            · rw [if_neg (by omega), succ3 i (by omega)]
              have := ih (i + 1) (n + 1 + cntD k x.f5 + cntD k x.f6) F hdrop1 (fun y hy => hw y (by simp [hy])) hbig (by omega)
              rw [this]
              by_cases hr : okD (k + 1) ys ∧ n + 1 + cntD k x.f5 + cntD k x.f6 + cntD (k + 1) ys ≤ 8192
              · rw [resC_yes hr.1 hr.2, resC_yes (hok.mpr ⟨⟨hokx, c5.1, c6.1, kb⟩, hr.1⟩) (by omega), hcnt]
                congr 3
                omega
              · rw [resC_no hr, resC_no]
                rintro ⟨g1, g2⟩
                exact hr ⟨(hok.mp g1).2, by omega⟩
            · rw [if_pos (by omega), resC_no]
              rintro ⟨g1, g2⟩
              omega
          · rw [resC_yes c5.1 c5.2, resC_no c6]
            simp only [if_true, Bool.not_false, instr_count.j2]
            rw [resC_no]
            rintro ⟨g1, g2⟩
            exact c6 ⟨(hok.mp g1).1.2.2.1, by omega⟩
        · rw [resC_no c5]
          simp only [Bool.false_eq_true, if_false, instr_count.j2, if_true]
          rw [resC_no]
          rintro ⟨g1, g2⟩
          exact c5 ⟨(hok.mp g1).1.2.1, by omega⟩
      by_cases h32 : deep = 32
      · have k0 : k = 0 := by omega
        rw [if_pos h32]
        have hno : ¬ (x.f5 = [] ∧ x.f6 = [] ∧ blk x.f0 = false) → some ((0 : Int), false) = some (resC (k + 1) n (x :: ys)) := by
          intro hh
          rw [resC_no]
          rintro ⟨g1, _⟩
          have q := (hok.mp g1).1
          subst k0
          exact hh ⟨q.2.1, q.2.2.1, q.2.2.2 rfl⟩
        by_cases p5 : ((x.f5.length : Int)) > 0
        · rw [if_pos p5, jno, hno]
          rintro ⟨e5, _⟩
          rw [e5] at p5; simp at p5
        · have e5 : x.f5 = [] := List.length_eq_zero_iff.mp (by omega)
          rw [if_neg p5]
          by_cases p6 : ((x.f6.length : Int)) > 0
          · rw [if_pos p6, jno, hno]
            rintro ⟨_, e6, _⟩
            rw [e6] at p6; simp at p6
          · have e6 : x.f6 = [] := List.length_eq_zero_iff.mp (by omega)
            rw [if_neg p6, blk_at]
            simp only [Option.bind_some]
            cases hbk2 : blk x.f0 with
            | true => rw [jno, hno]; rintro ⟨_, _, h⟩; rw [hbk2] at h; cases h
            | false => exact hj (fun _ => e5) (fun _ => e6) (fun _ => hbk2)
      · rw [if_neg h32]
        exact hj (fun h => by omega) (fun h => by omega) (fun h => by omega)
theorem count_f : ∀ (k : Nat) (deep : Int), 0 ≤ deep → deep + k = 33 → ∀ (l : List S54), (k = 0 → l = []) → (∀ x ∈ l, WfI x) → l.length ≤ 17592186044416 → ∀ F : Nat, 30000 * k + 10 ≤ F → instr_count.f F l deep = some (resC k 0 l) := by
  intro k
  induction k with
  | zero =>
    intro deep h0 hd l hl _ _ F hF
    rw [hl rfl]
    obtain ⟨F, rfl⟩ : ∃ q, F = q + 2 := ⟨F - 2, by omega⟩
    simp only [instr_count.f, instr_count.l0]
    rw [if_neg (by simp), resC_yes (k := 0) (l := []) (n := 0) rfl (by show 0 + 0 ≤ 8192; omega)]
    rfl
  | succ k ih =>
    intro deep h0 hd l _ hw hlen F hF
    obtain ⟨F, rfl⟩ : ∃ q, F = q + 1 := ⟨F - 1, by omega⟩
    simp only [instr_count.f]
    exact count_l0 k deep h0 hd (fun l h1 h2 h3 F hF => ih (deep + 1) (by omega) (by omega) l h1 h2 h3 F hF) l hlen l 0 0 F (by simp) hw (by omega) (by omega)
/-- Count's answer. -/
theorem Count_eq {l : List S54} (hw : ∀ x ∈ l, WfI x) (hlen : l.length ≤ 17592186044416) (F : Nat) (hF : 1000000 ≤ F) : instr_Count.f F l = some (resC 33 0 l) := by
  unfold instr_Count.f
  rw [count_f 33 0 (by omega) (by omega) l (by omega) hw hlen F (by omega)]
  rfl
def instr_Put.f (l0 : List S54) : Option (ByteArray × Int) := (instr_Count.f 1000000 l0).bind fun c => if c.2 = true then ((putF 60 l0).bind fun t => if t.size + 1 ≤ 140737488355328 then some (t ++ strOfNums [11], 0) else none) else some ((⟨#[]⟩ : ByteArray), 1)
set_option maxHeartbeats 8000000 in
set_option maxRecDepth 100000 in
theorem instr_Put.calls (A0 : Option Addr) (c0 : Nat) (l0 : List (S54)) (r1 : ByteArray) (r2 : Int) (w : World) (hr0 : Kd.C k54 w A0 l0.length l0) (hc0 : l0.length ≤ c0) (h : instr_Put.f l0 = some (r1, r2)) :
    Calls Try.prog 15 #[.slice A0 l0.length c0] w fun e w' => e = .returned (.tuple #[.string r1, .int .i64 r2]) ∧ Below w.heap.size w w' := by
  obtain ⟨⟨n1, ok⟩, hc, h1⟩ := Option.bind_eq_some_iff.mp h
  clear h
  replace h1 : (if ok = true then ((putF 60 l0).bind fun t => if t.size + 1 ≤ 140737488355328 then some (t ++ strOfNums [11], (0 : Int)) else none) else some ((⟨#[]⟩ : ByteArray), 1)) = some (r1, r2) := h1
  go_enter Try.func15, Try.ntmps15
  cases ok with
  | false =>
    obtain ⟨rfl, rfl⟩ := Prod.mk.inj (Option.some.inj ((if_neg (by decide)).symm.trans h1))
    go_wp2_with (first
      | (go_at_call 17; (with_reducible refine (instr_Count.calls 1000000 A0 c0 l0 n1 false _ hr0 hc0 hc).mono ?_); rintro e w1 ⟨rfl, hb1⟩))
    go_ret2
    exact ⟨rfl, hb1⟩
  | true =>
    rw [if_pos rfl] at h1
    obtain ⟨t, ht, h2⟩ := Option.bind_eq_some_iff.mp h1
    clear h1
    by_cases hs : t.size + 1 ≤ 140737488355328
    · rw [if_pos hs] at h2
      obtain ⟨rfl, rfl⟩ := Prod.mk.inj (Option.some.inj h2)
      clear h2
      go_upto_region 5 with (first
        | (go_at_call 17; (with_reducible refine (instr_Count.calls 1000000 A0 c0 l0 n1 true _ hr0 hc0 hc).mono ?_); rintro e w1 ⟨rfl, hb1⟩))
      have HI1 := IsS57.new w1 w1 (Below.refl _ _)
      have HB1 : Below w1.heap.size w1 (w1.alloc (.cells #[.pointer none, .slice none 0 0] 57)) := below_alloc (Below.refl _ _) _
      have hr1 := Kd.C_below hr0 hb1
      go_wp2_with (first
        | (go_at_call 28; (with_reducible refine (put_calls 60 w1.heap.size ByteArray.empty A0 c0 l0 t w1 _ HI1 HB1 hr1 hc0 ht (by simp; omega)).mono ?_); rintro e w2 ⟨rfl, HI2, HB2, hk2⟩)
        | (go_at_call 29; (with_reducible refine (strings_Builder_WriteByte.calls w1.heap.size _ 11 _ _ w1 _ HI2 HB2 (wb_at (by decide) (by decide) (by simpa using hs))).mono ?_); rintro e w3 ⟨rfl, HI3, HB3, hk3⟩)
        | (go_at_call 30; (with_reducible refine (strings_Builder_String.calls w1.heap.size _ _ _ w1 _ HI3 HB3 rfl).mono ?_); rintro e w4 ⟨rfl, HI4, HB4, hk4⟩))
      go_ret2
      exact ⟨by simp, below_step hb1 HB4⟩
    · rw [if_neg hs] at h2
      cases h2
theorem pre_cut {p a : List Int} {c : Int} (h : Cutp p (a ++ [c])) : ∃ q, a = p ++ q := by
  rcases cut_app h with ⟨q, hq, _⟩ | ⟨p', rfl, hc⟩
  · exact ⟨q, hq⟩
  · obtain rfl := cut_one hc
    exact ⟨[], by simp⟩
theorem pre_or {p q a b : List Int} (h : a ++ b = p ++ q) : (∃ p', p = a ++ p' ∧ b = p' ++ q) ∨ Cutp p a := by
  rcases List.append_eq_append_iff.mp h with ⟨x, hx, hx2⟩ | ⟨x, hx, hx2⟩
  · exact .inl ⟨x, hx, hx2⟩
  · by_cases hx0 : x = []
    · subst hx0
      rw [List.append_nil] at hx
      rw [List.nil_append] at hx2
      exact .inl ⟨[], by rw [hx, List.append_nil], by rw [hx2, List.nil_append]⟩
    · exact .inr ⟨x, hx, hx0⟩
theorem step_fwd {k f : Nat} {x : S54} {n deep : Int} {acc : List S54} {more : List Int} (hx : okx x ∧ okD k x.f5 ∧ okD k x.f6 ∧ (k = 0 → blk x.f0 = false)) (hr : Rng more) (hz : Sm (encX (encD k) x ++ more)) (hf : (encX (encD k) x).length ≤ f) (hn : 0 ≤ n)
    (hc : n + (1 + cntD k x.f5 + cntD k x.f6 : Nat) ≤ 8192) (hd : 0 ≤ deep) (hdk : deep + (k + 1 : Nat) = 33) (ha : acc.length + 1 ≤ 100000) :
    listL (f + 1) (strOfNums (encX (encD k) x ++ more), n, 0) deep acc = listL f (strOfNums more, n + (1 + cntD k x.f5 + cntD k x.f6 : Nat), 0) deep (acc ++ [x]) := by
  have e : encD (k + 1) [x] = encX (encD k) x := List.append_nil _
  have c : cntD (k + 1) [x] = 1 + cntD k x.f5 + cntD k x.f6 := rfl
  obtain ⟨f', hf', hq⟩ := list_fwd (k + 1) [x] (by intro y hy; rw [List.mem_singleton.mp hy]; exact hx) (f + 1) n deep acc more hr (by rw [e]; exact hz) (by rw [e]; omega) hn (by rw [c]; exact hc) hd hdk (by simpa using ha)
  obtain rfl : f' = f := by simpa using hf'
  rw [e, c] at hq
  exact hq
theorem cnt_le {k : Nat} {x : S54} {l : List S54} : cntD (k + 1) (x :: l) = 1 + cntD k x.f5 + cntD k x.f6 + cntD (k + 1) l := rfl
set_option maxHeartbeats 1000000 in
/-- What is cut off has no end. -/
theorem list_cut : ∀ (k : Nat) (l : List S54), okD k l → ∀ (p q : List Int), encD k l = p ++ q → ∀ (f : Nat) (n deep : Int) (acc : List S54), Sm p → p.length + 2 ≤ f → 0 ≤ n → n + cntD k l ≤ 8192 → 0 ≤ deep → deep + k = 33 → acc.length + l.length ≤ 100000 →
    ∃ z n', listL f (strOfNums p, n, 0) deep acc = some ([], 11, z, n', 2) := by
  have nil : ∀ (f : Nat) (n deep : Int) (acc : List S54), 2 ≤ f → acc.length ≤ 100000 → ∃ z n', listL f (strOfNums [], n, 0) deep acc = some ([], 11, z, n', 2) := by
    intro f n deep acc hf ha
    obtain ⟨f, rfl⟩ : ∃ q, f = q + 2 := ⟨f - 2, by omega⟩
    rw [str_nil]
    exact ⟨_, _, listL_nil (by omega)⟩
  intro k
  induction k with
  | zero =>
    intro l hl p q hpq f n deep acc hz hf hn hc hd hdk ha
    have hp : p = [] := by
      have : ([] : List Int) = p ++ q := hpq
      simp at this
      exact this.1
    subst hp
    exact nil f n deep acc (by simpa using hf) (by omega)
  | succ k ih =>
    intro l
    induction l with
    | nil =>
      intro hl p q hpq f n deep acc hz hf hn hc hd hdk ha
      have hp : p = [] := by
        have : ([] : List Int) = p ++ q := hpq
        simp at this
        exact this.1
      subst hp
      exact nil f n deep acc (by simpa using hf) (by omega)
    | cons x l ihl =>
      intro hl p q hpq f n deep acc hz hf hn hc hd hdk ha
      have hx := hl x (by simp)
      have hl' : okD (k + 1) l := fun y hy => hl y (by simp [hy])
      have e : encD (k + 1) (x :: l) = encX (encD k) x ++ encD (k + 1) l := rfl
      rw [cnt_le] at hc
      rw [e] at hpq
      simp only [List.length_cons] at ha
      rcases pre_or hpq with ⟨p', rfl, hq'⟩ | hcut
      · have hrp : Rng p' := by
          have := encD_rng (k + 1) l hl'
          rw [hq'] at this
          exact this.left
        simp only [List.length_append] at hf
        have hpos : 1 ≤ (encX (encD k) x).length := by
          unfold encX
          have := opb_pos x.f0
          simp only [List.length_append]; omega
        obtain ⟨f, rfl⟩ : ∃ q, f = q + 1 := ⟨f - 1, by omega⟩
        rw [step_fwd hx hrp hz (by omega) hn (by omega) hd hdk (by omega)]
        exact ihl hl' p' q hq' f _ deep _ (sm_app hz) (by omega) (by omega) (by omega) hd hdk (by simp only [List.length_append, List.length_singleton]; omega)
      · obtain ⟨⟨s, t, hs, ht, hm, h0, h1⟩, hL, hE, hb⟩ := hx
        have hk := shp_ok hs
        rw [encX_eq hs] at hcut
        have hrL := encD_rng k _ hL
        have hrE := encD_rng k _ hE
        have hrin : Rng (if s = 2 then inner (encD k) x else []) := by
          split
          · unfold inner
            refine hrL.app (Rng.app ?_ (Rng.cons (by omega) Rng.nil))
            split
            · exact Rng.nil
            · exact Rng.cons (by omega) hrE
          · exact Rng.nil
        have hrb := body_rng hk ht hm
        obtain ⟨f, rfl⟩ : ∃ q, f = q + 2 := ⟨f - 2, by omega⟩
        rcases cut_app hcut with hc1 | ⟨p1, rfl, hc1⟩
        · -- within the opcode
          unfold opb at hc1
          by_cases h : x.f0 ≥ 64512
          · rw [if_pos h] at hc1
            cases p with
            | nil => exact nil (f + 2) n deep acc (by omega) (by omega)
            | cons c p =>
              obtain ⟨r, hr, hrn⟩ := hc1
              simp only [List.cons_append, List.cons.injEq] at hr
              obtain ⟨rfl, hr⟩ := hr
              have hcp : Cutp p (pu (x.f0 - 64512).toNat) := ⟨r, hr, hrn⟩
              have hzp : Sm p := by
                have : (252 :: p).length ≤ 140737488351232 := hz
                rw [List.length_cons] at this
                show p.length ≤ _
                omega
              have g1 := rByte_cons (n := n) (Rng.cons (c := 252) (by omega) (cut_rng hcp (Rng.pu _)))
              obtain ⟨a, b, m, N, g3⟩ := @num_err ⟨#[]⟩ n 2 (by decide) 64512
              have g2 : opF (252, strOfNums p, n, 0) = some (64512, ⟨#[]⟩, n, 2) := by
                unfold opF
                rw [if_pos rfl]
                simp only
                rw [rU_cut hcp hzp]
                simp only [Option.bind_some]
                rw [wrap64_id (by omega) (by omega)]
                rfl
              exact ⟨_, _, listL_fault g1 (by omega) g2 g3 (by decide) (by omega)⟩
          · rw [if_neg h] at hc1
            obtain rfl := cut_one hc1
            exact nil (f + 2) n deep acc (by omega) (by omega)
        · simp only [List.length_append] at hf
          have hop := opb_pos x.f0
          have hr1 : Rng p1 := cut_rng hc1 (hrb.app hrin)
          obtain ⟨c, l1, g1, gc, g2⟩ := op_fwd (n := n) hk hr1 hz
          rcases cut_app hc1 with hc2 | ⟨p2, rfl, hc2⟩
          · -- within the numbers
            obtain ⟨a, b, m, N, z, g3⟩ := num_cut (n := n) hs ht hm h0 h1 hc2 (sm_app hz)
            exact ⟨_, _, listL_fault g1 gc g2 g3 (by decide) (by omega)⟩
          · -- within the block
            have h2 : s = 2 := by
              by_cases h2 : s = 2
              · exact h2
              · rw [if_neg h2] at hc2
                exact (cut_nil hc2).elim
            have hbk : blk x.f0 = true := blk_iff.mpr (hk.two.mp h2)
            rw [if_pos h2] at hc2 hrin
            have g3 := num_fwd (n := n) hs ht hm h0 h1 (cut_rng hc2 hrin) (sm_app hz)
            have hbd : blk x.f0 = true → deep ≠ 32 := fun h hd32 => by
              have : k = 0 := by omega
              rw [hb this] at h
              cases h
            have g4 := full_ok (s := strOfNums p2) (op := x.f0) (deep := deep) hn (by omega) hbd
            have hdw : wrap64 (deep + 1) = deep + 1 := wrap64_id (by omega) (by omega)
            have hz2 : Sm p2 := sm_app (sm_app hz)
            simp only [List.length_append] at hf
            have hnL := cnt_len k _ hL
            have hnE := cnt_len k _ hE
            have key : ∃ L E z n', inF (f + 1) x.f0 deep (strOfNums p2, n + 1, 0) = some (L, E, z, n', 2) := by
              unfold inF
              rw [if_pos ⟨rfl, hbk⟩, hdw]
              rcases cut_app hc2 with ⟨qq, hqq, _⟩ | ⟨p3, rfl, hc3⟩
              · obtain ⟨z, n', hq⟩ := ih x.f5 hL p2 qq hqq (f + 1) (n + 1) (deep + 1) [] hz2 (by omega) (by omega) (by omega) (by omega) (by omega) (by simp; omega)
                rw [hq]
                exact ⟨_, _, _, _, rfl⟩
              · by_cases h6 : x.f6.length = 0
                · rw [if_pos h6] at hc3
                  obtain rfl := cut_one (c := 11) hc3
                  obtain ⟨z, n', hq⟩ := ih x.f5 hL (encD k x.f5) [] (by simp) (f + 1) (n + 1) (deep + 1) [] (by simpa using hz2) (by simp only [List.length_append] at hf; omega) (by omega) (by omega) (by omega) (by omega) (by simp; omega)
                  rw [List.append_nil, hq]
                  exact ⟨_, _, _, _, rfl⟩
                · rw [if_neg h6] at hc3
                  cases p3 with
                  | nil =>
                    obtain ⟨z, n', hq⟩ := ih x.f5 hL (encD k x.f5) [] (by simp) (f + 1) (n + 1) (deep + 1) [] (by simpa using hz2) (by simp only [List.length_append] at hf; omega) (by omega) (by omega) (by omega) (by omega) (by simp; omega)
                    rw [List.append_nil, hq]
                    exact ⟨_, _, _, _, rfl⟩
                  | cons c4 p4 =>
                    obtain ⟨r, hr, hrn⟩ := hc3
                    simp only [List.cons_append, List.cons.injEq] at hr
                    obtain ⟨rfl, hr⟩ := hr
                    obtain ⟨q4, hq4⟩ := pre_cut (p := p4) (a := encD k x.f6) (c := 11) ⟨r, hr, hrn⟩
                    have hr4 : Rng p4 := by
                      have := hrE
                      rw [hq4] at this
                      exact this.left
                    have hr5 : Rng (5 :: p4) := Rng.cons (by omega) hr4
                    have h4 : x.f0 = 4 := by
                      subst h2
                      rcases may_block hm with h | h
                      · exact h
                      · rw [h] at h6; simp at h6
                    simp only [List.length_append, List.length_cons] at hf
                    have hlL := encD_len k _ hL
                    obtain ⟨f', ef, hq⟩ := list_fwd k x.f5 hL (f + 1) (n + 1) (deep + 1) [] (5 :: p4) hr5 hz2 (by omega) (by omega) (by omega) (by omega) (by omega) (by simp; omega)
                    obtain ⟨f', rfl⟩ : ∃ q, f' = q + 1 := ⟨f' - 1, by omega⟩
                    rw [hq, listL_end hr5 (.inr rfl)]
                    simp only [Option.bind_some, if_true]
                    rw [if_pos h4]
                    simp only [Option.bind_some]
                    have hz4 : Sm p4 := sm_le (sm_app hz2) (by simp only [List.length_cons]; omega)
                    obtain ⟨z, n', hq2⟩ := ih x.f6 hE p4 q4 hq4 (f + 1) (n + 1 + cntD k x.f5) (deep + 1) [] hz4 (by omega) (by omega) (by omega) (by omega) (by omega) (by simp; omega)
                    rw [hq2]
                    exact ⟨_, _, _, _, rfl⟩
            obtain ⟨L, E, z, n', g5⟩ := key
            rw [listL_step g1 gc g2 g3 g4 g5 (by omega)]
            exact ⟨_, _, listL_err (by decide)⟩
end Go.Proofs.Ytckhlbpjehbnlaa.PB
