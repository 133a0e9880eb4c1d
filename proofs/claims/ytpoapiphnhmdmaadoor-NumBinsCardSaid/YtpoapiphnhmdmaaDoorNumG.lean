/- Layer 3: what is left is a number of its type, and hangs on the lowest bits alone. -/
import Derived.Test.YtpoapiphnhmdmaaDoorNumF
namespace Go.Proofs.YtpoapiphnhmdmaaDoor.NumG
set_option linter.unusedVariables false
set_option linter.unusedSimpArgs false
open Go.RowKit Go.Proofs.YtpoapiphnhmdmaaDoor.PA Go.Proofs.YtpoapiphnhmdmaaDoorW.PrintWords Go.Proofs.YtpoapiphnhmdmaaDoorW.PrintLast Go.Proofs.YtpoapiphnhmdmaaDoorW.PrintMore
open Go.Proofs.YtpoapiphnhmdmaaDoor.NumA Go.Proofs.YtpoapiphnhmdmaaDoor.NumB Go.Proofs.YtpoapiphnhmdmaaDoor.NumC Go.Proofs.YtpoapiphnhmdmaaDoor.NumD Go.Proofs.YtpoapiphnhmdmaaDoor.NumE Go.Proofs.YtpoapiphnhmdmaaDoor.NumF

theorem u32_range (a : Int) : 0 ≤ u32 a ∧ u32 a < 4294967296 := by unfold u32; omega
theorem quot_trap (k a b l : Int) : (quot k a b l).2 = 0 ∨ (quot k a b l).1 = 0 := by
  unfold quot
  repeat' split
  all_goals first | (left; rfl) | (right; rfl)
def Tr (z : Int × Int) : Prop := z.2 = 0 ∨ z.1 = 0
theorem Tr_ite {c : Prop} [Decidable c] {x y : Int × Int} (hx : Tr x) (hy : Tr y) : Tr (if c then x else y) := by split <;> assumption
theorem reck_trap' (k a b w l : Int) : Tr (reck k a b w l) := by
  simp only [reck]
  repeat' first | exact quot_trap _ _ _ _ | refine Tr_ite ?_ ?_ | exact Or.inl rfl | exact Or.inr rfl
theorem reck_trap (k a b w l : Int) : (reck k a b w l).2 = 0 ∨ (reck k a b w l).1 = 0 := reck_trap' k a b w l
theorem un_ok (op a : Int) : (un op a).2 = decide ((sig op).1 = 1) := by
  by_cases h : (sig op).1 = 1
  · rw [decide_eq_true h]
    rcases sig_one op h with rfl | rfl | rfl | rfl | rfl | rfl | rfl | rfl | rfl | rfl | rfl | rfl | rfl | rfl | rfl | rfl <;> rfl
  · have e : un op a = (0, false) := by
      have := un_at 0 op a
      rw [num_Un.f, show (0 + 12 : Nat) = 6 + 6 by decide, sig_at, Option.bind_some, if_neg h] at this
      exact (Option.some.inj this).symm
    rw [e, decide_eq_false h]
theorem bin_ok (op a b : Int) : (bin op a b).2.2 = decide ((sig op).1 = 2) := by
  have h := sig_two op
  unfold bin
  repeat' split
  all_goals first | (rw [decide_eq_true (h.2 (by omega))]) | (rw [decide_eq_false (mt h.1 (by omega))])
theorem un_none (op a : Int) (h : ¬ (sig op).1 = 1) : un op a = (0, false) := by
  have := un_at 0 op a
  rw [num_Un.f, show (0 + 12 : Nat) = 6 + 6 by decide, sig_at, Option.bind_some, if_neg h] at this
  exact (Option.some.inj this).symm
theorem ite01 (c : Prop) [Decidable c] : 0 ≤ (if c then (1 : Int) else 0) ∧ (if c then (1 : Int) else 0) < 4294967296 := by split <;> omega
theorem un_range (op a : Int) (h : (sig op).2.2 = 127) : 0 ≤ (un op a).1 ∧ (un op a).1 < 4294967296 := by
  by_cases h1 : (sig op).1 = 1
  · have z1 := zdn_le 32 a
    have z2 := zup_le 32 a
    have z3 := ones_range a 32
    rcases sig_one op h1 with rfl | rfl | rfl | rfl | rfl | rfl | rfl | rfl | rfl | rfl | rfl | rfl | rfl | rfl | rfl | rfl
    all_goals first
      | (exact absurd h (by decide))
      | exact ite01 _
      | exact u32_range _
      | (show 0 ≤ ((zdn 32 a : Nat) : Int) ∧ ((zdn 32 a : Nat) : Int) < 4294967296; omega)
      | (show 0 ≤ ((zup 32 a : Nat) : Int) ∧ ((zup 32 a : Nat) : Int) < 4294967296; omega)
      | (show 0 ≤ ones a 32 ∧ ones a 32 < 4294967296; omega)
  · rw [un_none op a h1]; decide
theorem bin_range (op a b : Int) (h : (sig op).2.2 = 127) : 0 ≤ (bin op a b).1 ∧ (bin op a b).1 < 4294967296 := by
  unfold bin
  split
  · exact ite01 _
  · split
    · exact ite01 _
    · split
      · rename_i h3
        exfalso
        unfold sig at h
        rw [if_neg (by omega), if_neg (by omega), if_neg (by omega), if_neg (by omega), if_neg (by omega), if_neg (by omega), if_pos h3] at h
        exact absurd h (by decide)
      · split
        · exact u32_range _
        · decide
theorem bin_trap (op a b : Int) : (bin op a b).2.1 = 0 ∨ (bin op a b).1 = 0 := by
  unfold bin
  split
  · left; rfl
  · split
    · left; rfl
    · split
      · exact reck_trap _ _ _ _ _
      · split
        · rcases reck_trap (op - 106) (s32 a) (s32 b) 32 (-2147483648) with h | h
          · exact Or.inl h
          · right; show u32 _ = 0; rw [h]; rfl
        · left; rfl
theorem ones_u32' (a : Int) : ones (u32 a) 32 = ones a 32 := by
  have h := count32 (u32 a)
  rw [u32_mod, count32 a] at h
  exact (Option.some.inj h).symm
theorem un_u32 (op a : Int) (h : (sig op).2.1 = 127) : un op (u32 a) = un op a := by
  by_cases h1 : (sig op).1 = 1
  · rcases sig_one op h1 with rfl | rfl | rfl | rfl | rfl | rfl | rfl | rfl | rfl | rfl | rfl | rfl | rfl | rfl | rfl | rfl
    all_goals first
      | (exact absurd h (by decide))
      | simp only [un, reduceIte, Int.reduceEq, u32_u32, zdn_u32, zup_u32, ones_u32', s8_u32, s16_u32, s32_u32]
  · rw [un_none _ _ h1, un_none _ _ h1]
theorem s32_s32 (a : Int) : s32 (s32 a) = s32 a := by unfold s32; omega
theorem bin_s32 (op a b : Int) (h : (sig op).2.1 = 127) : bin op (s32 a) (u32 b) = bin op a b := by
  unfold bin
  rw [s32_s32, s32_u32]
  split
  · rename_i h3
    exfalso
    unfold sig at h
    rw [if_neg (by omega), if_neg (by omega), if_neg (by omega), if_neg (by omega), if_neg (by omega), if_pos h3] at h
    exact absurd h (by decide)
  · split
    · rfl
    · split
      · rename_i h3
        exfalso
        unfold sig at h
        rw [if_neg (by omega), if_neg (by omega), if_neg (by omega), if_neg (by omega), if_neg (by omega), if_neg (by omega), if_pos h3] at h
        exact absurd h (by decide)
      · rfl

theorem NumFits : scarflaw03_NumFits.Pure := by
  intro op a b w0 w1 w2
  obtain ⟨a0, a1⟩ := wf64 w1
  obtain ⟨b0, b1⟩ := wf64 w2
  have hu := u32_range b
  have j0 : scarflaw03_NumFits.j0 100 op a b (sig op).2.1 (un op a).1 (bin op a b).1 (bin op a b).2.1 false = some true := by
    have hA := awake (k := 99) (by decide)
    have e1 := un_at 87 op (u32 a)
    have e2 := bin_at 87 op (s32 a) (u32 b) (by omega) (by omega)
    have e3 := un_u32 op a
    have e4 := bin_s32 op a b
    simp only [scarflaw03_NumFits.j0, Bool.false_eq_true, if_false, hA, u32_at, s32_at, Option.bind_some, e1, e2]
    by_cases h : (sig op).2.1 = 127
    · rw [if_pos h, e3 h, e4 h, if_pos rfl, if_pos rfl, if_pos rfl]
    · rw [if_neg h]
  refine ⟨100, ?_⟩
  have s1 := sig_at 94 op
  have s2 := un_at 88 op a
  have s3 := bin_at 88 op a b b0 b1
  have r1 := un_range op a
  have r2 := bin_range op a b
  have r3 := bin_trap op a b
  have ok1 := un_ok op a
  have ok2 := bin_ok op a b
  simp only [scarflaw03_NumFits.f, s1, s2, s3, Option.bind_some]
  generalize un op a = u at *
  generalize bin op a b = v at *
  generalize sig op = s at *
  have t1 : (u.2 != (s.1 == 1)) = false := by rw [ok1]; by_cases h : s.1 = 1 <;> simp [h]
  have t2 : (v.2.2 != (s.1 == 2)) = false := by rw [ok2]; by_cases h : s.1 = 2 <;> simp [h]
  have t3 : (if v.2.1 = 0 then scarflaw03_NumFits.j0 100 op a b s.2.1 u.1 v.1 v.2.1 false else scarflaw03_NumFits.j0 100 op a b s.2.1 u.1 v.1 v.2.1 (v.1 != 0)) = some true := by
    by_cases h : v.2.1 = 0
    · rw [if_pos h]; exact j0
    · rw [if_neg h, show (v.1 != 0) = false by rcases r3 with h' | h'; exact absurd h' h; simp [h']]; exact j0
  rw [if_neg (by rw [t1]; decide), if_neg (by rw [t2]; decide), t3]
  by_cases h : s.2.2 = 127
  · obtain ⟨q1, q2⟩ := r1 h
    obtain ⟨q3, q4⟩ := r2 h
    rw [if_pos h, if_neg (by omega), if_neg (by omega), if_neg (by omega), if_neg (by omega)]
  · rw [if_neg h]
end Go.Proofs.YtpoapiphnhmdmaaDoor.NumG
