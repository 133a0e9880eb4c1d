/- Layer 3: what an instruction makes of two numbers, as the program reckons it. -/
import Derived.Test.YtpoapiphnhmdmaaDoorPAx12
import Derived.Test.YtpoapiphnhmdmaaDoorNumE
namespace Go.Proofs.YtpoapiphnhmdmaaDoor.NumF
set_option linter.unusedVariables false
set_option linter.unusedSimpArgs false
open Go.RowKit Go.Proofs.YtpoapiphnhmdmaaDoor.PA Go.Proofs.YtpoapiphnhmdmaaDoorW.PrintWords Go.Proofs.YtpoapiphnhmdmaaDoorW.PrintLast Go.Proofs.YtpoapiphnhmdmaaDoorW.PrintMore
open Go.Proofs.YtpoapiphnhmdmaaDoor.NumA Go.Proofs.YtpoapiphnhmdmaaDoor.NumB Go.Proofs.YtpoapiphnhmdmaaDoor.NumC Go.Proofs.YtpoapiphnhmdmaaDoor.NumD Go.Proofs.YtpoapiphnhmdmaaDoor.NumE

def u64 (a : Int) : Int := a % 18446744073709551616
def cmp (k a b : Int) : Bool :=
  if k = 0 then a == b else if k = 1 then a != b else if k = 2 then decide (a < b) else if k = 3 then decide (u64 a < u64 b)
  else if k = 4 then decide (a > b) else if k = 5 then decide (u64 a > u64 b) else if k = 6 then !decide (a > b) else if k = 7 then !decide (u64 a > u64 b)
  else if k = 8 then !decide (a < b) else !decide (u64 a < u64 b)
theorem cmp_at (f : Nat) (k a b : Int) (h0 : 0 ≤ k) (h1 : k ≤ 9) : num_compare.f (f + 2) k a b = some (cmp k a b) := by
  have hk : k = 0 ∨ k = 1 ∨ k = 2 ∨ k = 3 ∨ k = 4 ∨ k = 5 ∨ k = 6 ∨ k = 7 ∨ k = 8 ∨ k = 9 := by omega
  have hw : wrap64 (6 - 2) = 4 ∧ wrap64 (7 - 2) = 5 ∧ wrap64 (8 - 6) = 2 ∧ wrap64 (9 - 6) = 3 := by unfold wrap64; omega
  rcases hk with rfl | rfl | rfl | rfl | rfl | rfl | rfl | rfl | rfl | rfl <;>
    simp only [num_compare.f, cmp, reduceIte, Int.reduceEq, Int.reduceLT, hw.1, hw.2.1, hw.2.2.1, hw.2.2.2, Option.bind_some, w_u64, u64]
  all_goals first | done | (simp; done) | exact congrArg some (decide_eq_decide.2 Iff.rfl) | exact congrArg (fun z => some !z) (decide_eq_decide.2 Iff.rfl)
def quot (k a b least : Int) : Int × Int :=
  if b = 0 then (0, 2) else if k = 0 ∧ a = least ∧ b = -1 then (0, 3) else if k = 0 then (wrap64 (Int.tdiv a b), 0)
  else if k = 1 then (wrap64 (u64 (Int.tdiv (u64 a) (u64 b))), 0) else if k = 2 then (Int.tmod a b, 0) else (wrap64 (Int.tmod (u64 a) (u64 b)), 0)
theorem quot_at (f : Nat) (k a b least : Int) (h0 : -9223372036854775808 ≤ b) (h1 : b < 9223372036854775808) : num_quotient.f (f + 1) k a b least = some (quot k a b least) := by
  unfold num_quotient.f quot
  by_cases hb : b = 0
  · rw [if_pos hb, if_pos hb]
  · rw [if_neg hb, if_neg hb]
    have hu : ¬ b % 18446744073709551616 = 0 := by omega
    have j0 : num_quotient.j0 (f + 1) k a b false = some (if k = 0 then (wrap64 (Int.tdiv a b), 0) else if k = 1 then (wrap64 (u64 (Int.tdiv (u64 a) (u64 b))), 0) else if k = 2 then (Int.tmod a b, 0) else (wrap64 (Int.tmod (u64 a) (u64 b)), 0)) := by
      simp only [num_quotient.j0, if_neg hb, Bool.false_eq_true, if_false, w_u64, u64, if_neg hu, apply_ite some]
    by_cases hk : k = 0
    · subst hk
      by_cases ha : a = least
      · by_cases hm : b = -1
        · rw [if_pos rfl, if_pos ha, if_pos ⟨rfl, ha, hm⟩, num_quotient.j0, if_pos (by simp [hm])]
        · rw [if_pos rfl, if_pos ha, if_neg (by omega), show (b == -1) = false by simp [hm], j0]
      · rw [if_pos rfl, if_neg ha, if_neg (by omega), j0]
    · rw [if_neg hk, if_neg (by omega), j0]
def rotp (u a by' w : Int) : Int := if by' = 0 then a else wrap64 (Go.bits .or .u64 (shl .u64 u by') (shr .u64 u (w - by')))
/-- The row of a width's reckonings. -/
def reck (k a b w least : Int) : Int × Int :=
  let u := if w = 32 then u32 a else u64 a
  if k = 0 then (wrap64 (a + b), 0) else if k = 1 then (wrap64 (a - b), 0) else if k = 2 then (wrap64 (a * b), 0)
  else if k = 4 ∨ k = 6 then (if w = 32 then quot (k - 3) (u32 a) (u32 b) least else quot (k - 3) a b least)
  else if k = 3 ∨ k = 5 then quot (k - 3) a b least
  else if k = 7 then (Go.bits .and .i64 a b, 0) else if k = 8 then (Go.bits .or .i64 a b, 0) else if k = 9 then (Go.bits .xor .i64 a b, 0)
  else if k = 10 then (shl .i64 a (b % w), 0) else if k = 11 then (shr .i64 a (b % w), 0)
  else if k = 12 then (wrap64 (shr .u64 u (b % w)), 0)
  else if k = 14 then (rotp u a ((w - b % w) % w) w, 0) else (rotp u a (b % w) w, 0)
theorem reck32 (f : Nat) (k a b : Int) (h0 : 0 ≤ k) (h1 : k ≤ 14) (hb0 : -9223372036854775808 ≤ b) (hb1 : b < 9223372036854775808) : num_reckon.f (f + 6) k a b 32 = some (reck k a b 32 (-2147483648)) := by
  have hk : k = 0 ∨ k = 1 ∨ k = 2 ∨ k = 3 ∨ k = 4 ∨ k = 5 ∨ k = 6 ∨ k = 7 ∨ k = 8 ∨ k = 9 ∨ k = 10 ∨ k = 11 ∨ k = 12 ∨ k = 13 ∨ k = 14 := by omega
  have w1 : wrap64 31 = 31 := by unfold wrap64; omega
  have hl : shl .i64 (-1) 31 = -2147483648 := by decide
  have hp : 0 ≤ b % 32 := by omega
  have hq : wrap64 (32 - b % 32) = 32 - b % 32 := by unfold wrap64; omega
  have hq2 : Go.bits .and .i64 (32 - b % 32) 31 = (32 - b % 32) % 32 := and31 _
  have hq3 : 0 ≤ (32 - b % 32) % 32 := by omega
  have hq4 : wrap64 (32 - (32 - b % 32) % 32) = 32 - (32 - b % 32) % 32 := by unfold wrap64; omega
  have hq5 : 0 ≤ 32 - (32 - b % 32) % 32 := by omega
  have hq6 : 0 ≤ 32 - b % 32 := by omega
  have s3 : wrap64 0 = 0 ∧ wrap64 1 = 1 ∧ wrap64 2 = 2 ∧ wrap64 3 = 3 := by unfold wrap64; omega
  have hub : -9223372036854775808 ≤ u32 b ∧ u32 b < 9223372036854775808 := by unfold u32; omega
  have q1 : ∀ (g : Nat) (k a : Int), num_quotient.f (g + 1) k a b (-2147483648) = some (quot k a b (-2147483648)) := fun g k a => quot_at g k a b _ hb0 hb1
  have q2 : ∀ (g : Nat) (k a : Int), num_quotient.f (g + 1) k a (u32 b) (-2147483648) = some (quot k a (u32 b) (-2147483648)) := fun g k a => quot_at g k a _ _ hub.1 hub.2
  have hu : ∀ x : Int, x % 4294967296 = u32 x := fun x => rfl
  have hu2 : ∀ x : Int, x % 18446744073709551616 = u64 x := fun x => rfl
  rcases hk with rfl | rfl | rfl | rfl | rfl | rfl | rfl | rfl | rfl | rfl | rfl | rfl | rfl | rfl | rfl <;>
    simp only [num_reckon.f, reck, rotp, w1, hl, and31, reduceIte, Int.reduceEq, Int.reduceLE, num_reckon.j0, num_reckon.j1, num_reckon.j2, Int.reduceBEq, u32_at, Option.bind_some, s3.1, s3.2.1, s3.2.2.1, s3.2.2.2, Int.reduceSub, q1, q2, hp, hq, hq2, hq3, hq4, hq5, hq6, w_u64, hu, hu2, Bool.false_eq_true, or_true, true_or, or_self, if_true, if_false]
  all_goals (split <;> rfl)
theorem reck64 (f : Nat) (k a b : Int) (h0 : 0 ≤ k) (h1 : k ≤ 14) (hb0 : -9223372036854775808 ≤ b) (hb1 : b < 9223372036854775808) : num_reckon.f (f + 6) k a b 64 = some (reck k a b 64 (-9223372036854775808)) := by
  have hk : k = 0 ∨ k = 1 ∨ k = 2 ∨ k = 3 ∨ k = 4 ∨ k = 5 ∨ k = 6 ∨ k = 7 ∨ k = 8 ∨ k = 9 ∨ k = 10 ∨ k = 11 ∨ k = 12 ∨ k = 13 ∨ k = 14 := by omega
  have w1 : wrap64 63 = 63 := by unfold wrap64; omega
  have hl : shl .i64 (-1) 63 = -9223372036854775808 := by decide
  have hp : 0 ≤ b % 64 := by omega
  have hq : wrap64 (64 - b % 64) = 64 - b % 64 := by unfold wrap64; omega
  have hq2 : Go.bits .and .i64 (64 - b % 64) 63 = (64 - b % 64) % 64 := and63 _
  have hq3 : 0 ≤ (64 - b % 64) % 64 := by omega
  have hq4 : wrap64 (64 - (64 - b % 64) % 64) = 64 - (64 - b % 64) % 64 := by unfold wrap64; omega
  have hq5 : 0 ≤ 64 - (64 - b % 64) % 64 := by omega
  have hq6 : 0 ≤ 64 - b % 64 := by omega
  have s3 : wrap64 0 = 0 ∧ wrap64 1 = 1 ∧ wrap64 2 = 2 ∧ wrap64 3 = 3 := by unfold wrap64; omega
  have hub : -9223372036854775808 ≤ u32 b ∧ u32 b < 9223372036854775808 := by unfold u32; omega
  have q1 : ∀ (g : Nat) (k a : Int), num_quotient.f (g + 1) k a b (-9223372036854775808) = some (quot k a b (-9223372036854775808)) := fun g k a => quot_at g k a b _ hb0 hb1
  have q2 : ∀ (g : Nat) (k a : Int), num_quotient.f (g + 1) k a (u32 b) (-9223372036854775808) = some (quot k a (u32 b) (-9223372036854775808)) := fun g k a => quot_at g k a _ _ hub.1 hub.2
  have hu : ∀ x : Int, x % 4294967296 = u32 x := fun x => rfl
  have hu2 : ∀ x : Int, x % 18446744073709551616 = u64 x := fun x => rfl
  rcases hk with rfl | rfl | rfl | rfl | rfl | rfl | rfl | rfl | rfl | rfl | rfl | rfl | rfl | rfl | rfl <;>
    simp only [num_reckon.f, reck, rotp, w1, hl, and63, reduceIte, Int.reduceEq, Int.reduceLE, num_reckon.j0, num_reckon.j1, num_reckon.j2, Int.reduceBEq, u32_at, Option.bind_some, s3.1, s3.2.1, s3.2.2.1, s3.2.2.2, Int.reduceSub, q1, q2, hp, hq, hq2, hq3, hq4, hq5, hq6, w_u64, hu, hu2, Bool.false_eq_true, or_true, true_or, or_self, if_true, if_false]
  all_goals (split <;> rfl)
/-- What an instruction makes of two numbers: the number, the trap, whether it is one that takes two. -/
def bin (op a b : Int) : Int × Int × Bool :=
  if 81 ≤ op ∧ op ≤ 90 then ((if cmp (op - 81) a b = true then 1 else 0), 0, true)
  else if 70 ≤ op ∧ op < 80 then ((if cmp (op - 70) (s32 a) (s32 b) = true then 1 else 0), 0, true)
  else if 124 ≤ op ∧ op ≤ 138 then ((reck (op - 124) a b 64 (-9223372036854775808)).1, (reck (op - 124) a b 64 (-9223372036854775808)).2, true)
  else if 106 ≤ op ∧ op < 121 then (u32 (reck (op - 106) (s32 a) (s32 b) 32 (-2147483648)).1, (reck (op - 106) (s32 a) (s32 b) 32 (-2147483648)).2, true)
  else (0, 0, false)
theorem sig_two (op : Int) : (sig op).1 = 2 ↔ (81 ≤ op ∧ op ≤ 90) ∨ (70 ≤ op ∧ op < 80) ∨ (124 ≤ op ∧ op ≤ 138) ∨ (106 ≤ op ∧ op < 121) := by
  unfold sig
  repeat' split
  all_goals first | (constructor <;> intro h <;> first | omega | (exact absurd h (by decide)))
theorem sig_in (op : Int) (h : (sig op).1 = 2) : (sig op).2.1 = (if (70 ≤ op ∧ op < 80) ∨ (106 ≤ op ∧ op < 121) then 127 else 126) := by
  unfold sig at h ⊢
  repeat' split
  all_goals first | rfl | (exfalso; omega) | (exfalso; simp_all; done)
theorem s32_range (a : Int) : -2147483648 ≤ s32 a ∧ s32 a < 2147483648 := by unfold s32; omega
theorem bin_at (f : Nat) (op a b : Int) (hb0 : -9223372036854775808 ≤ b) (hb1 : b < 9223372036854775808) : num_Bin.f (f + 12) op a b = some (bin op a b) := by
  have hsb := s32_range b
  by_cases h : (sig op).1 = 2
  · have h2 := (sig_two op).1 h
    have hin := sig_in op h
    rw [num_Bin.f, sig_at, Option.bind_some, if_pos h, hin, s32_at, s32_at, Option.bind_some, Option.bind_some, bin]
    rcases h2 with h2 | h2 | h2 | h2
    · rw [if_neg (by rw [if_neg (by omega)]; decide), if_pos h2, num_Bin.j0, if_pos (by omega), num_Bin.j1, if_pos (by simp; omega), show wrap64 (op - 81) = op - 81 by unfold wrap64; omega, cmp_at _ _ _ _ (by omega) (by omega), Option.bind_some, truth_at, Option.bind_some]
    · rw [if_pos (by rw [if_pos (by omega)]), if_neg (by omega), if_pos h2, num_Bin.j0]
      have e1 : num_Bin.j1 (f + 11) op (s32 a) (s32 b) false = some ((if cmp (op - 70) (s32 a) (s32 b) = true then 1 else 0), 0, true) := by
        rw [num_Bin.j1, if_neg (by decide), if_pos (by omega), num_Bin.j2, if_pos (by simp; omega), show wrap64 (op - 70) = op - 70 by unfold wrap64; omega, cmp_at _ _ _ _ (by omega) (by omega), Option.bind_some, truth_at, Option.bind_some]
      rw [if_neg (by omega)]
      exact e1
    · rw [if_neg (by rw [if_neg (by omega)]; decide), if_neg (by omega), if_neg (by omega), if_pos h2, num_Bin.j0, if_pos (by omega), num_Bin.j1, if_neg (by simp; omega), if_pos (by omega), num_Bin.j2, if_neg (by simp; omega), if_pos (by omega), show wrap64 (op - 124) = op - 124 by unfold wrap64; omega, reck64 _ _ _ _ (by omega) (by omega) hb0 hb1, Option.bind_some]
    · rw [if_pos (by rw [if_pos (by omega)]), if_neg (by omega), if_neg (by omega), if_neg (by omega), if_pos h2, num_Bin.j0, if_pos (by omega), num_Bin.j1, if_neg (by simp; omega), if_pos (by omega), num_Bin.j2, if_neg (by simp; omega), if_neg (by omega), show wrap64 (op - 106) = op - 106 by unfold wrap64; omega, reck32 _ _ _ _ (by omega) (by omega) (by omega) (by omega), Option.bind_some, u32_at, Option.bind_some]
  · have h2 := mt (sig_two op).2 h
    rw [num_Bin.f, sig_at, Option.bind_some, if_neg h, bin, if_neg (by omega), if_neg (by omega), if_neg (by omega), if_neg (by omega)]
end Go.Proofs.YtpoapiphnhmdmaaDoor.NumF
