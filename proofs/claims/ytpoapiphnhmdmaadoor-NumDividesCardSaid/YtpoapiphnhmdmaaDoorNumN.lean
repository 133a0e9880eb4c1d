/- Layer 3: NumDivides, the plain side, with what it needs of the other texts alone (a claim's size). -/
import Derived.Test.YtpoapiphnhmdmaaDoorPAx13
import Derived.Test.YtpoapiphnhmdmaaDoorNumA
namespace Go.Proofs.YtpoapiphnhmdmaaDoor.NumN
set_option linter.unusedVariables false
set_option linter.unusedSimpArgs false
open Go.RowKit Go.Proofs.YtpoapiphnhmdmaaDoor.PA Go.Proofs.YtpoapiphnhmdmaaDoorW.PrintWords Go.Proofs.YtpoapiphnhmdmaaDoorW.PrintLast Go.Proofs.YtpoapiphnhmdmaaDoorW.PrintMore
open Go.Proofs.YtpoapiphnhmdmaaDoor.NumA

theorem and31 (n : Int) : Go.bits .and .i64 n 31 = n % 32 := by
  have h127 : (BitVec.ofInt 64 31).toNat = 2 ^ 5 - 1 := by decide
  have key : (BitVec.ofInt 64 n &&& BitVec.ofInt 64 31).toNat = (n % ((2 ^ 64 : Nat) : Int)).toNat % 2 ^ 5 := by
    rw [BitVec.toNat_and, BitVec.toNat_ofInt, h127, Nat.and_two_pow_sub_one_eq_mod]
  show IntKind.i64.wrap ((BitVec.ofInt 64 n &&& BitVec.ofInt 64 31).toNat : Nat) = n % 32
  rw [key, IntKind.wrap_i64]
  omega
theorem and63 (n : Int) : Go.bits .and .i64 n 63 = n % 64 := by
  have h127 : (BitVec.ofInt 64 63).toNat = 2 ^ 6 - 1 := by decide
  have key : (BitVec.ofInt 64 n &&& BitVec.ofInt 64 63).toNat = (n % ((2 ^ 64 : Nat) : Int)).toNat % 2 ^ 6 := by
    rw [BitVec.toNat_and, BitVec.toNat_ofInt, h127, Nat.and_two_pow_sub_one_eq_mod]
  show IntKind.i64.wrap ((BitVec.ofInt 64 n &&& BitVec.ofInt 64 63).toNat : Nat) = n % 64
  rw [key, IntKind.wrap_i64]
  omega
theorem w_u64 (a : Int) : IntKind.u64.wrap a = a % 18446744073709551616 := tz_wrap_u64 a
theorem s32_u32 (a : Int) : s32 (u32 a) = s32 a := by unfold s32 u32; omega
theorem truth_at (b : Bool) : num_truth.f b = some (if b = true then 1 else 0) := by cases b <;> rfl
def u64 (a : Int) : Int := a % 18446744073709551616
def cmp (k a b : Int) : Bool :=
  if k = 0 then a == b else if k = 1 then a != b else if k = 2 then decide (a < b) else if k = 3 then decide (u64 a < u64 b)
  else if k = 4 then decide (a > b) else if k = 5 then decide (u64 a > u64 b) else if k = 6 then !decide (a > b) else if k = 7 then !decide (u64 a > u64 b)
  else if k = 8 then !decide (a < b) else !decide (u64 a < u64 b)
theorem cmp_at (f : Nat) (k a b : Int) (h0 : 0 ≤ k) (h1 : k ≤ 9) : num_compare.f (f + 2) k a b = some (cmp k a b) := by
  have hk : k = 0 ∨ k = 1 ∨ k = 2 ∨ k = 3 ∨ k = 4 ∨ k = 5 ∨ k = 6 ∨ k = 7 ∨ k = 8 ∨ k = 9 := by omega
  have hw : wrap64 (6 - 2) = 4 ∧ wrap64 (7 - 2) = 5 ∧ wrap64 (8 - 6) = 2 ∧ wrap64 (9 - 6) = 3 := by unfold wrap64; omega
  rcases hk with rfl | rfl | rfl | rfl | rfl | rfl | rfl | rfl | rfl | rfl <;>
    simp only [num_compare.f, cmp, reduceIte, Int.reduceEq, Int.reduceLT, hw.1, hw.2.1, hw.2.2.1, hw.2.2.2, Option.bind_some, w_u64, u64]
  all_goals first | done | (simp; done) | exact congrArg some (decide_eq_decide.2 Iff.rfl) | exact congrArg (fun z => some !z) (decide_eq_decide.2 Iff.rfl)
def quot (k a b least : Int) : Int × Int :=
  if b = 0 then (0, 2) else if k = 0 ∧ a = least ∧ b = -1 then (0, 3) else if k = 0 then (wrap64 (Int.tdiv a b), 0)
  else if k = 1 then (wrap64 (u64 (Int.tdiv (u64 a) (u64 b))), 0) else if k = 2 then (Int.tmod a b, 0) else (wrap64 (Int.tmod (u64 a) (u64 b)), 0)
theorem quot_at (f : Nat) (k a b least : Int) (h0 : -9223372036854775808 ≤ b) (h1 : b < 9223372036854775808) : num_quotient.f (f + 1) k a b least = some (quot k a b least) := by
  unfold num_quotient.f quot
  by_cases hb : b = 0
  · rw [if_pos hb, if_pos hb]
  · rw [if_neg hb, if_neg hb]
    have hu : ¬ b % 18446744073709551616 = 0 := by omega
    have j0 : num_quotient.j0 (f + 1) k a b false = some (if k = 0 then (wrap64 (Int.tdiv a b), 0) else if k = 1 then (wrap64 (u64 (Int.tdiv (u64 a) (u64 b))), 0) else if k = 2 then (Int.tmod a b, 0) else (wrap64 (Int.tmod (u64 a) (u64 b)), 0)) := by
      simp only [num_quotient.j0, if_neg hb, Bool.false_eq_true, if_false, w_u64, u64, if_neg hu, apply_ite some]
    by_cases hk : k = 0
    · subst hk
      by_cases ha : a = least
      · by_cases hm : b = -1
        · rw [if_pos rfl, if_pos ha, if_pos ⟨rfl, ha, hm⟩, num_quotient.j0, if_pos (by simp [hm])]
        · rw [if_pos rfl, if_pos ha, if_neg (by omega), show (b == -1) = false by simp [hm], j0]
      · rw [if_pos rfl, if_neg ha, if_neg (by omega), j0]
    · rw [if_neg hk, if_neg (by omega), j0]
def rotp (u a by' w : Int) : Int := if by' = 0 then a else wrap64 (Go.bits .or .u64 (shl .u64 u by') (shr .u64 u (w - by')))
def reck (k a b w least : Int) : Int × Int :=
  let u := if w = 32 then u32 a else u64 a
  if k = 0 then (wrap64 (a + b), 0) else if k = 1 then (wrap64 (a - b), 0) else if k = 2 then (wrap64 (a * b), 0)
  else if k = 4 ∨ k = 6 then (if w = 32 then quot (k - 3) (u32 a) (u32 b) least else quot (k - 3) a b least)
  else if k = 3 ∨ k = 5 then quot (k - 3) a b least
  else if k = 7 then (Go.bits .and .i64 a b, 0) else if k = 8 then (Go.bits .or .i64 a b, 0) else if k = 9 then (Go.bits .xor .i64 a b, 0)
  else if k = 10 then (shl .i64 a (b % w), 0) else if k = 11 then (shr .i64 a (b % w), 0)
  else if k = 12 then (wrap64 (shr .u64 u (b % w)), 0)
  else if k = 14 then (rotp u a ((w - b % w) % w) w, 0) else (rotp u a (b % w) w, 0)
theorem reck32 (f : Nat) (k a b : Int) (h0 : 0 ≤ k) (h1 : k ≤ 14) (hb0 : -9223372036854775808 ≤ b) (hb1 : b < 9223372036854775808) : num_reckon.f (f + 6) k a b 32 = some (reck k a b 32 (-2147483648)) := by
  have hk : k = 0 ∨ k = 1 ∨ k = 2 ∨ k = 3 ∨ k = 4 ∨ k = 5 ∨ k = 6 ∨ k = 7 ∨ k = 8 ∨ k = 9 ∨ k = 10 ∨ k = 11 ∨ k = 12 ∨ k = 13 ∨ k = 14 := by omega
  have w1 : wrap64 31 = 31 := by unfold wrap64; omega
  have hl : shl .i64 (-1) 31 = -2147483648 := by decide
  have hp : 0 ≤ b % 32 := by omega
  have hq : wrap64 (32 - b % 32) = 32 - b % 32 := by unfold wrap64; omega
  have hq2 : Go.bits .and .i64 (32 - b % 32) 31 = (32 - b % 32) % 32 := and31 _
  have hq3 : 0 ≤ (32 - b % 32) % 32 := by omega
  have hq4 : wrap64 (32 - (32 - b % 32) % 32) = 32 - (32 - b % 32) % 32 := by unfold wrap64; omega
  have hq5 : 0 ≤ 32 - (32 - b % 32) % 32 := by omega
  have hq6 : 0 ≤ 32 - b % 32 := by omega
  have s3 : wrap64 0 = 0 ∧ wrap64 1 = 1 ∧ wrap64 2 = 2 ∧ wrap64 3 = 3 := by unfold wrap64; omega
  have hub : -9223372036854775808 ≤ u32 b ∧ u32 b < 9223372036854775808 := by unfold u32; omega
  have q1 : ∀ (g : Nat) (k a : Int), num_quotient.f (g + 1) k a b (-2147483648) = some (quot k a b (-2147483648)) := fun g k a => quot_at g k a b _ hb0 hb1
  have q2 : ∀ (g : Nat) (k a : Int), num_quotient.f (g + 1) k a (u32 b) (-2147483648) = some (quot k a (u32 b) (-2147483648)) := fun g k a => quot_at g k a _ _ hub.1 hub.2
  have hu : ∀ x : Int, x % 4294967296 = u32 x := fun x => rfl
  have hu2 : ∀ x : Int, x % 18446744073709551616 = u64 x := fun x => rfl
  rcases hk with rfl | rfl | rfl | rfl | rfl | rfl | rfl | rfl | rfl | rfl | rfl | rfl | rfl | rfl | rfl <;>
    simp only [num_reckon.f, reck, rotp, w1, hl, and31, reduceIte, Int.reduceEq, Int.reduceLE, num_reckon.j0, num_reckon.j1, num_reckon.j2, Int.reduceBEq, u32_at, Option.bind_some, s3.1, s3.2.1, s3.2.2.1, s3.2.2.2, Int.reduceSub, q1, q2, hp, hq, hq2, hq3, hq4, hq5, hq6, w_u64, hu, hu2, Bool.false_eq_true, or_true, true_or, or_self, if_true, if_false]
  all_goals (split <;> rfl)
theorem reck64 (f : Nat) (k a b : Int) (h0 : 0 ≤ k) (h1 : k ≤ 14) (hb0 : -9223372036854775808 ≤ b) (hb1 : b < 9223372036854775808) : num_reckon.f (f + 6) k a b 64 = some (reck k a b 64 (-9223372036854775808)) := by
  have hk : k = 0 ∨ k = 1 ∨ k = 2 ∨ k = 3 ∨ k = 4 ∨ k = 5 ∨ k = 6 ∨ k = 7 ∨ k = 8 ∨ k = 9 ∨ k = 10 ∨ k = 11 ∨ k = 12 ∨ k = 13 ∨ k = 14 := by omega
  have w1 : wrap64 63 = 63 := by unfold wrap64; omega
  have hl : shl .i64 (-1) 63 = -9223372036854775808 := by decide
  have hp : 0 ≤ b % 64 := by omega
  have hq : wrap64 (64 - b % 64) = 64 - b % 64 := by unfold wrap64; omega
  have hq2 : Go.bits .and .i64 (64 - b % 64) 63 = (64 - b % 64) % 64 := and63 _
  have hq3 : 0 ≤ (64 - b % 64) % 64 := by omega
  have hq4 : wrap64 (64 - (64 - b % 64) % 64) = 64 - (64 - b % 64) % 64 := by unfold wrap64; omega
  have hq5 : 0 ≤ 64 - (64 - b % 64) % 64 := by omega
  have hq6 : 0 ≤ 64 - b % 64 := by omega
  have s3 : wrap64 0 = 0 ∧ wrap64 1 = 1 ∧ wrap64 2 = 2 ∧ wrap64 3 = 3 := by unfold wrap64; omega
  have hub : -9223372036854775808 ≤ u32 b ∧ u32 b < 9223372036854775808 := by unfold u32; omega
  have q1 : ∀ (g : Nat) (k a : Int), num_quotient.f (g + 1) k a b (-9223372036854775808) = some (quot k a b (-9223372036854775808)) := fun g k a => quot_at g k a b _ hb0 hb1
  have q2 : ∀ (g : Nat) (k a : Int), num_quotient.f (g + 1) k a (u32 b) (-9223372036854775808) = some (quot k a (u32 b) (-9223372036854775808)) := fun g k a => quot_at g k a _ _ hub.1 hub.2
  have hu : ∀ x : Int, x % 4294967296 = u32 x := fun x => rfl
  have hu2 : ∀ x : Int, x % 18446744073709551616 = u64 x := fun x => rfl
  rcases hk with rfl | rfl | rfl | rfl | rfl | rfl | rfl | rfl | rfl | rfl | rfl | rfl | rfl | rfl | rfl <;>
    simp only [num_reckon.f, reck, rotp, w1, hl, and63, reduceIte, Int.reduceEq, Int.reduceLE, num_reckon.j0, num_reckon.j1, num_reckon.j2, Int.reduceBEq, u32_at, Option.bind_some, s3.1, s3.2.1, s3.2.2.1, s3.2.2.2, Int.reduceSub, q1, q2, hp, hq, hq2, hq3, hq4, hq5, hq6, w_u64, hu, hu2, Bool.false_eq_true, or_true, true_or, or_self, if_true, if_false]
  all_goals (split <;> rfl)
def bin (op a b : Int) : Int × Int × Bool :=
  if 81 ≤ op ∧ op ≤ 90 then ((if cmp (op - 81) a b = true then 1 else 0), 0, true)
  else if 70 ≤ op ∧ op < 80 then ((if cmp (op - 70) (s32 a) (s32 b) = true then 1 else 0), 0, true)
  else if 124 ≤ op ∧ op ≤ 138 then ((reck (op - 124) a b 64 (-9223372036854775808)).1, (reck (op - 124) a b 64 (-9223372036854775808)).2, true)
  else if 106 ≤ op ∧ op < 121 then (u32 (reck (op - 106) (s32 a) (s32 b) 32 (-2147483648)).1, (reck (op - 106) (s32 a) (s32 b) 32 (-2147483648)).2, true)
  else (0, 0, false)
theorem sig_two (op : Int) : (sig op).1 = 2 ↔ (81 ≤ op ∧ op ≤ 90) ∨ (70 ≤ op ∧ op < 80) ∨ (124 ≤ op ∧ op ≤ 138) ∨ (106 ≤ op ∧ op < 121) := by
  unfold sig
  repeat' split
  all_goals first | (constructor <;> intro h <;> first | omega | (exact absurd h (by decide)))
theorem sig_in (op : Int) (h : (sig op).1 = 2) : (sig op).2.1 = (if (70 ≤ op ∧ op < 80) ∨ (106 ≤ op ∧ op < 121) then 127 else 126) := by
  unfold sig at h ⊢
  repeat' split
  all_goals first | rfl | (exfalso; omega) | (exfalso; simp_all; done)
theorem s32_range (a : Int) : -2147483648 ≤ s32 a ∧ s32 a < 2147483648 := by unfold s32; omega
theorem bin_at (f : Nat) (op a b : Int) (hb0 : -9223372036854775808 ≤ b) (hb1 : b < 9223372036854775808) : num_Bin.f (f + 12) op a b = some (bin op a b) := by
  have hsb := s32_range b
  by_cases h : (sig op).1 = 2
  · have h2 := (sig_two op).1 h
    have hin := sig_in op h
    rw [num_Bin.f, sig_at, Option.bind_some, if_pos h, hin, s32_at, s32_at, Option.bind_some, Option.bind_some, bin]
    rcases h2 with h2 | h2 | h2 | h2
    · rw [if_neg (by rw [if_neg (by omega)]; decide), if_pos h2, num_Bin.j0, if_pos (by omega), num_Bin.j1, if_pos (by simp; omega), show wrap64 (op - 81) = op - 81 by unfold wrap64; omega, cmp_at _ _ _ _ (by omega) (by omega), Option.bind_some, truth_at, Option.bind_some]
    · rw [if_pos (by rw [if_pos (by omega)]), if_neg (by omega), if_pos h2, num_Bin.j0]
      have e1 : num_Bin.j1 (f + 11) op (s32 a) (s32 b) false = some ((if cmp (op - 70) (s32 a) (s32 b) = true then 1 else 0), 0, true) := by
        rw [num_Bin.j1, if_neg (by decide), if_pos (by omega), num_Bin.j2, if_pos (by simp; omega), show wrap64 (op - 70) = op - 70 by unfold wrap64; omega, cmp_at _ _ _ _ (by omega) (by omega), Option.bind_some, truth_at, Option.bind_some]
      rw [if_neg (by omega)]
      exact e1
    · rw [if_neg (by rw [if_neg (by omega)]; decide), if_neg (by omega), if_neg (by omega), if_pos h2, num_Bin.j0, if_pos (by omega), num_Bin.j1, if_neg (by simp; omega), if_pos (by omega), num_Bin.j2, if_neg (by simp; omega), if_pos (by omega), show wrap64 (op - 124) = op - 124 by unfold wrap64; omega, reck64 _ _ _ _ (by omega) (by omega) hb0 hb1, Option.bind_some]
    · rw [if_pos (by rw [if_pos (by omega)]), if_neg (by omega), if_neg (by omega), if_neg (by omega), if_pos h2, num_Bin.j0, if_pos (by omega), num_Bin.j1, if_neg (by simp; omega), if_pos (by omega), num_Bin.j2, if_neg (by simp; omega), if_neg (by omega), show wrap64 (op - 106) = op - 106 by unfold wrap64; omega, reck32 _ _ _ _ (by omega) (by omega) (by omega) (by omega), Option.bind_some, u32_at, Option.bind_some]
  · have h2 := mt (sig_two op).2 h
    rw [num_Bin.f, sig_at, Option.bind_some, if_neg h, bin, if_neg (by omega), if_neg (by omega), if_neg (by omega), if_neg (by omega)]
theorem u32_range (a : Int) : 0 ≤ u32 a ∧ u32 a < 4294967296 := by unfold u32; omega
theorem s32_s32 (a : Int) : s32 (s32 a) = s32 a := by unfold s32; omega
theorem u64_range (a : Int) : 0 ≤ u64 a ∧ u64 a < 18446744073709551616 := by unfold u64; omega
theorem w64_range (x : Int) : -9223372036854775808 ≤ wrap64 x ∧ wrap64 x < 9223372036854775808 := by unfold wrap64; omega
theorem wrap_mod (z : Int) : wrap64 z % 18446744073709551616 = z % 18446744073709551616 := by unfold wrap64; omega
theorem w64_u (x : Int) : wrap64 (u64 x) = wrap64 x := by unfold wrap64 u64; omega
theorem tdiv_m1 (a : Int) : Int.tdiv a (-1) = -a := by rw [Int.tdiv_neg, Int.tdiv_one]
theorem tmod_m1 (a : Int) : Int.tmod a (-1) = 0 := by rw [Int.tmod_neg, Int.tmod_one]
theorem quot1 (a b l : Int) : quot 1 a b l = (if b = 0 then (0, 2) else (wrap64 (u64 a / u64 b), 0)) := by
  have ha := u64_range a
  unfold quot
  rw [if_neg (show ¬((1 : Int) = 0 ∧ a = l ∧ b = -1) by omega), if_neg (show ¬ (1 : Int) = 0 by decide), if_pos rfl, w64_u, Int.tdiv_eq_ediv_of_nonneg ha.1]
theorem quot2 (a b l : Int) : quot 2 a b l = (if b = 0 then (0, 2) else if b = -1 then (0, 0) else (Int.tmod a b, 0)) := by
  unfold quot
  rw [if_neg (show ¬((2 : Int) = 0 ∧ a = l ∧ b = -1) by omega), if_neg (show ¬ (2 : Int) = 0 by decide), if_neg (show ¬ (2 : Int) = 1 by decide), if_pos rfl]
  by_cases hm : b = -1
  · subst hm; rw [if_neg (by decide), if_neg (by decide), if_pos rfl, tmod_m1]
  · rw [if_neg hm]
theorem quot3 (a b l : Int) : quot 3 a b l = (if b = 0 then (0, 2) else (wrap64 (u64 a % u64 b), 0)) := by
  have ha := u64_range a
  unfold quot
  rw [if_neg (show ¬((3 : Int) = 0 ∧ a = l ∧ b = -1) by omega), if_neg (show ¬ (3 : Int) = 0 by decide), if_neg (show ¬ (3 : Int) = 1 by decide), if_neg (show ¬ (3 : Int) = 2 by decide), Int.tmod_eq_emod_of_nonneg ha.1]
theorem u32_s32 (x : Int) : u32 (s32 x) = u32 x := by unfold u32 s32; omega
def Near (a b q r : Int) : Prop :=
  wrap64 (wrap64 (q * b) + r) = a ∧ (r = 0 ∨ (decide (r < 0) == decide (a < 0)) = true) ∧ (b = -9223372036854775808 ∨ (b < 0 ∧ r > b ∧ r < wrap64 (-b)) ∨ (b > 0 ∧ r < b ∧ r > wrap64 (-b)))
theorem j2_trap (k : Nat) (hk : 40 ≤ k) (a : Int) (wide : Bool) : scarflaw03_NumDivides.j2 (k + 1) a (-1) wide 0 3 0 a = some true := by
  rw [scarflaw03_NumDivides.j2, if_pos rfl, if_pos rfl, if_pos rfl, if_pos rfl, if_pos rfl, awake hk, Option.bind_some]
theorem tail_ok (b r : Int) (x : Option Bool) (hx : x = some true) (h : b = -9223372036854775808 ∨ (b < 0 ∧ r > b ∧ r < wrap64 (-b)) ∨ (b > 0 ∧ r < b ∧ r > wrap64 (-b))) :
    (if b = -9223372036854775808 then x else (if b < 0 then (if r > b then (if r < wrap64 (-b) then x else (if b > 0 then (if r < b then (if r > wrap64 (-b) then x else (some false)) else (some false)) else (some false))) else (if b > 0 then (if r < b then (if r > wrap64 (-b) then x else (some false)) else (some false)) else (some false))) else (if b > 0 then (if r < b then (if r > wrap64 (-b) then x else (some false)) else (some false)) else (some false)))) = some true := by
  subst hx
  rcases h with h | ⟨h1, h2, h3⟩ | ⟨h1, h2, h3⟩
  · rw [if_pos h]
  · by_cases h : b = -9223372036854775808
    · rw [if_pos h]
    · rw [if_neg h, if_pos h1, if_pos h2, if_pos h3]
  · by_cases h : b = -9223372036854775808
    · rw [if_pos h]
    · rw [if_neg h, if_neg (by omega), if_pos h1, if_pos h2, if_pos h3]
theorem j2_wide (k : Nat) (hk : 40 ≤ k) (a b q r : Int) (h : Near a b q r) : scarflaw03_NumDivides.j2 (k + 1) a b true q 0 r a = some true := by
  obtain ⟨h1, h2, h3⟩ := h
  have hA : ((scarflaw03_awake.f k).bind fun t => some t) = some true := by rw [awake hk, Option.bind_some]
  rw [scarflaw03_NumDivides.j2, if_pos rfl, if_neg (by decide), if_pos rfl, if_pos rfl, if_pos h1]
  by_cases hr : r = 0
  · rw [if_pos hr]; exact tail_ok b r _ hA h3
  · rw [if_neg hr, if_pos (h2.resolve_left hr)]; exact tail_ok b r _ hA h3
theorem j2_low (k : Nat) (hk : 40 ≤ k) (a b q r : Int) (h : Near a b (s32 q) (s32 r)) : scarflaw03_NumDivides.j2 (k + 1) a b false q 0 r a = some true := by
  obtain ⟨h1, h2, h3⟩ := h
  have hA : ((scarflaw03_awake.f k).bind fun t => some t) = some true := by rw [awake hk, Option.bind_some]
  rw [scarflaw03_NumDivides.j2, if_pos rfl, if_neg (by decide), if_neg (by decide), s32_at, Option.bind_some, s32_at, Option.bind_some, if_pos rfl, if_pos h1]
  by_cases hr : s32 r = 0
  · rw [if_pos hr]; exact tail_ok b _ _ hA h3
  · rw [if_neg hr, if_pos (h2.resolve_left hr)]; exact tail_ok b _ _ hA h3
theorem tmod_lt (a b : Int) (hb : b ≠ 0) : (Int.tmod a b).natAbs < b.natAbs := by
  have h : (Int.tmod a b).natAbs = a.natAbs % b.natAbs := Int.natAbs_tmod a b
  rw [h]
  exact Nat.mod_lt _ (by omega)
theorem near_of (a b : Int) (a0 : -9223372036854775808 ≤ a) (a1 : a < 9223372036854775808) (b0 : -9223372036854775808 ≤ b) (b1 : b < 9223372036854775808) (hb : b ≠ 0) (q : Int) (hq : wrap64 q = wrap64 (Int.tdiv a b)) : Near a b q (Int.tmod a b) := by
  have h := Int.mul_tdiv_add_tmod a b
  have hs : Int.tmod a b = 0 ∨ (Int.tmod a b < 0 ↔ a < 0) := by
    by_cases ha : 0 ≤ a
    · have := Int.tmod_nonneg b ha
      right; constructor <;> intro <;> omega
    · have := Int.tmod_nonneg b (show 0 ≤ -a by omega)
      rw [Int.neg_tmod] at this
      by_cases hz : Int.tmod a b = 0
      · left; exact hz
      · right; constructor <;> intro <;> omega
  have hlt : -(b.natAbs : Int) < Int.tmod a b ∧ Int.tmod a b < (b.natAbs : Int) := by
    have := tmod_lt a b hb
    omega
  refine ⟨?_, ?_, ?_⟩
  · have e : wrap64 (q * b) = wrap64 (Int.tdiv a b * b) := by
      have hm : q % 18446744073709551616 = Int.tdiv a b % 18446744073709551616 := by unfold wrap64 at hq; omega
      have : q * b % 18446744073709551616 = Int.tdiv a b * b % 18446744073709551616 := by rw [Int.mul_emod, hm, ← Int.mul_emod]
      unfold wrap64; omega
    rw [e, Int.mul_comm (Int.tdiv a b)]
    generalize b * Int.tdiv a b = x at *
    generalize Int.tmod a b = y at *
    unfold wrap64; omega
  · rcases hs with hs | hs
    · exact Or.inl hs
    · right
      have hd : decide (Int.tmod a b < 0) = decide (a < 0) := decide_eq_decide.2 hs
      rw [hd]; simp
  · generalize Int.tmod a b = y at *
    by_cases hm : b = -9223372036854775808
    · exact Or.inl hm
    · have e : wrap64 (-b) = -b := by unfold wrap64; omega
      rw [e]
      right
      by_cases hn : b < 0
      · left; omega
      · right; omega
theorem q0_at (a b l : Int) (hb : b ≠ 0) : quot 0 a b l = if a = l ∧ b = -1 then (0, 3) else (wrap64 (Int.tdiv a b), 0) := by
  unfold quot
  rw [if_neg hb]
  by_cases h : a = l ∧ b = -1
  · rw [if_pos ⟨rfl, h⟩, if_pos h]
  · rw [if_neg (fun z => h z.2), if_neg h, if_pos rfl]
theorem q1_at (a b l : Int) (hb : b ≠ 0) : quot 1 a b l = (wrap64 (u64 a / u64 b), 0) := by rw [quot1, if_neg hb]
theorem q3_at (a b l : Int) (hb : b ≠ 0) : quot 3 a b l = (wrap64 (u64 a % u64 b), 0) := by rw [quot3, if_neg hb]
theorem q2_at (a b l : Int) (hb : b ≠ 0) : quot 2 a b l = (Int.tmod a b, 0) := by
  rw [quot2, if_neg hb]
  by_cases h : b = -1
  · rw [if_pos h, h, tmod_m1]
  · rw [if_neg h]
theorem q_zero (k a l : Int) : quot k a 0 l = (0, 2) := by unfold quot; rw [if_pos rfl]
theorem b64 (a b : Int) : bin 127 a b = ((quot 0 a b (-9223372036854775808)).1, (quot 0 a b (-9223372036854775808)).2, true) ∧ bin 129 a b = ((quot 2 a b (-9223372036854775808)).1, (quot 2 a b (-9223372036854775808)).2, true)
    ∧ bin 128 a b = ((quot 1 a b (-9223372036854775808)).1, (quot 1 a b (-9223372036854775808)).2, true) ∧ bin 130 a b = ((quot 3 a b (-9223372036854775808)).1, (quot 3 a b (-9223372036854775808)).2, true)
    ∧ bin 126 a b = (wrap64 (a * b), 0, true) ∧ bin 124 a b = (wrap64 (a + b), 0, true) := by
  refine ⟨?_, ?_, ?_, ?_, ?_, ?_⟩ <;>
    simp only [bin, reck, reduceIte, Int.reduceEq, Int.reduceLE, Int.reduceLT, Int.reduceSub, and_false, false_and, and_self, or_self, or_true, true_or]
theorem b32 (a b : Int) : bin 109 a b = (u32 (quot 0 (s32 a) (s32 b) (-2147483648)).1, (quot 0 (s32 a) (s32 b) (-2147483648)).2, true) ∧ bin 111 a b = (u32 (quot 2 (s32 a) (s32 b) (-2147483648)).1, (quot 2 (s32 a) (s32 b) (-2147483648)).2, true)
    ∧ bin 110 a b = (u32 (quot 1 (u32 a) (u32 b) (-2147483648)).1, (quot 1 (u32 a) (u32 b) (-2147483648)).2, true) ∧ bin 112 a b = (u32 (quot 3 (u32 a) (u32 b) (-2147483648)).1, (quot 3 (u32 a) (u32 b) (-2147483648)).2, true)
    ∧ bin 108 a b = (u32 (wrap64 (s32 a * s32 b)), 0, true) ∧ bin 106 a b = (u32 (wrap64 (s32 a + s32 b)), 0, true) := by
  refine ⟨?_, ?_, ?_, ?_, ?_, ?_⟩ <;>
    simp only [bin, reck, reduceIte, Int.reduceEq, Int.reduceLE, Int.reduceLT, Int.reduceSub, and_false, false_and, and_self, or_self, or_true, true_or, u32_s32]
theorem back64 (a b : Int) (a0 : -9223372036854775808 ≤ a) (a1 : a < 9223372036854775808) : wrap64 (wrap64 (wrap64 (u64 a / u64 b) * b) + wrap64 (u64 a % u64 b)) = a := by
  have h := Int.mul_ediv_add_emod (u64 a) (u64 b)
  have e : wrap64 (u64 a / u64 b) * b % 18446744073709551616 = u64 b * (u64 a / u64 b) % 18446744073709551616 := by
    rw [Int.mul_emod, wrap_mod, show b % 18446744073709551616 = u64 b % 18446744073709551616 by unfold u64; omega, ← Int.mul_emod, Int.mul_comm]
  generalize wrap64 (u64 a / u64 b) * b = x at *
  generalize u64 b * (u64 a / u64 b) = y at *
  generalize u64 a % u64 b = z at *
  unfold u64 at h
  unfold wrap64
  omega
theorem u32_mod' (x : Int) : u32 x % 4294967296 = x % 4294967296 := by unfold u32; omega
theorem back32 (a b : Int) (a0 : -2147483648 ≤ a) (a1 : a < 2147483648) : s32 (u32 (wrap64 (s32 (u32 (wrap64 (s32 (u32 (wrap64 (u64 (u32 a) / u64 (u32 b)))) * s32 b))) + s32 (u32 (wrap64 (u64 (u32 a) % u64 (u32 b))))))) = a := by
  have ea := u32_range a
  have eb := u32_range b
  rw [show u64 (u32 a) = u32 a by unfold u64; omega, show u64 (u32 b) = u32 b by unfold u64; omega]
  have h := Int.mul_ediv_add_emod (u32 a) (u32 b)
  have m : ∀ x : Int, s32 (u32 (wrap64 x)) % 4294967296 = x % 4294967296 := by intro x; unfold s32 u32 wrap64; omega
  have e : s32 (u32 (wrap64 (u32 a / u32 b))) * s32 b % 4294967296 = u32 b * (u32 a / u32 b) % 4294967296 := by
    rw [Int.mul_emod, m, show s32 b % 4294967296 = u32 b % 4294967296 by unfold u32 s32; omega, ← Int.mul_emod, Int.mul_comm]
  have f : ∀ x : Int, s32 (u32 (wrap64 x)) = s32 x := by intro x; unfold s32 u32 wrap64; omega
  simp only [f] at e ⊢
  generalize s32 (u32 a / u32 b) * s32 b = x at *
  generalize u32 b * (u32 a / u32 b) = y at *
  generalize u32 a % u32 b = z at *
  unfold u32 at h
  unfold s32
  omega
theorem tdiv_range (a b : Int) (a0 : -2147483648 ≤ a) (a1 : a < 2147483648) (hb : b ≠ 0) (hm : ¬ (a = -2147483648 ∧ b = -1)) : -2147483648 ≤ Int.tdiv a b ∧ Int.tdiv a b < 2147483648 := by
  by_cases h1 : b = 1
  · subst h1; rw [Int.tdiv_one]; exact ⟨a0, a1⟩
  · by_cases h2 : b = -1
    · subst h2; rw [tdiv_m1]; omega
    · have h3 : (Int.tdiv a b).natAbs = a.natAbs / b.natAbs := Int.natAbs_tdiv a b
      have h4 : a.natAbs / b.natAbs ≤ a.natAbs / 2 := Nat.div_le_div_left (by omega) (by decide)
      omega
theorem NumDivides : scarflaw03_NumDivides.Pure := by
  intro a b wide w0 w1
  obtain ⟨a0, a1⟩ := wf64 w0
  obtain ⟨b0, b1⟩ := wf64 w1
  refine ⟨100, ?_⟩
  have B : ∀ f, 12 ≤ f → ∀ op x y : Int, -9223372036854775808 ≤ y → y < 9223372036854775808 → num_Bin.f f op x y = some (bin op x y) := by
    intro f hf op x y h0 h1
    obtain ⟨g, rfl⟩ : ∃ g, f = g + 12 := ⟨f - 12, by omega⟩
    exact bin_at g op x y h0 h1
  have W : wrap64 (124 + 3) = 127 ∧ wrap64 (124 + 5) = 129 ∧ wrap64 (124 + 4) = 128 ∧ wrap64 (124 + 6) = 130 ∧ wrap64 (124 + 2) = 126 := by unfold wrap64; omega
  have V : wrap64 (106 + 3) = 109 ∧ wrap64 (106 + 5) = 111 ∧ wrap64 (106 + 4) = 110 ∧ wrap64 (106 + 6) = 112 ∧ wrap64 (106 + 2) = 108 := by unfold wrap64; omega
  obtain ⟨W3, W5, W4, W6, W2⟩ := W
  obtain ⟨V3, V5, V4, V6, V2⟩ := V
  cases wide with
  | true =>
    obtain ⟨q0, q2, q1, q3, -, -⟩ := b64 a b
    rw [scarflaw03_NumDivides.f, if_pos rfl, scarflaw03_NumDivides.j0, W3, W5, W4, W6, B 99 (by decide) _ _ _ b0 b1, Option.bind_some, B 99 (by decide) _ _ _ b0 b1, Option.bind_some, B 99 (by decide) _ _ _ b0 b1, Option.bind_some, B 99 (by decide) _ _ _ b0 b1, Option.bind_some, q0, q2, q1, q3]
    by_cases hb : b = 0
    · subst hb
      rw [if_pos rfl, q_zero, q_zero, q_zero, if_pos rfl, if_pos rfl, if_pos rfl, awake (by decide), Option.bind_some]
    · have hw := w64_range (u64 a % u64 b)
      rw [if_neg hb, q0_at a b _ hb, q1_at a b _ hb, q2_at a b _ hb, q3_at a b _ hb, if_pos rfl, scarflaw03_NumDivides.j1, if_neg (show ¬ ((0 : Int) != 0) = true by decide), W2, B 98 (by decide) _ _ _ b0 b1, Option.bind_some, (b64 _ b).2.2.2.2.1, B 98 (by decide) _ _ _ hw.1 hw.2, Option.bind_some, (b64 _ (wrap64 (u64 a % u64 b))).2.2.2.2.2, if_pos rfl, back64 a b a0 a1]
      by_cases hm : a = -9223372036854775808 ∧ b = -1
      · rw [if_pos hm, hm.2, tmod_m1]; exact j2_trap 97 (by decide) a true
      · rw [if_neg hm]; exact j2_wide 97 (by decide) a b _ _ (near_of a b a0 a1 b0 b1 hb _ (by unfold wrap64; omega))
  | false =>
    have ha := s32_range a
    have hb' := s32_range b
    generalize hA : s32 a = A at *
    generalize hB : s32 b = D at *
    have sA : s32 A = A := by rw [← hA, s32_s32]
    have sB : s32 D = D := by rw [← hB, s32_s32]
    have d0 : -9223372036854775808 ≤ D := by omega
    have d1 : D < 9223372036854775808 := by omega
    obtain ⟨q0, q2, q1, q3, -, -⟩ := b32 A D
    rw [sA, sB] at q0 q2
    rw [scarflaw03_NumDivides.f, if_neg (by decide), s32_at, Option.bind_some, s32_at, Option.bind_some, hA, hB, scarflaw03_NumDivides.j0, V3, V5, V4, V6, B 99 (by decide) _ _ _ d0 d1, Option.bind_some, B 99 (by decide) _ _ _ d0 d1, Option.bind_some, B 99 (by decide) _ _ _ d0 d1, Option.bind_some, B 99 (by decide) _ _ _ d0 d1, Option.bind_some, q0, q2, q1, q3]
    by_cases hb : D = 0
    · rw [if_pos hb, hb, show u32 0 = 0 from rfl, q_zero, q_zero, q_zero, if_pos rfl, if_pos rfl, if_pos rfl, awake (by decide), Option.bind_some]
    · have hub : u32 D ≠ 0 := by unfold u32; omega
      have hw := u32_range (wrap64 (u64 (u32 A) % u64 (u32 D)))
      have e1 := (b32 (u32 (wrap64 (u64 (u32 A) / u64 (u32 D)))) D).2.2.2.2.1
      rw [sB] at e1
      have hk := back32 A D ha.1 ha.2
      rw [sB] at hk
      rw [if_neg hb, q0_at A D _ hb, q1_at _ _ _ hub, q2_at A D _ hb, q3_at _ _ _ hub, if_pos rfl, scarflaw03_NumDivides.j1, if_neg (show ¬ ((0 : Int) != 0) = true by decide), V2, B 98 (by decide) _ _ _ d0 d1, Option.bind_some, e1, B 98 (by decide) _ _ _ (Int.le_trans (by decide) hw.1) (Int.lt_trans hw.2 (by decide)), Option.bind_some, (b32 _ (u32 (wrap64 (u64 (u32 A) % u64 (u32 D))))).2.2.2.2.2, if_neg (by decide), s32_at, Option.bind_some, hk]
      by_cases hm : A = -2147483648 ∧ D = -1
      · rw [if_pos hm, hm.2, tmod_m1]; exact j2_trap 97 (by decide) A false
      · rw [if_neg hm]
        have ht := tdiv_range A D ha.1 ha.2 hb hm
        have hl := tmod_lt A D hb
        have hr0 : -2147483648 ≤ Int.tmod A D ∧ Int.tmod A D < 2147483648 := by omega
        have hq : s32 (u32 (wrap64 (Int.tdiv A D))) = Int.tdiv A D := by
          generalize Int.tdiv A D = x at ht
          unfold s32 u32 wrap64; omega
        have hr : s32 (u32 (Int.tmod A D)) = Int.tmod A D := by
          generalize Int.tmod A D = x at hr0
          unfold s32 u32; omega
        refine j2_low 97 (by decide) A D _ _ ?_
        rw [hq, hr]
        exact near_of A D (by omega) (by omega) d0 d1 hb _ rfl
end Go.Proofs.YtpoapiphnhmdmaaDoor.NumN
