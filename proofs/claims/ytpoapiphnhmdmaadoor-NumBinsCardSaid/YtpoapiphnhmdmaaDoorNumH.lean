/- Layer 3: what is turned up by some bits, and down by as many, is as it was. -/
import Derived.Test.YtpoapiphnhmdmaaDoorPAx14
import Derived.Test.YtpoapiphnhmdmaaDoorNumG
namespace Go.Proofs.YtpoapiphnhmdmaaDoor.NumH
set_option linter.unusedVariables false
set_option linter.unusedSimpArgs false
open Go.RowKit Go.Proofs.YtpoapiphnhmdmaaDoor.PA Go.Proofs.YtpoapiphnhmdmaaDoorW.PrintWords Go.Proofs.YtpoapiphnhmdmaaDoorW.PrintLast Go.Proofs.YtpoapiphnhmdmaaDoorW.PrintMore
open Go.Proofs.YtpoapiphnhmdmaaDoor.NumA Go.Proofs.YtpoapiphnhmdmaaDoor.NumB Go.Proofs.YtpoapiphnhmdmaaDoor.NumC Go.Proofs.YtpoapiphnhmdmaaDoor.NumD Go.Proofs.YtpoapiphnhmdmaaDoor.NumE Go.Proofs.YtpoapiphnhmdmaaDoor.NumF Go.Proofs.YtpoapiphnhmdmaaDoor.NumG

/-- A number of w bits, turned up by r. -/
def rot (w : Nat) (u : Int) (r : Nat) : Int := u * 2 ^ r % 2 ^ w + u / 2 ^ (w - r)
theorem pow_pos' (r : Nat) : (0 : Int) < 2 ^ r := Int.pow_pos (by decide)
theorem split_at (u : Int) (r m : Nat) (h0 : 0 ≤ u) (h1 : u < 2 ^ (r + m)) : ∃ H L : Int, u = H * 2 ^ m + L ∧ 0 ≤ H ∧ H < 2 ^ r ∧ 0 ≤ L ∧ L < 2 ^ m := by
  have hm := pow_pos' m
  refine ⟨u / 2 ^ m, u % 2 ^ m, ?_, Int.ediv_nonneg h0 (by omega), ?_, Int.emod_nonneg _ (by omega), Int.emod_lt_of_pos _ hm⟩
  · have := Int.mul_ediv_add_emod u (2 ^ m); rw [Int.mul_comm] at this; omega
  · rw [Int.pow_add] at h1; exact Int.ediv_lt_of_lt_mul hm h1
theorem rot_split (r m : Nat) (H L : Int) (hH : 0 ≤ H) (hH1 : H < 2 ^ r) (hL : 0 ≤ L) (hL1 : L < 2 ^ m) : rot (r + m) (H * 2 ^ m + L) r = L * 2 ^ r + H := by
  have hm := pow_pos' m
  have hr := pow_pos' r
  have e1 : (H * 2 ^ m + L) * 2 ^ r = L * 2 ^ r + 2 ^ (r + m) * H := by
    rw [Int.add_mul, Int.pow_add, Int.mul_assoc, Int.mul_comm (2 ^ m) (2 ^ r), Int.mul_comm H, Int.add_comm]
  have e2 : L * 2 ^ r < 2 ^ (r + m) := by
    rw [Int.pow_add, Int.mul_comm]; exact Int.mul_lt_mul_of_pos_left hL1 hr
  have e3 : 0 ≤ L * 2 ^ r := Int.mul_nonneg hL (by omega)
  have e4 : (H * 2 ^ m + L) / 2 ^ m = H := by
    rw [Int.add_comm, Int.add_mul_ediv_right _ _ (by omega), Int.ediv_eq_zero_of_lt hL hL1]; omega
  rw [rot, e1, Int.add_mul_emod_self_left, Int.emod_eq_of_lt e3 e2, show r + m - r = m by omega, e4]
theorem rot_range (w r : Nat) (hr : r ≤ w) (u : Int) (h0 : 0 ≤ u) (h1 : u < 2 ^ w) : 0 ≤ rot w u r ∧ rot w u r < 2 ^ w := by
  obtain ⟨m, rfl⟩ : ∃ m, w = r + m := ⟨w - r, by omega⟩
  obtain ⟨H, L, rfl, a, b, c, d⟩ := split_at u r m h0 h1
  rw [rot_split r m H L a b c d]
  have hr := pow_pos' r
  have e3 : 0 ≤ L * 2 ^ r := Int.mul_nonneg c (by omega)
  have e4 : (L + 1) * 2 ^ r ≤ 2 ^ m * 2 ^ r := Int.mul_le_mul_of_nonneg_right (by omega) (by omega)
  rw [Int.add_mul, ← Int.pow_add, Nat.add_comm m r] at e4
  omega
theorem rot_back (w r : Nat) (hr : r ≤ w) (u : Int) (h0 : 0 ≤ u) (h1 : u < 2 ^ w) : rot w (rot w u r) (w - r) = u := by
  obtain ⟨m, rfl⟩ : ∃ m, w = r + m := ⟨w - r, by omega⟩
  obtain ⟨H, L, rfl, a, b, c, d⟩ := split_at u r m h0 h1
  rw [rot_split r m H L a b c d, show r + m - r = m by omega, Nat.add_comm r m, rot_split m r L H c d a b]
theorem rot_zero (w : Nat) (u : Int) (h0 : 0 ≤ u) (h1 : u < 2 ^ w) : rot w u 0 = u := by
  rw [rot, Int.pow_zero, Int.mul_one, Nat.sub_zero, Int.emod_eq_of_lt h0 h1, Int.ediv_eq_zero_of_lt h0 h1]; omega

/-! ### how many bits are 1 -/
theorem ones_add (n : Int) (r : Nat) : ∀ m, ones n (r + m) = ones n r + ones (n / 2 ^ r) m
  | 0 => by simp [ones]
  | m + 1 => by
    have ih := ones_add n r m
    have e : bitZ n (r + m) = bitZ (n / 2 ^ r) m := bit_far n r m
    show ones n (r + m) + bitZ n (r + m) = ones n r + (ones (n / 2 ^ r) m + bitZ (n / 2 ^ r) m)
    omega
theorem bit_low (H L : Int) (r j : Nat) (hj : j < r) : bitZ (L * 2 ^ r + H) j = bitZ H j := by
  obtain ⟨d, rfl⟩ : ∃ d, r = j + (d + 1) := ⟨r - j - 1, by omega⟩
  have e : L * 2 ^ (j + (d + 1)) = L * 2 ^ d * 2 * 2 ^ j := by
    rw [Int.pow_add, Int.pow_succ]
    rw [Int.mul_comm (2 ^ j) _, ← Int.mul_assoc, ← Int.mul_assoc]
  rw [bitZ, e, Int.add_comm, Int.add_mul_ediv_right _ _ (Int.ne_of_gt (pow_pos' j)), bitZ]
  omega
theorem ones_low (H L : Int) (r : Nat) : ∀ j, j ≤ r → ones (L * 2 ^ r + H) j = ones H j
  | 0, _ => rfl
  | j + 1, h => by simp only [ones]; rw [ones_low H L r j (by omega), bit_low H L r j (by omega)]
theorem ones_join (H L : Int) (r m : Nat) (hH : 0 ≤ H) (hH1 : H < 2 ^ r) : ones (L * 2 ^ r + H) (r + m) = ones H r + ones L m := by
  rw [ones_add, ones_low H L r r (Nat.le_refl _)]
  rw [Int.add_comm (L * 2 ^ r), Int.add_mul_ediv_right _ _ (Int.ne_of_gt (pow_pos' r)), Int.ediv_eq_zero_of_lt hH hH1, Int.zero_add]
theorem ones_rot (w r : Nat) (hr : r ≤ w) (u : Int) (h0 : 0 ≤ u) (h1 : u < 2 ^ w) : ones (rot w u r) w = ones u w := by
  obtain ⟨m, rfl⟩ : ∃ m, w = r + m := ⟨w - r, by omega⟩
  obtain ⟨H, L, rfl, a, b, c, d⟩ := split_at u r m h0 h1
  rw [rot_split r m H L a b c d, ones_join H L r m a b, Nat.add_comm r m, ones_join L H m r c d]
  omega

/-! ### the program's turns -/
theorem wraps_u64 (n : Int) (h0 : 0 ≤ n) (h1 : n < 2 ^ 64) : IntKind.u64.wrap n = n := by rw [w_u64]; omega
theorem shl_u (x : Int) (j : Nat) (hj : j ≤ 64) : shl .u64 x (j : Int) = IntKind.u64.wrap (x * 2 ^ j) := by
  unfold shl
  rw [show ((j : Int)).toNat = j by omega, Nat.min_eq_left (by simp [IntKind.bits]; omega)]
theorem shr_u (x : Int) (j : Nat) (hj : j ≤ 64) : shr .u64 x (j : Int) = x / 2 ^ j := by
  unfold shr
  rw [show ((j : Int)).toNat = j by omega, Nat.min_eq_left (by simp [IntKind.bits]; omega)]
theorem or_turn (w r : Nat) (hr : r ≤ w) (hw : w ≤ 64) (u : Int) (h0 : 0 ≤ u) (h1 : u < 2 ^ w) : Go.bits .or .u64 (shl .u64 u (r : Int)) (shr .u64 u ((w : Int) - r)) = u * 2 ^ r % 18446744073709551616 + u / 2 ^ (w - r) := by
  have hp := pow_pos' r
  have hq := pow_pos' (w - r)
  have e1 : (18446744073709551616 : Int) = 2 ^ r * 2 ^ (64 - r) := by rw [← Int.pow_add, show r + (64 - r) = 64 by omega]; rfl
  have hlt : u / 2 ^ (w - r) < 2 ^ r := by
    refine Int.ediv_lt_of_lt_mul hq ?_
    rw [← Int.pow_add, show r + (w - r) = w by omega]; exact h1
  have hle : (2 : Int) ^ r ≤ 2 ^ 64 := by
    have : (2 : Nat) ^ r ≤ 2 ^ 64 := Nat.pow_le_pow_right (by decide) (by omega)
    exact_mod_cast this
  have hd : u * 2 ^ r % 18446744073709551616 % 2 ^ r = 0 := by
    rw [e1, Int.emod_emod_of_dvd _ ⟨2 ^ (64 - r), rfl⟩]; simp
  rw [shl_u u r (by omega), show ((w : Int) - r) = ((w - r : Nat) : Int) by omega, shr_u u (w - r) (by omega), w_u64]
  exact Go.bits_join .u64 64 (by decide) wraps_u64 r _ _ (by omega) hd (by omega) (Int.ediv_nonneg h0 (by omega)) hlt (by omega)
theorem u64_range (a : Int) : 0 ≤ u64 a ∧ u64 a < 18446744073709551616 := by unfold u64; omega
theorem rotp64 (a : Int) (r : Nat) (hr : r < 64) (h0 : -9223372036854775808 ≤ a) (h1 : a < 9223372036854775808) : rotp (u64 a) a r 64 = wrap64 (rot 64 (u64 a) r) := by
  have hu := u64_range a
  by_cases h : r = 0
  · subst h
    rw [rotp, if_pos (show ((0 : Nat) : Int) = 0 from rfl), rot_zero 64 _ hu.1 hu.2]; unfold wrap64 u64; omega
  · have := or_turn 64 r (by omega) (by decide) (u64 a) hu.1 hu.2
    rw [rotp, if_neg (by omega)]
    exact congrArg wrap64 this
theorem rotp32 (a : Int) (r : Nat) (hr : r < 32) : u32 (rotp (u32 (s32 a)) (s32 a) r 32) = rot 32 (u32 a) r := by
  have hu := u32_range a
  have us : u32 (s32 a) = u32 a := by unfold u32 s32; omega
  by_cases h : r = 0
  · subst h
    rw [rotp, if_pos (show ((0 : Nat) : Int) = 0 from rfl), rot_zero 32 _ hu.1 hu.2, us]
  · have := or_turn 32 r (by omega) (by decide) (u32 a) hu.1 hu.2
    have hc : ((32 : Nat) : Int) = 32 := rfl
    rw [hc] at this
    have hrr := rot_range 32 r (by omega) (u32 a) hu.1 hu.2
    rw [rotp, if_neg (by omega), us, this]
    have e : u32 (wrap64 (u32 a * 2 ^ r % 18446744073709551616 + u32 a / 2 ^ (32 - r))) = (u32 a * 2 ^ r % 2 ^ 32 + u32 a / 2 ^ (32 - r)) % 2 ^ 32 := by
      unfold wrap64
      generalize u32 a * 2 ^ r = z
      generalize u32 a / 2 ^ (32 - r) = y
      unfold u32
      omega
    rw [e]
    exact Int.emod_eq_of_lt hrr.1 hrr.2
theorem bin_up64 (a b : Int) (h0 : -9223372036854775808 ≤ a) (h1 : a < 9223372036854775808) : bin 137 a b = (wrap64 (rot 64 (u64 a) (b % 64).toNat), 0, true) := by
  have hb : ((b % 64).toNat : Int) = b % 64 := by omega
  have := rotp64 a (b % 64).toNat (by omega) h0 h1
  rw [hb] at this
  simp only [bin, reck, reduceIte, Int.reduceEq, Int.reduceLE, Int.reduceLT, Int.reduceSub, and_false, false_and, and_self, or_self, this]
theorem bin_dn64 (a b : Int) (h0 : -9223372036854775808 ≤ a) (h1 : a < 9223372036854775808) : bin 138 a b = (wrap64 (rot 64 (u64 a) ((64 - b % 64) % 64).toNat), 0, true) := by
  have hb : (((64 - b % 64) % 64).toNat : Int) = (64 - b % 64) % 64 := by omega
  have := rotp64 a ((64 - b % 64) % 64).toNat (by omega) h0 h1
  rw [hb] at this
  simp only [bin, reck, reduceIte, Int.reduceEq, Int.reduceLE, Int.reduceLT, Int.reduceSub, and_false, false_and, and_self, or_self, this]
theorem s32_mod (b : Int) : s32 b % 32 = b % 32 := by unfold s32; omega
theorem bin_up32 (a b : Int) : bin 119 a b = (rot 32 (u32 a) (b % 32).toNat, 0, true) := by
  have hb : ((b % 32).toNat : Int) = b % 32 := by omega
  have := rotp32 a (b % 32).toNat (by omega)
  rw [hb] at this
  simp only [bin, reck, reduceIte, Int.reduceEq, Int.reduceLE, Int.reduceLT, Int.reduceSub, and_false, false_and, and_self, or_self, s32_mod, this]
theorem bin_dn32 (a b : Int) : bin 120 a b = (rot 32 (u32 a) ((32 - b % 32) % 32).toNat, 0, true) := by
  have hb : (((32 - b % 32) % 32).toNat : Int) = (32 - b % 32) % 32 := by omega
  have := rotp32 a ((32 - b % 32) % 32).toNat (by omega)
  rw [hb] at this
  simp only [bin, reck, reduceIte, Int.reduceEq, Int.reduceLE, Int.reduceLT, Int.reduceSub, and_false, false_and, and_self, or_self, s32_mod, this]
end Go.Proofs.YtpoapiphnhmdmaaDoor.NumH
