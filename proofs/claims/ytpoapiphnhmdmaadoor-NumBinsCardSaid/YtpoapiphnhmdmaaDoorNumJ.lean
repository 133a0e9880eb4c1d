/- Layer 3: the reference's comparisons, turns, quotients and shifts, bit by bit. -/
import Derived.Test.YtpoapiphnhmdmaaDoorPAx10
import Derived.Test.YtpoapiphnhmdmaaDoorNumH
namespace Go.Proofs.YtpoapiphnhmdmaaDoor.NumJ
set_option linter.unusedVariables false
set_option linter.unusedSimpArgs false
open Go.RowKit Go.Proofs.YtpoapiphnhmdmaaDoor.PA Go.Proofs.YtpoapiphnhmdmaaDoorW.PrintWords Go.Proofs.YtpoapiphnhmdmaaDoorW.PrintLast Go.Proofs.YtpoapiphnhmdmaaDoorW.PrintMore
open Go.Proofs.YtpoapiphnhmdmaaDoor.NumA Go.Proofs.YtpoapiphnhmdmaaDoor.NumB Go.Proofs.YtpoapiphnhmdmaaDoor.NumC Go.Proofs.YtpoapiphnhmdmaaDoor.NumD Go.Proofs.YtpoapiphnhmdmaaDoor.NumE Go.Proofs.YtpoapiphnhmdmaaDoor.NumF Go.Proofs.YtpoapiphnhmdmaaDoor.NumG Go.Proofs.YtpoapiphnhmdmaaDoor.NumH

/-! ### comparisons -/
theorem below_at (a b : Int) (a0 : -9223372036854775808 ≤ a) (a1 : a < 9223372036854775808) (b0 : -9223372036854775808 ≤ b) (b1 : b < 9223372036854775808) : scarfref03_below.f a b = some (decide (u64 a < u64 b)) := by
  have hu : (u64 a = if a < 0 then a + 18446744073709551616 else a) ∧ (u64 b = if b < 0 then b + 18446744073709551616 else b) := by unfold u64; constructor <;> split <;> omega
  unfold scarfref03_below.f
  by_cases ha : a < 0 <;> by_cases hb : b < 0 <;> simp only [ha, hb, if_true, if_false] at hu <;> simp [ha, hb, hu.1, hu.2] <;> omega
theorem rcmp_at (f : Nat) (k a b : Int) (h0 : 0 ≤ k) (h1 : k ≤ 9) (a0 : -9223372036854775808 ≤ a) (a1 : a < 9223372036854775808) (b0 : -9223372036854775808 ≤ b) (b1 : b < 9223372036854775808) :
    scarfref03_compare.f (f + 1) k a b = some (cmp k a b) := by
  have hk : k = 0 ∨ k = 1 ∨ k = 2 ∨ k = 3 ∨ k = 4 ∨ k = 5 ∨ k = 6 ∨ k = 7 ∨ k = 8 ∨ k = 9 := by omega
  have t : Int.tmod 2 2 = 0 ∧ Int.tmod 3 2 = 1 ∧ Int.tmod 4 2 = 0 ∧ Int.tmod 5 2 = 1 ∧ Int.tmod 6 2 = 0 ∧ Int.tmod 7 2 = 1 ∧ Int.tmod 8 2 = 0 ∧ Int.tmod 9 2 = 1 := by decide
  obtain ⟨t2, t3, t4, t5, t6, t7, t8, t9⟩ := t
  rcases hk with rfl | rfl | rfl | rfl | rfl | rfl | rfl | rfl | rfl | rfl <;>
    simp only [scarfref03_compare.f, scarfref03_compare.j0, cmp, reduceIte, Int.reduceEq, Int.reduceLT, t2, t3, t4, t5, t6, t7, t8, t9, below_at a b a0 a1 b0 b1, below_at b a b0 b1 a0 a1, Option.bind_some]
  all_goals first | done | rfl | exact congrArg some (decide_eq_decide.2 Iff.rfl) | exact congrArg (fun z => some !z) (decide_eq_decide.2 Iff.rfl)
/-- The odd comparisons tell the same of the numbers without a sign. -/
theorem cmp_odd (k a b : Int) (hk : k = 1 ∨ k = 3 ∨ k = 5 ∨ k = 7 ∨ k = 9) : cmp k (u32 a) (u32 b) = cmp k (s32 a) (s32 b) := by
  have e : (u32 a = u32 b) ↔ (s32 a = s32 b) := by unfold u32 s32; omega
  have l1 : (u64 (u32 a) < u64 (u32 b)) ↔ (u64 (s32 a) < u64 (s32 b)) := by unfold u64 u32 s32; omega
  have l2 : (u64 (u32 a) > u64 (u32 b)) ↔ (u64 (s32 a) > u64 (s32 b)) := by unfold u64 u32 s32; omega
  rcases hk with rfl | rfl | rfl | rfl | rfl <;> simp only [cmp, reduceIte, Int.reduceEq]
  · rw [Bool.eq_iff_iff]; simp [e]
  · exact decide_eq_decide.2 l1
  · exact decide_eq_decide.2 l2
  · exact congrArg (fun z => !z) (decide_eq_decide.2 l2)
  · exact congrArg (fun z => !z) (decide_eq_decide.2 l1)

/-! ### turns -/
def turnL (n : Int) (w r j : Nat) : List Int := (List.range j).map fun i => bitZ n ((i + w - r) % w)
theorem turnL_succ (n : Int) (w r j : Nat) : turnL n w r (j + 1) = turnL n w r j ++ [bitZ n ((j + w - r) % w)] := by simp [turnL, List.range_succ]
theorem turnL_len (n : Int) (w r j : Nat) : (turnL n w r j).length = j := by simp [turnL]
theorem turnL_01 (n : Int) (w r j : Nat) : ∀ b ∈ turnL n w r j, b = 0 ∨ b = 1 := by
  intro b hb
  simp only [turnL, List.mem_map] at hb
  obtain ⟨k, _, rfl⟩ := hb
  exact bitZ_01 n _
theorem turnL_split (n : Int) (r m : Nat) (hm : 0 < r + m) : turnL n (r + m) r (r + m) = bitsZ (n / 2 ^ m) r ++ bitsZ n m := by
  apply List.ext_getElem
  · simp [turnL, bitsZ_len]
  · intro i h1 h2
    have hi : i < r + m := by simpa [turnL] using h1
    simp only [turnL, List.getElem_map, List.getElem_range]
    by_cases h : i < r
    · rw [List.getElem_append_left (by rw [bitsZ_len]; exact h)]
      simp only [bitsZ, List.getElem_map, List.getElem_range]
      rw [show i + (r + m) - r = m + i by omega, Nat.mod_eq_of_lt (by omega)]
      exact bit_far n m i
    · rw [List.getElem_append_right (by rw [bitsZ_len]; omega)]
      simp only [bitsZ, List.getElem_map, List.getElem_range, List.length_map, List.length_range]
      rw [show i + (r + m) - r = (i - r) + (r + m) by omega, Nat.add_mod_right, Nat.mod_eq_of_lt (by omega)]
theorem turnL_val (n : Int) (r m : Nat) (hm : 0 < r + m) : val (turnL n (r + m) r (r + m)) = rot (r + m) (n % 2 ^ (r + m)) r := by
  have hp := pow_pos' m
  have hq := pow_pos' r
  have e : n % 2 ^ (r + m) = (n / 2 ^ m % 2 ^ r) * 2 ^ m + n % 2 ^ m := by
    have h1 := Int.mul_ediv_add_emod n (2 ^ m)
    have h2 := Int.mul_ediv_add_emod (n / 2 ^ m) (2 ^ r)
    have h3 := Int.emod_nonneg n (show (2 : Int) ^ m ≠ 0 by omega)
    have h4 := Int.emod_lt_of_pos n hp
    have h5 := Int.emod_nonneg (n / 2 ^ m) (show (2 : Int) ^ r ≠ 0 by omega)
    have h6 := Int.emod_lt_of_pos (n / 2 ^ m) hq
    generalize n / 2 ^ m % 2 ^ r = H at *
    generalize n % 2 ^ m = L at *
    generalize n / 2 ^ m / 2 ^ r = Q at *
    have hn : n = (H * 2 ^ m + L) + 2 ^ (r + m) * Q := by
      rw [← h1, ← h2, Int.mul_add, ← Int.mul_assoc, Int.mul_comm (2 ^ m) (2 ^ r), ← Int.pow_add, Int.mul_comm (2 ^ m) H]; omega
    have hlt : H * 2 ^ m + L < 2 ^ (r + m) := by
      have : (H + 1) * 2 ^ m ≤ 2 ^ r * 2 ^ m := Int.mul_le_mul_of_nonneg_right (by omega) (by omega)
      rw [← Int.pow_add, Int.add_mul] at this
      omega
    have hge : 0 ≤ H * 2 ^ m + L := by
      have := Int.mul_nonneg h5 (show (0 : Int) ≤ 2 ^ m by omega)
      omega
    rw [hn, Int.add_mul_emod_self_left, Int.emod_eq_of_lt hge hlt]
  rw [turnL_split n r m hm, val_append, val_bits, val_bits, bitsZ_len, e, rot_split r m _ _ (Int.emod_nonneg _ (by omega)) (Int.emod_lt_of_pos _ hq) (Int.emod_nonneg _ (by omega)) (Int.emod_lt_of_pos _ hp), Int.mul_comm (2 ^ r)]
  omega
theorem turn_l0 (n : Int) (w r : Nat) (hw0 : 0 < w) (hw : w ≤ 64) (hr : r ≤ w) : ∀ (d j k : Nat), j + d = w → d + 66 ≤ k → scarfref03_turn.l0 k r w (bitsZ n w) (turnL n w r j) j = some (wrap64 (val (turnL n w r w)))
  | 0, j, k, hj, hk => by
    obtain ⟨k, rfl⟩ : ∃ k', k = k' + 1 := ⟨k - 1, by omega⟩
    obtain rfl : j = w := by omega
    rw [scarfref03_turn.l0, if_neg (by omega), from_at _ k (turnL_01 n _ _ _) (by rw [turnL_len]; omega) (by omega), Option.bind_some]
  | d + 1, j, k, hj, hk => by
    obtain ⟨k, rfl⟩ : ∃ k', k = k' + 1 := ⟨k - 1, by omega⟩
    have ih := turn_l0 n w r hw0 hw hr d (j + 1) k (by omega) (by omega)
    have e : Int.tmod (wrap64 (wrap64 ((j : Int) - (r : Int)) + (w : Int))) (w : Int) = (((j + w - r) % w : Nat) : Int) := by
      rw [show wrap64 (wrap64 ((j : Int) - (r : Int)) + (w : Int)) = ((j + w - r : Nat) : Int) by unfold wrap64; omega, Int.tmod_eq_emod_of_nonneg (by omega)]
      rfl
    have hlt : (j + w - r) % w < w := Nat.mod_lt _ hw0
    have hg : rd (bitsZ n w) (((j + w - r) % w : Nat) : Int) = bitZ n ((j + w - r) % w) := by
      rw [rd, Int.toNat_natCast]; exact bitsZ_get n w _ hlt
    rw [scarfref03_turn.l0, if_pos (by omega), if_neg (by omega), e, if_pos (by omega), if_pos (by rw [bitsZ_len]; omega), if_pos (by rw [turnL_len]; omega), hg, ← turnL_succ, show wrap64 ((j : Int) + 1) = ((j + 1 : Nat) : Int) by unfold wrap64; omega]
    exact ih
theorem turn_at (n : Int) (w r k : Nat) (hw0 : 0 < w) (hw : w ≤ 64) (hr : r ≤ w) (hk : 140 ≤ k) : scarfref03_turn.f k n r w = some (wrap64 (rot w (n % 2 ^ w) r)) := by
  have := turn_l0 n w r hw0 hw hr w 0 k (by omega) (by omega)
  obtain ⟨m, rfl⟩ : ∃ m, w = r + m := ⟨w - r, by omega⟩
  rw [turnL_val n r m hw0] at this
  rw [scarfref03_turn.f, list_at n _ k hw (by omega), Option.bind_some]
  exact this

/-! ### a quotient, bit by bit -/
theorem w64_range (x : Int) : -9223372036854775808 ≤ wrap64 x ∧ wrap64 x < 9223372036854775808 := by unfold wrap64; omega
theorem u64_w64 (x : Int) (h0 : 0 ≤ x) (h1 : x < 18446744073709551616) : u64 (wrap64 x) = x := by unfold u64 wrap64; omega
theorem wrap_eq (z : Int) : IntKind.i64.wrap z = wrap64 z := by rw [IntKind.wrap_i64]; unfold wrap64; omega
theorem wrap_mod (z : Int) : wrap64 z % 18446744073709551616 = z % 18446744073709551616 := by unfold wrap64; omega
theorem ofInt_wrap (z : Int) : BitVec.ofInt 64 (wrap64 z) = BitVec.ofInt 64 z := by
  apply BitVec.eq_of_toNat_eq
  rw [BitVec.toNat_ofInt, BitVec.toNat_ofInt]
  have e : ((2 ^ 64 : Nat) : Int) = 18446744073709551616 := rfl
  rw [e, wrap_mod]
theorem pow_cast (j : Nat) : ((2 ^ j : Nat) : Int) = (2 : Int) ^ j := by norm_cast
theorem or_top (Q j : Nat) (hj : j ≤ 63) (hQ : Q * 2 ^ (j + 1) < 2 ^ 64) : Go.bits .or .i64 (wrap64 ((Q * 2 ^ (j + 1) : Nat) : Int)) (shl .i64 1 (j : Int)) = wrap64 (((2 * Q + 1) * 2 ^ j : Nat) : Int) := by
  have hp : 2 ^ j < 2 ^ (j + 1) := Nat.pow_lt_pow_right (by decide) (by omega)
  have hp2 : 2 ^ j < 2 ^ 64 := Nat.pow_lt_pow_right (by decide) (by omega)
  have e3 : 2 ^ (j + 1) * Q + 2 ^ j = (2 * Q + 1) * 2 ^ j := by
    rw [Nat.pow_succ, Nat.add_mul, Nat.one_mul, Nat.mul_assoc, Nat.mul_comm (2 ^ j)]
  rw [shl_eq 1 j (by omega), Int.one_mul, ← pow_cast j, wrap_eq]
  have e1 : (BitVec.ofInt 64 (wrap64 ((Q * 2 ^ (j + 1) : Nat) : Int))).toNat = 2 ^ (j + 1) * Q := by
    rw [ofInt_wrap, BitVec.ofInt_natCast, BitVec.toNat_ofNat, Nat.mod_eq_of_lt hQ, Nat.mul_comm]
  have e2 : (BitVec.ofInt 64 (wrap64 ((2 ^ j : Nat) : Int))).toNat = 2 ^ j := by
    rw [ofInt_wrap, BitVec.ofInt_natCast, BitVec.toNat_ofNat, Nat.mod_eq_of_lt hp2]
  show IntKind.i64.wrap ((BitVec.ofInt 64 (wrap64 ((Q * 2 ^ (j + 1) : Nat) : Int)) ||| BitVec.ofInt 64 (wrap64 ((2 ^ j : Nat) : Int))).toNat : Nat) = _
  rw [BitVec.toNat_or, e1, e2, ← Nat.two_pow_add_eq_or_of_lt hp Q, e3, wrap_eq]
theorem bit_u64 (a : Int) (i : Nat) (hi : i < 64) : bitZ (u64 a) i = bitZ a i := by
  have hm : u64 a = a % 2 ^ 64 := rfl
  obtain ⟨d, hd⟩ : ∃ d, 64 = i + (d + 1) := ⟨63 - i, by omega⟩
  have e := Int.mul_ediv_add_emod a (2 ^ 64)
  have e2 : (2 : Int) ^ 64 * (a / 2 ^ 64) = (2 * (2 ^ d * (a / 2 ^ 64))) * 2 ^ i := by
    rw [hd, Int.pow_add, Int.pow_succ]
    generalize a / _ = z
    rw [Int.mul_comm (2 ^ i), Int.mul_comm (2 ^ d) 2, Int.mul_assoc, Int.mul_assoc, Int.mul_assoc, Int.mul_assoc, Int.mul_comm (2 ^ i) z]
  have e3 : a / 2 ^ i = 2 * (2 ^ d * (a / 2 ^ 64)) + a % 2 ^ 64 / 2 ^ i := by
    conv => lhs; rw [← e, e2, Int.add_comm, Int.add_mul_ediv_right _ _ (Int.ne_of_gt (pow_pos' i))]
    exact Int.add_comm _ _
  rw [hm, bitZ, bitZ, e3]
  generalize 2 ^ d * (a / 2 ^ 64) = x
  generalize a % 2 ^ 64 / 2 ^ i = y
  omega
theorem bit_nat (a : Int) (U i : Nat) (hi : i < 64) (hU : u64 a = (U : Int)) : bitZ a i = ((U / 2 ^ i % 2 : Nat) : Int) := by
  rw [← bit_u64 a i hi, hU, bitZ]
  norm_cast
theorem wr1 (R bb : Nat) : wrap64 (wrap64 (wrap64 (R : Int) * 2) + (bb : Int)) = wrap64 ((2 * R + bb : Nat) : Int) := by unfold wrap64; omega
theorem wr2 (x b V : Int) (h : u64 b = V) : wrap64 (wrap64 x - b) = wrap64 (x - V) := by unfold u64 at h; unfold wrap64; omega
theorem qup (Q V R bb : Nat) (h : V ≤ 2 * R + bb) : 2 * (Q * V + R) + bb = (2 * Q + 1) * V + (2 * R + bb - V) := by
  rw [Nat.add_mul, Nat.mul_add, Nat.mul_assoc]; omega
theorem qdn (Q V R bb : Nat) : 2 * (Q * V + R) + bb = (2 * Q) * V + (2 * R + bb) := by
  rw [Nat.mul_add, Nat.mul_assoc]; omega
theorem half (U j : Nat) : U / 2 ^ j = 2 * (U / 2 ^ (j + 1)) + U / 2 ^ j % 2 := by
  rw [Nat.pow_succ, ← Nat.div_div_eq_div_mul]; omega
theorem q_bound (U Q V R j : Nat) (hU : U < 2 ^ 64) (hV : 0 < V) (hN : U / 2 ^ j = Q * V + R) : Q * 2 ^ j < 2 ^ 64 := by
  have h1 : Q * 1 ≤ Q * V := Nat.mul_le_mul_left Q hV
  have h2 : Q ≤ U / 2 ^ j := by omega
  have h3 := Nat.mul_le_mul_right (2 ^ j) h2
  have h4 := Nat.div_mul_le_self U (2 ^ j)
  exact Nat.lt_of_le_of_lt (Nat.le_trans h3 h4) hU
theorem div_round (a b : Int) (V Q R bb j k : Nat) (hj : j < 64) (hb0 : -9223372036854775808 ≤ b) (hb1 : b < 9223372036854775808) (hV : u64 b = (V : Int)) (hR : R < V) (hbb : bitZ a j = (bb : Int)) (hb2 : bb < 2) (hQ : Q * 2 ^ (j + 1) < 2 ^ 64) :
    scarfref03_divide.l0 (k + 1) a b (wrap64 ((Q * 2 ^ (j + 1) : Nat) : Int)) (wrap64 (R : Int)) (((j + 1 : Nat) : Int) - 1) =
      if 2 * R + bb < V then scarfref03_divide.l0 k a b (wrap64 ((2 * Q * 2 ^ j : Nat) : Int)) (wrap64 ((2 * R + bb : Nat) : Int)) ((j : Int) - 1)
      else scarfref03_divide.l0 k a b (wrap64 (((2 * Q + 1) * 2 ^ j : Nat) : Int)) (wrap64 ((2 * R + bb - V : Nat) : Int)) ((j : Int) - 1) := by
  have hor := or_top Q j (by omega) hQ
  have hV64 : (V : Int) < 18446744073709551616 := by have := u64_range b; omega
  have hx := w64_range ((2 * R + bb : Nat) : Int)
  have hz : Q * 2 ^ (j + 1) = 2 * Q * 2 ^ j := by rw [Nat.pow_succ, Nat.mul_comm 2 Q, Nat.mul_assoc, Nat.mul_comm 2]
  rw [scarfref03_divide.l0, if_pos (by omega), show ((j + 1 : Nat) : Int) - 1 = (j : Int) by omega, bit_at a j (by omega), Option.bind_some, hbb, wr1, show wrap64 ((j : Int) - 1) = (j : Int) - 1 by unfold wrap64; omega, hor, wr2 _ _ _ hV, hz]
  clear hor hQ hz
  by_cases hneg : wrap64 (R : Int) < 0
  · have h1 : 9223372036854775808 ≤ (R : Int) := by unfold wrap64 at hneg; omega
    rw [if_pos hneg, if_pos (by omega), if_neg (by omega), show ((2 * R + bb - V : Nat) : Int) = ((2 * R + bb : Nat) : Int) - (V : Int) by omega]
  · have hRs : (R : Int) < 9223372036854775808 := by unfold wrap64 at hneg; omega
    rw [if_neg hneg, below_at _ b hx.1 hx.2 hb0 hb1, Option.bind_some, u64_w64 _ (by omega) (by omega), hV]
    by_cases hlt : 2 * R + bb < V
    · rw [if_pos (decide_eq_true (by omega)), if_pos hlt]
    · rw [if_neg (by rw [decide_eq_false (by omega)]; decide), if_pos (by omega), if_neg hlt, show ((2 * R + bb - V : Nat) : Int) = ((2 * R + bb : Nat) : Int) - (V : Int) by omega]
theorem div_l0 (a b : Int) (U V : Nat) (hb0 : -9223372036854775808 ≤ b) (hb1 : b < 9223372036854775808) (hU : u64 a = (U : Int)) (hU64 : U < 2 ^ 64) (hV : u64 b = (V : Int)) (hV0 : 0 < V) :
    ∀ (j k Q R : Nat), j ≤ 64 → U / 2 ^ j = Q * V + R → R < V → j + 1 ≤ k → scarfref03_divide.l0 k a b (wrap64 ((Q * 2 ^ j : Nat) : Int)) (wrap64 (R : Int)) ((j : Int) - 1) = some (wrap64 ((U / V : Nat) : Int), wrap64 ((U % V : Nat) : Int))
  | 0, k, Q, R, hj, hN, hR, hk => by
    obtain ⟨k, rfl⟩ : ∃ k', k = k' + 1 := ⟨k - 1, by omega⟩
    rw [Nat.pow_zero, Nat.div_one] at hN
    have e1 : U / V = Q := by rw [hN, Nat.add_comm, Nat.add_mul_div_right _ _ hV0, Nat.div_eq_of_lt hR, Nat.zero_add]
    have e2 : U % V = R := by rw [hN, Nat.add_comm, Nat.add_mul_mod_self_right, Nat.mod_eq_of_lt hR]
    rw [scarfref03_divide.l0, if_neg (by decide), e1, e2, Nat.pow_zero, Nat.mul_one]
  | j + 1, k, Q, R, hj, hN, hR, hk => by
    obtain ⟨k, rfl⟩ : ∃ k', k = k' + 1 := ⟨k - 1, by omega⟩
    have hN2 := half U j
    have hQ1 := q_bound U Q V R (j + 1) hU64 hV0 hN
    rw [hN] at hN2
    rw [div_round a b V Q R (U / 2 ^ j % 2) j k (by omega) hb0 hb1 hV hR (bit_nat a U j (by omega) hU) (Nat.mod_lt _ (by decide)) hQ1]
    by_cases hlt : 2 * R + U / 2 ^ j % 2 < V
    · rw [if_pos hlt]
      exact div_l0 a b U V hb0 hb1 hU hU64 hV hV0 j k _ _ (by omega) (hN2.trans (qdn _ _ _ _)) hlt (by omega)
    · rw [if_neg hlt]
      have : U / 2 ^ j % 2 < 2 := Nat.mod_lt _ (by decide)
      exact div_l0 a b U V hb0 hb1 hU hU64 hV hV0 j k _ _ (by omega) (hN2.trans (qup _ _ _ _ (by omega))) (by omega) (by omega)
theorem div_at (a b : Int) (k : Nat) (hb0 : -9223372036854775808 ≤ b) (hb1 : b < 9223372036854775808) (hb : b ≠ 0) (hk : 70 ≤ k) :
    scarfref03_divide.f k a b = some (wrap64 (u64 a / u64 b), wrap64 (u64 a % u64 b)) := by
  have ha := u64_range a
  have hbr := u64_range b
  have hb' : u64 b ≠ 0 := by unfold u64; omega
  obtain ⟨U, hU⟩ := Int.eq_ofNat_of_zero_le ha.1
  obtain ⟨V, hV⟩ := Int.eq_ofNat_of_zero_le hbr.1
  have hV0 : 0 < V := by omega
  have hU64 : U < 2 ^ 64 := by omega
  have := div_l0 a b U V hb0 hb1 hU hU64 hV hV0 64 k 0 0 (by omega) (by rw [Nat.div_eq_of_lt hU64]; omega) hV0 (by omega)
  rw [hU, hV, scarfref03_divide.f]
  have z : wrap64 ((0 : Nat) : Int) = 0 := by unfold wrap64; omega
  rw [Nat.zero_mul, z] at this
  exact this
end Go.Proofs.YtpoapiphnhmdmaaDoor.NumJ
