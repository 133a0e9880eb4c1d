/- Layer 3: a number as the list of its bits, as the reference has it. -/
import Derived.Test.YtpoapiphnhmdmaaDoorPAx8
import Derived.Test.YtpoapiphnhmdmaaDoorNumA
namespace Go.Proofs.YtpoapiphnhmdmaaDoor.NumB
set_option linter.unusedVariables false
set_option linter.unusedSimpArgs false
open Go.RowKit Go.Proofs.YtpoapiphnhmdmaaDoor.PA Go.Proofs.YtpoapiphnhmdmaaDoorW.PrintWords Go.Proofs.YtpoapiphnhmdmaaDoorW.PrintLast Go.Proofs.YtpoapiphnhmdmaaDoorW.PrintMore
open Go.Proofs.YtpoapiphnhmdmaaDoor.NumA

/-! ### bits of a number -/
theorem and1 (n : Int) : Go.bits .and .i64 n 1 = n % 2 := by
  have h127 : (BitVec.ofInt 64 1).toNat = 2 ^ 1 - 1 := by decide
  have key : (BitVec.ofInt 64 n &&& BitVec.ofInt 64 1).toNat = (n % ((2 ^ 64 : Nat) : Int)).toNat % 2 ^ 1 := by
    rw [BitVec.toNat_and, BitVec.toNat_ofInt, h127, Nat.and_two_pow_sub_one_eq_mod]
  show IntKind.i64.wrap ((BitVec.ofInt 64 n &&& BitVec.ofInt 64 1).toNat : Nat) = n % 2
  rw [key, IntKind.wrap_i64]
  omega
theorem and31 (n : Int) : Go.bits .and .i64 n 31 = n % 32 := by
  have h127 : (BitVec.ofInt 64 31).toNat = 2 ^ 5 - 1 := by decide
  have key : (BitVec.ofInt 64 n &&& BitVec.ofInt 64 31).toNat = (n % ((2 ^ 64 : Nat) : Int)).toNat % 2 ^ 5 := by
    rw [BitVec.toNat_and, BitVec.toNat_ofInt, h127, Nat.and_two_pow_sub_one_eq_mod]
  show IntKind.i64.wrap ((BitVec.ofInt 64 n &&& BitVec.ofInt 64 31).toNat : Nat) = n % 32
  rw [key, IntKind.wrap_i64]
  omega
theorem and63 (n : Int) : Go.bits .and .i64 n 63 = n % 64 := by
  have h127 : (BitVec.ofInt 64 63).toNat = 2 ^ 6 - 1 := by decide
  have key : (BitVec.ofInt 64 n &&& BitVec.ofInt 64 63).toNat = (n % ((2 ^ 64 : Nat) : Int)).toNat % 2 ^ 6 := by
    rw [BitVec.toNat_and, BitVec.toNat_ofInt, h127, Nat.and_two_pow_sub_one_eq_mod]
  show IntKind.i64.wrap ((BitVec.ofInt 64 n &&& BitVec.ofInt 64 63).toNat : Nat) = n % 64
  rw [key, IntKind.wrap_i64]
  omega
theorem and255 (n : Int) : Go.bits .and .i64 n 255 = n % 256 := by
  have h127 : (BitVec.ofInt 64 255).toNat = 2 ^ 8 - 1 := by decide
  have key : (BitVec.ofInt 64 n &&& BitVec.ofInt 64 255).toNat = (n % ((2 ^ 64 : Nat) : Int)).toNat % 2 ^ 8 := by
    rw [BitVec.toNat_and, BitVec.toNat_ofInt, h127, Nat.and_two_pow_sub_one_eq_mod]
  show IntKind.i64.wrap ((BitVec.ofInt 64 n &&& BitVec.ofInt 64 255).toNat : Nat) = n % 256
  rw [key, IntKind.wrap_i64]
  omega
theorem bor_comm (k : IntKind) (x y : Int) : Go.bits .or k x y = Go.bits .or k y x := by simp only [Go.bits, BitVec.or_comm]
theorem wraps_i64 (n : Int) (h0 : 0 ≤ n) (h1 : n < 2 ^ 63) : IntKind.i64.wrap n = n := by rw [IntKind.wrap_i64]; omega
theorem shr_eq (x : Int) (j : Nat) (hj : j ≤ 64) : shr .i64 x (j : Int) = x / 2 ^ j := by
  unfold shr
  rw [show ((j : Int)).toNat = j by omega, Nat.min_eq_left (by simp [IntKind.bits]; omega)]
theorem shl_eq (x : Int) (j : Nat) (hj : j ≤ 64) : shl .i64 x (j : Int) = IntKind.i64.wrap (x * 2 ^ j) := by
  unfold shl
  rw [show ((j : Int)).toNat = j by omega, Nat.min_eq_left (by simp [IntKind.bits]; omega)]

def bitZ (n : Int) (k : Nat) : Int := n / 2 ^ k % 2
def bitsZ (n : Int) (w : Nat) : List Int := (List.range w).map (bitZ n)
def val : List Int → Int
  | [] => 0
  | b :: l => b + 2 * val l
theorem bitZ_01 (n : Int) (k : Nat) : bitZ n k = 0 ∨ bitZ n k = 1 := by unfold bitZ; omega
theorem bitsZ_len (n : Int) (w : Nat) : (bitsZ n w).length = w := by simp [bitsZ]
theorem bitsZ_succ (n : Int) (w : Nat) : bitsZ n (w + 1) = bitsZ n w ++ [bitZ n w] := by simp [bitsZ, List.range_succ]
theorem bitsZ_get (n : Int) (w k : Nat) (h : k < w) : (bitsZ n w).getD k 0 = bitZ n k := by simp [bitsZ, List.getD, h]
theorem bitsZ_01 (n : Int) (w : Nat) : ∀ b ∈ bitsZ n w, b = 0 ∨ b = 1 := by
  intro b hb
  simp only [bitsZ, List.mem_map] at hb
  obtain ⟨k, _, rfl⟩ := hb
  exact bitZ_01 n k
theorem val_append (l m : List Int) : val (l ++ m) = val l + 2 ^ l.length * val m := by
  induction l with
  | nil => simp [val]
  | cons b l ih => simp only [List.cons_append, val, ih, List.length_cons, Int.pow_succ]; rw [Int.mul_add, ← Int.add_assoc, ← Int.mul_assoc, Int.mul_comm 2 (2 ^ l.length)]
theorem val_range (l : List Int) (h : ∀ b ∈ l, b = 0 ∨ b = 1) : 0 ≤ val l ∧ val l < 2 ^ l.length := by
  induction l with
  | nil => simp [val]
  | cons b l ih =>
    have := ih (fun x hx => h x (List.mem_cons_of_mem _ hx))
    have hb := h b (List.mem_cons_self ..)
    simp only [val, List.length_cons, Int.pow_succ]
    generalize (2 : Int) ^ l.length = p at *
    omega
theorem mod_succ (n : Int) (w : Nat) : n % 2 ^ (w + 1) = n % 2 ^ w + 2 ^ w * bitZ n w := by
  have hp : (0 : Int) < 2 ^ w := Int.pow_pos (by decide)
  have h1 := Int.mul_ediv_add_emod n (2 ^ w)
  have h2 := Int.emod_nonneg n (show (2 : Int) ^ w ≠ 0 by omega)
  have h3 := Int.emod_lt_of_pos n hp
  have h4 : n / 2 ^ w = 2 * (n / 2 ^ w / 2) + bitZ n w := by unfold bitZ; omega
  have hb := bitZ_01 n w
  generalize n / 2 ^ w / 2 = q at h4
  generalize bitZ n w = b at *
  rw [h4] at h1
  have e : n = (n % 2 ^ w + 2 ^ w * b) + 2 ^ (w + 1) * q := by
    rw [Int.pow_succ]
    have : (2 : Int) ^ w * (2 * q + b) = 2 ^ w * 2 * q + 2 ^ w * b := by rw [Int.mul_add, Int.mul_assoc]
    omega
  have hr : 0 ≤ n % 2 ^ w + 2 ^ w * b ∧ n % 2 ^ w + 2 ^ w * b < 2 ^ (w + 1) := by
    rw [Int.pow_succ]
    generalize (2 : Int) ^ w = p at *
    rcases hb with rfl | rfl <;> omega
  generalize n % 2 ^ w + 2 ^ w * b = r at e hr
  rw [e, Int.add_mul_emod_self_left, Int.emod_eq_of_lt hr.1 hr.2]
theorem val_bits (n : Int) (w : Nat) : val (bitsZ n w) = n % 2 ^ w := by
  induction w with
  | zero => simp [bitsZ, val]
  | succ w ih => rw [bitsZ_succ, val_append, ih, bitsZ_len, mod_succ]; simp [val]

theorem bit_at (n : Int) (k : Nat) (hk : k ≤ 63) : scarfref03_bit.f n k = some (bitZ n k) := by
  unfold scarfref03_bit.f bitZ
  rw [if_pos (by omega), shr_eq n k (by omega), and1]

theorem list_l0 (n : Int) (w : Nat) (hw : w ≤ 64) : ∀ (d j k : Nat), j + d = w → d + 1 ≤ k → scarfref03_list.l0 k n w (bitsZ n j) j = some (bitsZ n w)
  | 0, j, k, hj, hk => by
    obtain ⟨k, rfl⟩ : ∃ k', k = k' + 1 := ⟨k - 1, by omega⟩
    obtain rfl : j = w := by omega
    rw [scarfref03_list.l0, if_neg (by omega)]
  | d + 1, j, k, hj, hk => by
    obtain ⟨k, rfl⟩ : ∃ k', k = k' + 1 := ⟨k - 1, by omega⟩
    have ih := list_l0 n w hw d (j + 1) k (by omega) (by omega)
    rw [scarfref03_list.l0, if_pos (by omega), bit_at n j (by omega), Option.bind_some, bitsZ_len, if_pos (by omega), ← bitsZ_succ, show wrap64 ((j : Int) + 1) = ((j + 1 : Nat) : Int) by unfold wrap64; omega]
    exact ih
theorem list_at (n : Int) (w k : Nat) (hw : w ≤ 64) (hk : 65 ≤ k) : scarfref03_list.f k n w = some (bitsZ n w) := by
  have := list_l0 n w hw w 0 k (by omega) (by omega)
  exact this

theorem or_bit (v : Int) (j : Nat) (b : Int) (hj : j ≤ 63) (h0 : 0 ≤ v) (h1 : v < 2 ^ j) (hb : b = 0 ∨ b = 1) : Go.bits .or .i64 v (shl .i64 b j) = wrap64 (v + b * 2 ^ j) := by
  have hp : (2 : Int) ^ j ≤ 2 ^ 63 := by
    have : (2 : Nat) ^ j ≤ 2 ^ 63 := Nat.pow_le_pow_right (by decide) hj
    exact_mod_cast this
  have hp0 : (0 : Int) < 2 ^ j := Int.pow_pos (by decide)
  have hv : v < 2 ^ 63 := by omega
  rw [shl_eq b j (by omega)]
  rcases hb with rfl | rfl
  · rw [Int.zero_mul, show IntKind.i64.wrap 0 = 0 by decide, bor_comm]
    rw [Go.bits_join .i64 63 (by decide) wraps_i64 j 0 v (by omega) (by simp) (by decide) h0 h1 hv]
    unfold wrap64; omega
  · rw [Int.one_mul]
    by_cases h : j = 63
    · subst h
      rw [show IntKind.i64.wrap (2 ^ 63) = -9223372036854775808 by decide]
      obtain ⟨x, rfl⟩ := Int.eq_ofNat_of_zero_le h0
      have hx : x < 2 ^ 63 := by exact_mod_cast h1
      have e1 : (BitVec.ofInt 64 (-9223372036854775808)).toNat = 2 ^ 63 * 1 := by decide
      have e2 : (BitVec.ofInt 64 (x : Int)).toNat = x := by
        rw [BitVec.ofInt_natCast, BitVec.toNat_ofNat]; exact Nat.mod_eq_of_lt (by omega)
      show IntKind.i64.wrap ((BitVec.ofInt 64 (x : Int) ||| BitVec.ofInt 64 (-9223372036854775808)).toNat : Nat) = _
      rw [BitVec.toNat_or, e1, e2, Nat.or_comm, ← Nat.two_pow_add_eq_or_of_lt hx 1, IntKind.wrap_i64]
      unfold wrap64
      omega
    · have hp : (2 : Int) ^ j ≤ 2 ^ 62 := by
        have : (2 : Nat) ^ j ≤ 2 ^ 62 := Nat.pow_le_pow_right (by decide) (by omega)
        exact_mod_cast this
      rw [wraps_i64 _ (by omega) (by omega), bor_comm, Go.bits_join .i64 63 (by decide) wraps_i64 j (2 ^ j) v (by omega) (by simp) (by omega) h0 h1 hv]
      unfold wrap64
      generalize (2 : Int) ^ j = p at *
      omega

theorem from_l0 (l : List Int) (h : ∀ b ∈ l, b = 0 ∨ b = 1) (hl : l.length ≤ 64) : ∀ (d j k : Nat), j + d = l.length → d + 1 ≤ k → scarfref03_from.l0 k l (wrap64 (val (l.take j))) j = some (wrap64 (val l))
  | 0, j, k, hj, hk => by
    obtain ⟨k, rfl⟩ : ∃ k', k = k' + 1 := ⟨k - 1, by omega⟩
    rw [scarfref03_from.l0, if_neg (by omega), List.take_of_length_le (by omega)]
  | d + 1, j, k, hj, hk => by
    obtain ⟨k, rfl⟩ : ∃ k', k = k' + 1 := ⟨k - 1, by omega⟩
    have ih := from_l0 l h hl d (j + 1) k (by omega) (by omega)
    have hlt : j < l.length := by omega
    have hr := val_range (l.take j) (fun b hb => h b (List.mem_of_mem_take hb))
    rw [List.length_take, Nat.min_eq_left (by omega)] at hr
    have hp : (2 : Int) ^ j ≤ 2 ^ 63 := by
      have : (2 : Nat) ^ j ≤ 2 ^ 63 := Nat.pow_le_pow_right (by decide) (by omega)
      exact_mod_cast this
    have hw : wrap64 (val (l.take j)) = val (l.take j) := by unfold wrap64; omega
    have hg : rd l (j : Int) = l[j] := by simp [rd, List.getD, hlt]
    have ht : val (l.take (j + 1)) = val (l.take j) + l[j] * 2 ^ j := by
      rw [List.take_succ_eq_append_getElem hlt, val_append, List.length_take, Nat.min_eq_left (by omega)]
      simp [val, Int.mul_comm]
    rw [scarfref03_from.l0, if_pos (by omega), if_pos (by omega), hw, hg, or_bit _ j _ (by omega) hr.1 hr.2 (h _ (List.getElem_mem hlt)), ← ht, show wrap64 ((j : Int) + 1) = ((j + 1 : Nat) : Int) by unfold wrap64; omega]
    exact ih
theorem from_at (l : List Int) (k : Nat) (h : ∀ b ∈ l, b = 0 ∨ b = 1) (hl : l.length ≤ 64) (hk : 65 ≤ k) : scarfref03_from.f k l = some (wrap64 (val l)) := by
  have := from_l0 l h hl l.length 0 k (by omega) (by omega)
  rw [List.take_zero, show wrap64 (val []) = 0 by simp [val, wrap64]] at this
  exact this
theorem from_bits (n : Int) (w k : Nat) (hw : w ≤ 64) (hk : 65 ≤ k) : scarfref03_from.f k (bitsZ n w) = some (wrap64 (n % 2 ^ w)) := by
  rw [from_at _ k (bitsZ_01 n w) (by rw [bitsZ_len]; omega) hk, val_bits]

/-! ### with a sign -/
theorem val_rep (t : Int) (m : Nat) : val (List.replicate m t) = t * (2 ^ m - 1) := by
  induction m with
  | zero => simp [val]
  | succ m ih =>
    have e1 : t * (2 ^ m - 1) = t * 2 ^ m - t := by rw [Int.mul_sub, Int.mul_one]
    have e2 : t * (2 ^ (m + 1) - 1) = t * 2 ^ m * 2 - t := by rw [Int.mul_sub, Int.mul_one, Int.pow_succ, Int.mul_assoc]
    rw [List.replicate_succ, val, ih, e1, e2]
    generalize t * 2 ^ m = z
    omega
theorem signed_l0 (n : Int) (w : Nat) (hw0 : 1 ≤ w) (hw : w ≤ 64) : ∀ (d m k : Nat), w + m + d = 64 → d + 66 ≤ k →
    scarfref03_signed.l0 k w (bitsZ n w ++ List.replicate m (bitZ n (w - 1))) = some (wrap64 (n % 2 ^ w + 2 ^ w * (bitZ n (w - 1) * (2 ^ (64 - w) - 1))))
  | 0, m, k, hm, hk => by
    obtain ⟨k, rfl⟩ : ∃ k', k = k' + 1 := ⟨k - 1, by omega⟩
    have h01 : ∀ b ∈ bitsZ n w ++ List.replicate m (bitZ n (w - 1)), b = 0 ∨ b = 1 := by
      intro b hb
      rcases List.mem_append.1 hb with h | h
      · exact bitsZ_01 n w b h
      · rw [(List.mem_replicate.1 h).2]; exact bitZ_01 n _
    have hl : (bitsZ n w ++ List.replicate m (bitZ n (w - 1))).length = 64 := by rw [List.length_append, bitsZ_len, List.length_replicate]; omega
    rw [scarfref03_signed.l0, if_neg (by rw [hl]; decide), from_at _ k h01 (by omega) (by omega), Option.bind_some, val_append, val_bits, bitsZ_len, val_rep, show 64 - w = m by omega]
  | d + 1, m, k, hm, hk => by
    obtain ⟨k, rfl⟩ : ∃ k', k = k' + 1 := ⟨k - 1, by omega⟩
    have ih := signed_l0 n w hw0 hw d (m + 1) k (by omega) (by omega)
    have hl : (bitsZ n w ++ List.replicate m (bitZ n (w - 1))).length = w + m := by rw [List.length_append, bitsZ_len, List.length_replicate]
    have hw1 : wrap64 ((w : Int) - 1) = ((w - 1 : Nat) : Int) := by unfold wrap64; omega
    have hg : rd (bitsZ n w ++ List.replicate m (bitZ n (w - 1))) (((w - 1 : Nat) : Int)) = bitZ n (w - 1) := by
      have := bitsZ_get n w (w - 1) (by omega)
      simp only [rd, Int.toNat_natCast]
      rw [List.getD_eq_getElem?_getD, List.getElem?_append_left (by rw [bitsZ_len]; omega), ← List.getD_eq_getElem?_getD]
      exact this
    rw [scarfref03_signed.l0, if_pos (by rw [hl]; omega), hw1, if_pos (by omega), if_pos (by rw [hl]; omega), if_pos (by rw [hl]; omega), hg, List.append_assoc, ← List.replicate_succ']
    exact ih
theorem signed_at (n : Int) (w k : Nat) (hw0 : 1 ≤ w) (hw : w ≤ 64) (hk : 140 ≤ k) : scarfref03_signed.f k n w = some (wrap64 (n % 2 ^ w + 2 ^ w * (bitZ n (w - 1) * (2 ^ (64 - w) - 1)))) := by
  have := signed_l0 n w hw0 hw (64 - w) 0 k (by omega) (by omega)
  rw [List.replicate_zero, List.append_nil] at this
  rw [scarfref03_signed.f, list_at n w k hw (by omega), Option.bind_some]
  exact this
theorem signed8 (n : Int) (k : Nat) (hk : 140 ≤ k) : scarfref03_signed.f k n 8 = some ((n + 128) % 256 - 128) := by
  refine (signed_at n 8 k (by decide) (by decide) hk).trans ?_
  have e1 : bitZ n (8 - 1) = n / 128 % 2 := rfl
  rw [e1]
  simp only [wrap64, Nat.reducePow, Nat.reduceSub, Int.reducePow, Int.reduceSub, Option.some.injEq]
  have h : n / 128 % 2 = 0 ∨ n / 128 % 2 = 1 := by omega
  rcases h with h | h <;> rw [h] <;> omega
theorem signed16 (n : Int) (k : Nat) (hk : 140 ≤ k) : scarfref03_signed.f k n 16 = some ((n + 32768) % 65536 - 32768) := by
  refine (signed_at n 16 k (by decide) (by decide) hk).trans ?_
  have e1 : bitZ n (16 - 1) = n / 32768 % 2 := rfl
  rw [e1]
  simp only [wrap64, Nat.reducePow, Nat.reduceSub, Int.reducePow, Int.reduceSub, Option.some.injEq]
  have h : n / 32768 % 2 = 0 ∨ n / 32768 % 2 = 1 := by omega
  rcases h with h | h <;> rw [h] <;> omega
theorem signed32 (n : Int) (k : Nat) (hk : 140 ≤ k) : scarfref03_signed.f k n 32 = some (s32 n) := by
  refine (signed_at n 32 k (by decide) (by decide) hk).trans ?_
  have e1 : bitZ n (32 - 1) = n / 2147483648 % 2 := rfl
  rw [e1]
  simp only [wrap64, s32, Nat.reducePow, Nat.reduceSub, Int.reducePow, Int.reduceSub, Option.some.injEq]
  have h : n / 2147483648 % 2 = 0 ∨ n / 2147483648 % 2 = 1 := by omega
  rcases h with h | h <;> rw [h] <;> omega
theorem signed64 (n : Int) (k : Nat) (hk : 140 ≤ k) : scarfref03_signed.f k n 64 = some (wrap64 n) := by
  refine (signed_at n 64 k (by decide) (by decide) hk).trans ?_
  simp only [wrap64, Nat.reducePow, Nat.reduceSub, Int.reducePow, Int.reduceSub, Option.some.injEq, Int.mul_zero, Int.add_zero]
  omega
end Go.Proofs.YtpoapiphnhmdmaaDoor.NumB
