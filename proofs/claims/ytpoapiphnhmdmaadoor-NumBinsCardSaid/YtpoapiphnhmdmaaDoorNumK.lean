/- Layer 3: the reference's reckonings, and what an instruction makes of two numbers. -/
import Derived.Test.YtpoapiphnhmdmaaDoorPAx11
import Derived.Test.YtpoapiphnhmdmaaDoorNumJ
namespace Go.Proofs.YtpoapiphnhmdmaaDoor.NumK
set_option linter.unusedVariables false
set_option linter.unusedSimpArgs false
open Go.RowKit Go.Proofs.YtpoapiphnhmdmaaDoor.PA Go.Proofs.YtpoapiphnhmdmaaDoorW.PrintWords Go.Proofs.YtpoapiphnhmdmaaDoorW.PrintLast Go.Proofs.YtpoapiphnhmdmaaDoorW.PrintMore
open Go.Proofs.YtpoapiphnhmdmaaDoor.NumA Go.Proofs.YtpoapiphnhmdmaaDoor.NumB Go.Proofs.YtpoapiphnhmdmaaDoor.NumC Go.Proofs.YtpoapiphnhmdmaaDoor.NumD Go.Proofs.YtpoapiphnhmdmaaDoor.NumE Go.Proofs.YtpoapiphnhmdmaaDoor.NumF Go.Proofs.YtpoapiphnhmdmaaDoor.NumG Go.Proofs.YtpoapiphnhmdmaaDoor.NumH Go.Proofs.YtpoapiphnhmdmaaDoor.NumJ

theorem w64_id (x : Int) (h0 : -9223372036854775808 ≤ x) (h1 : x < 9223372036854775808) : wrap64 x = x := by unfold wrap64; omega
theorem w64_twice (x : Int) : wrap64 (wrap64 x * 2) = wrap64 (x * 2) := by unfold wrap64; omega
theorem w64_nat (j : Nat) (h : j < 100) : wrap64 ((j : Int) + 1) = ((j + 1 : Nat) : Int) := by unfold wrap64; omega
theorem up_l0 (s z : Int) (r : Nat) (hr : r < 64) : ∀ (d j k : Nat), j + d = r → d + 1 ≤ k → scarfref03_reckon.l0 k 10 s (wrap64 (z * 2 ^ j)) r j = some (wrap64 (z * 2 ^ r), 0)
  | 0, j, k, hj, hk => by
    obtain ⟨k, rfl⟩ : ∃ k', k = k' + 1 := ⟨k - 1, by omega⟩
    obtain rfl : j = r := by omega
    rw [scarfref03_reckon.l0, if_neg (by omega)]
  | d + 1, j, k, hj, hk => by
    obtain ⟨k, rfl⟩ : ∃ k', k = k' + 1 := ⟨k - 1, by omega⟩
    have ih := up_l0 s z r hr d (j + 1) k (by omega) (by omega)
    rw [scarfref03_reckon.l0, if_pos (by omega), if_pos rfl, w64_twice, Int.mul_assoc, ← Int.pow_succ, w64_nat j (by omega)]
    exact ih
theorem div_range (s : Int) (j : Nat) (h0 : -9223372036854775808 ≤ s) (h1 : s < 9223372036854775808) : -9223372036854775808 ≤ s / 2 ^ j ∧ s / 2 ^ j < 9223372036854775808 := by
  have hp := pow_pos' j
  constructor
  · refine Int.le_trans ?_ (Int.ediv_le_ediv hp h0)
    rw [Int.le_ediv_iff_mul_le hp]
    have : (1 : Int) ≤ 2 ^ j := by omega
    omega
  · refine Int.ediv_lt_of_lt_mul hp ?_
    have := Int.mul_le_mul_of_nonneg_left (show (1 : Int) ≤ 2 ^ j by omega) (show (0 : Int) ≤ 9223372036854775808 by decide)
    omega
theorem half_round (x : Int) (h0 : -9223372036854775808 ≤ x) (h1 : x < 9223372036854775808) : wrap64 (Int.tdiv (wrap64 (x - bitZ x 0)) 2) = x / 2 := by
  have e : bitZ x 0 = x % 2 := by simp [bitZ]
  rw [e, show wrap64 (x - x % 2) = 2 * (x / 2) by unfold wrap64; omega, Int.mul_tdiv_cancel_left _ (by decide)]
  unfold wrap64; omega
theorem dn_l0 (s : Int) (r : Nat) (hr : r < 64) (h0 : -9223372036854775808 ≤ s) (h1 : s < 9223372036854775808) : ∀ (d j k : Nat), j + d = r → d + 1 ≤ k → scarfref03_reckon.l0 k 11 (s / 2 ^ j) (s / 2 ^ j) r j = some (s / 2 ^ r, 0)
  | 0, j, k, hj, hk => by
    obtain ⟨k, rfl⟩ : ∃ k', k = k' + 1 := ⟨k - 1, by omega⟩
    obtain rfl : j = r := by omega
    rw [scarfref03_reckon.l0, if_neg (by omega)]
  | d + 1, j, k, hj, hk => by
    obtain ⟨k, rfl⟩ : ∃ k', k = k' + 1 := ⟨k - 1, by omega⟩
    have ih := dn_l0 s r hr h0 h1 d (j + 1) k (by omega) (by omega)
    have hs := div_range s j h0 h1
    rw [scarfref03_reckon.l0, if_pos (by omega), if_neg (by decide), if_pos rfl, show (0 : Int) = ((0 : Nat) : Int) from rfl, bit_at _ 0 (by decide), Option.bind_some, half_round _ hs.1 hs.2, div_pow_succ, w64_nat j (by omega)]
    exact ih
theorem val_drop (n : Int) : val ((bitsZ n 64 ++ [0]).drop 1) = n % 18446744073709551616 / 2 := by
  have h1 : bitsZ n 64 = bitZ n 0 :: (bitsZ n 64).drop 1 := by simp [bitsZ, List.range_succ]
  have h2 := val_bits n 64
  rw [h1] at h2
  simp only [val] at h2
  have h3 : (bitsZ n 64 ++ [0]).drop 1 = (bitsZ n 64).drop 1 ++ [0] := by rw [List.drop_append]; simp [bitsZ_len]
  have h4 := bitZ_01 n 0
  rw [h3, val_append]
  simp only [val]
  rw [show (2 : Int) ^ 64 = 18446744073709551616 from rfl] at h2
  generalize val ((bitsZ n 64).drop 1) = x at *
  generalize n % 18446744073709551616 = y at *
  rw [← h2]
  omega
theorem lo_l0 (s z : Int) (r : Nat) (hr : r < 64) (h0 : 0 ≤ z) (h1 : z < 18446744073709551616) : ∀ (d j k : Nat), j + d = r → d + 70 ≤ k → scarfref03_reckon.l0 k 12 s (wrap64 (z / 2 ^ j)) r j = some (wrap64 (z / 2 ^ r), 0)
  | 0, j, k, hj, hk => by
    obtain ⟨k, rfl⟩ : ∃ k', k = k' + 1 := ⟨k - 1, by omega⟩
    obtain rfl : j = r := by omega
    rw [scarfref03_reckon.l0, if_neg (by omega)]
  | d + 1, j, k, hj, hk => by
    obtain ⟨k, rfl⟩ : ∃ k', k = k' + 1 := ⟨k - 1, by omega⟩
    have ih := lo_l0 s z r hr h0 h1 d (j + 1) k (by omega) (by omega)
    have hp := pow_pos' j
    have g0 : 0 ≤ z / 2 ^ j := Int.ediv_nonneg h0 (by omega)
    have g1 : z / 2 ^ j < 18446744073709551616 := Int.lt_of_le_of_lt (Int.ediv_le_self _ h0) h1
    have h01 : ∀ b ∈ (bitsZ (wrap64 (z / 2 ^ j)) 64 ++ [0]).drop 1, b = 0 ∨ b = 1 := by
      intro b hb
      have := List.mem_of_mem_drop hb
      rcases List.mem_append.1 this with h | h
      · exact bitsZ_01 _ _ b h
      · left; simpa using h
    have hl : (bitsZ (wrap64 (z / 2 ^ j)) 64 ++ [0] : List Int).length = 65 := by rw [List.length_append, bitsZ_len]; rfl
    rw [scarfref03_reckon.l0, if_pos (by omega), if_neg (by decide), if_neg (by decide), show (64 : Int) = ((64 : Nat) : Int) from rfl, list_at _ 64 k (by decide) (by omega), Option.bind_some, if_pos (by rw [bitsZ_len]; decide), Option.bind_some, if_pos (by rw [hl]; decide),
      from_at _ k h01 (by rw [List.length_drop, hl]; decide) (by omega), Option.bind_some, val_drop, wrap_mod, Int.emod_eq_of_lt g0 g1, div_pow_succ, w64_nat j (by omega)]
    exact ih

/-- What the reference reckons. -/
def rr (k a b : Int) (w r : Nat) (S T U V least : Int) : Int × Int :=
  if k = 0 then (wrap64 (a + b), 0) else if k = 1 then (wrap64 (a - b), 0) else if k = 2 then (wrap64 (a * b), 0)
  else if k = 3 then (if T = 0 then (0, 2) else if T = -1 then (if S = least then (0, 3) else (wrap64 (-S), 0)) else (wrap64 (Int.tdiv S T), 0))
  else if k = 4 then (if T = 0 then (0, 2) else (wrap64 (u64 U / u64 V), 0))
  else if k = 5 then (if T = 0 then (0, 2) else if T = -1 then (0, 0) else (Int.tmod S T, 0))
  else if k = 6 then (if T = 0 then (0, 2) else (wrap64 (u64 U % u64 V), 0))
  else if k = 7 then (Go.bits .and .i64 a b, 0) else if k = 8 then (Go.bits .or .i64 a b, 0) else if k = 9 then (Go.bits .xor .i64 a b, 0)
  else if k = 10 then (wrap64 (U * 2 ^ r), 0) else if k = 11 then (if r = 0 then U else S / 2 ^ r, 0) else if k = 12 then (wrap64 (u64 U / 2 ^ r), 0)
  else if k = 13 then (wrap64 (rot w (a % 2 ^ w) r), 0) else (wrap64 (rot w (a % 2 ^ w) (w - r)), 0)
theorem plain_at (k a b : Int) (hk : k = 0 ∨ k = 1 ∨ k = 2 ∨ k = 7 ∨ k = 8 ∨ k = 9) (w r : Nat) (S T U V l : Int) : (scarfref03_plain.f k a b).bind (fun t => some (t, (0 : Int))) = some (rr k a b w r S T U V l) := by
  rcases hk with rfl | rfl | rfl | rfl | rfl | rfl <;> simp only [scarfref03_plain.f, rr, reduceIte, Int.reduceEq, Option.bind_some]
theorem rr_at (f : Nat) (k a b W : Int) (w r : Nat) (S T U V l : Int) (LA LB : List Int) (hW : W = (w : Int)) (hw0 : 1 ≤ w) (hw : w ≤ 64) (hr : r < w) (hrb : Int.tmod (u32 b) W = (r : Int)) (h0 : 0 ≤ k) (h1 : k ≤ 14)
    (hb0 : -9223372036854775808 ≤ b) (hb1 : b < 9223372036854775808) (hS0 : -9223372036854775808 ≤ S) (hS1 : S < 9223372036854775808) (hU0 : -9223372036854775808 ≤ U) (hU1 : U < 9223372036854775808) (hV0 : -9223372036854775808 ≤ V) (hV1 : V < 9223372036854775808)
    (hS : ∀ g, 140 ≤ g → scarfref03_signed.f g a W = some S) (hT : ∀ g, 140 ≤ g → scarfref03_signed.f g b W = some T) (hla : ∀ g, 140 ≤ g → scarfref03_list.f g a W = some LA) (hlb : ∀ g, 140 ≤ g → scarfref03_list.f g b W = some LB)
    (hfa : ∀ g, 140 ≤ g → scarfref03_from.f g LA = some U) (hfb : ∀ g, 140 ≤ g → scarfref03_from.f g LB = some V) (hTV : T ≠ 0 → V ≠ 0) (hmin : ∀ g, 140 ≤ g → scarfref03_signed.f g (shl .i64 1 (W - 1)) W = some l) :
    scarfref03_reckon.f (f + 300) k a b W = some (rr k a b w r S T U V l) := by
  have hk : k = 0 ∨ k = 1 ∨ k = 2 ∨ k = 3 ∨ k = 4 ∨ k = 5 ∨ k = 6 ∨ k = 7 ∨ k = 8 ∨ k = 9 ∨ k = 10 ∨ k = 11 ∨ k = 12 ∨ k = 13 ∨ k = 14 := by omega
  have hu : scarfref03_U32.f b = some (u32 b) := ru32_at b hb0 (by omega)
  have hW1 : wrap64 (W - 1) = W - 1 := by unfold wrap64; omega
  have hWr : wrap64 (W - (r : Int)) = ((w - r : Nat) : Int) := by unfold wrap64; omega
  rw [scarfref03_reckon.f, hS _ (by omega), Option.bind_some, hT _ (by omega), Option.bind_some, hla _ (by omega), Option.bind_some, hfa _ (by omega), Option.bind_some, hlb _ (by omega), Option.bind_some, hfb _ (by omega), Option.bind_some, hu, Option.bind_some, if_neg (by omega), hrb]
  have P : ∀ k : Int, (k = 0 ∨ k = 1 ∨ k = 2 ∨ k = 7 ∨ k = 8 ∨ k = 9) → scarfref03_reckon.j0 (f + 300) k a b W S T U V (r : Int) true = some (rr k a b w r S T U V l) := by
    intro k hk
    rw [scarfref03_reckon.j0, if_pos rfl, plain_at k a b hk w r S T U V l]
  have D : V ≠ 0 → ∀ g, 70 ≤ g → scarfref03_divide.f g U V = some (wrap64 (u64 U / u64 V), wrap64 (u64 U % u64 V)) := fun h g hg => div_at U V g hV0 hV1 h hg
  rcases hk with rfl | rfl | rfl | rfl | rfl | rfl | rfl | rfl | rfl | rfl | rfl | rfl | rfl | rfl | rfl
  · rw [if_pos (by decide)]; exact P 0 (by decide)
  · rw [if_pos (by decide)]; exact P 1 (by decide)
  · rw [if_pos (by decide)]; exact P 2 (by decide)
  · rw [if_neg (by decide), if_neg (by decide), scarfref03_reckon.j0, if_neg (by decide), if_neg (by decide), if_neg (by decide), if_pos (by decide), if_pos (by decide), scarfref03_reckon.j1]
    simp only [rr, reduceIte, Int.reduceEq]
    by_cases ht : T = 0
    · rw [if_pos (by simp [ht]), if_pos ht]
    · rw [if_neg (by simp [ht]), if_neg ht, scarfref03_reckon.j2]
      by_cases hm : T = -1
      · rw [if_pos (by simp [hm]), hW1, if_pos (by omega), hmin _ (by omega), Option.bind_some, if_pos hm]
        split <;> rfl
      · rw [if_neg (by simp [hm]), if_neg hm, if_neg (by decide), scarfref03_reckon.j3, if_neg (by decide), if_pos rfl, if_neg ht]
  · rw [if_neg (by decide), if_neg (by decide), scarfref03_reckon.j0, if_neg (by decide), if_neg (by decide), if_neg (by decide), if_pos (by decide), if_pos (by decide), scarfref03_reckon.j1]
    simp only [rr, reduceIte, Int.reduceEq]
    by_cases ht : T = 0
    · rw [if_pos (by simp [ht]), if_pos ht]
    · rw [if_neg (by simp [ht]), if_neg ht, scarfref03_reckon.j2, if_neg (by decide), if_neg (by decide), scarfref03_reckon.j3, if_neg (by decide), if_neg (by decide), if_neg (by decide), if_pos rfl, scarfref03_reckon.j4, if_pos rfl, D (hTV ht) _ (by omega), Option.bind_some, if_pos rfl]
  · rw [if_neg (by decide), if_neg (by decide), scarfref03_reckon.j0, if_neg (by decide), if_neg (by decide), if_neg (by decide), if_pos (by decide), if_pos (by decide), scarfref03_reckon.j1]
    simp only [rr, reduceIte, Int.reduceEq]
    by_cases ht : T = 0
    · rw [if_pos (by simp [ht]), if_pos ht]
    · rw [if_neg (by simp [ht]), if_neg ht, scarfref03_reckon.j2, if_neg (by decide), if_pos rfl, scarfref03_reckon.j3]
      by_cases hm : T = -1
      · rw [if_pos (by simp [hm]), if_pos hm]
      · rw [if_neg (by simp [hm]), if_neg hm, if_neg (by decide), if_pos rfl, if_neg ht]
  · rw [if_neg (by decide), if_neg (by decide), scarfref03_reckon.j0, if_neg (by decide), if_neg (by decide), if_neg (by decide), if_pos (by decide), if_pos (by decide), scarfref03_reckon.j1]
    simp only [rr, reduceIte, Int.reduceEq]
    by_cases ht : T = 0
    · rw [if_pos (by simp [ht]), if_pos ht]
    · rw [if_neg (by simp [ht]), if_neg ht, scarfref03_reckon.j2, if_neg (by decide), if_neg (by decide), scarfref03_reckon.j3, if_neg (by decide), if_neg (by decide), if_neg (by decide), if_neg (by decide), scarfref03_reckon.j4, if_pos (by decide), D (hTV ht) _ (by omega), Option.bind_some, if_neg (by decide)]
  · rw [if_neg (by decide), if_pos (by decide)]; exact P 7 (by decide)
  · rw [if_neg (by decide), if_pos (by decide)]; exact P 8 (by decide)
  · rw [if_neg (by decide), if_pos (by decide)]; exact P 9 (by decide)
  · rw [if_neg (by decide), if_pos (by decide), scarfref03_reckon.j0, if_neg (by decide), if_neg (by decide), if_neg (by decide), if_pos (by decide), if_neg (by decide), scarfref03_reckon.j1, if_neg (by decide), if_neg (by decide), scarfref03_reckon.j2, if_neg (by decide), if_neg (by decide), scarfref03_reckon.j3, if_neg (by decide), if_neg (by decide), if_neg (by decide), if_neg (by decide), scarfref03_reckon.j4, if_neg (by decide)]
    simp only [rr, reduceIte, Int.reduceEq]
    have := up_l0 S U r (by omega) r 0 (f + 295) (by omega) (by omega)
    rw [Int.pow_zero, Int.mul_one, w64_id U hU0 hU1] at this
    exact this
  · rw [if_neg (by decide), if_pos (by decide), scarfref03_reckon.j0, if_neg (by decide), if_neg (by decide), if_neg (by decide), if_pos (by decide), if_neg (by decide), scarfref03_reckon.j1, if_neg (by decide), if_neg (by decide), scarfref03_reckon.j2, if_neg (by decide), if_neg (by decide), scarfref03_reckon.j3, if_neg (by decide), if_neg (by decide), if_neg (by decide), if_neg (by decide), scarfref03_reckon.j4, if_neg (by decide)]
    simp only [rr, reduceIte, Int.reduceEq]
    by_cases hr0 : r = 0
    · subst hr0
      rw [if_pos rfl, scarfref03_reckon.l0, if_neg (by decide)]
    · obtain ⟨d, rfl⟩ : ∃ d, r = d + 1 := ⟨r - 1, by omega⟩
      have := dn_l0 S (d + 1) (by omega) hS0 hS1 d 1 (f + 294) (by omega) (by omega)
      rw [if_neg (by omega), scarfref03_reckon.l0, if_pos (by omega), if_neg (by decide), if_pos rfl, show (0 : Int) = ((0 : Nat) : Int) from rfl, bit_at _ 0 (by decide), Option.bind_some, half_round _ hS0 hS1, w64_nat 0 (by omega)]
      exact this
  · rw [if_neg (by decide), if_pos (by decide), scarfref03_reckon.j0, if_neg (by decide), if_neg (by decide), if_neg (by decide), if_pos (by decide), if_neg (by decide), scarfref03_reckon.j1, if_neg (by decide), if_neg (by decide), scarfref03_reckon.j2, if_neg (by decide), if_neg (by decide), scarfref03_reckon.j3, if_neg (by decide), if_neg (by decide), if_neg (by decide), if_neg (by decide), scarfref03_reckon.j4, if_neg (by decide)]
    simp only [rr, reduceIte, Int.reduceEq]
    have hu := u64_range U
    have := lo_l0 S (u64 U) r (by omega) hu.1 hu.2 r 0 (f + 295) (by omega) (by omega)
    rw [Int.pow_zero, Int.ediv_one, show wrap64 (u64 U) = U by unfold wrap64 u64; omega] at this
    exact this
  · rw [if_neg (by decide), if_pos (by decide), scarfref03_reckon.j0, if_neg (by decide), if_pos (by decide), hW, turn_at a w r _ (by omega) hw (by omega) (by omega), Option.bind_some]
    simp only [rr, reduceIte, Int.reduceEq]
  · rw [if_neg (by decide), if_pos (by decide), scarfref03_reckon.j0, if_neg (by decide), if_neg (by decide), if_pos (by decide), hWr, hW, turn_at a w (w - r) _ (by omega) hw (by omega) (by omega), Option.bind_some]
    simp only [rr, reduceIte, Int.reduceEq]
end Go.Proofs.YtpoapiphnhmdmaaDoor.NumK
