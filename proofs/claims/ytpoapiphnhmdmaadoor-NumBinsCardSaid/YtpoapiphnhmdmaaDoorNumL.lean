/- Layer 3: NumBins, the plain side. -/
import Derived.Test.YtpoapiphnhmdmaaDoorNumK
namespace Go.Proofs.YtpoapiphnhmdmaaDoor.NumL
set_option linter.unusedVariables false
set_option linter.unusedSimpArgs false
open Go.RowKit Go.Proofs.YtpoapiphnhmdmaaDoor.PA Go.Proofs.YtpoapiphnhmdmaaDoorW.PrintWords Go.Proofs.YtpoapiphnhmdmaaDoorW.PrintLast Go.Proofs.YtpoapiphnhmdmaaDoorW.PrintMore
open Go.Proofs.YtpoapiphnhmdmaaDoor.NumA Go.Proofs.YtpoapiphnhmdmaaDoor.NumB Go.Proofs.YtpoapiphnhmdmaaDoor.NumC Go.Proofs.YtpoapiphnhmdmaaDoor.NumD Go.Proofs.YtpoapiphnhmdmaaDoor.NumE Go.Proofs.YtpoapiphnhmdmaaDoor.NumF Go.Proofs.YtpoapiphnhmdmaaDoor.NumG Go.Proofs.YtpoapiphnhmdmaaDoor.NumH Go.Proofs.YtpoapiphnhmdmaaDoor.NumJ Go.Proofs.YtpoapiphnhmdmaaDoor.NumK

theorem w64_u (x : Int) : wrap64 (u64 x) = wrap64 x := by unfold wrap64 u64; omega
theorem tdiv_m1 (a : Int) : Int.tdiv a (-1) = -a := by rw [Int.tdiv_neg, Int.tdiv_one]
theorem tmod_m1 (a : Int) : Int.tmod a (-1) = 0 := by rw [Int.tmod_neg, Int.tmod_one]
theorem rot_full (w : Nat) (u : Int) (h0 : 0 ≤ u) (h1 : u < 2 ^ w) : rot w u w = u := by
  rw [rot, Nat.sub_self, Int.pow_zero, Int.ediv_one, Int.mul_emod_left, Int.zero_add]
theorem quot0 (a b l : Int) : quot 0 a b l = (if b = 0 then (0, 2) else if b = -1 then (if a = l then (0, 3) else (wrap64 (-a), 0)) else (wrap64 (Int.tdiv a b), 0)) := by
  unfold quot
  by_cases hb : b = 0
  · rw [if_pos hb, if_pos hb]
  · rw [if_neg hb, if_neg hb]
    by_cases hm : b = -1
    · subst hm
      by_cases ha : a = l
      · rw [if_pos ⟨rfl, ha, rfl⟩, if_pos rfl, if_pos ha]
      · rw [if_neg (by omega), if_pos rfl, if_pos rfl, if_neg ha, tdiv_m1]
    · rw [if_neg (by omega), if_pos rfl, if_neg hm]
theorem quot1 (a b l : Int) : quot 1 a b l = (if b = 0 then (0, 2) else (wrap64 (u64 a / u64 b), 0)) := by
  have ha := u64_range a
  unfold quot
  rw [if_neg (show ¬((1 : Int) = 0 ∧ a = l ∧ b = -1) by omega), if_neg (show ¬ (1 : Int) = 0 by decide), if_pos rfl, w64_u, Int.tdiv_eq_ediv_of_nonneg ha.1]
theorem quot2 (a b l : Int) : quot 2 a b l = (if b = 0 then (0, 2) else if b = -1 then (0, 0) else (Int.tmod a b, 0)) := by
  unfold quot
  rw [if_neg (show ¬((2 : Int) = 0 ∧ a = l ∧ b = -1) by omega), if_neg (show ¬ (2 : Int) = 0 by decide), if_neg (show ¬ (2 : Int) = 1 by decide), if_pos rfl]
  by_cases hm : b = -1
  · subst hm; rw [if_neg (by decide), if_neg (by decide), if_pos rfl, tmod_m1]
  · rw [if_neg hm]
theorem quot3 (a b l : Int) : quot 3 a b l = (if b = 0 then (0, 2) else (wrap64 (u64 a % u64 b), 0)) := by
  have ha := u64_range a
  unfold quot
  rw [if_neg (show ¬((3 : Int) = 0 ∧ a = l ∧ b = -1) by omega), if_neg (show ¬ (3 : Int) = 0 by decide), if_neg (show ¬ (3 : Int) = 1 by decide), if_neg (show ¬ (3 : Int) = 2 by decide), Int.tmod_eq_emod_of_nonneg ha.1]
theorem rr64 (k a b : Int) (r : Nat) (hr : (r : Int) = b % 64) (h0 : 0 ≤ k) (h1 : k ≤ 14) (a0 : -9223372036854775808 ≤ a) (a1 : a < 9223372036854775808) :
    rr k a b 64 r a b a b (-9223372036854775808) = reck k a b 64 (-9223372036854775808) := by
  have hk : k = 0 ∨ k = 1 ∨ k = 2 ∨ k = 3 ∨ k = 4 ∨ k = 5 ∨ k = 6 ∨ k = 7 ∨ k = 8 ∨ k = 9 ∨ k = 10 ∨ k = 11 ∨ k = 12 ∨ k = 13 ∨ k = 14 := by omega
  have hrl : r < 64 := by omega
  have hu := u64_range a
  rcases hk with rfl | rfl | rfl | rfl | rfl | rfl | rfl | rfl | rfl | rfl | rfl | rfl | rfl | rfl | rfl <;>
    simp only [rr, reck, reduceIte, Int.reduceEq, or_true, true_or, or_self, Int.reduceSub, quot0, quot1, quot2, quot3, ← hr]
  · rw [shl_eq a r (by omega), wrap_eq]
  · rw [shr_eq a r (by omega)]
    by_cases h : r = 0
    · rw [if_pos h, h, Int.pow_zero, Int.ediv_one]
    · rw [if_neg h]
  · rw [shr_u _ r (by omega)]
  · rw [rotp64 a r hrl a0 a1]; rfl
  · by_cases h : r = 0
    · subst h
      rw [show ((64 : Int) - ((0 : Nat) : Int)) % 64 = ((0 : Nat) : Int) by decide, rotp64 a 0 (by decide) a0 a1, rot_zero 64 _ hu.1 hu.2]
      exact congrArg (fun z => (wrap64 z, (0 : Int))) (rot_full 64 (u64 a) hu.1 hu.2)
    · rw [show ((64 : Int) - (r : Int)) % 64 = ((64 - r : Nat) : Int) by omega, rotp64 a (64 - r) (by omega) a0 a1]; rfl

/-! ### 32 bits -/
theorem u32_w64 (x : Int) : u32 (wrap64 x) = u32 x := by unfold u32 wrap64; omega
theorem u32_s32 (x : Int) : u32 (s32 x) = u32 x := by unfold u32 s32; omega
theorem u32_mul (a b c d : Int) (h1 : u32 a = u32 c) (h2 : u32 b = u32 d) : u32 (a * b) = u32 (c * d) := by
  unfold u32 at *
  rw [Int.mul_emod, h1, h2, ← Int.mul_emod]
theorem low (x : Int) : (BitVec.ofInt 64 x).toNat % 2 ^ 32 = (u32 x).toNat := by
  rw [BitVec.toNat_ofInt]
  have e : ((2 ^ 64 : Nat) : Int) = 18446744073709551616 := rfl
  rw [e]
  unfold u32
  omega
theorem u32_wrapN (n : Nat) : u32 (IntKind.i64.wrap (n : Int)) = ((n % 2 ^ 32 : Nat) : Int) := by
  rw [wrap_eq, u32_w64]
  unfold u32
  omega
theorem u32_and (a b : Int) : u32 (Go.bits .and .i64 (s32 a) (s32 b)) = u32 (Go.bits .and .i64 a b) := by
  have ha := low a
  have hb := low b
  have ha' := low (s32 a)
  have hb' := low (s32 b)
  rw [u32_s32] at ha' hb'
  show u32 (IntKind.i64.wrap ((BitVec.ofInt 64 (s32 a) &&& BitVec.ofInt 64 (s32 b)).toNat : Nat)) = u32 (IntKind.i64.wrap ((BitVec.ofInt 64 a &&& BitVec.ofInt 64 b).toNat : Nat))
  rw [u32_wrapN, u32_wrapN, BitVec.toNat_and, BitVec.toNat_and, Nat.and_mod_two_pow, Nat.and_mod_two_pow, ha, hb, ha', hb']
theorem u32_or (a b : Int) : u32 (Go.bits .or .i64 (s32 a) (s32 b)) = u32 (Go.bits .or .i64 a b) := by
  have ha := low a
  have hb := low b
  have ha' := low (s32 a)
  have hb' := low (s32 b)
  rw [u32_s32] at ha' hb'
  show u32 (IntKind.i64.wrap ((BitVec.ofInt 64 (s32 a) ||| BitVec.ofInt 64 (s32 b)).toNat : Nat)) = u32 (IntKind.i64.wrap ((BitVec.ofInt 64 a ||| BitVec.ofInt 64 b).toNat : Nat))
  rw [u32_wrapN, u32_wrapN, BitVec.toNat_or, BitVec.toNat_or, Nat.or_mod_two_pow, Nat.or_mod_two_pow, ha, hb, ha', hb']
theorem u32_xor (a b : Int) : u32 (Go.bits .xor .i64 (s32 a) (s32 b)) = u32 (Go.bits .xor .i64 a b) := by
  have ha := low a
  have hb := low b
  have ha' := low (s32 a)
  have hb' := low (s32 b)
  rw [u32_s32] at ha' hb'
  show u32 (IntKind.i64.wrap ((BitVec.ofInt 64 (s32 a) ^^^ BitVec.ofInt 64 (s32 b)).toNat : Nat)) = u32 (IntKind.i64.wrap ((BitVec.ofInt 64 a ^^^ BitVec.ofInt 64 b).toNat : Nat))
  rw [u32_wrapN, u32_wrapN, BitVec.toNat_xor, BitVec.toNat_xor, Nat.xor_mod_two_pow, Nat.xor_mod_two_pow, ha, hb, ha', hb']
theorem ru32 (a : Int) : scarfref03_U32.f a = some (u32 a) := by
  simp only [scarfref03_U32.f, u32, wrap64, Option.some.injEq]
  have e : Int.tmod a 4294967296 = a % 4294967296 ∨ Int.tmod a 4294967296 = a % 4294967296 - 4294967296 := by
    rw [Int.tmod_eq_emod]
    split
    · left; omega
    · right; simp
  have hb : 0 ≤ a % 4294967296 ∧ a % 4294967296 < 4294967296 := by omega
  generalize Int.tmod a 4294967296 = t at e
  generalize a % 4294967296 = m at e hb
  rw [Int.tmod_eq_emod_of_nonneg (by omega)]
  omega
theorem rr32 (k a b : Int) (r : Nat) (hr : (r : Int) = b % 32) (h0 : 0 ≤ k) (h1 : k ≤ 14) :
    u32 (rr k a b 32 r (s32 a) (s32 b) (u32 a) (u32 b) (-2147483648)).1 = u32 (reck k (s32 a) (s32 b) 32 (-2147483648)).1 ∧ (rr k a b 32 r (s32 a) (s32 b) (u32 a) (u32 b) (-2147483648)).2 = (reck k (s32 a) (s32 b) 32 (-2147483648)).2 := by
  have hk : k = 0 ∨ k = 1 ∨ k = 2 ∨ k = 3 ∨ k = 4 ∨ k = 5 ∨ k = 6 ∨ k = 7 ∨ k = 8 ∨ k = 9 ∨ k = 10 ∨ k = 11 ∨ k = 12 ∨ k = 13 ∨ k = 14 := by omega
  have hrl : r < 32 := by omega
  have hu := u32_range a
  have hz : (u32 b = 0) ↔ (s32 b = 0) := by unfold u32 s32; omega
  rcases hk with rfl | rfl | rfl | rfl | rfl | rfl | rfl | rfl | rfl | rfl | rfl | rfl | rfl | rfl | rfl <;>
    simp only [rr, reck, reduceIte, Int.reduceEq, or_true, true_or, or_self, Int.reduceSub, quot0, quot1, quot2, quot3, s32_mod, ← hr, u32_s32, and_self, and_true, hz, u32_and, u32_or, u32_xor]
  · rw [u32_w64, u32_w64]; unfold u32 s32; omega
  · rw [u32_w64, u32_w64]; unfold u32 s32; omega
  · rw [u32_w64, u32_w64]; exact (u32_mul _ _ _ _ (u32_s32 a) (u32_s32 b)).symm
  · rw [shl_eq _ r (by omega), wrap_eq, u32_w64, u32_w64]
    exact (u32_mul _ _ _ _ ((u32_s32 a).trans (u32_u32 a).symm) rfl).symm
  · rw [shr_eq _ r (by omega)]
    by_cases h : r = 0
    · rw [if_pos h, h, Int.pow_zero, Int.ediv_one, u32_s32, u32_u32]
    · rw [if_neg h]
  · rw [shr_u _ r (by omega), show u64 (u32 a) = u32 a by unfold u64; omega]
  · have := rotp32 a r hrl
    rw [u32_s32] at this
    have hrr := rot_range 32 r (by omega) (u32 a) hu.1 hu.2
    rw [this, u32_w64]
    exact Int.emod_eq_of_lt hrr.1 hrr.2
  · by_cases h : r = 0
    · subst h
      have := rotp32 a 0 (by decide)
      rw [u32_s32, rot_zero 32 _ hu.1 hu.2] at this
      rw [show ((32 : Int) - ((0 : Nat) : Int)) % 32 = ((0 : Nat) : Int) by decide, this, u32_w64]
      have e : rot 32 (a % 2 ^ 32) (32 - 0) = u32 a := rot_full 32 (u32 a) hu.1 hu.2
      rw [e, u32_u32]
    · have := rotp32 a (32 - r) (by omega)
      rw [u32_s32] at this
      have hrr := rot_range 32 (32 - r) (by omega) (u32 a) hu.1 hu.2
      rw [show ((32 : Int) - (r : Int)) % 32 = ((32 - r : Nat) : Int) by omega, this, u32_w64]
      exact Int.emod_eq_of_lt hrr.1 hrr.2

theorem ref64 (f : Nat) (k a b : Int) (h0 : 0 ≤ k) (h1 : k ≤ 14) (a0 : -9223372036854775808 ≤ a) (a1 : a < 9223372036854775808) (b0 : -9223372036854775808 ≤ b) (b1 : b < 9223372036854775808) :
    scarfref03_reckon.f (f + 300) k a b 64 = some (reck k a b 64 (-9223372036854775808)) := by
  have hub := u32_range b
  have ea : wrap64 a = a := w64_id a a0 a1
  have eb : wrap64 b = b := w64_id b b0 b1
  have ua : wrap64 (a % 2 ^ 64) = a := (show wrap64 (u64 a) = a by rw [w64_u, ea])
  have ub : wrap64 (b % 2 ^ 64) = b := (show wrap64 (u64 b) = b by rw [w64_u, eb])
  have hr : (((b % 64).toNat : Nat) : Int) = b % 64 := by omega
  rw [← rr64 k a b (b % 64).toNat hr h0 h1 a0 a1]
  refine rr_at f k a b 64 64 (b % 64).toNat a b a b _ (bitsZ a 64) (bitsZ b 64) rfl (by decide) (by decide) (by omega) ?_ h0 h1 b0 b1 a0 a1 a0 a1 b0 b1 ?_ ?_ ?_ ?_ ?_ ?_ (fun h => h) ?_
  · rw [Int.tmod_eq_emod_of_nonneg hub.1, hr]; unfold u32; omega
  · intro g hg; rw [signed64 a g hg, ea]
  · intro g hg; rw [signed64 b g hg, eb]
  · intro g hg; exact list_at a 64 g (by decide) (by omega)
  · intro g hg; exact list_at b 64 g (by decide) (by omega)
  · intro g hg; rw [from_bits a 64 g (by decide) (by omega), ua]
  · intro g hg; rw [from_bits b 64 g (by decide) (by omega), ub]
  · intro g hg; rw [show shl .i64 1 (64 - 1) = -9223372036854775808 by decide, signed64 _ g hg, w64_id _ (by decide) (by decide)]
theorem ref32 (f : Nat) (k a b : Int) (h0 : 0 ≤ k) (h1 : k ≤ 14) (b0 : -9223372036854775808 ≤ b) (b1 : b < 9223372036854775808) :
    ∃ z : Int × Int, scarfref03_reckon.f (f + 300) k a b 32 = some z ∧ u32 z.1 = u32 (reck k (s32 a) (s32 b) 32 (-2147483648)).1 ∧ z.2 = (reck k (s32 a) (s32 b) 32 (-2147483648)).2 := by
  have hua := u32_range a
  have hub := u32_range b
  have hsa := s32_range a
  have ua : wrap64 (a % 2 ^ 32) = u32 a := w64_id (u32 a) (by omega) (by omega)
  have ub : wrap64 (b % 2 ^ 32) = u32 b := w64_id (u32 b) (by omega) (by omega)
  have hr : (((b % 32).toNat : Nat) : Int) = b % 32 := by omega
  have h2 := rr32 k a b (b % 32).toNat hr h0 h1
  refine ⟨_, rr_at f k a b 32 32 (b % 32).toNat (s32 a) (s32 b) (u32 a) (u32 b) (-2147483648) (bitsZ a 32) (bitsZ b 32) rfl (by decide) (by decide) (by omega) ?_ h0 h1 b0 b1 (by omega) (by omega) (by omega) (by omega) (by omega) (by omega) ?_ ?_ ?_ ?_ ?_ ?_ ?_ ?_, h2.1, h2.2⟩
  · rw [Int.tmod_eq_emod_of_nonneg hub.1, hr]; unfold u32; omega
  · intro g hg; exact signed32 a g hg
  · intro g hg; exact signed32 b g hg
  · intro g hg; exact list_at a 32 g (by decide) (by omega)
  · intro g hg; exact list_at b 32 g (by decide) (by omega)
  · intro g hg; rw [from_bits a 32 g (by decide) (by omega), ua]
  · intro g hg; rw [from_bits b 32 g (by decide) (by omega), ub]
  · intro h; unfold s32 at h; unfold u32; omega
  · intro g hg; rw [show shl .i64 1 (32 - 1) = 2147483648 by decide, signed32 _ g hg]; rfl

theorem rbin_at (f : Nat) (op a b : Int) (a0 : -9223372036854775808 ≤ a) (a1 : a < 9223372036854775808) (b0 : -9223372036854775808 ≤ b) (b1 : b < 9223372036854775808) : scarfref03_Bin.f (f + 303) op a b = some (bin op a b) := by
  have hsa := s32_range a
  have hsb := s32_range b
  have hua := u32_range a
  have hub := u32_range b
  have o1 : ∀ c : Bool, u32 (if c = true then (1 : Int) else 0) = if c = true then 1 else 0 := by intro c; cases c <;> rfl
  by_cases h : (sig op).1 = 2
  · have h2 := (sig_two op).1 h
    have hin := sig_in op h
    rw [scarfref03_Bin.f, show f + 303 = (f + 297) + 6 by omega, rsig_at, Option.bind_some, if_pos h, bin]
    rcases h2 with h2 | h2 | h2 | h2
    · have hs : sig op = (2, 126, 127) := by unfold sig; rw [if_neg (by omega), if_neg (by omega), if_neg (by omega), if_neg (by omega), if_neg (by omega), if_pos h2]
      rw [hs, if_pos rfl, if_pos h2, scarfref03_Bin.j0, if_pos (by omega), scarfref03_Bin.j1, if_pos (by simp; omega), show wrap64 (op - 81) = op - 81 by unfold wrap64; omega, rcmp_at _ _ _ _ (by omega) (by omega) a0 a1 b0 b1, Option.bind_some, one_at, Option.bind_some, if_pos rfl, ru32, Option.bind_some, o1]
    · have hs : sig op = (2, 127, 127) := by unfold sig; rw [if_neg (by omega), if_neg (by omega), if_neg (by omega), if_neg (by omega), if_pos (by omega)]
      rw [hs, if_neg (by decide), if_neg (by omega), if_pos h2, scarfref03_Bin.j0]
      have e1 : scarfref03_Bin.j1 (f + 302) op a b 127 32 0 false = some ((if cmp (op - 70) (s32 a) (s32 b) = true then 1 else 0), 0, true) := by
        rw [scarfref03_Bin.j1, if_neg (by decide), if_pos (by omega), scarfref03_Bin.j2, if_pos (by simp; omega), rs32_at a a0 (by omega), Option.bind_some, rs32_at b b0 (by omega), Option.bind_some, show wrap64 (op - 70) = op - 70 by unfold wrap64; omega, rcmp_at _ _ _ _ (by omega) (by omega) (by omega) (by omega) (by omega) (by omega), Option.bind_some, one_at, Option.bind_some, Int.tmod_eq_emod_of_nonneg (by omega)]
        by_cases ho : (op - 70) % 2 = 1
        · rw [if_pos ho, ru32, Option.bind_some, ru32, Option.bind_some, rcmp_at _ _ _ _ (by omega) (by omega) (by omega) (by omega) (by omega) (by omega), Option.bind_some, one_at, Option.bind_some, if_pos rfl, ru32, Option.bind_some, o1, cmp_odd _ a b (by omega)]
        · rw [if_neg ho, if_pos rfl, ru32, Option.bind_some, o1]
      by_cases h81 : op ≥ 81
      · exfalso; omega
      · rw [if_neg h81]; exact e1
    · have hs : sig op = (2, 126, 126) := by unfold sig; rw [if_neg (by omega), if_neg (by omega), if_neg (by omega), if_neg (by omega), if_neg (by omega), if_neg (by omega), if_pos h2]
      rw [hs, if_pos rfl, if_neg (by omega), if_neg (by omega), if_pos h2, scarfref03_Bin.j0, if_pos (by omega), scarfref03_Bin.j1, if_neg (by simp; omega), if_pos (by omega), scarfref03_Bin.j2, if_neg (by simp; omega), if_neg (by decide), show wrap64 (op - 124) = op - 124 by unfold wrap64; omega, ref64 _ _ _ _ (by omega) (by omega) a0 a1 b0 b1, Option.bind_some, if_neg (by decide)]
    · have hs : sig op = (2, 127, 127) := by unfold sig; rw [if_neg (by omega), if_neg (by omega), if_neg (by omega), if_neg (by omega), if_pos (by omega)]
      obtain ⟨z, hz, z1, z2⟩ := ref32 f (op - 106) a b (by omega) (by omega) b0 b1
      rw [hs, if_neg (by decide), if_neg (by omega), if_neg (by omega), if_neg (by omega), if_pos h2, scarfref03_Bin.j0, if_pos (by omega), scarfref03_Bin.j1, if_neg (by simp; omega), if_pos (by omega), scarfref03_Bin.j2, if_neg (by simp; omega), if_pos rfl, show wrap64 (op - 106) = op - 106 by unfold wrap64; omega, hz, Option.bind_some, if_pos rfl, ru32, Option.bind_some, z1, z2]
  · have h2 := mt (sig_two op).2 h
    rw [scarfref03_Bin.f, show f + 303 = (f + 297) + 6 by omega, rsig_at, Option.bind_some, if_neg h, bin, if_neg (by omega), if_neg (by omega), if_neg (by omega), if_neg (by omega)]

theorem NumBins : scarflaw03_NumBins.Pure := by
  intro op a b w0 w1 w2
  obtain ⟨a0, a1⟩ := wf64 w1
  obtain ⟨b0, b1⟩ := wf64 w2
  refine ⟨303, ?_⟩
  have hA := awake (k := 303) (by decide)
  rw [scarflaw03_NumBins.f, bin_at 291 op a b b0 b1, Option.bind_some, rbin_at 0 op a b a0 a1 b0 b1, Option.bind_some, if_pos rfl, if_pos rfl, if_pos (by simp), hA, Option.bind_some]
end Go.Proofs.YtpoapiphnhmdmaaDoor.NumL
