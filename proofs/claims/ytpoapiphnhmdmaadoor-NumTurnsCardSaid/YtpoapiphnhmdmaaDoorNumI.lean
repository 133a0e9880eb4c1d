/- Layer 3: NumTurns, the plain side. -/
import Derived.Test.YtpoapiphnhmdmaaDoorNumH
namespace Go.Proofs.YtpoapiphnhmdmaaDoor.NumI
set_option linter.unusedVariables false
set_option linter.unusedSimpArgs false
open Go.RowKit Go.Proofs.YtpoapiphnhmdmaaDoor.PA Go.Proofs.YtpoapiphnhmdmaaDoorW.PrintWords Go.Proofs.YtpoapiphnhmdmaaDoorW.PrintLast Go.Proofs.YtpoapiphnhmdmaaDoorW.PrintMore
open Go.Proofs.YtpoapiphnhmdmaaDoor.NumA Go.Proofs.YtpoapiphnhmdmaaDoor.NumB Go.Proofs.YtpoapiphnhmdmaaDoor.NumC Go.Proofs.YtpoapiphnhmdmaaDoor.NumD Go.Proofs.YtpoapiphnhmdmaaDoor.NumE Go.Proofs.YtpoapiphnhmdmaaDoor.NumF Go.Proofs.YtpoapiphnhmdmaaDoor.NumG Go.Proofs.YtpoapiphnhmdmaaDoor.NumH

theorem w64_range (x : Int) : -9223372036854775808 ≤ wrap64 x ∧ wrap64 x < 9223372036854775808 := by unfold wrap64; omega
theorem u64_w64 (x : Int) (h0 : 0 ≤ x) (h1 : x < 18446744073709551616) : u64 (wrap64 x) = x := by unfold u64 wrap64; omega
theorem w64_u64 (x : Int) (h0 : -9223372036854775808 ≤ x) (h1 : x < 9223372036854775808) : wrap64 (u64 x) = x := by unfold u64 wrap64; omega
theorem ones_u64 (a : Int) : ones (u64 a) 64 = ones a 64 := by
  have h := count64 (u64 a)
  rw [show u64 a % 18446744073709551616 = a % 18446744073709551616 by unfold u64; omega, count64 a] at h
  exact (Option.some.inj h).symm
theorem turned64 (a : Int) (c : Int) (h0 : -9223372036854775808 ≤ a) (h1 : a < 9223372036854775808) : (bin 138 (bin 137 a c).1 c).1 = a := by
  have hu := u64_range a
  have hx := w64_range (rot 64 (u64 a) (c % 64).toNat)
  have hr := rot_range 64 (c % 64).toNat (by omega) (u64 a) hu.1 hu.2
  rw [bin_up64 a c h0 h1]
  show (bin 138 (wrap64 (rot 64 (u64 a) (c % 64).toNat)) c).1 = a
  rw [bin_dn64 _ c hx.1 hx.2]
  show wrap64 (rot 64 (u64 (wrap64 (rot 64 (u64 a) (c % 64).toNat))) ((64 - c % 64) % 64).toNat) = a
  rw [u64_w64 _ hr.1 hr.2]
  by_cases h : c % 64 = 0
  · rw [h, show ((0 : Int)).toNat = 0 from rfl, show (((64 : Int) - 0) % 64).toNat = 0 by decide, rot_zero 64 _ hu.1 hu.2, rot_zero 64 _ hu.1 hu.2, w64_u64 a h0 h1]
  · rw [show ((64 - c % 64) % 64).toNat = 64 - (c % 64).toNat by omega, rot_back 64 _ (by omega) _ hu.1 hu.2, w64_u64 a h0 h1]
theorem turned32 (a : Int) (c : Int) (h0 : 0 ≤ a) (h1 : a < 4294967296) : (bin 120 (bin 119 a c).1 c).1 = a := by
  have ha : u32 a = a := by unfold u32; omega
  have hr := rot_range 32 (c % 32).toNat (by omega) a h0 h1
  rw [bin_up32 a c, ha]
  show (bin 120 (rot 32 a (c % 32).toNat) c).1 = a
  rw [bin_dn32 _ c]
  show rot 32 (u32 (rot 32 a (c % 32).toNat)) ((32 - c % 32) % 32).toNat = a
  rw [show u32 (rot 32 a (c % 32).toNat) = rot 32 a (c % 32).toNat by unfold u32; exact Int.emod_eq_of_lt hr.1 hr.2]
  by_cases h : c % 32 = 0
  · rw [h, show ((0 : Int)).toNat = 0 from rfl, show (((32 : Int) - 0) % 32).toNat = 0 by decide, rot_zero 32 _ h0 h1, rot_zero 32 _ h0 h1]
  · rw [show ((32 - c % 32) % 32).toNat = 32 - (c % 32).toNat by omega, rot_back 32 _ (by omega) _ h0 h1]
theorem down64 (a c : Int) (h0 : -9223372036854775808 ≤ a) (h1 : a < 9223372036854775808) : (bin 138 a ((64 - c % 64) % 64)).1 = (bin 137 a c).1 := by
  rw [bin_up64 a c h0 h1, bin_dn64 a _ h0 h1, show ((64 - (64 - c % 64) % 64 % 64) % 64).toNat = (c % 64).toNat by omega]
theorem down32 (a c : Int) : (bin 120 a ((32 - c % 32) % 32)).1 = (bin 119 a c).1 := by
  rw [bin_up32 a c, bin_dn32 a, show ((32 - (32 - c % 32) % 32 % 32) % 32).toNat = (c % 32).toNat by omega]
theorem ones_up64 (a c : Int) (h0 : -9223372036854775808 ≤ a) (h1 : a < 9223372036854775808) : (un 123 a).1 = (un 123 (bin 137 a c).1).1 := by
  have hu := u64_range a
  have hr := rot_range 64 (c % 64).toNat (by omega) (u64 a) hu.1 hu.2
  rw [bin_up64 a c h0 h1]
  show ones a 64 = ones (wrap64 (rot 64 (u64 a) (c % 64).toNat)) 64
  rw [← ones_u64 (wrap64 _), u64_w64 _ hr.1 hr.2, ones_rot 64 _ (by omega) _ hu.1 hu.2, ones_u64]
theorem ones_up32 (a c : Int) (h0 : 0 ≤ a) (h1 : a < 4294967296) : (un 105 a).1 = (un 105 (bin 119 a c).1).1 := by
  have ha : u32 a = a := by unfold u32; omega
  rw [bin_up32 a c, ha]
  show ones a 32 = ones (rot 32 a (c % 32).toNat) 32
  rw [ones_rot 32 _ (by omega) _ h0 h1]

theorem NumTurns : scarflaw03_NumTurns.Pure := by
  intro a by_ wide w0 w1
  obtain ⟨a0, a1⟩ := wf64 w0
  obtain ⟨b0, b1⟩ := wf64 w1
  have hA := awake (k := 99) (by decide)
  refine ⟨100, ?_⟩
  have hc : Go.bits .and .i64 by_ 255 = by_ % 256 := and255 by_
  generalize hcc : by_ % 256 = c at hc
  have c0 : 0 ≤ c := by omega
  have c1 : c < 256 := by omega
  have B : ∀ op x y : Int, -9223372036854775808 ≤ y → y < 9223372036854775808 → num_Bin.f 99 op x y = some (bin op x y) := fun op x y h0 h1 => bin_at 87 op x y h0 h1
  have U : ∀ op x : Int, num_Un.f 99 op x = some (un op x) := fun op x => un_at 87 op x
  unfold scarflaw03_NumTurns.f
  cases wide with
  | true =>
    have t : Int.tmod (wrap64 (64 - Int.tmod c 64)) 64 = (64 - c % 64) % 64 := by
      rw [Int.tmod_eq_emod_of_nonneg c0, show wrap64 (64 - c % 64) = 64 - c % 64 by unfold wrap64; omega, Int.tmod_eq_emod_of_nonneg (by omega)]
    rw [if_pos rfl, scarflaw03_NumTurns.j0, hc, B _ _ _ (by omega) (by omega), Option.bind_some, B _ _ _ (by omega) (by omega), Option.bind_some, if_neg (by decide), t, B _ _ _ (by omega) (by omega), Option.bind_some, U, Option.bind_some, U, Option.bind_some,
      if_pos (turned64 a c a0 a1), if_pos (down64 a c a0 a1), if_pos (ones_up64 a c a0 a1), hA, Option.bind_some]
  | false =>
    have hu := u32_range a
    have t : Int.tmod (wrap64 (32 - Int.tmod c 32)) 32 = (32 - c % 32) % 32 := by
      rw [Int.tmod_eq_emod_of_nonneg c0, show wrap64 (32 - c % 32) = 32 - c % 32 by unfold wrap64; omega, Int.tmod_eq_emod_of_nonneg (by omega)]
    rw [if_neg (by decide), u32_at, Option.bind_some, scarflaw03_NumTurns.j0, hc, B _ _ _ (by omega) (by omega), Option.bind_some, B _ _ _ (by omega) (by omega), Option.bind_some, if_neg (by decide), t, B _ _ _ (by omega) (by omega), Option.bind_some, U, Option.bind_some, U, Option.bind_some,
      if_pos (turned32 _ c hu.1 hu.2), if_pos (down32 _ c), if_pos (ones_up32 _ c hu.1 hu.2), hA, Option.bind_some]
end Go.Proofs.YtpoapiphnhmdmaaDoor.NumI
