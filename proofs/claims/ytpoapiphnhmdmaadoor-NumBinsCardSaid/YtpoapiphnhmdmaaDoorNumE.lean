/- Layer 3: what an instruction makes of one number: program and reference tell the same. -/
import Derived.Test.YtpoapiphnhmdmaaDoorPAx9
import Derived.Test.YtpoapiphnhmdmaaDoorNumD
namespace Go.Proofs.YtpoapiphnhmdmaaDoor.NumE
set_option linter.unusedVariables false
set_option linter.unusedSimpArgs false
open Go.RowKit Go.Proofs.YtpoapiphnhmdmaaDoor.PA Go.Proofs.YtpoapiphnhmdmaaDoorW.PrintWords Go.Proofs.YtpoapiphnhmdmaaDoorW.PrintLast Go.Proofs.YtpoapiphnhmdmaaDoorW.PrintMore
open Go.Proofs.YtpoapiphnhmdmaaDoor.NumA Go.Proofs.YtpoapiphnhmdmaaDoor.NumB Go.Proofs.YtpoapiphnhmdmaaDoor.NumC Go.Proofs.YtpoapiphnhmdmaaDoor.NumD

def s8 (a : Int) : Int := (a + 128) % 256 - 128
def s16 (a : Int) : Int := (a + 32768) % 65536 - 32768
theorem w_i8 (a : Int) : IntKind.i8.wrap a = s8 a := by simp [IntKind.wrap, IntKind.bits, IntKind.signed, s8]; omega
theorem w_i16 (a : Int) : IntKind.i16.wrap a = s16 a := by simp [IntKind.wrap, IntKind.bits, IntKind.signed, s16]; omega
theorem w_u64 (a : Int) : IntKind.u64.wrap a = a % 18446744073709551616 := tz_wrap_u64 a
theorem s8_u32 (a : Int) : s8 (u32 a) = s8 a := by unfold s8 u32; omega
theorem s16_u32 (a : Int) : s16 (u32 a) = s16 a := by unfold s16 u32; omega
theorem s32_u32 (a : Int) : s32 (u32 a) = s32 a := by unfold s32 u32; omega
theorem u32_u32 (a : Int) : u32 (u32 a) = u32 a := by unfold u32; omega
theorem u32_mod (a : Int) : u32 a % 4294967296 = a % 4294967296 := by unfold u32; omega
theorem u32_mod64 (a : Int) : u32 a % 18446744073709551616 = a % 4294967296 := by unfold u32; omega
theorem w64_s8 (a : Int) : wrap64 (s8 a) = s8 a := by unfold wrap64 s8; omega
theorem w64_s16 (a : Int) : wrap64 (s16 a) = s16 a := by unfold wrap64 s16; omega
theorem truth_at (b : Bool) : num_truth.f b = some (if b = true then 1 else 0) := by cases b <;> rfl
theorem one_at (b : Bool) : scarfref03_one.f b = some (if b = true then 1 else 0) := by cases b <;> rfl
theorem zdn_u32 (a : Int) : zdn 32 (u32 a) = zdn 32 a := by
  have h := lead32 (u32 a)
  rw [u32_mod, lead32 a] at h
  have := Option.some.inj h
  omega
theorem zup_u32 (a : Int) : zup 32 (u32 a) = zup 32 a := by
  have h := trail32 (u32 a)
  rw [u32_mod, trail32 a] at h
  have := Option.some.inj h
  omega
theorem ones_u32 (a : Int) : ones (u32 a) 64 = ones a 32 := by
  have h := count64 (u32 a)
  rw [u32_mod64, count32 a] at h
  exact (Option.some.inj h).symm
/-- What an instruction makes of one number. -/
def un (op a : Int) : Int × Bool :=
  if op = 69 then ((if u32 a = 0 then 1 else 0), true) else
  if op = 80 then ((if a = 0 then 1 else 0), true) else
  if op = 103 then (((zdn 32 a : Nat) : Int), true) else
  if op = 104 then (((zup 32 a : Nat) : Int), true) else
  if op = 105 then ((ones a 32), true) else
  if op = 121 then (((zdn 64 a : Nat) : Int), true) else
  if op = 122 then (((zup 64 a : Nat) : Int), true) else
  if op = 123 then ((ones a 64), true) else
  if op = 167 then ((u32 a), true) else
  if op = 172 then ((s32 a), true) else
  if op = 173 then ((u32 a), true) else
  if op = 192 then ((u32 (s8 a)), true) else
  if op = 193 then ((u32 (s16 a)), true) else
  if op = 194 then ((s8 a), true) else
  if op = 195 then ((s16 a), true) else
  if op = 196 then ((s32 a), true) else
  (0, false)
theorem un_69 (k : Nat) (a : Int) : num_Un.f (k + 12) 69 a = some ((if u32 a = 0 then 1 else 0), true) := by
  have hs : sig 69 = (1, 127, 127) := by decide
  simp only [num_Un.f, sig_at, Option.bind_some, reduceIte, Int.reduceEq, num_Un.j0, num_Un.j1, num_Un.j2, num_Un.j3, Int.reduceBEq, Int.reduceBNe, if_true, u32_at, s32_at, truth_at, w_i8, w_i16, w_u64, s8_u32, s16_u32, s32_u32, u32_u32, u32_mod, u32_mod64, w64_s8, w64_s16, lead32, lead64, trail32, trail64, count32, count64, beq_iff_eq, Bool.false_eq_true, if_false, zdn_u32, zup_u32, ones_u32, hs]
theorem un_80 (k : Nat) (a : Int) : num_Un.f (k + 12) 80 a = some ((if a = 0 then 1 else 0), true) := by
  have hs : sig 80 = (1, 126, 127) := by decide
  simp only [num_Un.f, sig_at, Option.bind_some, reduceIte, Int.reduceEq, num_Un.j0, num_Un.j1, num_Un.j2, num_Un.j3, Int.reduceBEq, Int.reduceBNe, if_true, u32_at, s32_at, truth_at, w_i8, w_i16, w_u64, s8_u32, s16_u32, s32_u32, u32_u32, u32_mod, u32_mod64, w64_s8, w64_s16, lead32, lead64, trail32, trail64, count32, count64, beq_iff_eq, Bool.false_eq_true, if_false, zdn_u32, zup_u32, ones_u32, hs]
theorem un_103 (k : Nat) (a : Int) : num_Un.f (k + 12) 103 a = some (((zdn 32 a : Nat) : Int), true) := by
  have hs : sig 103 = (1, 127, 127) := by decide
  simp only [num_Un.f, sig_at, Option.bind_some, reduceIte, Int.reduceEq, num_Un.j0, num_Un.j1, num_Un.j2, num_Un.j3, Int.reduceBEq, Int.reduceBNe, if_true, u32_at, s32_at, truth_at, w_i8, w_i16, w_u64, s8_u32, s16_u32, s32_u32, u32_u32, u32_mod, u32_mod64, w64_s8, w64_s16, lead32, lead64, trail32, trail64, count32, count64, beq_iff_eq, Bool.false_eq_true, if_false, zdn_u32, zup_u32, ones_u32, hs]
theorem un_104 (k : Nat) (a : Int) : num_Un.f (k + 12) 104 a = some (((zup 32 a : Nat) : Int), true) := by
  have hs : sig 104 = (1, 127, 127) := by decide
  simp only [num_Un.f, sig_at, Option.bind_some, reduceIte, Int.reduceEq, num_Un.j0, num_Un.j1, num_Un.j2, num_Un.j3, Int.reduceBEq, Int.reduceBNe, if_true, u32_at, s32_at, truth_at, w_i8, w_i16, w_u64, s8_u32, s16_u32, s32_u32, u32_u32, u32_mod, u32_mod64, w64_s8, w64_s16, lead32, lead64, trail32, trail64, count32, count64, beq_iff_eq, Bool.false_eq_true, if_false, zdn_u32, zup_u32, ones_u32, hs]
theorem un_105 (k : Nat) (a : Int) : num_Un.f (k + 12) 105 a = some ((ones a 32), true) := by
  have hs : sig 105 = (1, 127, 127) := by decide
  simp only [num_Un.f, sig_at, Option.bind_some, reduceIte, Int.reduceEq, num_Un.j0, num_Un.j1, num_Un.j2, num_Un.j3, Int.reduceBEq, Int.reduceBNe, if_true, u32_at, s32_at, truth_at, w_i8, w_i16, w_u64, s8_u32, s16_u32, s32_u32, u32_u32, u32_mod, u32_mod64, w64_s8, w64_s16, lead32, lead64, trail32, trail64, count32, count64, beq_iff_eq, Bool.false_eq_true, if_false, zdn_u32, zup_u32, ones_u32, hs]
theorem un_121 (k : Nat) (a : Int) : num_Un.f (k + 12) 121 a = some (((zdn 64 a : Nat) : Int), true) := by
  have hs : sig 121 = (1, 126, 126) := by decide
  simp only [num_Un.f, sig_at, Option.bind_some, reduceIte, Int.reduceEq, num_Un.j0, num_Un.j1, num_Un.j2, num_Un.j3, Int.reduceBEq, Int.reduceBNe, if_true, u32_at, s32_at, truth_at, w_i8, w_i16, w_u64, s8_u32, s16_u32, s32_u32, u32_u32, u32_mod, u32_mod64, w64_s8, w64_s16, lead32, lead64, trail32, trail64, count32, count64, beq_iff_eq, Bool.false_eq_true, if_false, zdn_u32, zup_u32, ones_u32, hs]
theorem un_122 (k : Nat) (a : Int) : num_Un.f (k + 12) 122 a = some (((zup 64 a : Nat) : Int), true) := by
  have hs : sig 122 = (1, 126, 126) := by decide
  simp only [num_Un.f, sig_at, Option.bind_some, reduceIte, Int.reduceEq, num_Un.j0, num_Un.j1, num_Un.j2, num_Un.j3, Int.reduceBEq, Int.reduceBNe, if_true, u32_at, s32_at, truth_at, w_i8, w_i16, w_u64, s8_u32, s16_u32, s32_u32, u32_u32, u32_mod, u32_mod64, w64_s8, w64_s16, lead32, lead64, trail32, trail64, count32, count64, beq_iff_eq, Bool.false_eq_true, if_false, zdn_u32, zup_u32, ones_u32, hs]
theorem un_123 (k : Nat) (a : Int) : num_Un.f (k + 12) 123 a = some ((ones a 64), true) := by
  have hs : sig 123 = (1, 126, 126) := by decide
  simp only [num_Un.f, sig_at, Option.bind_some, reduceIte, Int.reduceEq, num_Un.j0, num_Un.j1, num_Un.j2, num_Un.j3, Int.reduceBEq, Int.reduceBNe, if_true, u32_at, s32_at, truth_at, w_i8, w_i16, w_u64, s8_u32, s16_u32, s32_u32, u32_u32, u32_mod, u32_mod64, w64_s8, w64_s16, lead32, lead64, trail32, trail64, count32, count64, beq_iff_eq, Bool.false_eq_true, if_false, zdn_u32, zup_u32, ones_u32, hs]
theorem un_167 (k : Nat) (a : Int) : num_Un.f (k + 12) 167 a = some ((u32 a), true) := by
  have hs : sig 167 = (1, 126, 127) := by decide
  simp only [num_Un.f, sig_at, Option.bind_some, reduceIte, Int.reduceEq, num_Un.j0, num_Un.j1, num_Un.j2, num_Un.j3, Int.reduceBEq, Int.reduceBNe, if_true, u32_at, s32_at, truth_at, w_i8, w_i16, w_u64, s8_u32, s16_u32, s32_u32, u32_u32, u32_mod, u32_mod64, w64_s8, w64_s16, lead32, lead64, trail32, trail64, count32, count64, beq_iff_eq, Bool.false_eq_true, if_false, zdn_u32, zup_u32, ones_u32, hs]
theorem un_172 (k : Nat) (a : Int) : num_Un.f (k + 12) 172 a = some ((s32 a), true) := by
  have hs : sig 172 = (1, 127, 126) := by decide
  simp only [num_Un.f, sig_at, Option.bind_some, reduceIte, Int.reduceEq, num_Un.j0, num_Un.j1, num_Un.j2, num_Un.j3, Int.reduceBEq, Int.reduceBNe, if_true, u32_at, s32_at, truth_at, w_i8, w_i16, w_u64, s8_u32, s16_u32, s32_u32, u32_u32, u32_mod, u32_mod64, w64_s8, w64_s16, lead32, lead64, trail32, trail64, count32, count64, beq_iff_eq, Bool.false_eq_true, if_false, zdn_u32, zup_u32, ones_u32, hs]
theorem un_173 (k : Nat) (a : Int) : num_Un.f (k + 12) 173 a = some ((u32 a), true) := by
  have hs : sig 173 = (1, 127, 126) := by decide
  simp only [num_Un.f, sig_at, Option.bind_some, reduceIte, Int.reduceEq, num_Un.j0, num_Un.j1, num_Un.j2, num_Un.j3, Int.reduceBEq, Int.reduceBNe, if_true, u32_at, s32_at, truth_at, w_i8, w_i16, w_u64, s8_u32, s16_u32, s32_u32, u32_u32, u32_mod, u32_mod64, w64_s8, w64_s16, lead32, lead64, trail32, trail64, count32, count64, beq_iff_eq, Bool.false_eq_true, if_false, zdn_u32, zup_u32, ones_u32, hs]
theorem un_192 (k : Nat) (a : Int) : num_Un.f (k + 12) 192 a = some ((u32 (s8 a)), true) := by
  have hs : sig 192 = (1, 127, 127) := by decide
  simp only [num_Un.f, sig_at, Option.bind_some, reduceIte, Int.reduceEq, num_Un.j0, num_Un.j1, num_Un.j2, num_Un.j3, Int.reduceBEq, Int.reduceBNe, if_true, u32_at, s32_at, truth_at, w_i8, w_i16, w_u64, s8_u32, s16_u32, s32_u32, u32_u32, u32_mod, u32_mod64, w64_s8, w64_s16, lead32, lead64, trail32, trail64, count32, count64, beq_iff_eq, Bool.false_eq_true, if_false, zdn_u32, zup_u32, ones_u32, hs]
theorem un_193 (k : Nat) (a : Int) : num_Un.f (k + 12) 193 a = some ((u32 (s16 a)), true) := by
  have hs : sig 193 = (1, 127, 127) := by decide
  simp only [num_Un.f, sig_at, Option.bind_some, reduceIte, Int.reduceEq, num_Un.j0, num_Un.j1, num_Un.j2, num_Un.j3, Int.reduceBEq, Int.reduceBNe, if_true, u32_at, s32_at, truth_at, w_i8, w_i16, w_u64, s8_u32, s16_u32, s32_u32, u32_u32, u32_mod, u32_mod64, w64_s8, w64_s16, lead32, lead64, trail32, trail64, count32, count64, beq_iff_eq, Bool.false_eq_true, if_false, zdn_u32, zup_u32, ones_u32, hs]
theorem un_194 (k : Nat) (a : Int) : num_Un.f (k + 12) 194 a = some ((s8 a), true) := by
  have hs : sig 194 = (1, 126, 126) := by decide
  simp only [num_Un.f, sig_at, Option.bind_some, reduceIte, Int.reduceEq, num_Un.j0, num_Un.j1, num_Un.j2, num_Un.j3, Int.reduceBEq, Int.reduceBNe, if_true, u32_at, s32_at, truth_at, w_i8, w_i16, w_u64, s8_u32, s16_u32, s32_u32, u32_u32, u32_mod, u32_mod64, w64_s8, w64_s16, lead32, lead64, trail32, trail64, count32, count64, beq_iff_eq, Bool.false_eq_true, if_false, zdn_u32, zup_u32, ones_u32, hs]
theorem un_195 (k : Nat) (a : Int) : num_Un.f (k + 12) 195 a = some ((s16 a), true) := by
  have hs : sig 195 = (1, 126, 126) := by decide
  simp only [num_Un.f, sig_at, Option.bind_some, reduceIte, Int.reduceEq, num_Un.j0, num_Un.j1, num_Un.j2, num_Un.j3, Int.reduceBEq, Int.reduceBNe, if_true, u32_at, s32_at, truth_at, w_i8, w_i16, w_u64, s8_u32, s16_u32, s32_u32, u32_u32, u32_mod, u32_mod64, w64_s8, w64_s16, lead32, lead64, trail32, trail64, count32, count64, beq_iff_eq, Bool.false_eq_true, if_false, zdn_u32, zup_u32, ones_u32, hs]
theorem un_196 (k : Nat) (a : Int) : num_Un.f (k + 12) 196 a = some ((s32 a), true) := by
  have hs : sig 196 = (1, 126, 126) := by decide
  simp only [num_Un.f, sig_at, Option.bind_some, reduceIte, Int.reduceEq, num_Un.j0, num_Un.j1, num_Un.j2, num_Un.j3, Int.reduceBEq, Int.reduceBNe, if_true, u32_at, s32_at, truth_at, w_i8, w_i16, w_u64, s8_u32, s16_u32, s32_u32, u32_u32, u32_mod, u32_mod64, w64_s8, w64_s16, lead32, lead64, trail32, trail64, count32, count64, beq_iff_eq, Bool.false_eq_true, if_false, zdn_u32, zup_u32, ones_u32, hs]
theorem sig_one (op : Int) (h : (sig op).1 = 1) : op = 69 ∨ op = 80 ∨ op = 103 ∨ op = 104 ∨ op = 105 ∨ op = 121 ∨ op = 122 ∨ op = 123 ∨ op = 167 ∨ op = 172 ∨ op = 173 ∨ op = 192 ∨ op = 193 ∨ op = 194 ∨ op = 195 ∨ op = 196 := by
  unfold sig at h
  repeat' split at h
  all_goals first | omega | (exact absurd h (by decide))
theorem un_at (k : Nat) (op a : Int) : num_Un.f (k + 12) op a = some (un op a) := by
  by_cases h : (sig op).1 = 1
  · rcases sig_one op h with rfl | rfl | rfl | rfl | rfl | rfl | rfl | rfl | rfl | rfl | rfl | rfl | rfl | rfl | rfl | rfl
    · exact un_69 k a
    · exact un_80 k a
    · exact un_103 k a
    · exact un_104 k a
    · exact un_105 k a
    · exact un_121 k a
    · exact un_122 k a
    · exact un_123 k a
    · exact un_167 k a
    · exact un_172 k a
    · exact un_173 k a
    · exact un_192 k a
    · exact un_193 k a
    · exact un_194 k a
    · exact un_195 k a
    · exact un_196 k a
  · have hn : op ≠ 69 ∧ op ≠ 80 ∧ op ≠ 103 ∧ op ≠ 104 ∧ op ≠ 105 ∧ op ≠ 121 ∧ op ≠ 122 ∧ op ≠ 123 ∧ op ≠ 167 ∧ op ≠ 172 ∧ op ≠ 173 ∧ op ≠ 192 ∧ op ≠ 193 ∧ op ≠ 194 ∧ op ≠ 195 ∧ op ≠ 196 := by
      refine ⟨?_, ?_, ?_, ?_, ?_, ?_, ?_, ?_, ?_, ?_, ?_, ?_, ?_, ?_, ?_, ?_⟩ <;> (rintro rfl; exact h (by decide))
    obtain ⟨h69, h80, h103, h104, h105, h121, h122, h123, h167, h172, h173, h192, h193, h194, h195, h196⟩ := hn
    rw [num_Un.f, sig_at, Option.bind_some, if_neg h, un]
    rw [if_neg h69, if_neg h80, if_neg h103, if_neg h104, if_neg h105, if_neg h121, if_neg h122, if_neg h123, if_neg h167, if_neg h172, if_neg h173, if_neg h192, if_neg h193, if_neg h194, if_neg h195, if_neg h196]
/-! ### the reference -/
theorem zdn_le : ∀ (f : Nat) (n : Int), zdn f n ≤ f
  | 0, n => Nat.le_refl _
  | f + 1, n => by have := zdn_le f n; rw [zdn]; split <;> omega
theorem zup_le : ∀ (f : Nat) (n : Int), zup f n ≤ f
  | 0, n => Nat.le_refl _
  | f + 1, n => by have := zup_le f (n / 2); rw [zup]; split <;> omega
theorem run_l0 (n x8 w : Int) (f : Nat) (hw : w = (f : Int)) (hf : f ≤ 64) : ∀ (d j k : Nat), j + d = f → d + 1 ≤ k → scarfref03_Un.l0 k x8 w (ones n j) (bitsZ n f) j = if x8 = 127 then ((scarfref03_U32.f (ones n f)).bind fun t199 => (some (t199, true))) else (some (ones n f, true))
  | 0, j, k, hj, hk => by
    obtain ⟨k, rfl⟩ : ∃ k', k = k' + 1 := ⟨k - 1, by omega⟩
    obtain rfl : j = f := by omega
    rw [scarfref03_Un.l0, if_neg (by omega)]
  | d + 1, j, k, hj, hk => by
    obtain ⟨k, rfl⟩ : ∃ k', k = k' + 1 := ⟨k - 1, by omega⟩
    have ih := run_l0 n x8 w f hw hf d (j + 1) k (by omega) (by omega)
    have hg : rd (bitsZ n f) (j : Int) = bitZ n j := by simp only [rd, Int.toNat_natCast]; exact bitsZ_get n f j (by omega)
    have hr := ones_range n j
    have hb := bitZ_01 n j
    rw [scarfref03_Un.l0, if_pos (by omega), if_pos (by omega), bitsZ_len, if_pos (by omega), hg, show wrap64 ((j : Int) + 1) = ((j + 1 : Nat) : Int) by unfold wrap64; omega, show wrap64 (ones n j + bitZ n j) = ones n (j + 1) by unfold wrap64; simp only [ones]; omega]
    exact ih
theorem run_69 (k : Nat) (a : Int) (h0 : -9223372036854775808 ≤ a) (h1 : a < 9223372036854775808) : scarfref03_Un.f (k + 160) 69 a = some ((if u32 a = 0 then 1 else 0), true) := by
  have hs : sig 69 = (1, 127, 127) := by decide
  simp only [scarfref03_Un.f, rsig_at, Option.bind_some, reduceIte, Int.reduceEq, scarfref03_Un.j0, scarfref03_Un.j1, scarfref03_Un.j2, scarfref03_Un.j3, scarfref03_Un.j4, scarfref03_Un.j6, scarfref03_Un.j7, scarfref03_Un.j8, Int.reduceBEq, Int.reduceBNe, if_true, beq_iff_eq, Bool.false_eq_true, if_false, one_at, hs]
  have e1 : scarfref03_list.f (k + 158) a 32 = some (bitsZ a 32) := list_at a 32 _ (by decide) (by omega)
  have e2 := from_bits a 32 (k + 158) (by decide) (by omega)
  have e : wrap64 (a % 2 ^ 32) = u32 a := by unfold wrap64 u32; omega
  rw [e1, Option.bind_some, e2, Option.bind_some, e]
  by_cases h : u32 a = 0
  · rw [if_pos h, ru32_at 1 (by decide) (by decide)]; rfl
  · rw [if_neg h, ru32_at 0 (by decide) (by decide)]; rfl
theorem run_80 (k : Nat) (a : Int) (h0 : -9223372036854775808 ≤ a) (h1 : a < 9223372036854775808) : scarfref03_Un.f (k + 160) 80 a = some ((if a = 0 then 1 else 0), true) := by
  have hs : sig 80 = (1, 126, 127) := by decide
  simp only [scarfref03_Un.f, rsig_at, Option.bind_some, reduceIte, Int.reduceEq, scarfref03_Un.j0, scarfref03_Un.j1, scarfref03_Un.j2, scarfref03_Un.j3, scarfref03_Un.j4, scarfref03_Un.j6, scarfref03_Un.j7, scarfref03_Un.j8, Int.reduceBEq, Int.reduceBNe, if_true, beq_iff_eq, Bool.false_eq_true, if_false, one_at, hs]
  have e1 : scarfref03_list.f (k + 158) a 64 = some (bitsZ a 64) := list_at a 64 _ (by decide) (by omega)
  have e2 := from_bits a 64 (k + 158) (by decide) (by omega)
  have e : wrap64 (a % 2 ^ 64) = a := by unfold wrap64; omega
  rw [e1, Option.bind_some, e2, Option.bind_some, e]
  by_cases h : a = 0
  · rw [if_pos h, ru32_at 1 (by decide) (by decide)]; rfl
  · rw [if_neg h, ru32_at 0 (by decide) (by decide)]; rfl
theorem run_103 (k : Nat) (a : Int) (h0 : -9223372036854775808 ≤ a) (h1 : a < 9223372036854775808) : scarfref03_Un.f (k + 160) 103 a = some (((zdn 32 a : Nat) : Int), true) := by
  have hs : sig 103 = (1, 127, 127) := by decide
  simp only [scarfref03_Un.f, rsig_at, Option.bind_some, reduceIte, Int.reduceEq, scarfref03_Un.j0, scarfref03_Un.j1, scarfref03_Un.j2, scarfref03_Un.j3, scarfref03_Un.j4, scarfref03_Un.j6, scarfref03_Un.j7, scarfref03_Un.j8, Int.reduceBEq, Int.reduceBNe, if_true, beq_iff_eq, Bool.false_eq_true, if_false, one_at, hs]
  have e1 : scarfref03_zeros.f (k + 157) a 32 false = some ((zdn 32 a : Nat) : Int) := zeros_dn a 32 _ (by decide) (by omega)
  have hb := zdn_le 32 a
  rw [e1, Option.bind_some, ru32_at _ (by omega) (by omega), Option.bind_some, u32, Int.emod_eq_of_lt (by omega) (by omega)]
theorem run_104 (k : Nat) (a : Int) (h0 : -9223372036854775808 ≤ a) (h1 : a < 9223372036854775808) : scarfref03_Un.f (k + 160) 104 a = some (((zup 32 a : Nat) : Int), true) := by
  have hs : sig 104 = (1, 127, 127) := by decide
  simp only [scarfref03_Un.f, rsig_at, Option.bind_some, reduceIte, Int.reduceEq, scarfref03_Un.j0, scarfref03_Un.j1, scarfref03_Un.j2, scarfref03_Un.j3, scarfref03_Un.j4, scarfref03_Un.j6, scarfref03_Un.j7, scarfref03_Un.j8, Int.reduceBEq, Int.reduceBNe, if_true, beq_iff_eq, Bool.false_eq_true, if_false, one_at, hs]
  have e1 : scarfref03_zeros.f (k + 156) a 32 true = some ((zup 32 a : Nat) : Int) := zeros_up a 32 _ (by decide) (by omega)
  have hb := zup_le 32 a
  rw [e1, Option.bind_some, ru32_at _ (by omega) (by omega), Option.bind_some, u32, Int.emod_eq_of_lt (by omega) (by omega)]
theorem run_105 (k : Nat) (a : Int) (h0 : -9223372036854775808 ≤ a) (h1 : a < 9223372036854775808) : scarfref03_Un.f (k + 160) 105 a = some ((ones a 32), true) := by
  have hs : sig 105 = (1, 127, 127) := by decide
  simp only [scarfref03_Un.f, rsig_at, Option.bind_some, reduceIte, Int.reduceEq, scarfref03_Un.j0, scarfref03_Un.j1, scarfref03_Un.j2, scarfref03_Un.j3, scarfref03_Un.j4, scarfref03_Un.j6, scarfref03_Un.j7, scarfref03_Un.j8, Int.reduceBEq, Int.reduceBNe, if_true, beq_iff_eq, Bool.false_eq_true, if_false, one_at, hs]
  have e1 : scarfref03_list.f (k + 155) a 32 = some (bitsZ a 32) := list_at a 32 _ (by decide) (by omega)
  have e2 := run_l0 a 127 32 32 rfl (by decide) 32 0 (k + 155) (by decide) (by omega)
  have hr := ones_range a 32
  rw [if_pos rfl, ru32_at _ (by omega) (by omega), Option.bind_some, u32, Int.emod_eq_of_lt (by omega) (by omega)] at e2
  rw [e1, Option.bind_some]
  exact e2
theorem run_121 (k : Nat) (a : Int) (h0 : -9223372036854775808 ≤ a) (h1 : a < 9223372036854775808) : scarfref03_Un.f (k + 160) 121 a = some (((zdn 64 a : Nat) : Int), true) := by
  have hs : sig 121 = (1, 126, 126) := by decide
  simp only [scarfref03_Un.f, rsig_at, Option.bind_some, reduceIte, Int.reduceEq, scarfref03_Un.j0, scarfref03_Un.j1, scarfref03_Un.j2, scarfref03_Un.j3, scarfref03_Un.j4, scarfref03_Un.j6, scarfref03_Un.j7, scarfref03_Un.j8, Int.reduceBEq, Int.reduceBNe, if_true, beq_iff_eq, Bool.false_eq_true, if_false, one_at, hs]
  have e1 : scarfref03_zeros.f (k + 157) a 64 false = some ((zdn 64 a : Nat) : Int) := zeros_dn a 64 _ (by decide) (by omega)
  rw [e1, Option.bind_some]
theorem run_122 (k : Nat) (a : Int) (h0 : -9223372036854775808 ≤ a) (h1 : a < 9223372036854775808) : scarfref03_Un.f (k + 160) 122 a = some (((zup 64 a : Nat) : Int), true) := by
  have hs : sig 122 = (1, 126, 126) := by decide
  simp only [scarfref03_Un.f, rsig_at, Option.bind_some, reduceIte, Int.reduceEq, scarfref03_Un.j0, scarfref03_Un.j1, scarfref03_Un.j2, scarfref03_Un.j3, scarfref03_Un.j4, scarfref03_Un.j6, scarfref03_Un.j7, scarfref03_Un.j8, Int.reduceBEq, Int.reduceBNe, if_true, beq_iff_eq, Bool.false_eq_true, if_false, one_at, hs]
  have e1 : scarfref03_zeros.f (k + 156) a 64 true = some ((zup 64 a : Nat) : Int) := zeros_up a 64 _ (by decide) (by omega)
  rw [e1, Option.bind_some]
theorem run_123 (k : Nat) (a : Int) (h0 : -9223372036854775808 ≤ a) (h1 : a < 9223372036854775808) : scarfref03_Un.f (k + 160) 123 a = some ((ones a 64), true) := by
  have hs : sig 123 = (1, 126, 126) := by decide
  simp only [scarfref03_Un.f, rsig_at, Option.bind_some, reduceIte, Int.reduceEq, scarfref03_Un.j0, scarfref03_Un.j1, scarfref03_Un.j2, scarfref03_Un.j3, scarfref03_Un.j4, scarfref03_Un.j6, scarfref03_Un.j7, scarfref03_Un.j8, Int.reduceBEq, Int.reduceBNe, if_true, beq_iff_eq, Bool.false_eq_true, if_false, one_at, hs]
  have e1 : scarfref03_list.f (k + 155) a 64 = some (bitsZ a 64) := list_at a 64 _ (by decide) (by omega)
  have e2 := run_l0 a 126 64 64 rfl (by decide) 64 0 (k + 155) (by decide) (by omega)
  rw [if_neg (by decide)] at e2
  rw [e1, Option.bind_some]
  exact e2
theorem run_167 (k : Nat) (a : Int) (h0 : -9223372036854775808 ≤ a) (h1 : a < 9223372036854775808) : scarfref03_Un.f (k + 160) 167 a = some ((u32 a), true) := by
  have hs : sig 167 = (1, 126, 127) := by decide
  simp only [scarfref03_Un.f, rsig_at, Option.bind_some, reduceIte, Int.reduceEq, scarfref03_Un.j0, scarfref03_Un.j1, scarfref03_Un.j2, scarfref03_Un.j3, scarfref03_Un.j4, scarfref03_Un.j6, scarfref03_Un.j7, scarfref03_Un.j8, Int.reduceBEq, Int.reduceBNe, if_true, beq_iff_eq, Bool.false_eq_true, if_false, one_at, hs]
  have hb : 0 ≤ u32 a ∧ u32 a < 4294967296 := by unfold u32; omega
  rw [ru32_at a h0 (by omega), Option.bind_some, ru32_at _ (by omega) (by omega), Option.bind_some, u32_u32]
theorem run_172 (k : Nat) (a : Int) (h0 : -9223372036854775808 ≤ a) (h1 : a < 9223372036854775808) : scarfref03_Un.f (k + 160) 172 a = some ((s32 a), true) := by
  have hs : sig 172 = (1, 127, 126) := by decide
  simp only [scarfref03_Un.f, rsig_at, Option.bind_some, reduceIte, Int.reduceEq, scarfref03_Un.j0, scarfref03_Un.j1, scarfref03_Un.j2, scarfref03_Un.j3, scarfref03_Un.j4, scarfref03_Un.j6, scarfref03_Un.j7, scarfref03_Un.j8, Int.reduceBEq, Int.reduceBNe, if_true, beq_iff_eq, Bool.false_eq_true, if_false, one_at, hs]
  rw [rs32_at a h0 (by omega), Option.bind_some]
theorem run_173 (k : Nat) (a : Int) (h0 : -9223372036854775808 ≤ a) (h1 : a < 9223372036854775808) : scarfref03_Un.f (k + 160) 173 a = some ((u32 a), true) := by
  have hs : sig 173 = (1, 127, 126) := by decide
  simp only [scarfref03_Un.f, rsig_at, Option.bind_some, reduceIte, Int.reduceEq, scarfref03_Un.j0, scarfref03_Un.j1, scarfref03_Un.j2, scarfref03_Un.j3, scarfref03_Un.j4, scarfref03_Un.j6, scarfref03_Un.j7, scarfref03_Un.j8, Int.reduceBEq, Int.reduceBNe, if_true, beq_iff_eq, Bool.false_eq_true, if_false, one_at, hs]
  rw [ru32_at a h0 (by omega), Option.bind_some]
theorem run_192 (k : Nat) (a : Int) (h0 : -9223372036854775808 ≤ a) (h1 : a < 9223372036854775808) : scarfref03_Un.f (k + 160) 192 a = some ((u32 (s8 a)), true) := by
  have hs : sig 192 = (1, 127, 127) := by decide
  simp only [scarfref03_Un.f, rsig_at, Option.bind_some, reduceIte, Int.reduceEq, scarfref03_Un.j0, scarfref03_Un.j1, scarfref03_Un.j2, scarfref03_Un.j3, scarfref03_Un.j4, scarfref03_Un.j6, scarfref03_Un.j7, scarfref03_Un.j8, Int.reduceBEq, Int.reduceBNe, if_true, beq_iff_eq, Bool.false_eq_true, if_false, one_at, hs]
  have e1 : scarfref03_signed.f (k + 152) a 8 = some (s8 a) := signed8 a _ (by omega)
  have hb : -128 ≤ s8 a ∧ s8 a < 128 := by unfold s8; omega
  rw [e1, Option.bind_some, ru32_at _ (by omega) (by omega), Option.bind_some]
theorem run_193 (k : Nat) (a : Int) (h0 : -9223372036854775808 ≤ a) (h1 : a < 9223372036854775808) : scarfref03_Un.f (k + 160) 193 a = some ((u32 (s16 a)), true) := by
  have hs : sig 193 = (1, 127, 127) := by decide
  simp only [scarfref03_Un.f, rsig_at, Option.bind_some, reduceIte, Int.reduceEq, scarfref03_Un.j0, scarfref03_Un.j1, scarfref03_Un.j2, scarfref03_Un.j3, scarfref03_Un.j4, scarfref03_Un.j6, scarfref03_Un.j7, scarfref03_Un.j8, Int.reduceBEq, Int.reduceBNe, if_true, beq_iff_eq, Bool.false_eq_true, if_false, one_at, hs]
  have e1 : scarfref03_signed.f (k + 152) a 16 = some (s16 a) := signed16 a _ (by omega)
  have hb : -32768 ≤ s16 a ∧ s16 a < 32768 := by unfold s16; omega
  rw [e1, Option.bind_some, ru32_at _ (by omega) (by omega), Option.bind_some]
theorem run_194 (k : Nat) (a : Int) (h0 : -9223372036854775808 ≤ a) (h1 : a < 9223372036854775808) : scarfref03_Un.f (k + 160) 194 a = some ((s8 a), true) := by
  have hs : sig 194 = (1, 126, 126) := by decide
  simp only [scarfref03_Un.f, rsig_at, Option.bind_some, reduceIte, Int.reduceEq, scarfref03_Un.j0, scarfref03_Un.j1, scarfref03_Un.j2, scarfref03_Un.j3, scarfref03_Un.j4, scarfref03_Un.j6, scarfref03_Un.j7, scarfref03_Un.j8, Int.reduceBEq, Int.reduceBNe, if_true, beq_iff_eq, Bool.false_eq_true, if_false, one_at, hs]
  have e1 : scarfref03_signed.f (k + 152) a 8 = some (s8 a) := signed8 a _ (by omega)
  rw [e1, Option.bind_some]
theorem run_195 (k : Nat) (a : Int) (h0 : -9223372036854775808 ≤ a) (h1 : a < 9223372036854775808) : scarfref03_Un.f (k + 160) 195 a = some ((s16 a), true) := by
  have hs : sig 195 = (1, 126, 126) := by decide
  simp only [scarfref03_Un.f, rsig_at, Option.bind_some, reduceIte, Int.reduceEq, scarfref03_Un.j0, scarfref03_Un.j1, scarfref03_Un.j2, scarfref03_Un.j3, scarfref03_Un.j4, scarfref03_Un.j6, scarfref03_Un.j7, scarfref03_Un.j8, Int.reduceBEq, Int.reduceBNe, if_true, beq_iff_eq, Bool.false_eq_true, if_false, one_at, hs]
  have e1 : scarfref03_signed.f (k + 152) a 16 = some (s16 a) := signed16 a _ (by omega)
  rw [e1, Option.bind_some]
theorem run_196 (k : Nat) (a : Int) (h0 : -9223372036854775808 ≤ a) (h1 : a < 9223372036854775808) : scarfref03_Un.f (k + 160) 196 a = some ((s32 a), true) := by
  have hs : sig 196 = (1, 126, 126) := by decide
  simp only [scarfref03_Un.f, rsig_at, Option.bind_some, reduceIte, Int.reduceEq, scarfref03_Un.j0, scarfref03_Un.j1, scarfref03_Un.j2, scarfref03_Un.j3, scarfref03_Un.j4, scarfref03_Un.j6, scarfref03_Un.j7, scarfref03_Un.j8, Int.reduceBEq, Int.reduceBNe, if_true, beq_iff_eq, Bool.false_eq_true, if_false, one_at, hs]
  rw [rs32_at a h0 (by omega), Option.bind_some]
theorem run_at (k : Nat) (op a : Int) (h0 : -9223372036854775808 ≤ a) (h1 : a < 9223372036854775808) : scarfref03_Un.f (k + 160) op a = some (un op a) := by
  by_cases h : (sig op).1 = 1
  · rcases sig_one op h with rfl | rfl | rfl | rfl | rfl | rfl | rfl | rfl | rfl | rfl | rfl | rfl | rfl | rfl | rfl | rfl
    · exact run_69 k a h0 h1
    · exact run_80 k a h0 h1
    · exact run_103 k a h0 h1
    · exact run_104 k a h0 h1
    · exact run_105 k a h0 h1
    · exact run_121 k a h0 h1
    · exact run_122 k a h0 h1
    · exact run_123 k a h0 h1
    · exact run_167 k a h0 h1
    · exact run_172 k a h0 h1
    · exact run_173 k a h0 h1
    · exact run_192 k a h0 h1
    · exact run_193 k a h0 h1
    · exact run_194 k a h0 h1
    · exact run_195 k a h0 h1
    · exact run_196 k a h0 h1
  · have hn : op ≠ 69 ∧ op ≠ 80 ∧ op ≠ 103 ∧ op ≠ 104 ∧ op ≠ 105 ∧ op ≠ 121 ∧ op ≠ 122 ∧ op ≠ 123 ∧ op ≠ 167 ∧ op ≠ 172 ∧ op ≠ 173 ∧ op ≠ 192 ∧ op ≠ 193 ∧ op ≠ 194 ∧ op ≠ 195 ∧ op ≠ 196 := by
      refine ⟨?_, ?_, ?_, ?_, ?_, ?_, ?_, ?_, ?_, ?_, ?_, ?_, ?_, ?_, ?_, ?_⟩ <;> (rintro rfl; exact h (by decide))
    obtain ⟨h69, h80, h103, h104, h105, h121, h122, h123, h167, h172, h173, h192, h193, h194, h195, h196⟩ := hn
    rw [scarfref03_Un.f, rsig_at, Option.bind_some, if_neg h, un]
    rw [if_neg h69, if_neg h80, if_neg h103, if_neg h104, if_neg h105, if_neg h121, if_neg h122, if_neg h123, if_neg h167, if_neg h172, if_neg h173, if_neg h192, if_neg h193, if_neg h194, if_neg h195, if_neg h196]

theorem NumUns : scarflaw03_NumUns.Pure := by
  intro op a w0 w1
  obtain ⟨h0, h1⟩ := wf64 w1
  refine ⟨200, ?_⟩
  unfold scarflaw03_NumUns.f
  rw [show (200 : Nat) = 188 + 12 by decide, un_at, show (188 + 12 : Nat) = 40 + 160 by decide, run_at _ _ _ h0 h1, Option.bind_some, Option.bind_some, if_pos rfl, if_pos (by simp), awake (by decide), Option.bind_some]
end Go.Proofs.YtpoapiphnhmdmaaDoor.NumE
