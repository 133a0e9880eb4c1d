/- Layer 3: kinds of opcodes, and a number's lowest bits: program and reference alike. -/
import Derived.Test.YtpoapiphnhmdmaaDoorPAx6
namespace Go.Proofs.YtpoapiphnhmdmaaDoor.NumA
set_option linter.unusedVariables false
set_option linter.unusedSimpArgs false
open Go.RowKit Go.Proofs.YtpoapiphnhmdmaaDoor.PA Go.Proofs.YtpoapiphnhmdmaaDoorW.PrintWords Go.Proofs.YtpoapiphnhmdmaaDoorW.PrintLast Go.Proofs.YtpoapiphnhmdmaaDoorW.PrintMore

/-- What an opcode takes and leaves. -/
def sig (op : Int) : Int × Int × Int :=
  if op = 69 ∨ (103 ≤ op ∧ op < 106) ∨ op = 192 ∨ op = 193 then (1, 127, 127)
  else if op = 80 ∨ op = 167 then (1, 126, 127)
  else if (121 ≤ op ∧ op < 124) ∨ (194 ≤ op ∧ op ≤ 196) then (1, 126, 126)
  else if op = 172 ∨ op = 173 then (1, 127, 126)
  else if (70 ≤ op ∧ op < 80) ∨ (106 ≤ op ∧ op < 121) then (2, 127, 127)
  else if 81 ≤ op ∧ op ≤ 90 then (2, 126, 127)
  else if 124 ≤ op ∧ op ≤ 138 then (2, 126, 126)
  else (0, 0, 0)

theorem j5_eq (k : Nat) (op : Int) (b : Bool) : num_Sig.j5 (k + 1) op b = if b = true then some (2, 126, 127) else if 124 ≤ op ∧ op ≤ 138 then some (2, 126, 126) else some (0, 0, 0) := by
  simp only [num_Sig.j5]; repeat' split
  all_goals first | rfl | (exfalso; omega)
theorem j4_eq (k : Nat) (op : Int) (b : Bool) : num_Sig.j4 (k + 2) op b = if b = true then some (2, 127, 127) else if 81 ≤ op ∧ op ≤ 90 then some (2, 126, 127) else if 124 ≤ op ∧ op ≤ 138 then some (2, 126, 126) else some (0, 0, 0) := by
  simp only [num_Sig.j4, j5_eq, decide_eq_true_eq, Bool.false_eq_true, if_false]; repeat' split
  all_goals first | rfl | (exfalso; omega)
theorem j3_eq (k : Nat) (op : Int) (b : Bool) : num_Sig.j3 (k + 3) op b = if b = true then some (1, 127, 126) else if (70 ≤ op ∧ op < 80) ∨ (106 ≤ op ∧ op < 121) then some (2, 127, 127) else if 81 ≤ op ∧ op ≤ 90 then some (2, 126, 127) else if 124 ≤ op ∧ op ≤ 138 then some (2, 126, 126) else some (0, 0, 0) := by
  simp only [num_Sig.j3, j4_eq, decide_eq_true_eq, Bool.false_eq_true, if_false, if_true]; repeat' split
  all_goals first | rfl | (exfalso; omega)
theorem j2_eq (k : Nat) (op : Int) (b : Bool) : num_Sig.j2 (k + 4) op b = if b = true then some (1, 126, 126) else if op = 172 ∨ op = 173 then some (1, 127, 126) else if (70 ≤ op ∧ op < 80) ∨ (106 ≤ op ∧ op < 121) then some (2, 127, 127) else if 81 ≤ op ∧ op ≤ 90 then some (2, 126, 127) else if 124 ≤ op ∧ op ≤ 138 then some (2, 126, 126) else some (0, 0, 0) := by
  simp only [num_Sig.j2, j3_eq, decide_eq_true_eq, beq_iff_eq, Bool.false_eq_true, if_false, if_true]; repeat' split
  all_goals first | rfl | (exfalso; omega)
theorem j1_eq (k : Nat) (op : Int) (b : Bool) : num_Sig.j1 (k + 5) op b = if b = true then some (1, 126, 127) else if (121 ≤ op ∧ op < 124) ∨ (194 ≤ op ∧ op ≤ 196) then some (1, 126, 126) else if op = 172 ∨ op = 173 then some (1, 127, 126) else if (70 ≤ op ∧ op < 80) ∨ (106 ≤ op ∧ op < 121) then some (2, 127, 127) else if 81 ≤ op ∧ op ≤ 90 then some (2, 126, 127) else if 124 ≤ op ∧ op ≤ 138 then some (2, 126, 126) else some (0, 0, 0) := by
  simp only [num_Sig.j1, j2_eq, decide_eq_true_eq, beq_iff_eq, Bool.false_eq_true, if_false, if_true]; repeat' split
  all_goals first | rfl | (exfalso; omega)
theorem j0_eq (k : Nat) (op : Int) (b : Bool) : num_Sig.j0 (k + 6) op b = if b = true then some (1, 127, 127) else if op = 80 ∨ op = 167 then some (1, 126, 127) else if (121 ≤ op ∧ op < 124) ∨ (194 ≤ op ∧ op ≤ 196) then some (1, 126, 126) else if op = 172 ∨ op = 173 then some (1, 127, 126) else if (70 ≤ op ∧ op < 80) ∨ (106 ≤ op ∧ op < 121) then some (2, 127, 127) else if 81 ≤ op ∧ op ≤ 90 then some (2, 126, 127) else if 124 ≤ op ∧ op ≤ 138 then some (2, 126, 126) else some (0, 0, 0) := by
  simp only [num_Sig.j0, j1_eq, decide_eq_true_eq, beq_iff_eq, Bool.false_eq_true, if_false, if_true]; repeat' split
  all_goals first | rfl | (exfalso; omega)
set_option maxHeartbeats 4000000 in
theorem sig_at (k : Nat) (op : Int) : num_Sig.f (k + 6) op = some (sig op) := by
  have e : num_Sig.f (k + 6) op = if op = 69 ∨ (103 ≤ op ∧ op < 106) ∨ op = 192 ∨ op = 193 then some (1, 127, 127) else if op = 80 ∨ op = 167 then some (1, 126, 127) else if (121 ≤ op ∧ op < 124) ∨ (194 ≤ op ∧ op ≤ 196) then some (1, 126, 126) else if op = 172 ∨ op = 173 then some (1, 127, 126) else if (70 ≤ op ∧ op < 80) ∨ (106 ≤ op ∧ op < 121) then some (2, 127, 127) else if 81 ≤ op ∧ op ≤ 90 then some (2, 126, 127) else if 124 ≤ op ∧ op ≤ 138 then some (2, 126, 126) else some (0, 0, 0) := by
    have hz := j0_eq k op
    generalize (if op = 80 ∨ op = 167 then some (1, 126, 127) else if (121 ≤ op ∧ op < 124) ∨ (194 ≤ op ∧ op ≤ 196) then some (1, 126, 126) else if op = 172 ∨ op = 173 then some (1, 127, 126) else if (70 ≤ op ∧ op < 80) ∨ (106 ≤ op ∧ op < 121) then some (2, 127, 127) else if 81 ≤ op ∧ op ≤ 90 then some (2, 126, 127) else if 124 ≤ op ∧ op ≤ 138 then some (2, 126, 126) else some (0, 0, 0)) = z at hz ⊢
    simp only [num_Sig.f, hz, beq_iff_eq, if_true]
    clear hz
    repeat' split
    all_goals first | rfl | (exfalso; omega)
  rw [e, sig]
  simp only [apply_ite some]
theorem rj5_eq (k : Nat) (op : Int) (b : Bool) : scarfref03_Sig.j5 (k + 1) op b = if b = true then some (2, 126, 127) else if 124 ≤ op ∧ op ≤ 138 then some (2, 126, 126) else some (0, 0, 0) := by
  simp only [scarfref03_Sig.j5]; repeat' split
  all_goals first | rfl | (exfalso; omega)
theorem rj4_eq (k : Nat) (op : Int) (b : Bool) : scarfref03_Sig.j4 (k + 2) op b = if b = true then some (2, 127, 127) else if 81 ≤ op ∧ op ≤ 90 then some (2, 126, 127) else if 124 ≤ op ∧ op ≤ 138 then some (2, 126, 126) else some (0, 0, 0) := by
  simp only [scarfref03_Sig.j4, rj5_eq, decide_eq_true_eq, Bool.false_eq_true, if_false]; repeat' split
  all_goals first | rfl | (exfalso; omega)
theorem rj3_eq (k : Nat) (op : Int) (b : Bool) : scarfref03_Sig.j3 (k + 3) op b = if b = true then some (1, 127, 126) else if (70 ≤ op ∧ op < 80) ∨ (106 ≤ op ∧ op < 121) then some (2, 127, 127) else if 81 ≤ op ∧ op ≤ 90 then some (2, 126, 127) else if 124 ≤ op ∧ op ≤ 138 then some (2, 126, 126) else some (0, 0, 0) := by
  simp only [scarfref03_Sig.j3, rj4_eq, decide_eq_true_eq, Bool.false_eq_true, if_false, if_true]; repeat' split
  all_goals first | rfl | (exfalso; omega)
theorem rj2_eq (k : Nat) (op : Int) (b : Bool) : scarfref03_Sig.j2 (k + 4) op b = if b = true then some (1, 126, 126) else if op = 172 ∨ op = 173 then some (1, 127, 126) else if (70 ≤ op ∧ op < 80) ∨ (106 ≤ op ∧ op < 121) then some (2, 127, 127) else if 81 ≤ op ∧ op ≤ 90 then some (2, 126, 127) else if 124 ≤ op ∧ op ≤ 138 then some (2, 126, 126) else some (0, 0, 0) := by
  simp only [scarfref03_Sig.j2, rj3_eq, decide_eq_true_eq, beq_iff_eq, Bool.false_eq_true, if_false, if_true]; repeat' split
  all_goals first | rfl | (exfalso; omega)
theorem rj1_eq (k : Nat) (op : Int) (b : Bool) : scarfref03_Sig.j1 (k + 5) op b = if b = true then some (1, 126, 127) else if (121 ≤ op ∧ op < 124) ∨ (194 ≤ op ∧ op ≤ 196) then some (1, 126, 126) else if op = 172 ∨ op = 173 then some (1, 127, 126) else if (70 ≤ op ∧ op < 80) ∨ (106 ≤ op ∧ op < 121) then some (2, 127, 127) else if 81 ≤ op ∧ op ≤ 90 then some (2, 126, 127) else if 124 ≤ op ∧ op ≤ 138 then some (2, 126, 126) else some (0, 0, 0) := by
  simp only [scarfref03_Sig.j1, rj2_eq, decide_eq_true_eq, beq_iff_eq, Bool.false_eq_true, if_false, if_true]; repeat' split
  all_goals first | rfl | (exfalso; omega)
theorem rj0_eq (k : Nat) (op : Int) (b : Bool) : scarfref03_Sig.j0 (k + 6) op b = if b = true then some (1, 127, 127) else if op = 80 ∨ op = 167 then some (1, 126, 127) else if (121 ≤ op ∧ op < 124) ∨ (194 ≤ op ∧ op ≤ 196) then some (1, 126, 126) else if op = 172 ∨ op = 173 then some (1, 127, 126) else if (70 ≤ op ∧ op < 80) ∨ (106 ≤ op ∧ op < 121) then some (2, 127, 127) else if 81 ≤ op ∧ op ≤ 90 then some (2, 126, 127) else if 124 ≤ op ∧ op ≤ 138 then some (2, 126, 126) else some (0, 0, 0) := by
  simp only [scarfref03_Sig.j0, rj1_eq, decide_eq_true_eq, beq_iff_eq, Bool.false_eq_true, if_false, if_true]; repeat' split
  all_goals first | rfl | (exfalso; omega)
set_option maxHeartbeats 4000000 in
theorem rsig_at (k : Nat) (op : Int) : scarfref03_Sig.f (k + 6) op = some (sig op) := by
  have e : scarfref03_Sig.f (k + 6) op = if op = 69 ∨ (103 ≤ op ∧ op < 106) ∨ op = 192 ∨ op = 193 then some (1, 127, 127) else if op = 80 ∨ op = 167 then some (1, 126, 127) else if (121 ≤ op ∧ op < 124) ∨ (194 ≤ op ∧ op ≤ 196) then some (1, 126, 126) else if op = 172 ∨ op = 173 then some (1, 127, 126) else if (70 ≤ op ∧ op < 80) ∨ (106 ≤ op ∧ op < 121) then some (2, 127, 127) else if 81 ≤ op ∧ op ≤ 90 then some (2, 126, 127) else if 124 ≤ op ∧ op ≤ 138 then some (2, 126, 126) else some (0, 0, 0) := by
    have hz := rj0_eq k op
    generalize (if op = 80 ∨ op = 167 then some (1, 126, 127) else if (121 ≤ op ∧ op < 124) ∨ (194 ≤ op ∧ op ≤ 196) then some (1, 126, 126) else if op = 172 ∨ op = 173 then some (1, 127, 126) else if (70 ≤ op ∧ op < 80) ∨ (106 ≤ op ∧ op < 121) then some (2, 127, 127) else if 81 ≤ op ∧ op ≤ 90 then some (2, 126, 127) else if 124 ≤ op ∧ op ≤ 138 then some (2, 126, 126) else some (0, 0, 0)) = z at hz ⊢
    simp only [scarfref03_Sig.f, hz, beq_iff_eq, if_true]
    clear hz
    repeat' split
    all_goals first | rfl | (exfalso; omega)
  rw [e, sig]
  simp only [apply_ite some]


/-! ### lowest 32 bits -/
def u32 (a : Int) : Int := a % 4294967296
def s32 (a : Int) : Int := (a + 2147483648) % 4294967296 - 2147483648
theorem u32_at (a : Int) : num_U32.f a = some (u32 a) := rfl
theorem s32_at (a : Int) : num_S32.f a = some (s32 a) := by
  simp only [num_S32.f, s32, wrap64, wrap32, Option.some.injEq]
  omega
theorem ru32_at (a : Int) (h0 : -9223372036854775808 ≤ a) (h1 : a ≤ 9223372036854775807) : scarfref03_U32.f a = some (u32 a) := by
  simp only [scarfref03_U32.f, u32, wrap64, Option.some.injEq]
  have e : Int.tmod a 4294967296 = a % 4294967296 ∨ Int.tmod a 4294967296 = a % 4294967296 - 4294967296 := by
    rw [Int.tmod_eq_emod]
    split
    · left; omega
    · right; simp
  have hb : 0 ≤ a % 4294967296 ∧ a % 4294967296 < 4294967296 := by omega
  generalize Int.tmod a 4294967296 = t at e
  generalize a % 4294967296 = m at e hb
  rw [Int.tmod_eq_emod_of_nonneg (by omega)]
  omega
theorem rs32_at (a : Int) (h0 : -9223372036854775808 ≤ a) (h1 : a ≤ 9223372036854775807) : scarfref03_S32.f a = some (s32 a) := by
  simp only [scarfref03_S32.f, ru32_at a h0 h1, Option.bind_some]
  have : u32 a = a % 4294967296 := rfl
  unfold s32
  split <;> simp only [wrap64, Option.some.injEq] <;> omega

/-! ### the chapter's examples -/
theorem wf64 {n : Int} (h : (Lit.int .i64 n).wf = true) : -9223372036854775808 ≤ n ∧ n < 9223372036854775808 := by
  simp [Lit.wf, IntKind.min, IntKind.max, IntKind.bits, IntKind.signed] at h
  omega
theorem awake_at : scarflaw03_awake.f 40 = some true := by decide +kernel
theorem awake {k : Nat} (hk : 40 ≤ k) : scarflaw03_awake.f k = some true :=
  at_rounds (g := fun k => scarflaw03_awake.f k) scarflaw03_awake.mono hk awake_at

theorem NumSigs : scarflaw03_NumSigs.Pure := by
  intro op n w0 w1
  obtain ⟨h0, h1⟩ := wf64 w1
  refine ⟨46, ?_⟩
  unfold scarflaw03_NumSigs.f
  simp only [sig_at 40 op, rsig_at 40 op, Option.bind_some, if_true, u32_at, s32_at, ru32_at n h0 (by omega), rs32_at n h0 (by omega), awake (show 40 ≤ 46 by omega)]
end Go.Proofs.YtpoapiphnhmdmaaDoor.NumA
