/- Layer 1: the printed functions answer as the plain side says. -/
import Derived.Test.YtmoeibghjejneaaPAx
import Derived.Test.YtmoeibghjejneaaLebS
namespace Go.Proofs.Ytmoeibghjejneaa.LebF
set_option linter.unusedVariables false
set_option linter.unusedSimpArgs false
open Go.RowKit Go.Proofs.Ytmoeibghjejneaa.PA Go.Proofs.YtmoeibghjejneaaW.PrintWords Go.Proofs.YtmoeibghjejneaaW.PrintLast Go.Proofs.YtmoeibghjejneaaW.PrintMore
open Go.Proofs.Ytmoeibghjejneaa.Str Go.Proofs.Ytmoeibghjejneaa.LebS

theorem or128 (x : Int) : Go.bits .or .u8 (x % 256) 128 = x % 128 + 128 := by
  have h : ∀ y : Fin 256, Go.bits .or .u8 (y.val : Int) 128 = (y.val : Int) % 128 + 128 := by decide +kernel
  have := h ⟨(x % 256).toNat, by omega⟩
  simp only at this
  rw [show (((x % 256).toNat : Nat) : Int) = x % 256 by omega] at this
  rw [this]
  omega

theorem and127 (x : Int) (h0 : 0 ≤ x) (h1 : x < 256) : Go.bits .and .u8 x 127 = x % 128 := by
  have h : ∀ y : Fin 256, Go.bits .and .u8 (y.val : Int) 127 = (y.val : Int) % 128 := by decide +kernel
  have := h ⟨x.toNat, by omega⟩
  simp only at this
  rw [show ((x.toNat : Nat) : Int) = x by omega] at this
  exact this

/-! ### PutU -/
theorem PutU_l0 : ∀ (j n : Nat) (acc : List Int) (k : Nat), n < 128 ^ (j + 1) → j + 1 ≤ k → acc.length + j + 1 ≤ 1000 → leb_PutU.l0 k (n : Int) acc = some (strOfNums (acc ++ pu n)) := by
  intro j
  induction j with
  | zero =>
    intro n acc k hn hk ha
    obtain ⟨k, rfl⟩ : ∃ m, k = m + 1 := ⟨k - 1, by omega⟩
    simp only [leb_PutU.l0]
    rw [if_neg (by omega), if_pos (by omega), pu_small (by omega), show (n : Int) % 256 = n by omega]
  | succ j ih =>
    intro n acc k hn hk ha
    obtain ⟨k, rfl⟩ : ∃ m, k = m + 1 := ⟨k - 1, by omega⟩
    simp only [leb_PutU.l0]
    by_cases h : n < 128
    · rw [if_neg (by omega), if_pos (by omega), pu_small h, show (n : Int) % 256 = n by omega]
    · rw [Nat.pow_succ] at hn
      rw [if_pos (by omega), if_pos (by omega), pu_big h, or128, show (n : Int) / 128 = ((n / 128 : Nat) : Int) by omega,
        ih (n / 128) _ k (by omega) (by omega) (by simp only [List.length_append, List.length_singleton]; omega)]
      simp only [List.append_assoc, List.singleton_append]
      congr 4

/-- What PutU answers. -/
def puZ (n : Int) : List Int := if n < 0 then [] else pu n.toNat

theorem puZ_range (n : Int) : ∀ x ∈ puZ n, 0 ≤ x ∧ x < 256 := by
  unfold puZ
  split
  · intro x hx; cases hx
  · exact pu_range _

theorem puZ_len (n : Int) (h1 : n < 9223372036854775808) : (puZ n).length ≤ 9 := by
  unfold puZ
  split
  · simp
  · exact pu_len 8 _ (by omega)

theorem PutU_eq (n : Int) (h1 : n < 9223372036854775808) (k : Nat) (hk : 12 ≤ k) : leb_PutU.f k n = some (strOfNums (puZ n)) := by
  unfold leb_PutU.f puZ
  by_cases h : n < 0
  · rw [if_pos h, if_pos h]; rfl
  · rw [if_neg h, if_neg h]
    have := PutU_l0 9 n.toNat [] k (by omega) (by omega) (by simp)
    rw [show ((n.toNat : Nat) : Int) = n by omega] at this
    rw [this, List.nil_append]

theorem one_eq (n : Int) (h0 : 0 ≤ n) (h1 : n < 256) : scarfref01_one.f n = some (strOfNums [n]) := by
  unfold scarfref01_one.f
  rw [show n % 256 = n by omega]

theorem rPutU_nat : ∀ (j n : Nat) (k : Nat), n < 128 ^ (j + 1) → n < 9223372036854775808 → j + 1 ≤ k → j ≤ 100 → scarfref01_PutU.f k (n : Int) = some (strOfNums (pu n)) := by
  intro j
  induction j with
  | zero =>
    intro n k hn _ hk _
    obtain ⟨k, rfl⟩ : ∃ m, k = m + 1 := ⟨k - 1, by omega⟩
    simp only [scarfref01_PutU.f]
    rw [if_neg (by omega), if_pos (by omega), one_eq _ (by omega) (by omega), pu_small (by omega)]
    rfl
  | succ j ih =>
    intro n k hn hb hk hj
    obtain ⟨k, rfl⟩ : ∃ m, k = m + 1 := ⟨k - 1, by omega⟩
    simp only [scarfref01_PutU.f]
    rw [if_neg (by omega)]
    by_cases h : n < 128
    · rw [if_pos (by omega), one_eq _ (by omega) (by omega), pu_small h]
      rfl
    · rw [Nat.pow_succ] at hn
      have e1 : wrap64 (128 + Int.tmod (n : Int) 128) = ((n % 128 + 128 : Nat) : Int) := by
        rw [Int.tmod_eq_emod_of_nonneg (by omega), wrap64_id (by omega) (by omega)]
        omega
      have e2 : wrap64 (Int.tdiv (n : Int) 128) = ((n / 128 : Nat) : Int) := by
        rw [Int.tdiv_eq_ediv_of_nonneg (by omega), wrap64_id (by omega) (by omega)]
        omega
      have hl : (pu (n / 128)).length ≤ j + 1 := pu_len j _ (by omega)
      rw [if_neg (by omega), e1, e2, one_eq _ (by omega) (by omega), ih (n / 128) k (by omega) (by omega) (by omega) (by omega), pu_big h]
      simp only [Option.bind_some]
      rw [if_pos (by rw [strOfNums_size, strOfNums_size, List.length_singleton]; omega), ← strOfNums_append]
      rfl

theorem rPutU_eq (n : Int) (h1 : n < 9223372036854775808) (k : Nat) (hk : 12 ≤ k) : scarfref01_PutU.f k n = some (strOfNums (puZ n)) := by
  unfold puZ
  by_cases h : n < 0
  · obtain ⟨k, rfl⟩ : ∃ m, k = m + 1 := ⟨k - 1, by omega⟩
    simp only [scarfref01_PutU.f]
    rw [if_pos h, if_pos h]; rfl
  · rw [if_neg h]
    have := rPutU_nat 9 n.toNat k (by omega) (by omega) (by omega) (by omega)
    rwa [show ((n.toNat : Nat) : Int) = n by omega] at this

/-! ### PutS -/
theorem PutS_l0 : ∀ (j : Nat) (n : Int) (acc : List Int) (k : Nat), -(64 * 128 ^ j) ≤ n → n < 64 * 128 ^ j → j + 1 ≤ k → acc.length + j + 1 ≤ 1000 → leb_PutS.l0 k n acc = some (strOfNums (acc ++ ps n)) := by
  intro j
  induction j with
  | zero =>
    intro n acc k h0 h1 hk ha
    obtain ⟨k, rfl⟩ : ∃ m, k = m + 1 := ⟨k - 1, by omega⟩
    simp only [leb_PutS.l0]
    rw [if_neg (by omega), if_neg (by omega), if_pos (by omega), ps_small (by omega), and127 _ (by omega) (by omega), show n % 256 % 128 = n % 128 by omega]
  | succ j ih =>
    intro n acc k h0 h1 hk ha
    obtain ⟨k, rfl⟩ : ∃ m, k = m + 1 := ⟨k - 1, by omega⟩
    simp only [leb_PutS.l0]
    by_cases h : -64 ≤ n ∧ n < 64
    · rw [if_neg (by omega), if_neg (by omega), if_pos (by omega), ps_small h, and127 _ (by omega) (by omega), show n % 256 % 128 = n % 128 by omega]
    · rw [Int.pow_succ] at h0 h1
      have go : leb_PutS.l0 k (n / 128) (acc ++ [Go.bits .or .u8 (n % 256) 128]) = some (strOfNums (acc ++ ps n)) := by
        rw [ps_big h, or128, ih (n / 128) _ k (by omega) (by omega) (by omega) (by simp only [List.length_append, List.length_singleton]; omega)]
        simp only [List.append_assoc, List.singleton_append]
      by_cases h2 : n < -64
      · rw [if_pos h2, if_pos (by omega), go]
      · rw [if_neg h2, if_pos (by omega), if_pos (by omega), go]

theorem PutS_eq (n : Int) (h0 : -9223372036854775808 ≤ n) (h1 : n < 9223372036854775808) (k : Nat) (hk : 12 ≤ k) : leb_PutS.f k n = some (strOfNums (ps n)) := by
  unfold leb_PutS.f
  rw [PutS_l0 9 n [] k (by omega) (by omega) (by omega) (by simp), List.nil_append]

theorem floor_eq (n : Int) (h0 : -9223372036854775808 ≤ n) (h1 : n < 9223372036854775808) : scarfref01_floor.f n = some (n / 128) := by
  unfold scarfref01_floor.f
  by_cases h : n ≥ 0
  · rw [if_pos h, Int.tdiv_eq_ediv_of_nonneg h, wrap64_id (by omega) (by omega)]
  · rw [if_neg h, wrap64_id (n := n + 1) (by omega) (by omega), wrap64_id (n := -(n + 1)) (by omega) (by omega), Int.tdiv_eq_ediv_of_nonneg (by omega),
      wrap64_id (n := -(n + 1) / 128) (by omega) (by omega), wrap64_id (n := -(n + 1) / 128 + 1) (by omega) (by omega), wrap64_id (by omega) (by omega)]
    congr 1
    omega

theorem rPutS_eq' : ∀ (j : Nat) (n : Int) (k : Nat), -9223372036854775808 ≤ n → n < 9223372036854775808 → -(64 * 128 ^ j) ≤ n → n < 64 * 128 ^ j → 2 * j + 2 ≤ k → j ≤ 100 → scarfref01_PutS.f k n = some (strOfNums (ps n)) := by
  intro j
  have small : ∀ (n : Int) (k : Nat), -64 ≤ n ∧ n < 64 → 2 ≤ k → scarfref01_PutS.f k n = some (strOfNums (ps n)) := by
    intro n k h hk
    obtain ⟨k, rfl⟩ : ∃ m, k = m + 2 := ⟨k - 2, by omega⟩
    simp only [scarfref01_PutS.f, scarfref01_PutS.j0]
    rw [if_pos (by omega), if_pos (by simp; omega), wrap64_id (by omega) (by omega), Int.tmod_eq_emod_of_nonneg (by omega), one_eq _ (by omega) (by omega), ps_small h, show (n + 128) % 128 = n % 128 by omega]
    rfl
  induction j with
  | zero =>
    intro n k _ _ h0 h1 hk _
    exact small n k (by omega) (by omega)
  | succ j ih =>
    intro n k hb0 hb1 h0 h1 hk hj
    by_cases h : -64 ≤ n ∧ n < 64
    · exact small n k h (by omega)
    · obtain ⟨k, rfl⟩ : ∃ m, k = m + 2 := ⟨k - 2, by omega⟩
      rw [Int.pow_succ] at h0 h1
      have e1 : wrap64 (128 + Int.tmod (wrap64 (Int.tmod n 128 + 128)) 128) = n % 128 + 128 := by
        have hm : Int.tmod n 128 = n % 128 ∨ Int.tmod n 128 = n % 128 - 128 := by
          rw [Int.tmod_eq_emod]
          split <;> simp <;> omega
        have : wrap64 (Int.tmod n 128 + 128) = Int.tmod n 128 + 128 := wrap64_id (by omega) (by omega)
        rw [this, Int.tmod_eq_emod_of_nonneg (by omega), wrap64_id (by omega) (by omega)]
        omega
      have hl : (ps (n / 128)).length ≤ j + 1 := ps_len j _ (by omega) (by omega)
      have go : ∀ b : Bool, b = false → scarfref01_PutS.j0 (k + 1) n b = some (strOfNums (ps n)) := by
        intro b hb
        subst hb
        simp only [scarfref01_PutS.j0]
        rw [if_neg (by simp), e1, one_eq _ (by omega) (by omega), floor_eq n hb0 hb1]
        simp only [Option.bind_some]
        rw [ih (n / 128) k (by omega) (by omega) (by omega) (by omega) (by omega) (by omega), ps_big h]
        simp only [Option.bind_some]
        rw [if_pos (by rw [strOfNums_size, strOfNums_size, List.length_singleton]; omega), ← strOfNums_append]
        rfl
      rw [scarfref01_PutS.f]
      by_cases h2 : n ≥ -64
      · rw [if_pos h2, go _ (by simp; omega)]
      · rw [if_neg h2, go _ rfl]

theorem rPutS_eq (n : Int) (h0 : -9223372036854775808 ≤ n) (h1 : n < 9223372036854775808) (k : Nat) (hk : 22 ≤ k) : scarfref01_PutS.f k n = some (strOfNums (ps n)) :=
  rPutS_eq' 9 n k h0 h1 (by omega) (by omega) (by omega) (by omega)

/-! ### the chapter's examples -/
theorem awake_eq (k : Nat) (hk : 20 ≤ k) : scarflaw01_awake.f k = some true := by
  have h : scarflaw01_awake.f 20 = some true := by decide +kernel
  exact at_rounds (g := fun k => scarflaw01_awake.f k) scarflaw01_awake.mono hk h
end Go.Proofs.Ytmoeibghjejneaa.LebF
