/- Layer 3: the places of a number's lowest and highest 1: the reference's search, the program's tables. -/
import Derived.Test.YtpoapiphnhmdmaaDoorNumB
namespace Go.Proofs.YtpoapiphnhmdmaaDoor.NumC
set_option linter.unusedVariables false
set_option linter.unusedSimpArgs false
open Go.RowKit Go.Proofs.YtpoapiphnhmdmaaDoor.PA Go.Proofs.YtpoapiphnhmdmaaDoorW.PrintWords Go.Proofs.YtpoapiphnhmdmaaDoorW.PrintLast Go.Proofs.YtpoapiphnhmdmaaDoorW.PrintMore
open Go.Proofs.YtpoapiphnhmdmaaDoor.NumA Go.Proofs.YtpoapiphnhmdmaaDoor.NumB

def zup : Nat → Int → Nat
  | 0, _ => 0
  | f + 1, x => if x % 2 = 1 then 0 else 1 + zup f (x / 2)
def zdn : Nat → Int → Nat
  | 0, _ => 0
  | f + 1, n => if bitZ n f = 1 then 0 else 1 + zdn f n
theorem div_pow_succ (n : Int) (j : Nat) : n / 2 ^ j / 2 = n / 2 ^ (j + 1) := by rw [Int.pow_succ, Int.ediv_ediv_of_nonneg (Int.le_of_lt (Int.pow_pos (by decide)))]
theorem zeros_up_l0 (n : Int) (w : Nat) (hw : w ≤ 64) : ∀ (d j k : Nat), j + d = w → d + 1 ≤ k → scarfref03_zeros.l0 k w true (bitsZ n w) j = some (((j + zup d (n / 2 ^ j) : Nat) : Int))
  | 0, j, k, hj, hk => by
    obtain ⟨k, rfl⟩ : ∃ k', k = k' + 1 := ⟨k - 1, by omega⟩
    obtain rfl : j = w := by omega
    rw [scarfref03_zeros.l0, if_neg (by omega), zup]; rfl
  | d + 1, j, k, hj, hk => by
    obtain ⟨k, rfl⟩ : ∃ k', k = k' + 1 := ⟨k - 1, by omega⟩
    have ih := zeros_up_l0 n w hw d (j + 1) k (by omega) (by omega)
    have hg : rd (bitsZ n w) (j : Int) = bitZ n j := by simp only [rd, Int.toNat_natCast]; exact bitsZ_get n w j (by omega)
    rw [scarfref03_zeros.l0, if_pos (by omega), if_pos rfl, if_pos (by omega), bitsZ_len, if_pos (by omega), hg, zup]
    by_cases h : n / 2 ^ j % 2 = 1
    · rw [if_pos (show bitZ n j = 1 from h), if_pos h]; rfl
    · rw [if_neg (show ¬ bitZ n j = 1 from h), if_neg h, show wrap64 ((j : Int) + 1) = ((j + 1 : Nat) : Int) by unfold wrap64; omega, ih, div_pow_succ]
      congr 2; omega
theorem zeros_dn_l0 (n : Int) (w : Nat) (hw : w ≤ 64) : ∀ (d j k : Nat), j + d = w → d + 1 ≤ k → scarfref03_zeros.l0 k w false (bitsZ n w) j = some (((j + zdn d n : Nat) : Int))
  | 0, j, k, hj, hk => by
    obtain ⟨k, rfl⟩ : ∃ k', k = k' + 1 := ⟨k - 1, by omega⟩
    obtain rfl : j = w := by omega
    rw [scarfref03_zeros.l0, if_neg (by omega), zdn]; rfl
  | d + 1, j, k, hj, hk => by
    obtain ⟨k, rfl⟩ : ∃ k', k = k' + 1 := ⟨k - 1, by omega⟩
    have ih := zeros_dn_l0 n w hw d (j + 1) k (by omega) (by omega)
    have hi : wrap64 (wrap64 ((w : Int) - 1) - (j : Int)) = (d : Int) := by unfold wrap64; omega
    have hg : rd (bitsZ n w) (d : Int) = bitZ n d := by simp only [rd, Int.toNat_natCast]; exact bitsZ_get n w d (by omega)
    rw [scarfref03_zeros.l0, if_pos (by omega), if_neg (by decide), hi, if_pos (by omega), bitsZ_len, if_pos (by omega), hg, zdn]
    by_cases h : bitZ n d = 1
    · rw [if_pos h, if_pos h]; rfl
    · rw [if_neg h, if_neg h, show wrap64 ((j : Int) + 1) = ((j + 1 : Nat) : Int) by unfold wrap64; omega, ih]
      congr 2; omega
theorem zeros_up (n : Int) (w k : Nat) (hw : w ≤ 64) (hk : 65 ≤ k) : scarfref03_zeros.f k n w true = some ((zup w n : Nat) : Int) := by
  have := zeros_up_l0 n w hw w 0 k (by omega) (by omega)
  rw [show n / 2 ^ 0 = n by simp, Nat.zero_add] at this
  rw [scarfref03_zeros.f, list_at n w k hw hk, Option.bind_some]
  exact this
theorem zeros_dn (n : Int) (w k : Nat) (hw : w ≤ 64) (hk : 65 ≤ k) : scarfref03_zeros.f k n w false = some ((zdn w n : Nat) : Int) := by
  have := zeros_dn_l0 n w hw w 0 k (by omega) (by omega)
  rw [Nat.zero_add] at this
  rw [scarfref03_zeros.f, list_at n w k hw hk, Option.bind_some]
  exact this

/-! ### from the lowest on -/
theorem mod_half (x : Int) (f : Nat) : x % 2 ^ (f + 1) % 2 = x % 2 ∧ x % 2 ^ (f + 1) / 2 = x / 2 % 2 ^ f := by
  have hp : (0 : Int) < 2 ^ f := Int.pow_pos (by decide)
  have h1 := Int.mul_ediv_add_emod (x / 2) (2 ^ f)
  have h2 := Int.emod_nonneg (x / 2) (show (2 : Int) ^ f ≠ 0 by omega)
  have h3 := Int.emod_lt_of_pos (x / 2) hp
  have hb : x % 2 = 0 ∨ x % 2 = 1 := by omega
  have e : x = (2 * (x / 2 % 2 ^ f) + x % 2) + 2 ^ (f + 1) * (x / 2 / 2 ^ f) := by
    rw [Int.pow_succ]
    have : 2 ^ f * 2 * (x / 2 / 2 ^ f) = 2 * (2 ^ f * (x / 2 / 2 ^ f)) := by rw [Int.mul_comm (2 ^ f) 2, Int.mul_assoc]
    omega
  have hlt : 2 * (x / 2 % 2 ^ f) + x % 2 < 2 ^ (f + 1) := by rw [Int.pow_succ]; omega
  have : x % 2 ^ (f + 1) = 2 * (x / 2 % 2 ^ f) + x % 2 := by
    conv => lhs; rw [e, Int.add_mul_emod_self_left]
    exact Int.emod_eq_of_lt (by omega) hlt
  rw [this]
  omega
theorem zup_ctz : ∀ (f : Nat) (x : Int), zup f x = Lib.ctzFrom f (x % 2 ^ f).toNat
  | 0, x => rfl
  | f + 1, x => by
    obtain ⟨h1, h2⟩ := mod_half x f
    have h0 := Int.emod_nonneg x (show (2 : Int) ^ (f + 1) ≠ 0 from Int.ne_of_gt (Int.pow_pos (by decide)))
    have ih := zup_ctz f (x / 2)
    generalize x % 2 ^ (f + 1) = m at *
    rw [zup, Lib.ctzFrom, ih, ← h2]
    by_cases h : x % 2 = 1
    · rw [if_pos h, if_pos (by omega)]
    · rw [if_neg h, if_neg (by omega), show (m / 2).toNat = m.toNat / 2 by omega]
theorem ctz_zup (w : Nat) (x : Int) : Lib.ctz w (x % 2 ^ w).toNat = zup w x := by
  rw [zup_ctz, Lib.ctz]
  split
  · rename_i h; rw [h]
    clear h
    induction w with
    | zero => rfl
    | succ w ih => rw [Lib.ctzFrom, if_neg (by decide), Nat.zero_div, ← ih]; omega
  · rfl

/-! ### from the highest on -/
def isLen (x L : Nat) : Prop := x < 2 ^ L ∧ (L = 0 ∨ 2 ^ (L - 1) ≤ x)
instance (x L : Nat) : Decidable (isLen x L) := inferInstanceAs (Decidable (_ ∧ _))
theorem isLen_uniq {x L M : Nat} (h : isLen x L) (g : isLen x M) : L = M := by
  have : ∀ {x L M : Nat}, isLen x L → isLen x M → L ≤ M := by
    intro x L M h g
    rcases Nat.lt_or_ge M L with hlt | hge
    · exfalso
      rcases h.2 with h2 | h2
      · omega
      · have : 2 ^ M ≤ 2 ^ (L - 1) := Nat.pow_le_pow_right (by decide) (by omega)
        have := g.1
        omega
    · exact hge
  exact Nat.le_antisymm (this h g) (this g h)
theorem isLen_shift {x L : Nat} (s : Nat) (h : isLen (x / 2 ^ s) L) (hL : 1 ≤ L) : isLen x (L + s) := by
  have hp : 0 < 2 ^ s := Nat.pow_pos (by decide)
  constructor
  · rw [Nat.pow_add]; exact (Nat.div_lt_iff_lt_mul hp).1 h.1
  · right
    rcases h.2 with h2 | h2
    · omega
    · rw [show L + s - 1 = L - 1 + s by omega, Nat.pow_add]; exact (Nat.le_div_iff_mul_le hp).1 h2
theorem zdn_len : ∀ (f : Nat) (n : Int) (L : Nat), isLen (n % 2 ^ f).toNat L → L ≤ f ∧ zdn f n = f - L
  | 0, n, L, h => by
    have e : (n % 2 ^ 0).toNat = 0 := by simp
    rw [e] at h
    have : L = 0 := isLen_uniq h ⟨by decide, Or.inl rfl⟩
    subst this; exact ⟨Nat.le_refl _, rfl⟩
  | f + 1, n, L, h => by
    have hp : (0 : Int) < 2 ^ f := Int.pow_pos (by decide)
    have h2 := Int.emod_nonneg n (show (2 : Int) ^ f ≠ 0 by omega)
    have h3 := Int.emod_lt_of_pos n hp
    have hc : ((2 ^ f : Nat) : Int) = 2 ^ f := by simp
    have ih := zdn_len f n
    rw [mod_succ] at h
    rw [zdn]
    rcases bitZ_01 n f with hb | hb
    · rw [if_neg (by omega)]
      rw [hb, Int.mul_zero, Int.add_zero] at h
      have := ih L h
      omega
    · rw [if_pos hb]
      rw [hb, Int.mul_one] at h
      have : L = f + 1 := by
        refine isLen_uniq h ⟨?_, Or.inr ?_⟩
        · rw [Nat.pow_succ]; omega
        · rw [Nat.add_sub_cancel]; omega
      omega

theorem tab (y : Int) (h0 : 0 ≤ y) (h1 : y < 256) : ∃ L : Nat, bt (⟨#[0, 1, 2, 2, 3, 3, 3, 3, 4, 4, 4, 4, 4, 4, 4, 4, 5, 5, 5, 5, 5, 5, 5, 5, 5, 5, 5, 5, 5, 5, 5, 5, 6, 6, 6, 6, 6, 6, 6, 6, 6, 6, 6, 6, 6, 6, 6, 6, 6, 6, 6, 6, 6, 6, 6, 6, 6, 6, 6, 6, 6, 6, 6, 6, 7, 7, 7, 7, 7, 7, 7, 7, 7, 7, 7, 7, 7, 7, 7, 7, 7, 7, 7, 7, 7, 7, 7, 7, 7, 7, 7, 7, 7, 7, 7, 7, 7, 7, 7, 7, 7, 7, 7, 7, 7, 7, 7, 7, 7, 7, 7, 7, 7, 7, 7, 7, 7, 7, 7, 7, 7, 7, 7, 7, 7, 7, 7, 7, 8, 8, 8, 8, 8, 8, 8, 8, 8, 8, 8, 8, 8, 8, 8, 8, 8, 8, 8, 8, 8, 8, 8, 8, 8, 8, 8, 8, 8, 8, 8, 8, 8, 8, 8, 8, 8, 8, 8, 8, 8, 8, 8, 8, 8, 8, 8, 8, 8, 8, 8, 8, 8, 8, 8, 8, 8, 8, 8, 8, 8, 8, 8, 8, 8, 8, 8, 8, 8, 8, 8, 8, 8, 8, 8, 8, 8, 8, 8, 8, 8, 8, 8, 8, 8, 8, 8, 8, 8, 8, 8, 8, 8, 8, 8, 8, 8, 8, 8, 8, 8, 8, 8, 8, 8, 8, 8, 8, 8, 8, 8, 8, 8, 8, 8, 8, 8, 8, 8, 8, 8, 8, 8, 8, 8, 8, 8, 8]⟩ : ByteArray) y = (L : Int) ∧ isLen y.toNat L ∧ L ≤ 8 := by
  have h : ∀ y : Fin 256, bt (⟨#[0, 1, 2, 2, 3, 3, 3, 3, 4, 4, 4, 4, 4, 4, 4, 4, 5, 5, 5, 5, 5, 5, 5, 5, 5, 5, 5, 5, 5, 5, 5, 5, 6, 6, 6, 6, 6, 6, 6, 6, 6, 6, 6, 6, 6, 6, 6, 6, 6, 6, 6, 6, 6, 6, 6, 6, 6, 6, 6, 6, 6, 6, 6, 6, 7, 7, 7, 7, 7, 7, 7, 7, 7, 7, 7, 7, 7, 7, 7, 7, 7, 7, 7, 7, 7, 7, 7, 7, 7, 7, 7, 7, 7, 7, 7, 7, 7, 7, 7, 7, 7, 7, 7, 7, 7, 7, 7, 7, 7, 7, 7, 7, 7, 7, 7, 7, 7, 7, 7, 7, 7, 7, 7, 7, 7, 7, 7, 7, 8, 8, 8, 8, 8, 8, 8, 8, 8, 8, 8, 8, 8, 8, 8, 8, 8, 8, 8, 8, 8, 8, 8, 8, 8, 8, 8, 8, 8, 8, 8, 8, 8, 8, 8, 8, 8, 8, 8, 8, 8, 8, 8, 8, 8, 8, 8, 8, 8, 8, 8, 8, 8, 8, 8, 8, 8, 8, 8, 8, 8, 8, 8, 8, 8, 8, 8, 8, 8, 8, 8, 8, 8, 8, 8, 8, 8, 8, 8, 8, 8, 8, 8, 8, 8, 8, 8, 8, 8, 8, 8, 8, 8, 8, 8, 8, 8, 8, 8, 8, 8, 8, 8, 8, 8, 8, 8, 8, 8, 8, 8, 8, 8, 8, 8, 8, 8, 8, 8, 8, 8, 8, 8, 8, 8, 8, 8, 8]⟩ : ByteArray) (y.val : Int) = (((bt (⟨#[0, 1, 2, 2, 3, 3, 3, 3, 4, 4, 4, 4, 4, 4, 4, 4, 5, 5, 5, 5, 5, 5, 5, 5, 5, 5, 5, 5, 5, 5, 5, 5, 6, 6, 6, 6, 6, 6, 6, 6, 6, 6, 6, 6, 6, 6, 6, 6, 6, 6, 6, 6, 6, 6, 6, 6, 6, 6, 6, 6, 6, 6, 6, 6, 7, 7, 7, 7, 7, 7, 7, 7, 7, 7, 7, 7, 7, 7, 7, 7, 7, 7, 7, 7, 7, 7, 7, 7, 7, 7, 7, 7, 7, 7, 7, 7, 7, 7, 7, 7, 7, 7, 7, 7, 7, 7, 7, 7, 7, 7, 7, 7, 7, 7, 7, 7, 7, 7, 7, 7, 7, 7, 7, 7, 7, 7, 7, 7, 8, 8, 8, 8, 8, 8, 8, 8, 8, 8, 8, 8, 8, 8, 8, 8, 8, 8, 8, 8, 8, 8, 8, 8, 8, 8, 8, 8, 8, 8, 8, 8, 8, 8, 8, 8, 8, 8, 8, 8, 8, 8, 8, 8, 8, 8, 8, 8, 8, 8, 8, 8, 8, 8, 8, 8, 8, 8, 8, 8, 8, 8, 8, 8, 8, 8, 8, 8, 8, 8, 8, 8, 8, 8, 8, 8, 8, 8, 8, 8, 8, 8, 8, 8, 8, 8, 8, 8, 8, 8, 8, 8, 8, 8, 8, 8, 8, 8, 8, 8, 8, 8, 8, 8, 8, 8, 8, 8, 8, 8, 8, 8, 8, 8, 8, 8, 8, 8, 8, 8, 8, 8, 8, 8, 8, 8, 8, 8]⟩ : ByteArray) (y.val : Int)).toNat : Nat) : Int) ∧ isLen y.val (bt (⟨#[0, 1, 2, 2, 3, 3, 3, 3, 4, 4, 4, 4, 4, 4, 4, 4, 5, 5, 5, 5, 5, 5, 5, 5, 5, 5, 5, 5, 5, 5, 5, 5, 6, 6, 6, 6, 6, 6, 6, 6, 6, 6, 6, 6, 6, 6, 6, 6, 6, 6, 6, 6, 6, 6, 6, 6, 6, 6, 6, 6, 6, 6, 6, 6, 7, 7, 7, 7, 7, 7, 7, 7, 7, 7, 7, 7, 7, 7, 7, 7, 7, 7, 7, 7, 7, 7, 7, 7, 7, 7, 7, 7, 7, 7, 7, 7, 7, 7, 7, 7, 7, 7, 7, 7, 7, 7, 7, 7, 7, 7, 7, 7, 7, 7, 7, 7, 7, 7, 7, 7, 7, 7, 7, 7, 7, 7, 7, 7, 8, 8, 8, 8, 8, 8, 8, 8, 8, 8, 8, 8, 8, 8, 8, 8, 8, 8, 8, 8, 8, 8, 8, 8, 8, 8, 8, 8, 8, 8, 8, 8, 8, 8, 8, 8, 8, 8, 8, 8, 8, 8, 8, 8, 8, 8, 8, 8, 8, 8, 8, 8, 8, 8, 8, 8, 8, 8, 8, 8, 8, 8, 8, 8, 8, 8, 8, 8, 8, 8, 8, 8, 8, 8, 8, 8, 8, 8, 8, 8, 8, 8, 8, 8, 8, 8, 8, 8, 8, 8, 8, 8, 8, 8, 8, 8, 8, 8, 8, 8, 8, 8, 8, 8, 8, 8, 8, 8, 8, 8, 8, 8, 8, 8, 8, 8, 8, 8, 8, 8, 8, 8, 8, 8, 8, 8, 8, 8]⟩ : ByteArray) (y.val : Int)).toNat ∧ (bt (⟨#[0, 1, 2, 2, 3, 3, 3, 3, 4, 4, 4, 4, 4, 4, 4, 4, 5, 5, 5, 5, 5, 5, 5, 5, 5, 5, 5, 5, 5, 5, 5, 5, 6, 6, 6, 6, 6, 6, 6, 6, 6, 6, 6, 6, 6, 6, 6, 6, 6, 6, 6, 6, 6, 6, 6, 6, 6, 6, 6, 6, 6, 6, 6, 6, 7, 7, 7, 7, 7, 7, 7, 7, 7, 7, 7, 7, 7, 7, 7, 7, 7, 7, 7, 7, 7, 7, 7, 7, 7, 7, 7, 7, 7, 7, 7, 7, 7, 7, 7, 7, 7, 7, 7, 7, 7, 7, 7, 7, 7, 7, 7, 7, 7, 7, 7, 7, 7, 7, 7, 7, 7, 7, 7, 7, 7, 7, 7, 7, 8, 8, 8, 8, 8, 8, 8, 8, 8, 8, 8, 8, 8, 8, 8, 8, 8, 8, 8, 8, 8, 8, 8, 8, 8, 8, 8, 8, 8, 8, 8, 8, 8, 8, 8, 8, 8, 8, 8, 8, 8, 8, 8, 8, 8, 8, 8, 8, 8, 8, 8, 8, 8, 8, 8, 8, 8, 8, 8, 8, 8, 8, 8, 8, 8, 8, 8, 8, 8, 8, 8, 8, 8, 8, 8, 8, 8, 8, 8, 8, 8, 8, 8, 8, 8, 8, 8, 8, 8, 8, 8, 8, 8, 8, 8, 8, 8, 8, 8, 8, 8, 8, 8, 8, 8, 8, 8, 8, 8, 8, 8, 8, 8, 8, 8, 8, 8, 8, 8, 8, 8, 8, 8, 8, 8, 8, 8, 8]⟩ : ByteArray) (y.val : Int)).toNat ≤ 8 := by decide +kernel
  generalize (⟨#[0, 1, 2, 2, 3, 3, 3, 3, 4, 4, 4, 4, 4, 4, 4, 4, 5, 5, 5, 5, 5, 5, 5, 5, 5, 5, 5, 5, 5, 5, 5, 5, 6, 6, 6, 6, 6, 6, 6, 6, 6, 6, 6, 6, 6, 6, 6, 6, 6, 6, 6, 6, 6, 6, 6, 6, 6, 6, 6, 6, 6, 6, 6, 6, 7, 7, 7, 7, 7, 7, 7, 7, 7, 7, 7, 7, 7, 7, 7, 7, 7, 7, 7, 7, 7, 7, 7, 7, 7, 7, 7, 7, 7, 7, 7, 7, 7, 7, 7, 7, 7, 7, 7, 7, 7, 7, 7, 7, 7, 7, 7, 7, 7, 7, 7, 7, 7, 7, 7, 7, 7, 7, 7, 7, 7, 7, 7, 7, 8, 8, 8, 8, 8, 8, 8, 8, 8, 8, 8, 8, 8, 8, 8, 8, 8, 8, 8, 8, 8, 8, 8, 8, 8, 8, 8, 8, 8, 8, 8, 8, 8, 8, 8, 8, 8, 8, 8, 8, 8, 8, 8, 8, 8, 8, 8, 8, 8, 8, 8, 8, 8, 8, 8, 8, 8, 8, 8, 8, 8, 8, 8, 8, 8, 8, 8, 8, 8, 8, 8, 8, 8, 8, 8, 8, 8, 8, 8, 8, 8, 8, 8, 8, 8, 8, 8, 8, 8, 8, 8, 8, 8, 8, 8, 8, 8, 8, 8, 8, 8, 8, 8, 8, 8, 8, 8, 8, 8, 8, 8, 8, 8, 8, 8, 8, 8, 8, 8, 8, 8, 8, 8, 8, 8, 8, 8, 8]⟩ : ByteArray) = T at h ⊢
  have := h ⟨y.toNat, by omega⟩
  simp only at this
  rw [show ((y.toNat : Nat) : Int) = y by omega] at this
  exact ⟨_, this⟩
theorem len32 (x : Int) (h0 : 0 ≤ x) (h1 : x < 4294967296) : ∃ L : Nat, bits_Len32.f x = some (L : Int) ∧ isLen x.toNat L ∧ L ≤ 32 := by
  unfold bits_Len32.f
  by_cases c1 : x ≥ 65536
  · rw [if_pos c1]
    by_cases c2 : x / 65536 ≥ 256
    · rw [if_pos c2]
      obtain ⟨L, e, hL, hm⟩ := tab (x / 65536 / 256 % 256) (by omega) (by omega)
      refine ⟨L + 24, ?_, ?_, by omega⟩
      · rw [if_pos (by omega), if_pos (by omega), e]; simp only [wrap64, Option.some.injEq]; omega
      · have e2 : (x / 65536 / 256 % 256).toNat = x.toNat / 2 ^ 24 := by omega
        rw [e2] at hL
        refine isLen_shift 24 hL ?_
        rcases Nat.eq_zero_or_pos L with h | h
        · subst h; have := hL.1; omega
        · exact h
    · rw [if_neg c2]
      obtain ⟨L, e, hL, hm⟩ := tab (x / 65536 % 256) (by omega) (by omega)
      refine ⟨L + 16, ?_, ?_, by omega⟩
      · rw [if_pos (by omega), if_pos (by omega), e]; simp only [wrap64, Option.some.injEq]; omega
      · have e2 : (x / 65536 % 256).toNat = x.toNat / 2 ^ 16 := by omega
        rw [e2] at hL
        refine isLen_shift 16 hL ?_
        rcases Nat.eq_zero_or_pos L with h | h
        · subst h; have := hL.1; omega
        · exact h
  · rw [if_neg c1]
    by_cases c2 : x ≥ 256
    · rw [if_pos c2]
      obtain ⟨L, e, hL, hm⟩ := tab (x / 256 % 256) (by omega) (by omega)
      refine ⟨L + 8, ?_, ?_, by omega⟩
      · rw [if_pos (by omega), if_pos (by omega), e]; simp only [wrap64, Option.some.injEq]; omega
      · have e2 : (x / 256 % 256).toNat = x.toNat / 2 ^ 8 := by omega
        rw [e2] at hL
        refine isLen_shift 8 hL ?_
        rcases Nat.eq_zero_or_pos L with h | h
        · subst h; have := hL.1; omega
        · exact h
    · rw [if_neg c2]
      obtain ⟨L, e, hL, hm⟩ := tab (x % 256) (by omega) (by omega)
      refine ⟨L, ?_, ?_, by omega⟩
      · rw [if_pos (by omega), if_pos (by omega), e]; simp only [wrap64, Option.some.injEq]; omega
      · rwa [show (x % 256).toNat = x.toNat by omega] at hL
theorem len64_j0 (x : Int) (k : Nat) (z : Nat) (hz : z ≤ 32) (h0 : 0 ≤ x) (h1 : x < 4294967296) : ∃ L : Nat, bits_Len64.j0 (k + 1) x z = some (((L + z : Nat) : Int)) ∧ isLen x.toNat L ∧ L ≤ 32 := by
  rw [bits_Len64.j0]
  by_cases c1 : x ≥ 65536
  · rw [if_pos c1]
    by_cases c2 : x / 65536 ≥ 256
    · rw [if_pos c2]
      obtain ⟨L, e, hL, hm⟩ := tab (x / 65536 / 256 % 256) (by omega) (by omega)
      refine ⟨L + 24, ?_, ?_, by omega⟩
      · rw [if_pos (by omega), if_pos (by omega), e]; simp only [wrap64, Option.some.injEq]; omega
      · have e2 : (x / 65536 / 256 % 256).toNat = x.toNat / 2 ^ 24 := by omega
        rw [e2] at hL
        refine isLen_shift 24 hL ?_
        rcases Nat.eq_zero_or_pos L with h | h
        · subst h; have := hL.1; omega
        · exact h
    · rw [if_neg c2]
      obtain ⟨L, e, hL, hm⟩ := tab (x / 65536 % 256) (by omega) (by omega)
      refine ⟨L + 16, ?_, ?_, by omega⟩
      · rw [if_pos (by omega), if_pos (by omega), e]; simp only [wrap64, Option.some.injEq]; omega
      · have e2 : (x / 65536 % 256).toNat = x.toNat / 2 ^ 16 := by omega
        rw [e2] at hL
        refine isLen_shift 16 hL ?_
        rcases Nat.eq_zero_or_pos L with h | h
        · subst h; have := hL.1; omega
        · exact h
  · rw [if_neg c1]
    by_cases c2 : x ≥ 256
    · rw [if_pos c2]
      obtain ⟨L, e, hL, hm⟩ := tab (x / 256 % 256) (by omega) (by omega)
      refine ⟨L + 8, ?_, ?_, by omega⟩
      · rw [if_pos (by omega), if_pos (by omega), e]; simp only [wrap64, Option.some.injEq]; omega
      · have e2 : (x / 256 % 256).toNat = x.toNat / 2 ^ 8 := by omega
        rw [e2] at hL
        refine isLen_shift 8 hL ?_
        rcases Nat.eq_zero_or_pos L with h | h
        · subst h; have := hL.1; omega
        · exact h
    · rw [if_neg c2]
      obtain ⟨L, e, hL, hm⟩ := tab (x % 256) (by omega) (by omega)
      refine ⟨L, ?_, ?_, by omega⟩
      · rw [if_pos (by omega), if_pos (by omega), e]; simp only [wrap64, Option.some.injEq]; omega
      · rwa [show (x % 256).toNat = x.toNat by omega] at hL
theorem len64 (x : Int) (k : Nat) (h0 : 0 ≤ x) (h1 : x < 18446744073709551616) : ∃ L : Nat, bits_Len64.f (k + 1) x = some (L : Int) ∧ isLen x.toNat L ∧ L ≤ 64 := by
  unfold bits_Len64.f
  by_cases c : x ≥ 4294967296
  · rw [if_pos c]
    obtain ⟨L, e, hL, hm⟩ := len64_j0 (x / 4294967296) k 32 (by decide) (by omega) (by omega)
    refine ⟨L + 32, e, ?_, by omega⟩
    rw [show (x / 4294967296).toNat = x.toNat / 2 ^ 32 by omega] at hL
    refine isLen_shift 32 hL ?_
    rcases Nat.eq_zero_or_pos L with h | h
    · subst h; have := hL.1; omega
    · exact h
  · rw [if_neg c]
    obtain ⟨L, e, hL, hm⟩ := len64_j0 x k 0 (by decide) (by omega) (by omega)
    exact ⟨L, e, hL, by omega⟩
theorem lead32 (x : Int) : bits_LeadingZeros32.f (x % 4294967296) = some ((zdn 32 x : Nat) : Int) := by
  obtain ⟨L, e, hL, hm⟩ := len32 (x % 4294967296) (by omega) (by omega)
  have := (zdn_len 32 x L hL).2
  rw [bits_LeadingZeros32.f, e, Option.bind_some, this]
  simp only [wrap64, Option.some.injEq]; omega
theorem lead64 (x : Int) (k : Nat) : bits_LeadingZeros64.f (k + 1) (x % 18446744073709551616) = some ((zdn 64 x : Nat) : Int) := by
  obtain ⟨L, e, hL, hm⟩ := len64 (x % 18446744073709551616) k (by omega) (by omega)
  have := (zdn_len 64 x L hL).2
  rw [bits_LeadingZeros64.f, e, Option.bind_some, this]
  simp only [wrap64, Option.some.injEq]; omega
theorem trail32 (x : Int) : bits_TrailingZeros32.f (x % 4294967296) = some ((zup 32 x : Nat) : Int) := by
  rw [bits_TrailingZeros32.f, if_pos (by omega), if_pos (by omega)]
  exact congrArg (fun z : Nat => some (z : Int)) (ctz_zup 32 x)
theorem trail64 (x : Int) : bits_TrailingZeros64.f (x % 18446744073709551616) = some ((zup 64 x : Nat) : Int) := by
  rw [bits_TrailingZeros64.f, if_pos (by omega), if_pos (by omega)]
  exact congrArg (fun z : Nat => some (z : Int)) (ctz_zup 64 x)
end Go.Proofs.YtpoapiphnhmdmaaDoor.NumC
