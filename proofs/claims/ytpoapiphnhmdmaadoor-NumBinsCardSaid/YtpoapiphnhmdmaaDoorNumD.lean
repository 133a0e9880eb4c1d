/- Layer 3: how many bits are 1: the program's sums over all bytes at once, the reference's list. -/
import Derived.Test.YtpoapiphnhmdmaaDoorNumC
namespace Go.Proofs.YtpoapiphnhmdmaaDoor.NumD
set_option linter.unusedVariables false
set_option linter.unusedSimpArgs false
open Go.RowKit Go.Proofs.YtpoapiphnhmdmaaDoor.PA Go.Proofs.YtpoapiphnhmdmaaDoorW.PrintWords Go.Proofs.YtpoapiphnhmdmaaDoorW.PrintLast Go.Proofs.YtpoapiphnhmdmaaDoorW.PrintMore
open Go.Proofs.YtpoapiphnhmdmaaDoor.NumA Go.Proofs.YtpoapiphnhmdmaaDoor.NumB Go.Proofs.YtpoapiphnhmdmaaDoor.NumC

theorem and_byte (h l M m : Nat) (hl : l < 256) (hm : m < 256) : (h * 256 + l) &&& (M * 256 + m) = (h &&& M) * 256 + (l &&& m) := by
  have h1 : ((h * 256 + l) &&& (M * 256 + m)) / 2 ^ 8 = h &&& M := by
    rw [Nat.and_div_two_pow]; congr 1 <;> omega
  have h2 : ((h * 256 + l) &&& (M * 256 + m)) % 2 ^ 8 = l &&& m := by
    rw [Nat.and_mod_two_pow]; congr 1 <;> omega
  have := Nat.div_add_mod ((h * 256 + l) &&& (M * 256 + m)) (2 ^ 8)
  omega
def hor : List Nat → Nat
  | [] => 0
  | b :: l => hor l * 256 + b
def msk (m : Nat) : Nat → Nat
  | 0 => 0
  | k + 1 => msk m k * 256 + m
def b1 (b : Nat) : Nat := (b / 2 &&& 85) + (b &&& 85)
def b2 (b : Nat) : Nat := (b / 4 &&& 51) + (b &&& 51)
def b3 (b : Nat) : Nat := (b / 16 + b) &&& 15
def popN (b : Nat) : Nat := b % 2 + b / 2 % 2 + b / 4 % 2 + b / 8 % 2 + b / 16 % 2 + b / 32 % 2 + b / 64 % 2 + b / 128 % 2
theorem b1_lt : ∀ b : Fin 256, b1 b.val < 256 ∧ (128 + b.val / 2) &&& 85 = b.val / 2 &&& 85 := by decide +kernel
theorem b2_lt : ∀ b : Fin 256, b2 b.val < 256 ∧ b2 b.val % 16 ≤ 4 + 9 * 1 ∧ (64 + b.val / 4) &&& 51 = b.val / 4 &&& 51 ∧ (128 + b.val / 4) &&& 51 = b.val / 4 &&& 51 ∧ (192 + b.val / 4) &&& 51 = b.val / 4 &&& 51 := by decide +kernel
theorem b_all : ∀ b : Fin 256, b2 (b1 b.val) % 16 ≤ 4 ∧ b2 (b1 b.val) / 16 ≤ 4 ∧ b3 (b2 (b1 b.val)) = popN b.val := by decide +kernel
theorem s1 : ∀ l : List Nat, (∀ b ∈ l, b < 256) → (hor l / 2 &&& msk 85 l.length) + (hor l &&& msk 85 l.length) = hor (l.map b1)
  | [], _ => by simp [hor, msk]
  | b :: l, h => by
    have hb := h b (List.mem_cons_self ..)
    have ih := s1 l (fun x hx => h x (List.mem_cons_of_mem _ hx))
    obtain ⟨_, h2⟩ := b1_lt ⟨b, hb⟩
    simp only at h2
    have e : (hor l * 256 + b) / 2 = hor l / 2 * 256 + (hor l % 2 * 128 + b / 2) := by omega
    have e2 : (hor l % 2 * 128 + b / 2) &&& 85 = b / 2 &&& 85 := by
      rcases Nat.mod_two_eq_zero_or_one (hor l) with h | h <;> rw [h]
      · simp
      · exact h2
    simp only [hor, msk, List.length_cons, List.map_cons]
    rw [e, and_byte _ _ _ _ (by omega) (by decide), and_byte _ _ _ _ hb (by decide), e2, ← ih, b1]
    omega
theorem s2 : ∀ l : List Nat, (∀ b ∈ l, b < 256) → (hor l / 4 &&& msk 51 l.length) + (hor l &&& msk 51 l.length) = hor (l.map b2)
  | [], _ => by simp [hor, msk]
  | b :: l, h => by
    have hb := h b (List.mem_cons_self ..)
    have ih := s2 l (fun x hx => h x (List.mem_cons_of_mem _ hx))
    obtain ⟨_, _, h2, h3, h4⟩ := b2_lt ⟨b, hb⟩
    simp only at h2 h3 h4
    have e : (hor l * 256 + b) / 4 = hor l / 4 * 256 + (hor l % 4 * 64 + b / 4) := by omega
    have e2 : (hor l % 4 * 64 + b / 4) &&& 51 = b / 4 &&& 51 := by
      have h : hor l % 4 = 0 ∨ hor l % 4 = 1 ∨ hor l % 4 = 2 ∨ hor l % 4 = 3 := by omega
      rcases h with h | h | h | h <;> rw [h]
      · simp
      · exact h2
      · exact h3
      · exact h4
    simp only [hor, msk, List.length_cons, List.map_cons]
    rw [e, and_byte _ _ _ _ (by omega) (by decide), and_byte _ _ _ _ hb (by decide), e2, ← ih, b2]
    omega
theorem s3 : ∀ l : List Nat, (∀ b ∈ l, b % 16 ≤ 4 ∧ b / 16 ≤ 4) → (hor l / 16 + hor l) &&& msk 15 l.length = hor (l.map b3)
  | [], _ => by simp [hor, msk]
  | b :: l, h => by
    have hb := h b (List.mem_cons_self ..)
    have ih := s3 l (fun x hx => h x (List.mem_cons_of_mem _ hx))
    have hn : hor l % 16 ≤ 4 := by
      cases l with
      | nil => simp [hor]
      | cons c l => have := h c (List.mem_cons_of_mem _ (List.mem_cons_self ..)); simp only [hor]; omega
    have e : (hor l * 256 + b) / 16 + (hor l * 256 + b) = (hor l / 16 + hor l) * 256 + (hor l % 16 * 16 + (b / 16 + b)) := by omega
    have e2 : (hor l % 16 * 16 + (b / 16 + b)) &&& 15 = (b / 16 + b) &&& 15 := by
      rw [show (15 : Nat) = 2 ^ 4 - 1 by decide, Nat.and_two_pow_sub_one_eq_mod, Nat.and_two_pow_sub_one_eq_mod]; omega
    simp only [hor, msk, List.length_cons, List.map_cons]
    rw [e, and_byte _ _ _ _ (by omega) (by decide), e2, ih, b3]

def byte (x i : Nat) : Nat := x / 256 ^ i % 256
theorem hor8 (x : Nat) (hx : x < 18446744073709551616) : hor [byte x 0, byte x 1, byte x 2, byte x 3, byte x 4, byte x 5, byte x 6, byte x 7] = x := by
  simp only [hor, byte, Nat.reducePow]
  omega
theorem oc5 (H L : Nat) (hL : L < 65536) (hb : H * 65536 + L + H < 18446744073709551616) : oc_s5 ((H * 65536 + L : Nat) : Int) = ((H * 65536 + L + H : Nat) : Int) := by
  rw [oc_s5, tz_wrap_u64]; omega
theorem oc67 (H L : Nat) (hL : L < 4294967296) (hb : H * 4294967296 + L + H < 9223372036854775808) : oc_s7 (oc_s6 ((H * 4294967296 + L : Nat) : Int)) = (((L + H) % 128 : Nat) : Int) := by
  rw [oc_s6, tz_wrap_u64, oc_s7, Go.i64_and127]
  unfold wrap64
  omega
theorem ones_sum (x : Nat) (hx : x < 18446744073709551616) :
    bits_OnesCount64.f (x : Int) = some ((popN (byte x 0) + popN (byte x 1) + popN (byte x 2) + popN (byte x 3) + popN (byte x 4) + popN (byte x 5) + popN (byte x 6) + popN (byte x 7) : Nat) : Int) := by
  have hbyte : ∀ i, byte x i < 256 := fun i => Nat.mod_lt _ (by decide)
  have hx8 := hor8 x hx
  have hall : ∀ b ∈ [byte x 0, byte x 1, byte x 2, byte x 3, byte x 4, byte x 5, byte x 6, byte x 7], b < 256 := by
    intro b hb
    simp only [List.mem_cons, List.not_mem_nil, or_false] at hb
    rcases hb with rfl | rfl | rfl | rfl | rfl | rfl | rfl | rfl <;> exact hbyte _
  generalize hl : [byte x 0, byte x 1, byte x 2, byte x 3, byte x 4, byte x 5, byte x 6, byte x 7] = l at hx8 hall
  have hlen : l.length = 8 := by rw [← hl]; rfl
  have hb1 : ∀ b ∈ l.map b1, b < 256 := by
    intro b hb
    obtain ⟨c, hc, rfl⟩ := List.mem_map.1 hb
    exact (b1_lt ⟨c, hall c hc⟩).1
  have hb2 : ∀ b ∈ (l.map b1).map b2, b % 16 ≤ 4 ∧ b / 16 ≤ 4 := by
    intro b hb
    obtain ⟨c', hc', rfl⟩ := List.mem_map.1 hb
    obtain ⟨c, hc, rfl⟩ := List.mem_map.1 hc'
    have := b_all ⟨c, hall c hc⟩
    exact ⟨this.1, this.2.1⟩
  have e1 := s1 l hall
  have e2 := s2 (l.map b1) hb1
  have e3 := s3 ((l.map b1).map b2) hb2
  have e4 : ((l.map b1).map b2).map b3 = l.map popN := by
    rw [List.map_map, List.map_map]
    refine List.map_congr_left fun c hc => ?_
    exact (b_all ⟨c, hall c hc⟩).2.2
  rw [e4] at e3
  simp only [List.length_map, hlen] at e1 e2 e3
  rw [hx8] at e1
  have m0 : msk 85 8 = 6148914691236517205 := by decide
  have m1 : msk 51 8 = 3689348814741910323 := by decide
  have m2 : msk 15 8 = 1085102592571150095 := by decide
  rw [m0] at e1
  rw [m1] at e2
  rw [m2] at e3
  have hb1' : hor (l.map b1) < 18446744073709551616 := by
    have : x &&& 6148914691236517205 ≤ 6148914691236517205 := Nat.and_le_right
    have : x / 2 &&& 6148914691236517205 ≤ 6148914691236517205 := Nat.and_le_right
    omega
  have hb2' : hor ((l.map b1).map b2) < 7378697629483820647 := by
    have : hor (l.map b1) &&& 3689348814741910323 ≤ 3689348814741910323 := Nat.and_le_right
    have : hor (l.map b1) / 4 &&& 3689348814741910323 ≤ 3689348814741910323 := Nat.and_le_right
    omega
  have t1 : oc_s1 (x : Int) = ((hor (l.map b1) : Nat) : Int) := by
    have := tz_and_u64 (x / 2) 6148914691236517205 (by omega) (by decide)
    have h2 := tz_and_u64 x 6148914691236517205 hx (by decide)
    simp only [Int.natCast_ediv, Int.cast_ofNat_Int] at this h2
    rw [oc_s1, this, h2, tz_wrap_u64]
    omega
  have t2 : oc_s2 ((hor (l.map b1) : Nat) : Int) = ((hor ((l.map b1).map b2) : Nat) : Int) := by
    generalize hor (l.map b1) = y at *
    have := tz_and_u64 (y / 4) 3689348814741910323 (by omega) (by decide)
    have h2 := tz_and_u64 y 3689348814741910323 hb1' (by decide)
    simp only [Int.natCast_ediv, Int.cast_ofNat_Int] at this h2
    rw [oc_s2, this, h2, tz_wrap_u64]
    omega
  have t3 : oc_s3 ((hor ((l.map b1).map b2) : Nat) : Int) = ((hor (l.map popN) : Nat) : Int) := by
    generalize hor ((l.map b1).map b2) = y at *
    have := tz_and_u64 (y / 16 + y) 1085102592571150095 (by omega) (by decide)
    simp only [Int.natCast_ediv, Int.natCast_add, Int.cast_ofNat_Int] at this
    rw [oc_s3, tz_wrap_u64, show ((y : Int) / 16 + y) % 18446744073709551616 = (y : Int) / 16 + y by omega, this]
    omega
  have hp : ∀ b, popN b ≤ 8 := by intro b; unfold popN; omega
  rw [bits_OnesCount64.f, t1, t2, t3, ← hl]
  simp only [List.map_cons, List.map_nil, hor]
  have p0 := hp (byte x 0); have p1 := hp (byte x 1); have p2 := hp (byte x 2); have p3 := hp (byte x 3)
  have p4 := hp (byte x 4); have p5 := hp (byte x 5); have p6 := hp (byte x 6); have p7 := hp (byte x 7)
  clear e1 e2 e3 e4 t1 t2 t3 hb1 hb2 hb1' hb2' hall hbyte hx8 hl hlen hp m0 m1 m2 hx
  generalize popN (byte x 0) = c0 at *
  generalize popN (byte x 1) = c1 at *
  generalize popN (byte x 2) = c2 at *
  generalize popN (byte x 3) = c3 at *
  generalize popN (byte x 4) = c4 at *
  generalize popN (byte x 5) = c5 at *
  generalize popN (byte x 6) = c6 at *
  generalize popN (byte x 7) = c7 at *
  have q4 : oc_s4 (((((((((0 * 256 + c7) * 256 + c6) * 256 + c5) * 256 + c4) * 256 + c3) * 256 + c2) * 256 + c1) * 256 + c0 : Nat) : Int) = (((((((((0 * 256 + c7) * 256 + (c6 + c7)) * 256 + (c5 + c6)) * 256 + (c4 + c5)) * 256 + (c3 + c4)) * 256 + (c2 + c3)) * 256 + (c1 + c2)) * 256 + (c0 + c1) : Nat) : Int) := by
    rw [oc_s4, tz_wrap_u64]; omega
  rw [q4, show ((((((((0 * 256 + c7) * 256 + (c6 + c7)) * 256 + (c5 + c6)) * 256 + (c4 + c5)) * 256 + (c3 + c4)) * 256 + (c2 + c3)) * 256 + (c1 + c2)) * 256 + (c0 + c1)) = ((((((c7 * 256 + (c6 + c7)) * 256 + (c5 + c6)) * 256 + (c4 + c5)) * 256 + (c3 + c4)) * 256 + (c2 + c3)) * 65536 + ((c1 + c2) * 256 + (c0 + c1))) by omega,
    oc5 _ _ (by omega) (by omega),
    show ((((((c7 * 256 + (c6 + c7)) * 256 + (c5 + c6)) * 256 + (c4 + c5)) * 256 + (c3 + c4)) * 256 + (c2 + c3)) * 65536 + ((c1 + c2) * 256 + (c0 + c1)) + (((((c7 * 256 + (c6 + c7)) * 256 + (c5 + c6)) * 256 + (c4 + c5)) * 256 + (c3 + c4)) * 256 + (c2 + c3))) = (((c7 * 256 + (c6 + c7)) * 256 + (c5 + c6 + c7)) * 256 + (c4 + c5 + c6 + c7)) * 4294967296 + (((((c3 + c4 + c5 + c6) * 256 + (c2 + c3 + c4 + c5)) * 256 + (c1 + c2 + c3 + c4)) * 256 + (c0 + c1 + c2 + c3))) by omega,
    oc67 _ _ (by omega) (by omega)]
  rw [show ((((c3 + c4 + c5 + c6) * 256 + (c2 + c3 + c4 + c5)) * 256 + (c1 + c2 + c3 + c4)) * 256 + (c0 + c1 + c2 + c3)) + (((c7 * 256 + (c6 + c7)) * 256 + (c5 + c6 + c7)) * 256 + (c4 + c5 + c6 + c7)) = (c0 + c1 + c2 + c3 + c4 + c5 + c6 + c7) + 128 * ((((c3 + c4 + c5 + c6) * 256 + (c2 + c3 + c4 + c5)) * 256 + (c1 + c2 + c3 + c4)) * 2 + ((c7 * 256 + (c6 + c7)) * 256 + (c5 + c6 + c7)) * 2) by omega, Nat.add_mul_mod_self_left, Nat.mod_eq_of_lt (by omega)]

/-! ### bit by bit -/
def ones (n : Int) : Nat → Int
  | 0 => 0
  | j + 1 => ones n j + bitZ n j
theorem ones_range (n : Int) : ∀ j, 0 ≤ ones n j ∧ ones n j ≤ j
  | 0 => by simp [ones]
  | j + 1 => by have := ones_range n j; have := bitZ_01 n j; simp only [ones]; omega
def popZ (b : Int) : Int := b % 2 + b / 2 % 2 + b / 4 % 2 + b / 8 % 2 + b / 16 % 2 + b / 32 % 2 + b / 64 % 2 + b / 128 % 2
theorem bit_far (n : Int) (f j : Nat) : bitZ n (f + j) = n / 2 ^ f / 2 ^ j % 2 := by
  rw [bitZ, Int.pow_add, Int.ediv_ediv_of_nonneg (Int.le_of_lt (Int.pow_pos (by decide)))]
theorem ones8 (n : Int) (f : Nat) : ones n (f + 8) = ones n f + popZ (n / 2 ^ f % 256) := by
  simp only [ones, ← Nat.add_assoc]
  have e := bit_far n f
  have h0 := e 0; have h1 := e 1; have h2 := e 2; have h3 := e 3; have h4 := e 4; have h5 := e 5; have h6 := e 6; have h7 := e 7
  simp only [Nat.add_zero, Int.pow_zero, Int.ediv_one, Int.reducePow] at h0 h1 h2 h3 h4 h5 h6 h7
  show ones n f + bitZ n f + bitZ n (f + 1) + bitZ n (f + 2) + bitZ n (f + 3) + bitZ n (f + 4) + bitZ n (f + 5) + bitZ n (f + 6) + bitZ n (f + 7) = _
  rw [h0, h1, h2, h3, h4, h5, h6, h7, popZ]
  generalize n / 2 ^ f = q
  omega
theorem popN_Z (b : Nat) : ((popN b : Nat) : Int) = popZ (b : Int) := by unfold popN popZ; omega
theorem ones64 (n : Int) : ones n 64 = popZ (n % 256) + popZ (n / 256 % 256) + popZ (n / 65536 % 256) + popZ (n / 16777216 % 256) + popZ (n / 4294967296 % 256) + popZ (n / 1099511627776 % 256) + popZ (n / 281474976710656 % 256) + popZ (n / 72057594037927936 % 256) := by
  have h0 := ones8 n 0; have h1 := ones8 n 8; have h2 := ones8 n 16; have h3 := ones8 n 24
  have h4 := ones8 n 32; have h5 := ones8 n 40; have h6 := ones8 n 48; have h7 := ones8 n 56
  simp only [Nat.zero_add, Nat.reduceAdd, Int.pow_zero, Int.ediv_one, Int.reducePow, ones] at h0
  simp only [Nat.reduceAdd, Int.reducePow] at h1 h2 h3 h4 h5 h6 h7
  rw [h7, h6, h5, h4, h3, h2, h1]
  have e : ones n 8 = popZ (n % 256) := by have := ones8 n 0; simpa [ones] using this
  rw [e]
theorem ones32 (n : Int) : ones n 32 = popZ (n % 256) + popZ (n / 256 % 256) + popZ (n / 65536 % 256) + popZ (n / 16777216 % 256) := by
  have h1 := ones8 n 8; have h2 := ones8 n 16; have h3 := ones8 n 24
  simp only [Nat.reduceAdd, Int.reducePow] at h1 h2 h3
  rw [h3, h2, h1]
  have e : ones n 8 = popZ (n % 256) := by have := ones8 n 0; simpa [ones] using this
  rw [e]
theorem count (x : Int) (h0 : 0 ≤ x) (h1 : x < 18446744073709551616) : bits_OnesCount64.f x = some (ones x 64) := by
  obtain ⟨n, rfl⟩ := Int.eq_ofNat_of_zero_le h0
  rw [ones_sum n (by omega), ones64]
  simp only [Int.natCast_add, popN_Z, byte, Nat.reducePow, Int.natCast_emod, Int.natCast_ediv, Int.cast_ofNat_Int, Int.ediv_one]
theorem count64 (n : Int) : bits_OnesCount64.f (n % 18446744073709551616) = some (ones n 64) := by
  rw [count _ (by omega) (by omega), ones64, ones64]
  rw [show n % 18446744073709551616 % 256 = n % 256 by omega, show n % 18446744073709551616 / 256 % 256 = n / 256 % 256 by omega, show n % 18446744073709551616 / 65536 % 256 = n / 65536 % 256 by omega, show n % 18446744073709551616 / 16777216 % 256 = n / 16777216 % 256 by omega, show n % 18446744073709551616 / 4294967296 % 256 = n / 4294967296 % 256 by omega, show n % 18446744073709551616 / 1099511627776 % 256 = n / 1099511627776 % 256 by omega, show n % 18446744073709551616 / 281474976710656 % 256 = n / 281474976710656 % 256 by omega, show n % 18446744073709551616 / 72057594037927936 % 256 = n / 72057594037927936 % 256 by omega]
theorem count32 (n : Int) : bits_OnesCount64.f (n % 4294967296) = some (ones n 32) := by
  rw [count _ (by omega) (by omega), ones64, ones32]
  rw [show n % 4294967296 % 256 = n % 256 by omega, show n % 4294967296 / 256 % 256 = n / 256 % 256 by omega, show n % 4294967296 / 65536 % 256 = n / 65536 % 256 by omega, show n % 4294967296 / 16777216 % 256 = n / 16777216 % 256 by omega, show n % 4294967296 / 4294967296 % 256 = 0 by omega, show n % 4294967296 / 1099511627776 % 256 = 0 by omega, show n % 4294967296 / 281474976710656 % 256 = 0 by omega, show n % 4294967296 / 72057594037927936 % 256 = 0 by omega]
  rw [show popZ 0 = 0 by decide]
  simp only [Int.add_zero]
end Go.Proofs.YtpoapiphnhmdmaaDoor.NumD
