/- Layer 1, the plain side: the encodings as lists of whole numbers. No program in sight. -/
import Derived.Test.YtmoeibghjejneaaStr
namespace Go.Proofs.Ytmoeibghjejneaa.LebS
set_option linter.unusedVariables false
set_option linter.unusedSimpArgs false
open Go.Proofs.Ytmoeibghjejneaa.Str

/-- The unsigned encoding. -/
def pu (n : Nat) : List Int := if n < 128 then [(n : Int)] else ((n % 128 + 128 : Nat) : Int) :: pu (n / 128)
termination_by n
decreasing_by omega

/-- The signed encoding. -/
def ps (n : Int) : List Int := if -64 ≤ n ∧ n < 64 then [n % 128] else (n % 128 + 128) :: ps (n / 128)
termination_by n.natAbs
decreasing_by omega

/-- How many bytes the number has with which the list begins, at most so many; 0: none. -/
def len : List Int → Nat → Nat
  | _, 0 => 0
  | [], _ + 1 => 0
  | c :: l, m + 1 => if c < 128 then 1 else if len l m = 0 then 0 else len l m + 1

/-- The number of these groups, the sign being t. -/
def sv (t : Int) : List Int → Int
  | [] => t
  | c :: l => c % 128 + 128 * sv t l

abbrev uv : List Int → Int := sv 0
def sgn (l : List Int) : Int := if l.getD (l.length - 1) 0 % 128 ≥ 64 then -1 else 0

def takeU (l : List Int) : Option (Int × List Int) :=
  if len l 5 = 0 then none else if uv (l.take (len l 5)) ≥ 4294967296 then none else some (uv (l.take (len l 5)), l.drop (len l 5))

def mostS (bits : Int) : Nat := if bits = 64 then 10 else 5
def fitsS (bits v : Int) : Prop := bits = 64 ∨ (bits = 33 ∧ -4294967296 ≤ v ∧ v < 4294967296) ∨ (bits = 32 ∧ -2147483648 ≤ v ∧ v < 2147483648)
instance (bits v : Int) : Decidable (fitsS bits v) := by unfold fitsS; infer_instance

def takeS (l : List Int) (bits : Int) : Option (Int × List Int) :=
  let n := len l (mostS bits)
  if n = 0 then none else if n = 10 ∧ l.getD 9 0 ≠ 0 ∧ l.getD 9 0 ≠ 127 then none
  else if fitsS bits (sv (sgn (l.take n)) (l.take n)) then some (sv (sgn (l.take n)) (l.take n), l.drop n) else none

/-! ### the encodings -/
theorem pu_small {n : Nat} (h : n < 128) : pu n = [(n : Int)] := by rw [pu, if_pos h]
theorem pu_big {n : Nat} (h : ¬ n < 128) : pu n = ((n % 128 + 128 : Nat) : Int) :: pu (n / 128) := by rw [pu, if_neg h]
theorem ps_small {n : Int} (h : -64 ≤ n ∧ n < 64) : ps n = [n % 128] := by rw [ps, if_pos h]
theorem ps_big {n : Int} (h : ¬ (-64 ≤ n ∧ n < 64)) : ps n = (n % 128 + 128) :: ps (n / 128) := by rw [ps, if_neg h]

theorem pu_range (n : Nat) : ∀ x ∈ pu n, 0 ≤ x ∧ x < 256 := by
  induction n using Nat.strongRecOn with
  | _ n ih =>
    by_cases h : n < 128
    · rw [pu_small h]
      intro x hx
      simp only [List.mem_singleton] at hx
      omega
    · rw [pu_big h]
      intro x hx
      rcases List.mem_cons.1 hx with rfl | hx
      · omega
      · exact ih (n / 128) (by omega) x hx

theorem ps_range : ∀ (m : Nat) (n : Int), n.natAbs ≤ m → ∀ x ∈ ps n, 0 ≤ x ∧ x < 256 := by
  intro m
  induction m with
  | zero =>
    intro n hn
    rw [ps_small (by omega)]
    intro x hx
    simp only [List.mem_singleton] at hx
    omega
  | succ m ih =>
    intro n hn
    by_cases h : -64 ≤ n ∧ n < 64
    · rw [ps_small h]
      intro x hx
      simp only [List.mem_singleton] at hx
      omega
    · rw [ps_big h]
      intro x hx
      rcases List.mem_cons.1 hx with rfl | hx
      · omega
      · exact ih (n / 128) (by omega) x hx

theorem pu_pos (n : Nat) : 1 ≤ (pu n).length := by
  rw [pu]; split <;> simp

theorem ps_pos (n : Int) : 1 ≤ (ps n).length := by
  rw [ps]; split <;> simp

theorem pu_len : ∀ (j n : Nat), n < 128 ^ (j + 1) → (pu n).length ≤ j + 1 := by
  intro j
  induction j with
  | zero => intro n h; rw [pu_small (by omega)]; simp
  | succ j ih =>
    intro n h
    by_cases h1 : n < 128
    · rw [pu_small h1]; simp
    · rw [pu_big h1]
      have := ih (n / 128) (by rw [Nat.pow_succ] at h; omega)
      simp only [List.length_cons]
      omega

theorem ps_len : ∀ (j : Nat) (n : Int), -(64 * 128 ^ j) ≤ n → n < 64 * 128 ^ j → (ps n).length ≤ j + 1 := by
  intro j
  induction j with
  | zero => intro n h0 h1; rw [ps_small (by omega)]; simp
  | succ j ih =>
    intro n h0 h1
    by_cases h : -64 ≤ n ∧ n < 64
    · rw [ps_small h]; simp
    · rw [ps_big h]
      rw [Int.pow_succ] at h0 h1
      have := ih (n / 128) (by omega) (by omega)
      simp only [List.length_cons]
      omega

theorem ps_tenth : ∀ (j : Nat) (n : Int), -(128 ^ j) ≤ n → n < 128 ^ j → (ps n).length = j + 1 → (ps n).getD j 0 = 0 ∨ (ps n).getD j 0 = 127 := by
  intro j
  induction j with
  | zero =>
    intro n h0 h1 _
    rw [ps_small (by omega)]
    simp only [List.getD, List.getElem?_cons_zero, Option.getD_some]
    omega
  | succ j ih =>
    intro n h0 h1 hl
    by_cases h : -64 ≤ n ∧ n < 64
    · rw [ps_small h] at hl; simp at hl
    · rw [ps_big h] at hl ⊢
      simp only [List.length_cons] at hl
      rw [Int.pow_succ] at h0 h1
      have := ih (n / 128) (by omega) (by omega) (by omega)
      simpa [List.getD] using this

/-! ### lengths -/
theorem len_le (l : List Int) : ∀ m, len l m ≤ m := by
  induction l with
  | nil => intro m; cases m <;> simp [len]
  | cons c l ih =>
    intro m
    cases m with
    | zero => simp [len]
    | succ m =>
      have := ih m
      simp only [len]
      split
      · omega
      · split <;> omega

theorem len_le_length (l : List Int) : ∀ m, len l m ≤ l.length := by
  induction l with
  | nil => intro m; cases m <;> simp [len]
  | cons c l ih =>
    intro m
    cases m with
    | zero => simp [len]
    | succ m =>
      have := ih m
      simp only [len, List.length_cons]
      split
      · omega
      · split <;> omega

theorem len_more (l : List Int) : ∀ m m', m ≤ m' → len l m ≠ 0 → len l m' = len l m := by
  induction l with
  | nil => intro m m' _ h; cases m <;> simp [len] at h
  | cons c l ih =>
    intro m m' hm h
    cases m with
    | zero => simp [len] at h
    | succ m =>
      obtain ⟨m', rfl⟩ : ∃ j, m' = j + 1 := ⟨m' - 1, by omega⟩
      simp only [len] at h ⊢
      by_cases hc : c < 128
      · simp [hc]
      · rw [if_neg hc] at h
        rw [if_neg hc, if_neg hc]
        by_cases h0 : len l m = 0
        · rw [if_pos h0] at h; exact absurd rfl h
        · rw [ih m m' (by omega) h0]

/-- A list that is a whole number's, with whatever behind it. -/
inductive Whole : List Int → Prop
  | one {c : Int} (h : c < 128) : Whole [c]
  | more {c : Int} {l : List Int} (h : ¬ c < 128) (k : Whole l) : Whole (c :: l)

theorem Whole.pos {l : List Int} (h : Whole l) : 1 ≤ l.length := by cases h <;> simp

theorem Whole.len {l : List Int} (h : Whole l) (more : List Int) : ∀ m, len (l ++ more) m = if l.length ≤ m then l.length else 0 := by
  induction h with
  | one h =>
    intro m
    cases m with
    | zero => simp [LebS.len]
    | succ m => simp [LebS.len, h]
  | more h k ih =>
    intro m
    cases m with
    | zero => simp [LebS.len]
    | succ m =>
      have hp := k.pos
      simp only [List.cons_append, LebS.len, if_neg h, ih m, List.length_cons]
      rename_i c' l'
      by_cases hm : l'.length ≤ m
      · rw [if_pos hm, if_neg (by omega), if_pos (by omega)]
      · rw [if_neg hm, if_pos rfl, if_neg (by omega)]

theorem pu_whole (n : Nat) : Whole (pu n) := by
  induction n using Nat.strongRecOn with
  | _ n ih =>
    by_cases h : n < 128
    · rw [pu_small h]; exact .one (by omega)
    · rw [pu_big h]; exact .more (by omega) (ih _ (by omega))

theorem ps_whole : ∀ (m : Nat) (n : Int), n.natAbs ≤ m → Whole (ps n) := by
  intro m
  induction m with
  | zero => intro n h; rw [ps_small (by omega)]; exact .one (by omega)
  | succ m ih =>
    intro n hn
    by_cases h : -64 ≤ n ∧ n < 64
    · rw [ps_small h]; exact .one (by omega)
    · rw [ps_big h]; exact .more (by omega) (ih _ (by omega))

/-! ### values -/
theorem sv_uv (t : Int) (l : List Int) : sv t l = uv l + t * 128 ^ l.length := by
  induction l with
  | nil => simp [sv]
  | cons c l ih =>
    have e : t * 128 ^ (c :: l).length = 128 * (t * 128 ^ l.length) := by
      rw [List.length_cons, Int.pow_succ, ← Int.mul_assoc, Int.mul_comm]
    rw [e]
    simp only [sv]
    rw [ih]
    simp only [uv]
    omega

theorem uv_range (l : List Int) : 0 ≤ uv l ∧ uv l < 128 ^ l.length := by
  induction l with
  | nil => simp [sv]
  | cons c l ih =>
    rw [List.length_cons, Int.pow_succ]
    simp only [uv, sv] at ih ⊢
    omega

theorem uv_append (l m : List Int) : uv (l ++ m) = uv l + 128 ^ l.length * uv m := by
  induction l with
  | nil => simp [sv]
  | cons c l ih =>
    have e : 128 ^ (c :: l).length * uv m = 128 * (128 ^ l.length * uv m) := by
      rw [List.length_cons, Int.pow_succ, Int.mul_comm (128 ^ l.length) 128, Int.mul_assoc]
    rw [e]
    simp only [uv, sv, List.cons_append] at ih ⊢
    omega

theorem uv_pu (n : Nat) : uv (pu n) = n := by
  induction n using Nat.strongRecOn with
  | _ n ih =>
    by_cases h : n < 128
    · rw [pu_small h]; simp only [uv, sv]; omega
    · rw [pu_big h]
      have := ih (n / 128) (by omega)
      simp only [uv, sv] at this ⊢
      omega

theorem sgn_cons (c : Int) {l : List Int} (h : 1 ≤ l.length) : sgn (c :: l) = sgn l := by
  unfold sgn
  congr 3
  simp only [List.length_cons, List.getD]
  obtain ⟨m, hm⟩ : ∃ m, l.length = m + 1 := ⟨l.length - 1, by omega⟩
  rw [hm]
  simp

theorem sv_ps : ∀ (m : Nat) (n : Int), n.natAbs ≤ m → sv (sgn (ps n)) (ps n) = n := by
  intro m
  induction m with
  | zero =>
    intro n h
    obtain rfl : n = 0 := by omega
    rw [ps_small (by omega)]
    simp [sgn, sv]
  | succ m ih =>
    intro n hn
    by_cases h : -64 ≤ n ∧ n < 64
    · rw [ps_small h]
      simp only [sgn, sv, List.length_singleton, List.getD]
      simp only [Nat.sub_self, List.getElem?_cons_zero, Option.getD_some]
      split <;> omega
    · rw [ps_big h, sgn_cons _ (ps_pos _)]
      simp only [sv]
      rw [ih (n / 128) (by omega)]
      omega

/-- The signed number of m groups. -/
theorem sv_range : ∀ (l : List Int), 1 ≤ l.length → -(64 * 128 ^ (l.length - 1)) ≤ sv (sgn l) l ∧ sv (sgn l) l < 64 * 128 ^ (l.length - 1) := by
  intro l
  induction l with
  | nil => simp
  | cons c l ih =>
    intro _
    by_cases hl : l = []
    · subst hl
      simp only [sgn, sv, List.length_singleton, List.getD, Nat.sub_self, List.getElem?_cons_zero, Option.getD_some]
      split <;> omega
    · have hp : 1 ≤ l.length := by cases l with
        | nil => exact absurd rfl hl
        | cons => simp
      rw [sgn_cons _ hp]
      have := ih hp
      obtain ⟨m, hm⟩ : ∃ m, l.length = m + 1 := ⟨l.length - 1, by omega⟩
      simp only [List.length_cons, hm, Nat.add_sub_cancel, Int.pow_succ, sv] at this ⊢
      omega

/-! ### what is taken -/
theorem takeU_pu (n : Nat) (more : List Int) : takeU (pu n ++ more) = if n < 4294967296 then some ((n : Int), more) else none := by
  unfold takeU
  rw [(pu_whole n).len more 5]
  have hp := pu_pos n
  by_cases h : (pu n).length ≤ 5
  · rw [if_pos h, if_neg (by omega), List.take_left, List.drop_left, uv_pu]
    by_cases h2 : n < 4294967296
    · rw [if_neg (by omega), if_pos h2]
    · rw [if_pos (by omega), if_neg h2]
  · rw [if_neg h, if_pos rfl, if_neg]
    intro h2
    exact h (pu_len 4 n (by omega))

theorem takeS_ps (n : Int) (h0 : -9223372036854775808 ≤ n) (h1 : n < 9223372036854775808) (more : List Int) : takeS (ps n ++ more) 64 = some (n, more) := by
  have hw := ps_whole _ n (Nat.le_refl _)
  have hp := ps_pos n
  have hl : (ps n).length ≤ 10 := ps_len 9 n (by omega) (by omega)
  unfold takeS mostS fitsS
  simp only [hw.len more, if_true]
  rw [if_pos hl, if_neg (by omega), if_neg, if_pos (Or.inl trivial), List.take_left, List.drop_left, sv_ps _ n (Nat.le_refl _)]
  rintro ⟨h2, h3, h4⟩
  have := ps_tenth 9 n (by omega) (by omega) (by omega)
  have e : (ps n ++ more).getD 9 0 = (ps n).getD 9 0 := by
    simp only [List.getD]
    rw [List.getElem?_append_left (by omega)]
  rw [e] at h3 h4
  omega

theorem takeS_ps32 (n : Int) (more : List Int) : takeS (ps n ++ more) 32 = if -2147483648 ≤ n ∧ n < 2147483648 then some (n, more) else none := by
  have hw := ps_whole _ n (Nat.le_refl _)
  have hp := ps_pos n
  unfold takeS mostS fitsS
  simp only [hw.len more, show ¬ ((32 : Int) = 64) by omega, if_false]
  by_cases h : (ps n).length ≤ 5
  · rw [if_pos h, if_neg (by omega), if_neg (by omega), List.take_left, List.drop_left, sv_ps _ n (Nat.le_refl _)]
    by_cases h2 : -2147483648 ≤ n ∧ n < 2147483648
    · rw [if_pos h2, if_pos]; exact .inr (.inr ⟨by simp, h2⟩)
    · rw [if_neg h2, if_neg]; rintro (h | h | h) <;> omega
  · rw [if_neg h, if_pos rfl, if_neg]
    rintro ⟨h2, h3⟩
    exact h (ps_len 4 n (by omega) (by omega))

theorem takeU_len {l : List Int} {v : Int} {r : List Int} (h : takeU l = some (v, r)) : 0 ≤ v ∧ v < 4294967296 ∧ (pu v.toNat).length ≤ l.length - r.length ∧ r.length < l.length ∧ ∃ n, r = l.drop n := by
  unfold takeU at h
  have hl := len_le_length l 5
  split at h
  · cases h
  · split at h
    · cases h
    · simp only [Option.some.injEq, Prod.mk.injEq] at h
      obtain ⟨rfl, rfl⟩ := h
      have hr := uv_range (l.take (len l 5))
      have hn : (l.take (len l 5)).length = len l 5 := by rw [List.length_take]; omega
      rw [hn] at hr
      refine ⟨by omega, by omega, ?_, by rw [List.length_drop]; omega, _, rfl⟩
      obtain ⟨j, hj⟩ : ∃ j, len l 5 = j + 1 := ⟨len l 5 - 1, by omega⟩
      rw [List.length_drop]
      have : (pu (uv (l.take (len l 5))).toNat).length ≤ j + 1 := pu_len j _ (by
        rw [hj] at hr ⊢
        have : ((128 ^ (j + 1) : Nat) : Int) = 128 ^ (j + 1) := by simp
        omega)
      omega

theorem takeS_len {l : List Int} {v : Int} {r : List Int} (h : takeS l 64 = some (v, r)) : (ps v).length ≤ l.length - r.length := by
  unfold takeS at h
  have hl := len_le_length l (mostS 64)
  simp only at h
  split at h
  · cases h
  · split at h
    · cases h
    · split at h
      · simp only [Option.some.injEq, Prod.mk.injEq] at h
        obtain ⟨rfl, rfl⟩ := h
        have hn : (l.take (len l (mostS 64))).length = len l (mostS 64) := by rw [List.length_take]; omega
        have hr := sv_range (l.take (len l (mostS 64))) (by omega)
        rw [hn] at hr
        rw [List.length_drop]
        have := ps_len _ _ hr.1 hr.2
        omega
      · cases h

theorem takeS_wf {l : List Int} {bits v : Int} {r : List Int} (h : takeS l bits = some (v, r)) : fitsS bits v := by
  unfold takeS at h
  simp only at h
  split at h
  · cases h
  · split at h
    · cases h
    · split at h
      · simp only [Option.some.injEq, Prod.mk.injEq] at h
        obtain ⟨rfl, rfl⟩ := h
        assumption
      · cases h

theorem takeS_up {l : List Int} {b b' v : Int} {r : List Int} (hb : b = 32 ∧ b' = 33 ∨ b = 33 ∧ b' = 64) (h : takeS l b = some (v, r)) : takeS l b' = some (v, r) := by
  have hm : mostS b = 5 := by unfold mostS; rw [if_neg (by omega)]
  have hm' : mostS b' = 5 ∨ mostS b' = 10 := by unfold mostS; split <;> simp
  have hf := takeS_wf h
  unfold takeS at h ⊢
  simp only [hm] at h ⊢
  split at h
  · cases h
  · rename_i hz
    have hle := len_le l 5
    have hn : len l (mostS b') = len l 5 := len_more l 5 _ (by omega) hz
    rw [if_neg (by omega)] at h
    split at h
    · simp only [Option.some.injEq, Prod.mk.injEq] at h
      obtain ⟨rfl, rfl⟩ := h
      rw [hn, if_neg hz, if_neg (by omega), if_pos]
      unfold fitsS at hf ⊢
      omega
    · cases h
/-- What is taken of 64 bits is a number of 64 bits. -/
theorem takeS_range {l : List Int} {v : Int} {r : List Int} (h : takeS l 64 = some (v, r)) : -9223372036854775808 ≤ v ∧ v < 9223372036854775808 := by
  unfold takeS at h
  have hm : mostS 64 = 10 := rfl
  rw [hm] at h
  have hl := len_le_length l 10
  have hle := len_le l 10
  simp only at h
  split at h
  · cases h
  · rename_i h0
    split at h
    · cases h
    · rename_i h10
      split at h
      · simp only [Option.some.injEq, Prod.mk.injEq] at h
        obtain ⟨rfl, rfl⟩ := h
        have hn : (l.take (len l 10)).length = len l 10 := by rw [List.length_take]; omega
        by_cases h2 : len l 10 = 10
        · have hg : l.getD 9 0 = 0 ∨ l.getD 9 0 = 127 := by omega
          have hd : l.take 10 = l.take 9 ++ [l.getD 9 0] := by
            have hlt : 9 < l.length := by omega
            rw [List.take_succ_eq_append_getElem hlt]
            simp [List.getD, List.getElem?_eq_getElem hlt]
          have hr := uv_range (l.take 9)
          have h9 : (l.take 9).length = 9 := by rw [List.length_take]; omega
          rw [h9] at hr
          simp only [uv] at hr
          rw [h2, sv_uv, hd, uv_append, h9, List.length_append, h9]
          have hs : sgn (l.take 9 ++ [l.getD 9 0]) = if l.getD 9 0 % 128 ≥ 64 then -1 else 0 := by
            unfold sgn
            congr 3
            rw [List.length_append, h9]
            simp only [List.length_singleton, Nat.add_one_sub_one, List.getD]
            rw [List.getElem?_append_right (by omega), h9]
            rfl
          rw [hs]
          rcases hg with hg | hg <;> simp only [hg, uv, sv, List.length_singleton] <;> simp <;> omega
        · have hr := sv_range (l.take (len l 10)) (by omega)
          rw [hn] at hr
          have hp : (128 : Int) ^ (len l 10 - 1) ≤ 128 ^ 8 := pow128 (by omega)
          have hp8 : (128 : Int) ^ 8 = 72057594037927936 := by decide
          omega
      · cases h
end Go.Proofs.Ytmoeibghjejneaa.LebS
