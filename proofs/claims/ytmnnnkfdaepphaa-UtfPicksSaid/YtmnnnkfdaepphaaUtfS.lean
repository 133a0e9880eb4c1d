/- Layer 2, the plain side: characters and their bytes as lists of whole numbers. No program in sight. -/
import Derived.Test.YtmnnnkfdaepphaaStr
namespace Go.Proofs.Ytmnnnkfdaepphaa.UtfS
set_option linter.unusedVariables false
set_option linter.unusedSimpArgs false
open Go.Proofs.Ytmnnnkfdaepphaa.Str

def scal (p : Int) : Bool := decide (0 ≤ p ∧ p ≤ 1114111 ∧ (p < 55296 ∨ p > 57343))
theorem scal_iff {p : Int} : scal p = true ↔ (0 ≤ p ∧ p ≤ 1114111 ∧ (p < 55296 ∨ p > 57343)) := by unfold scal; exact decide_eq_true_iff
theorem scal_false {p : Int} (h : ¬ (0 ≤ p ∧ p ≤ 1114111 ∧ (p < 55296 ∨ p > 57343))) : scal p = false := by unfold scal; exact decide_eq_false h

def e8 (p : Int) : List Int :=
  if p < 128 then [p] else if p < 2048 then [192 + p / 64, 128 + p % 64] else if p < 65536 then [224 + p / 4096, 128 + p / 64 % 64, 128 + p % 64]
  else [240 + p / 262144, 128 + p / 4096 % 64, 128 + p / 64 % 64, 128 + p % 64]
def e16 (p : Int) : List Int :=
  if p < 65536 then [p % 256, p / 256] else [(55296 + (p - 65536) / 1024) % 256, (55296 + (p - 65536) / 1024) / 256, (56320 + (p - 65536) % 1024) % 256, (56320 + (p - 65536) % 1024) / 256]
/-- A character's bytes; none: []. -/
def one (f p : Int) : List Int :=
  if scal p = true then (if f = 2 then (if p > 255 then [] else [p]) else if f = 1 then e16 p else if f = 0 then e8 p else []) else []

theorem e8_range {p : Int} (h : scal p = true) : ∀ x ∈ e8 p, 0 ≤ x ∧ x < 256 := by
  have := scal_iff.1 h
  unfold e8
  split
  · intro x hx; simp at hx; omega
  · split
    · intro x hx; simp at hx; omega
    · split
      · intro x hx; simp at hx; omega
      · intro x hx; simp at hx; omega

theorem e16_range {p : Int} (h : scal p = true) : ∀ x ∈ e16 p, 0 ≤ x ∧ x < 256 := by
  have := scal_iff.1 h
  unfold e16
  split
  · intro x hx; simp at hx; omega
  · intro x hx; simp at hx; omega

theorem one_range (f p : Int) : ∀ x ∈ one f p, 0 ≤ x ∧ x < 256 := by
  unfold one
  split
  · rename_i h
    have := scal_iff.1 h
    split
    · split
      · intro x hx; cases hx
      · intro x hx; simp at hx; omega
    · split
      · exact e16_range h
      · split
        · exact e8_range h
        · intro x hx; cases hx
  · intro x hx; cases hx

theorem e8_len (p : Int) : 1 ≤ (e8 p).length ∧ (e8 p).length ≤ 4 := by
  unfold e8; split
  · simp
  · split
    · simp
    · split <;> simp
theorem e16_len (p : Int) : 1 ≤ (e16 p).length ∧ (e16 p).length ≤ 4 := by
  unfold e16; split <;> simp
theorem one_len (f p : Int) : (one f p).length ≤ 4 := by
  unfold one
  split
  · split
    · split <;> simp
    · split
      · exact (e16_len p).2
      · split
        · exact (e8_len p).2
        · simp
  · simp

theorem one8 (p : Int) : one 0 p = if scal p = true then e8 p else [] := by unfold one; simp
theorem one16 (p : Int) : one 1 p = if scal p = true then e16 p else [] := by unfold one; simp
theorem one2 (p : Int) : one 2 p = if scal p = true then (if p > 255 then [] else [p]) else [] := by unfold one; simp

/-- Which character bytes begin with, and how many bytes it has. -/
def d8 : List Int → Option (Int × Nat)
  | [] => none
  | c :: r =>
    if c < 128 then some (c, 1)
    else if 192 ≤ c ∧ c < 224 then
      match r with
      | d :: _ => if (128 ≤ d ∧ d < 192) ∧ 128 ≤ c % 32 * 64 + d % 64 ∧ scal (c % 32 * 64 + d % 64) = true then some (c % 32 * 64 + d % 64, 2) else none
      | _ => none
    else if 224 ≤ c ∧ c < 240 then
      match r with
      | d :: e :: _ => if (128 ≤ d ∧ d < 192) ∧ (128 ≤ e ∧ e < 192) ∧ 2048 ≤ c % 16 * 4096 + d % 64 * 64 + e % 64 ∧ scal (c % 16 * 4096 + d % 64 * 64 + e % 64) = true then some (c % 16 * 4096 + d % 64 * 64 + e % 64, 3) else none
      | _ => none
    else if 240 ≤ c ∧ c < 248 then
      match r with
      | d :: e :: g :: _ => if (128 ≤ d ∧ d < 192) ∧ (128 ≤ e ∧ e < 192) ∧ (128 ≤ g ∧ g < 192) ∧ 65536 ≤ c % 8 * 262144 + d % 64 * 4096 + e % 64 * 64 + g % 64 ∧ scal (c % 8 * 262144 + d % 64 * 4096 + e % 64 * 64 + g % 64) = true then some (c % 8 * 262144 + d % 64 * 4096 + e % 64 * 64 + g % 64, 4) else none
      | _ => none
    else none
def d16 : List Int → Option (Int × Nat)
  | a :: b :: r =>
    if scal (a + 256 * b) = true then some (a + 256 * b, 2)
    else if a + 256 * b ≥ 56320 then none
    else match r with
      | c :: d :: _ => if 56320 ≤ c + 256 * d ∧ c + 256 * d < 57344 then some (65536 + (a + 256 * b - 55296) * 1024 + (c + 256 * d - 56320), 4) else none
      | _ => none
  | _ => none
def dec (f : Int) (l : List Int) : Option (Int × Nat) :=
  if f = 0 then d8 l else if f = 1 then d16 l else if f = 2 then (match l with | [] => none | c :: _ => some (c, 1)) else none

theorem d8_sound {l : List Int} (hl : ∀ x ∈ l, 0 ≤ x ∧ x < 256) {p : Int} {n : Nat} (h : d8 l = some (p, n)) : one 0 p = l.take n ∧ 1 ≤ n ∧ n ≤ l.length := by
  cases l with
  | nil => simp [d8] at h
  | cons c r =>
    have hc := hl c (by simp)
    rw [one8]
    simp only [d8] at h
    split at h
    · simp only [Option.some.injEq, Prod.mk.injEq] at h
      obtain ⟨rfl, rfl⟩ := h
      have hs : scal c = true := scal_iff.2 (by omega)
      rw [if_pos hs]
      unfold e8
      rw [if_pos (by omega)]
      simp
    · split at h
      · cases r with
        | nil => simp at h
        | cons d r =>
          simp only at h
          split at h
          · rename_i hh
            obtain ⟨h1, h2, h3⟩ := hh
            simp only [Option.some.injEq, Prod.mk.injEq] at h
            obtain ⟨rfl, rfl⟩ := h
            rw [if_pos h3]
            unfold e8
            rw [if_neg (by omega), if_pos (by omega)]
            refine ⟨?_, by omega, by simp⟩
            simp only [List.take_succ_cons, List.take_zero, List.cons.injEq, and_true]
            omega
          · cases h
      · split at h
        · cases r with
          | nil => simp at h
          | cons d r =>
            cases r with
            | nil => simp at h
            | cons e r =>
              simp only at h
              split at h
              · rename_i hh
                obtain ⟨h1, h2, h3, h4⟩ := hh
                simp only [Option.some.injEq, Prod.mk.injEq] at h
                obtain ⟨rfl, rfl⟩ := h
                rw [if_pos h4]
                unfold e8
                rw [if_neg (by omega), if_neg (by omega), if_pos (by omega)]
                refine ⟨?_, by omega, by simp⟩
                simp only [List.take_succ_cons, List.take_zero, List.cons.injEq, and_true]
                omega
              · cases h
        · split at h
          · cases r with
            | nil => simp at h
            | cons d r =>
              cases r with
              | nil => simp at h
              | cons e r =>
                cases r with
                | nil => simp at h
                | cons g r =>
                  simp only at h
                  split at h
                  · rename_i hh
                    obtain ⟨h1, h2, h3, h4, h5⟩ := hh
                    simp only [Option.some.injEq, Prod.mk.injEq] at h
                    obtain ⟨rfl, rfl⟩ := h
                    rw [if_pos h5]
                    unfold e8
                    rw [if_neg (by omega), if_neg (by omega), if_neg (by omega)]
                    refine ⟨?_, by omega, by simp⟩
                    simp only [List.take_succ_cons, List.take_zero, List.cons.injEq, and_true]
                    omega
                  · cases h
          · cases h

theorem d8_full {p : Int} (h : scal p = true) (r : List Int) : d8 (e8 p ++ r) = some (p, (e8 p).length) := by
  have hs := scal_iff.1 h
  unfold e8
  by_cases h1 : p < 128
  · rw [if_pos h1]
    simp only [List.cons_append, List.nil_append, d8, List.length_cons, List.length_nil]
    rw [if_pos h1]
  · rw [if_neg h1]
    by_cases h2 : p < 2048
    · rw [if_pos h2]
      have e : (192 + p / 64) % 32 * 64 + (128 + p % 64) % 64 = p := by omega
      simp only [List.cons_append, List.nil_append, d8, List.length_cons, List.length_nil, e, h]
      rw [if_neg (by omega), if_pos (by omega), if_pos ⟨by omega, by omega, trivial⟩]
    · rw [if_neg h2]
      by_cases h3 : p < 65536
      · rw [if_pos h3]
        have e : (224 + p / 4096) % 16 * 4096 + (128 + p / 64 % 64) % 64 * 64 + (128 + p % 64) % 64 = p := by omega
        simp only [List.cons_append, List.nil_append, d8, List.length_cons, List.length_nil, e, h]
        rw [if_neg (by omega), if_neg (by omega), if_pos (by omega), if_pos ⟨by omega, by omega, by omega, trivial⟩]
      · rw [if_neg h3]
        have e : (240 + p / 262144) % 8 * 262144 + (128 + p / 4096 % 64) % 64 * 4096 + (128 + p / 64 % 64) % 64 * 64 + (128 + p % 64) % 64 = p := by omega
        simp only [List.cons_append, List.nil_append, d8, List.length_cons, List.length_nil, e, h]
        rw [if_neg (by omega), if_neg (by omega), if_neg (by omega), if_pos (by omega), if_pos ⟨by omega, by omega, by omega, by omega, trivial⟩]

theorem d16_sound {l : List Int} (hl : ∀ x ∈ l, 0 ≤ x ∧ x < 256) {p : Int} {n : Nat} (h : d16 l = some (p, n)) : one 1 p = l.take n ∧ 1 ≤ n ∧ n ≤ l.length := by
  cases l with
  | nil => simp [d16] at h
  | cons a r =>
    cases r with
    | nil => simp [d16] at h
    | cons b r =>
      have ha := hl a (by simp)
      have hb := hl b (by simp)
      rw [one16]
      simp only [d16] at h
      split at h
      · rename_i hs
        simp only [Option.some.injEq, Prod.mk.injEq] at h
        obtain ⟨rfl, rfl⟩ := h
        rw [if_pos hs]
        have := scal_iff.1 hs
        unfold e16
        rw [if_pos (by omega)]
        refine ⟨?_, by omega, by simp⟩
        simp only [List.take_succ_cons, List.take_zero, List.cons.injEq, and_true]
        omega
      · rename_i hs
        have hs' : ¬ (0 ≤ a + 256 * b ∧ a + 256 * b ≤ 1114111 ∧ (a + 256 * b < 55296 ∨ a + 256 * b > 57343)) := fun x => hs (scal_iff.2 x)
        split at h
        · cases h
        · cases r with
          | nil => simp at h
          | cons c r =>
            cases r with
            | nil => simp at h
            | cons d r =>
              have hc := hl c (by simp)
              have hd := hl d (by simp)
              simp only at h
              split at h
              · rename_i hh
                simp only [Option.some.injEq, Prod.mk.injEq] at h
                obtain ⟨rfl, rfl⟩ := h
                have h3 : scal (65536 + (a + 256 * b - 55296) * 1024 + (c + 256 * d - 56320)) = true := scal_iff.2 (by omega)
                rw [if_pos h3]
                unfold e16
                rw [if_neg (by omega)]
                refine ⟨?_, by omega, by simp⟩
                simp only [List.take_succ_cons, List.take_zero, List.cons.injEq, and_true]
                omega
              · cases h

theorem d16_full {p : Int} (h : scal p = true) (r : List Int) : d16 (e16 p ++ r) = some (p, (e16 p).length) := by
  have hs := scal_iff.1 h
  unfold e16
  by_cases h1 : p < 65536
  · rw [if_pos h1]
    have e : p % 256 + 256 * (p / 256) = p := by omega
    simp only [List.cons_append, List.nil_append, d16, List.length_cons, List.length_nil, e, h, if_true]
  · rw [if_neg h1]
    have e : (55296 + (p - 65536) / 1024) % 256 + 256 * ((55296 + (p - 65536) / 1024) / 256) = 55296 + (p - 65536) / 1024 := by omega
    have e2 : (56320 + (p - 65536) % 1024) % 256 + 256 * ((56320 + (p - 65536) % 1024) / 256) = 56320 + (p - 65536) % 1024 := by omega
    have hn : scal (55296 + (p - 65536) / 1024) = false := scal_false (by omega)
    simp only [List.cons_append, List.nil_append, d16, List.length_cons, List.length_nil, e, e2, hn]
    rw [if_neg (by simp), if_neg (by omega), if_pos (by omega)]
    refine congrArg some (Prod.ext ?_ rfl)
    simp only
    omega

theorem dec_sound {f : Int} {l : List Int} (hl : ∀ x ∈ l, 0 ≤ x ∧ x < 256) {p : Int} {n : Nat} (h : dec f l = some (p, n)) : one f p = l.take n ∧ 1 ≤ n ∧ n ≤ l.length := by
  unfold dec at h
  split at h
  · rename_i hf; subst hf; exact d8_sound hl h
  · split at h
    · rename_i hf; subst hf; exact d16_sound hl h
    · split at h
      · rename_i hf; subst hf
        cases l with
        | nil => simp at h
        | cons c r =>
          simp only [Option.some.injEq, Prod.mk.injEq] at h
          obtain ⟨rfl, rfl⟩ := h
          have hc := hl c (by simp)
          have hs : scal c = true := scal_iff.2 (by omega)
          rw [one2, if_pos hs, if_neg (by omega)]
          simp
      · cases h

theorem dec_full {f p : Int} (h : one f p ≠ []) (r : List Int) : dec f (one f p ++ r) = some (p, (one f p).length) := by
  have hs : scal p = true := by
    cases hc : scal p with
    | true => rfl
    | false => unfold one at h; rw [hc] at h; simp at h
  have h' := h
  unfold one at h'
  rw [if_pos hs] at h'
  by_cases h2 : f = 2
  · subst h2
    rw [if_pos rfl] at h'
    by_cases hp : p > 255
    · rw [if_pos hp] at h'; exact absurd rfl h'
    · rw [one2, if_pos hs, if_neg hp]
      simp [dec]
  · rw [if_neg h2] at h'
    by_cases h1 : f = 1
    · subst h1
      rw [one16, if_pos hs]
      simp only [dec, Int.reduceEq, if_false, if_true]
      exact d16_full hs r
    · rw [if_neg h1] at h'
      by_cases h0 : f = 0
      · subst h0
        rw [one8, if_pos hs]
        simp only [dec, if_true]
        exact d8_full hs r
      · rw [if_neg h0] at h'; exact absurd rfl h'

/-- Just one character begins bytes. -/
theorem dec_of_prefix {f p : Int} {l : List Int} {n : Nat} (hn : 1 ≤ n) (hl : n ≤ l.length) (h : one f p = l.take n) : dec f l = some (p, n) := by
  have hlen : (one f p).length = n := by rw [h, List.length_take]; omega
  have hne : one f p ≠ [] := by intro e; rw [e] at hlen; simp at hlen; omega
  have := dec_full hne (l.drop n)
  rw [hlen, h, List.take_append_drop] at this
  exact this

/-! ### texts -/
def wr (f : Int) : List Int → Option (List Int)
  | [] => if 0 ≤ f ∧ f ≤ 2 then some [] else none
  | p :: l => if one f p = [] then none else match wr f l with
    | none => none
    | some t => some (one f p ++ t)

def rdL (f : Int) : Nat → List Int → Option (List Int)
  | 0, l => if l = [] then some [] else none
  | n + 1, l => if l = [] then some [] else match dec f l with
    | none => none
    | some (p, m) => match rdL f n (l.drop m) with
      | none => none
      | some a => some (p :: a)

theorem wr_range {f : Int} : ∀ {l t : List Int}, wr f l = some t → ∀ x ∈ t, 0 ≤ x ∧ x < 256 := by
  intro l
  induction l with
  | nil =>
    intro t h
    unfold wr at h
    split at h
    · simp only [Option.some.injEq] at h; subst h; intro x hx; cases hx
    · cases h
  | cons p l ih =>
    intro t h
    unfold wr at h
    split at h
    · cases h
    · cases hw : wr f l with
      | none => rw [hw] at h; cases h
      | some t' =>
        rw [hw] at h
        simp only [Option.some.injEq] at h
        subst h
        intro x hx
        rcases List.mem_append.1 hx with hx | hx
        · exact one_range f p x hx
        · exact ih hw x hx

theorem wr_len {f : Int} : ∀ {l t : List Int}, wr f l = some t → t.length ≤ 4 * l.length := by
  intro l
  induction l with
  | nil =>
    intro t h
    unfold wr at h
    split at h
    · simp only [Option.some.injEq] at h; subst h; simp
    · cases h
  | cons p l ih =>
    intro t h
    unfold wr at h
    split at h
    · cases h
    · cases hw : wr f l with
      | none => rw [hw] at h; cases h
      | some t' =>
        rw [hw] at h
        simp only [Option.some.injEq] at h
        subst h
        have := ih hw
        have := one_len f p
        simp only [List.length_append, List.length_cons]
        omega

theorem wr_form {f : Int} : ∀ {l t : List Int}, wr f l = some t → 0 ≤ f ∧ f ≤ 2 := by
  intro l
  induction l with
  | nil =>
    intro t h
    unfold wr at h
    split at h
    · assumption
    · cases h
  | cons p l ih =>
    intro t h
    unfold wr at h
    split at h
    · cases h
    · cases hw : wr f l with
      | none => rw [hw] at h; cases h
      | some t' => exact ih hw

/-- What is written is read as it was. -/
theorem rd_wr {f : Int} : ∀ {l t : List Int}, wr f l = some t → ∀ m, t.length ≤ m → rdL f m t = some l := by
  intro l
  induction l with
  | nil =>
    intro t h m hm
    unfold wr at h
    split at h
    · simp only [Option.some.injEq] at h
      subst h
      cases m <;> simp [rdL]
    · cases h
  | cons p l ih =>
    intro t h m hm
    unfold wr at h
    split at h
    · cases h
    · rename_i hne
      cases hw : wr f l with
      | none => rw [hw] at h; cases h
      | some t' =>
        rw [hw] at h
        simp only [Option.some.injEq] at h
        subst h
        have hp : 1 ≤ (one f p).length := by
          cases ho : one f p with
          | nil => exact absurd ho hne
          | cons => simp
        rw [List.length_append] at hm
        obtain ⟨m, rfl⟩ : ∃ j, m = j + 1 := ⟨m - 1, by omega⟩
        have hnn : one f p ++ t' ≠ [] := by intro e; rw [List.append_eq_nil_iff] at e; exact hne e.1
        rw [rdL, if_neg hnn, dec_full hne]
        simp only [List.drop_left]
        rw [ih hw m (by omega)]

/-- What is read was written just so. -/
theorem wr_rd {f : Int} (hf : 0 ≤ f ∧ f ≤ 2) : ∀ (m : Nat) {t l : List Int}, (∀ x ∈ t, 0 ≤ x ∧ x < 256) → rdL f m t = some l → wr f l = some t := by
  intro m
  induction m with
  | zero =>
    intro t l ht h
    unfold rdL at h
    split at h
    · rename_i he
      simp only [Option.some.injEq] at h
      subst h; subst he
      unfold wr
      rw [if_pos hf]
    · cases h
  | succ m ih =>
    intro t l ht h
    unfold rdL at h
    split at h
    · rename_i he
      simp only [Option.some.injEq] at h
      subst h; subst he
      unfold wr
      rw [if_pos hf]
    · cases hd : dec f t with
      | none => rw [hd] at h; cases h
      | some q =>
        obtain ⟨p, n⟩ := q
        rw [hd] at h
        simp only at h
        cases hr : rdL f m (t.drop n) with
        | none => rw [hr] at h; cases h
        | some a =>
          rw [hr] at h
          simp only [Option.some.injEq] at h
          subst h
          obtain ⟨h1, h2, h3⟩ := dec_sound ht hd
          have hne : one f p ≠ [] := by
            rw [h1]; intro e
            have := congrArg List.length e
            rw [List.length_take, List.length_nil] at this
            omega
          unfold wr
          rw [if_neg hne, ih (fun x hx => ht x (List.mem_of_mem_drop hx)) hr]
          simp only
          rw [h1, List.take_append_drop]

theorem rdL_len {f : Int} : ∀ (m : Nat) {t l : List Int}, (∀ x ∈ t, 0 ≤ x ∧ x < 256) → rdL f m t = some l → l.length ≤ t.length := by
  intro m
  induction m with
  | zero =>
    intro t l ht h
    unfold rdL at h
    split at h
    · simp only [Option.some.injEq] at h
      subst h; simp
    · cases h
  | succ m ih =>
    intro t l ht h
    unfold rdL at h
    split at h
    · simp only [Option.some.injEq] at h
      subst h; simp
    · cases hd : dec f t with
      | none => rw [hd] at h; cases h
      | some q =>
        obtain ⟨p, n⟩ := q
        rw [hd] at h
        simp only at h
        cases hr : rdL f m (t.drop n) with
        | none => rw [hr] at h; cases h
        | some a =>
          rw [hr] at h
          simp only [Option.some.injEq] at h
          subst h
          obtain ⟨h1, h2, h3⟩ := dec_sound ht hd
          have := ih (fun x hx => ht x (List.mem_of_mem_drop hx)) hr
          rw [List.length_drop] at this
          simp only [List.length_cons]
          omega

/-! ### sizes -/
def sz (f p : Int) : Int := if f = 2 then 1 else if f = 1 then (if p < 65536 then 2 else 4) else if p < 128 then 1 else if p < 2048 then 2 else if p < 65536 then 3 else if f = 0 then 4 else 3
def szL (f : Int) : List Int → Int
  | [] => 0
  | p :: l => sz f p + szL f l
theorem sz_range (f p : Int) : 1 ≤ sz f p ∧ sz f p ≤ 4 := by
  unfold sz; repeat' split
  all_goals omega
theorem szL_range (f : Int) (l : List Int) : 0 ≤ szL f l ∧ szL f l ≤ 4 * l.length := by
  induction l with
  | nil => simp [szL]
  | cons p l ih =>
    have := sz_range f p
    simp only [szL, List.length_cons]
    omega
theorem one_sz {f p : Int} (hf : 0 ≤ f ∧ f ≤ 2) (h : one f p ≠ []) : ((one f p).length : Int) = sz f p := by
  have hs : scal p = true := by
    cases hc : scal p with
    | true => rfl
    | false => unfold one at h; rw [hc] at h; simp at h
  by_cases h2 : f = 2
  · subst h2
    rw [one2, if_pos hs] at h ⊢
    by_cases hp : p > 255
    · rw [if_pos hp] at h; exact absurd rfl h
    · rw [if_neg hp]; simp [sz]
  · by_cases h1 : f = 1
    · subst h1
      rw [one16, if_pos hs]
      unfold e16 sz
      by_cases hp : p < 65536
      · simp [hp]
      · simp [hp]
    · obtain rfl : f = 0 := by omega
      rw [one8, if_pos hs]
      unfold e8 sz
      by_cases ha : p < 128
      · simp [ha]
      · by_cases hb : p < 2048
        · simp [ha, hb]
        · by_cases hc : p < 65536
          · simp [ha, hb, hc]
          · simp [ha, hb, hc]
theorem wr_sz {f : Int} : ∀ {l t : List Int}, wr f l = some t → (t.length : Int) = szL f l := by
  intro l
  induction l with
  | nil =>
    intro t h
    unfold wr at h
    split at h
    · simp only [Option.some.injEq] at h; subst h; simp [szL]
    · cases h
  | cons p l ih =>
    intro t h
    have hf := wr_form h
    unfold wr at h
    split at h
    · cases h
    · rename_i hne
      cases hw : wr f l with
      | none => rw [hw] at h; cases h
      | some t' =>
        rw [hw] at h
        simp only [Option.some.injEq] at h
        subst h
        have := ih hw
        have := one_sz hf hne
        simp only [List.length_append, szL]
        omega
/-- Is a number beyond 255 among them? -/
def wide : List Int → Bool
  | [] => false
  | p :: l => if p > 255 then true else wide l
def formOf (enc : Int) (l : List Int) : Int := if enc = 2 then (if wide l = true then 1 else 2) else enc
theorem wr_some {f : Int} (hf : 0 ≤ f ∧ f ≤ 2) : ∀ {l : List Int}, (∀ p ∈ l, scal p = true) → (f = 2 → wide l = false) → ∃ t, wr f l = some t := by
  intro l
  induction l with
  | nil => intro _ _; exact ⟨[], by unfold wr; rw [if_pos hf]⟩
  | cons p l ih =>
    intro hs hw
    have hp := hs p (by simp)
    have hne : one f p ≠ [] := by
      unfold one
      rw [if_pos hp]
      by_cases h2 : f = 2
      · rw [if_pos h2]
        have := hw h2
        unfold wide at this
        by_cases hb : p > 255
        · rw [if_pos hb] at this; cases this
        · rw [if_neg hb]; simp
      · rw [if_neg h2]
        by_cases h1 : f = 1
        · rw [if_pos h1]; intro e; have := (e16_len p).1; rw [e] at this; simp at this
        · rw [if_neg h1, if_pos (by omega)]; intro e; have := (e8_len p).1; rw [e] at this; simp at this
    obtain ⟨t, ht⟩ := ih (fun q hq => hs q (by simp [hq])) (fun h2 => by
      have := hw h2
      unfold wide at this
      split at this
      · cases this
      · exact this)
    exact ⟨one f p ++ t, by unfold wr; rw [if_neg hne, ht]⟩
end Go.Proofs.Ytmnnnkfdaepphaa.UtfS
