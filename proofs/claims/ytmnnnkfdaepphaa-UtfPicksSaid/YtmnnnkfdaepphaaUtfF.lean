/- Layer 2: the printed functions answer as the plain side says. -/
import Derived.Test.YtmnnnkfdaepphaaPAx
import Derived.Test.YtmnnnkfdaepphaaUtfS
namespace Go.Proofs.Ytmnnnkfdaepphaa.UtfF
set_option linter.unusedVariables false
set_option linter.unusedSimpArgs false
open Go.RowKit Go.Proofs.Ytmnnnkfdaepphaa.PA Go.Proofs.YtmnnnkfdaepphaaW.PrintWords Go.Proofs.YtmnnnkfdaepphaaW.PrintLast Go.Proofs.YtmnnnkfdaepphaaW.PrintMore
open Go.Proofs.Ytmnnnkfdaepphaa.Str Go.Proofs.Ytmnnnkfdaepphaa.UtfS

/-! ### bits -/
theorem wraps_i64 (n : Int) (h0 : 0 ≤ n) (h1 : n < 2 ^ 63) : IntKind.i64.wrap n = n := by rw [IntKind.wrap_i64]; omega
theorem bor_comm (k : IntKind) (x y : Int) : Go.bits .or k x y = Go.bits .or k y x := by simp only [Go.bits, BitVec.or_comm]
theorem and63 (x : Int) (h0 : 0 ≤ x) (h1 : x < 2 ^ 63) : Go.bits .and .i64 x 63 = x % 64 := Go.bits_mask .i64 63 (by decide) wraps_i64 6 (by decide) x h0 h1
theorem and31 (x : Int) (h0 : 0 ≤ x) (h1 : x < 2 ^ 63) : Go.bits .and .i64 x 31 = x % 32 := Go.bits_mask .i64 63 (by decide) wraps_i64 5 (by decide) x h0 h1
theorem and15 (x : Int) (h0 : 0 ≤ x) (h1 : x < 2 ^ 63) : Go.bits .and .i64 x 15 = x % 16 := Go.bits_mask .i64 63 (by decide) wraps_i64 4 (by decide) x h0 h1
theorem and7 (x : Int) (h0 : 0 ≤ x) (h1 : x < 2 ^ 63) : Go.bits .and .i64 x 7 = x % 8 := Go.bits_mask .i64 63 (by decide) wraps_i64 3 (by decide) x h0 h1
theorem and1023 (x : Int) (h0 : 0 ≤ x) (h1 : x < 2 ^ 63) : Go.bits .and .i64 x 1023 = x % 1024 := Go.bits_mask .i64 63 (by decide) wraps_i64 10 (by decide) x h0 h1
theorem join (i : Nat) (x y : Int) (hx0 : 0 ≤ x) (hx : x % 2 ^ i = 0) (hx1 : x < 2 ^ 63) (hy0 : 0 ≤ y) (hy : y < 2 ^ i) (hy1 : y < 2 ^ 63) : Go.bits .or .i64 x y = x + y :=
  Go.bits_join .i64 63 (by decide) wraps_i64 i x y hx0 hx hx1 hy0 hy hy1
theorem and192 (x : Int) (h0 : 0 ≤ x) (h1 : x < 256) : Go.bits .and .u8 x 192 = 128 ↔ 128 ≤ x ∧ x < 192 := by
  have h : ∀ y : Fin 256, Go.bits .and .u8 (y.val : Int) 192 = 128 ↔ 128 ≤ (y.val : Int) ∧ (y.val : Int) < 192 := by decide +kernel
  have := h ⟨x.toNat, by omega⟩
  simp only at this
  rwa [show ((x.toNat : Nat) : Int) = x by omega] at this
theorem and63b (x : Int) (h0 : 0 ≤ x) (h1 : x < 256) : Go.bits .and .u8 x 63 = x % 64 := Go.u8_and63 x h0 h1

theorem shr_eq (x : Int) (j : Nat) (hj : j ≤ 64) : shr .i64 x (j : Int) = x / 2 ^ j := by
  unfold shr
  rw [show ((j : Int)).toNat = j by omega, Nat.min_eq_left (by simp [IntKind.bits]; omega)]

/-! ### characters -/
theorem Scalar_eq (p : Int) : utf_Scalar.f p = some (scal p) := by
  unfold utf_Scalar.f
  cases hs : scal p with
  | true =>
    have := scal_iff.1 hs
    rw [if_pos (by omega)]
    by_cases h : p < 55296
    · rw [if_pos h]
    · rw [if_neg h, if_pos (by omega), decide_eq_true (by omega)]
  | false =>
    have hn : ¬ (0 ≤ p ∧ p ≤ 1114111 ∧ (p < 55296 ∨ p > 57343)) := fun x => by rw [scal_iff.2 x] at hs; cases hs
    by_cases h : p ≥ 0
    · rw [if_pos h, if_neg (by omega)]
      by_cases h2 : p > 57343
      · rw [if_pos h2, decide_eq_false (by omega)]
      · rw [if_neg h2]
    · rw [if_neg h, if_neg (by omega)]

theorem rScalar_eq (p : Int) : scarfref02_Scalar.f p = some (scal p) := by
  unfold scarfref02_Scalar.f
  cases hs : scal p with
  | true =>
    have := scal_iff.1 hs
    rw [if_pos (by omega), if_pos (by omega)]
    by_cases h : p < 55296
    · rw [if_pos h]
    · rw [if_neg h, decide_eq_true (by omega)]
  | false =>
    have hn : ¬ (0 ≤ p ∧ p ≤ 1114111 ∧ (p < 55296 ∨ p > 57343)) := fun x => by rw [scal_iff.2 x] at hs; cases hs
    by_cases h : p ≥ 0
    · rw [if_pos h]
      by_cases h2 : p ≤ 1114111
      · rw [if_pos h2, if_neg (by omega), decide_eq_false (by omega)]
      · rw [if_neg h2]
    · rw [if_neg h]

theorem low_eq (j : Nat) (hj : j ≤ 64) (p : Int) (h0 : 0 ≤ p) (h1 : p < 2 ^ 62) : utf_put8_low.f (j : Int) p = some (128 + p / 2 ^ j % 64) := by
  unfold utf_put8_low.f
  have hp : 0 ≤ p / 2 ^ j := Int.ediv_nonneg h0 (Int.pow_nonneg (by omega))
  have hp2 : p / 2 ^ j ≤ p := Int.ediv_le_self _ h0
  rw [if_pos (by omega), shr_eq _ _ hj, and63 _ hp (by omega), join 6 128 _ (by omega) (by decide) (by omega) (by omega) (by omega) (by omega)]
  congr 1
  omega

theorem put8_eq (acc : List Int) (p : Int) (hs : scal p = true) (ha : acc.length + 4 ≤ 100000000000) : utf_put8.f acc p = some (acc ++ e8 p) := by
  have := scal_iff.1 hs
  have l0 : utf_put8_low.f 0 p = some (128 + p % 64) := by
    have := low_eq 0 (by omega) p (by omega) (by omega)
    rwa [Int.pow_zero, Int.ediv_one, show ((0 : Nat) : Int) = 0 from rfl] at this
  have l6 : utf_put8_low.f 6 p = some (128 + p / 64 % 64) := low_eq 6 (by omega) p (by omega) (by omega)
  have l12 : utf_put8_low.f 12 p = some (128 + p / 4096 % 64) := low_eq 12 (by omega) p (by omega) (by omega)
  unfold utf_put8.f e8
  by_cases h1 : p < 128
  · rw [if_pos h1, if_pos (by omega), if_pos h1, show p % 256 = p by omega]
  · rw [if_neg h1, if_neg h1]
    by_cases h2 : p < 2048
    · rw [if_pos h2, if_pos h2, l0, join 5 192 (p / 64) (by omega) (by decide) (by omega) (by omega) (by omega) (by omega)]
      simp only [Option.bind_some, List.length_cons, List.length_nil]
      rw [if_pos (by omega), show (192 + p / 64) % 256 = 192 + p / 64 by omega]
    · rw [if_neg h2, if_neg h2]
      by_cases h3 : p < 65536
      · rw [if_pos h3, if_pos h3, l6, l0, join 4 224 (p / 4096) (by omega) (by decide) (by omega) (by omega) (by omega) (by omega)]
        simp only [Option.bind_some, List.length_cons, List.length_nil]
        rw [if_pos (by omega), show (224 + p / 4096) % 256 = 224 + p / 4096 by omega]
      · rw [if_neg h3, if_neg h3, l12, l6, l0, join 3 240 (p / 262144) (by omega) (by decide) (by omega) (by omega) (by omega) (by omega)]
        simp only [Option.bind_some, List.length_cons, List.length_nil]
        rw [if_pos (by omega), show (240 + p / 262144) % 256 = 240 + p / 262144 by omega]

theorem put16_small (acc : List Int) (p : Int) (h0 : 0 ≤ p) (h1 : p < 65536) (ha : acc.length + 2 ≤ 100000000000) (k : Nat) : utf_put16.f (k + 1) acc p = some (acc ++ [p % 256, p / 256]) := by
  rw [utf_put16.f, if_pos h1]
  simp only [Option.bind_some, List.length_cons, List.length_nil]
  rw [if_pos (by omega), show p / 256 % 256 = p / 256 by omega]

theorem put16_eq (acc : List Int) (p : Int) (hs : scal p = true) (ha : acc.length + 4 ≤ 100000000000) (k : Nat) (hk : 2 ≤ k) : utf_put16.f k acc p = some (acc ++ e16 p) := by
  have := scal_iff.1 hs
  obtain ⟨k, rfl⟩ : ∃ m, k = m + 2 := ⟨k - 2, by omega⟩
  unfold e16
  by_cases h1 : p < 65536
  · rw [if_pos h1, put16_small acc p (by omega) h1 (by omega)]
  · rw [if_neg h1, utf_put16.f, if_neg h1, wrap64_id (by omega) (by omega), and1023 _ (by omega) (by omega),
      join 10 55296 ((p - 65536) / 1024) (by omega) (by decide) (by omega) (by omega) (by omega) (by omega), join 10 56320 ((p - 65536) % 1024) (by omega) (by decide) (by omega) (by omega) (by omega) (by omega),
      put16_small acc _ (by omega) (by omega) (by omega)]
    simp only [Option.bind_some]
    rw [put16_small _ _ (by omega) (by omega) (by simp only [List.length_append, List.length_cons, List.length_nil]; omega)]
    simp only [Option.bind_some, List.append_assoc, List.cons_append, List.nil_append]

/-- What Write and its reference answer. -/
def resW (acc : List Int) : Option (List Int) → ByteArray × Bool
  | none => (⟨#[]⟩, false)
  | some t => (strOfNums (acc ++ t), true)

theorem one_none {f p : Int} (hs : scal p = false) : one f p = [] := by unfold one; rw [hs]; simp

theorem Write_l0 (f : Int) (l : List Int) (hn : l.length ≤ 1000000) :
    ∀ (m i : Nat) (acc : List Int) (k : Nat), i + m = l.length → acc.length + 4 * m ≤ 10000000 → 2 * m + 6 ≤ k → (0 ≤ f ∧ f ≤ 2 ∨ acc = [] ∨ True) →
      utf_Write.l0 k f acc l (l.length : Int) (i : Int) = some (resW acc (wr f (l.drop i))) := by
  intro m
  induction m with
  | zero =>
    intro i acc k hi ha hk _
    obtain ⟨k, rfl⟩ : ∃ m, k = m + 1 := ⟨k - 1, by omega⟩
    rw [utf_Write.l0, if_neg (by omega), List.drop_eq_nil_of_le (by omega), wr]
    by_cases h : f < 0
    · rw [if_pos h, if_neg (by omega)]; rfl
    · rw [if_neg h]
      by_cases h2 : f > 2
      · rw [if_pos h2, if_neg (by omega)]; rfl
      · rw [if_neg h2, if_pos (by omega)]
        simp [resW]
  | succ m ih =>
    intro i acc k hi ha hk _
    obtain ⟨k, rfl⟩ : ∃ m, k = m + 2 := ⟨k - 2, by omega⟩
    have hlt : i < l.length := by omega
    have e : rd l (i : Int) = l.getD i 0 := by simp [rd]
    have hi1 : wrap64 ((i : Int) + 1) = ((i + 1 : Nat) : Int) := by rw [wrap64_id (by omega) (by omega)]; omega
    rw [utf_Write.l0, if_pos (by omega), if_pos (by omega), if_pos (by omega), e, Scalar_eq, drop_cons hlt]
    generalize l.getD i 0 = p
    rw [wr]
    have hfail : ∀ b, b = true → one f p = [] → utf_Write.j1 (k + 1) f acc p l (l.length : Int) (i : Int) b = some (resW acc (if one f p = [] then none else match wr f (l.drop (i + 1)) with | none => none | some t => some (one f p ++ t))) := by
      rintro b rfl ho
      rw [utf_Write.j1, if_pos rfl, if_pos ho]; rfl
    cases hs : scal p with
    | false =>
      simp only [Option.bind_some, Bool.false_eq_true, if_false]
      exact hfail true rfl (one_none hs)
    | true =>
      have hsi := scal_iff.1 hs
      simp only [Option.bind_some, if_true]
      have hok : ∀ t : List Int, one f p = t → t ≠ [] → t.length ≤ 4 → utf_Write.l0 k f (acc ++ t) l (l.length : Int) ((i + 1 : Nat) : Int) = some (resW acc (if one f p = [] then none else match wr f (l.drop (i + 1)) with | none => none | some t => some (one f p ++ t))) := by
        intro t ht hne h4
        rw [if_neg (by rw [ht]; exact hne), ih (i + 1) (acc ++ t) k (by omega) (by rw [List.length_append]; omega) (by omega) (.inr (.inr trivial)), ht]
        cases wr f (l.drop (i + 1)) with
        | none => rfl
        | some t' => simp [resW]
      have go : ∀ b, b = false → (f = 2 → p ≤ 255) → utf_Write.j1 (k + 1) f acc p l (l.length : Int) (i : Int) b = some (resW acc (if one f p = [] then none else match wr f (l.drop (i + 1)) with | none => none | some t => some (one f p ++ t))) := by
        rintro b rfl h2
        rw [utf_Write.j1, if_neg (by decide)]
        by_cases f0 : f = 0
        · subst f0
          rw [if_pos rfl, put8_eq acc p hs (by omega)]
          simp only [Option.bind_some]
          rw [hi1]
          have h1 := e8_len p
          exact hok (e8 p) (by rw [one8, if_pos hs]) (by intro e; rw [e] at h1; simp at h1) h1.2
        · rw [if_neg f0]
          by_cases f1 : f = 1
          · subst f1
            rw [if_pos rfl, put16_eq acc p hs (by omega) k (by omega)]
            simp only [Option.bind_some]
            rw [hi1]
            have h1 := e16_len p
            exact hok (e16 p) (by rw [one16, if_pos hs]) (by intro e; rw [e] at h1; simp at h1) h1.2
          · rw [if_neg f1]
            by_cases f2 : f = 2
            · have h2' := h2 f2
              subst f2
              rw [if_pos rfl, if_pos (by omega), hi1, show p % 256 = p by omega]
              exact hok [p] (by rw [one2, if_pos hs, if_neg (by omega)]) (by simp) (by simp)
            · rw [if_neg f2, hi1, ih (i + 1) acc k (by omega) (by omega) (by omega) (.inr (.inr trivial))]
              have ho : one f p = [] := by unfold one; rw [if_pos hs, if_neg f2, if_neg f1, if_neg f0]
              rw [if_pos ho]
              cases hw : wr f (l.drop (i + 1)) with
              | none => rfl
              | some t' => have := wr_form hw; omega
      by_cases f2 : f = 2
      · rw [if_pos f2]
        by_cases hp : p > 255
        · rw [show decide (p > 255) = true from decide_eq_true hp]
          exact hfail true rfl (by unfold one; rw [if_pos hs, if_pos f2, if_pos hp])
        · rw [show decide (p > 255) = false from decide_eq_false hp]
          exact go false rfl (fun _ => by omega)
      · rw [if_neg f2]
        exact go false rfl (fun h => absurd h f2)

theorem Write_eq (f : Int) (l : List Int) (hn : l.length ≤ 1000000) (k : Nat) (hk : 2 * l.length + 6 ≤ k) : utf_Write.f k f l = some (resW [] (wr f l)) := by
  unfold utf_Write.f
  have := Write_l0 f l hn l.length 0 [] k (by omega) (by simp; omega) hk (.inr (.inr trivial))
  rwa [List.drop_zero, show ((0 : Nat) : Int) = 0 from rfl] at this

/-! ### the reference's -/
theorem text_l0 (l : List Int) (hl : ∀ x ∈ l, 0 ≤ x ∧ x < 256) (hn : l.length ≤ 10) : ∀ (m i : Nat) (k : Nat), i + m = l.length → m + 1 ≤ k → scarfref02_text.l0 k l (l.take i) (i : Int) = some (strOfNums l) := by
  intro m
  induction m with
  | zero =>
    intro i k hi hk
    obtain ⟨k, rfl⟩ : ∃ m, k = m + 1 := ⟨k - 1, by omega⟩
    rw [scarfref02_text.l0, if_neg (by omega), List.take_of_length_le (by omega)]
  | succ m ih =>
    intro i k hi hk
    obtain ⟨k, rfl⟩ : ∃ m, k = m + 1 := ⟨k - 1, by omega⟩
    have hlt : i < l.length := by omega
    have e : rd l (i : Int) = l.getD i 0 := by simp [rd]
    have hi1 : wrap64 ((i : Int) + 1) = ((i + 1 : Nat) : Int) := by rw [wrap64_id (by omega) (by omega)]; omega
    have hx := hl _ (getD_mem hlt)
    have ht : l.take i ++ [l.getD i 0] = l.take (i + 1) := by
      rw [List.take_succ_eq_append_getElem hlt]
      simp [List.getD, List.getElem?_eq_getElem hlt]
    rw [scarfref02_text.l0, if_pos (by omega), if_pos (by omega), if_pos (by rw [List.length_take]; omega), e, show l.getD i 0 % 256 = l.getD i 0 by omega, ht, hi1, ih (i + 1) k (by omega) (by omega)]

theorem text_eq (l : List Int) (hl : ∀ x ∈ l, 0 ≤ x ∧ x < 256) (hn : l.length ≤ 10) (k : Nat) (hk : 12 ≤ k) : scarfref02_text.f k l = some (strOfNums l) := by
  unfold scarfref02_text.f
  have := text_l0 l hl hn l.length 0 k (by omega) (by omega)
  rwa [List.take_zero, show ((0 : Nat) : Int) = 0 from rfl] at this

theorem One_eq (f p : Int) (k : Nat) (hk : 12 ≤ k) : scarfref02_One.f k f p = some (strOfNums (one f p)) := by
  unfold scarfref02_One.f
  rw [rScalar_eq]
  simp only [Option.bind_some]
  have hr := one_range f p
  have hl := one_len f p
  cases hs : scal p with
  | false => rw [one_none hs]; rfl
  | true =>
    have hsi := scal_iff.1 hs
    rw [if_pos rfl]
    by_cases f2 : f = 2
    · subst f2
      rw [if_pos rfl]
      rw [one2, if_pos hs] at hr hl ⊢
      by_cases hp : p > 255
      · rw [if_pos hp, if_pos hp]; rfl
      · rw [if_neg hp] at hr hl ⊢
        rw [if_neg hp, text_eq [p] hr (by simp) k hk]; rfl
    · rw [if_neg f2]
      by_cases f1 : f = 1
      · subst f1
        rw [if_pos rfl]
        rw [one16, if_pos hs] at hr hl ⊢
        unfold e16 at hr hl ⊢
        by_cases hp : p < 65536
        · rw [if_pos hp] at hr hl ⊢
          rw [if_pos hp, Int.tmod_eq_emod_of_nonneg (by omega), Int.tdiv_eq_ediv_of_nonneg (by omega), wrap64_id (by omega) (by omega), text_eq _ hr (by simp) k hk]; rfl
        · rw [if_neg hp] at hr hl ⊢
          have a1 : wrap64 (p - 65536) = p - 65536 := wrap64_id (by omega) (by omega)
          have a2 : wrap64 (Int.tdiv (p - 65536) 1024) = (p - 65536) / 1024 := by rw [Int.tdiv_eq_ediv_of_nonneg (by omega), wrap64_id (by omega) (by omega)]
          have a3 : wrap64 (55296 + (p - 65536) / 1024) = 55296 + (p - 65536) / 1024 := wrap64_id (by omega) (by omega)
          have a4 : wrap64 (56320 + (p - 65536).tmod 1024) = 56320 + (p - 65536) % 1024 := by rw [Int.tmod_eq_emod_of_nonneg (by omega), wrap64_id (by omega) (by omega)]
          rw [if_neg hp, a1, a2, a3, a4, Int.tmod_eq_emod_of_nonneg (by omega), Int.tmod_eq_emod_of_nonneg (by omega), Int.tdiv_eq_ediv_of_nonneg (by omega), Int.tdiv_eq_ediv_of_nonneg (by omega),
            wrap64_id (by omega) (by omega), wrap64_id (by omega) (by omega), text_eq _ hr (by simp) k hk]; rfl
      · rw [if_neg f1]
        by_cases f0 : f = 0
        · subst f0
          rw [if_pos rfl]
          rw [one8, if_pos hs] at hr hl ⊢
          unfold e8 at hr hl ⊢
          have m64 : p.tmod 64 = p % 64 := Int.tmod_eq_emod_of_nonneg (by omega)
          have d64 : wrap64 (p.tdiv 64) = p / 64 := by rw [Int.tdiv_eq_ediv_of_nonneg (by omega), wrap64_id (by omega) (by omega)]
          have d4096 : wrap64 (p.tdiv 4096) = p / 4096 := by rw [Int.tdiv_eq_ediv_of_nonneg (by omega), wrap64_id (by omega) (by omega)]
          have d262144 : wrap64 (p.tdiv 262144) = p / 262144 := by rw [Int.tdiv_eq_ediv_of_nonneg (by omega), wrap64_id (by omega) (by omega)]
          have w0 : wrap64 (128 + p % 64) = 128 + p % 64 := wrap64_id (by omega) (by omega)
          have w6 : wrap64 (128 + (p / 64).tmod 64) = 128 + p / 64 % 64 := by rw [Int.tmod_eq_emod_of_nonneg (by omega), wrap64_id (by omega) (by omega)]
          have w12 : wrap64 (128 + (p / 4096).tmod 64) = 128 + p / 4096 % 64 := by rw [Int.tmod_eq_emod_of_nonneg (by omega), wrap64_id (by omega) (by omega)]
          rw [m64, d64, d4096, d262144, w0, w6, w12]
          by_cases h1 : p < 128
          · rw [if_pos h1] at hr hl ⊢
            rw [if_pos h1, text_eq _ hr (by simp) k hk]; rfl
          · rw [if_neg h1] at hr hl ⊢
            rw [if_neg h1]
            by_cases h2 : p < 2048
            · rw [if_pos h2] at hr hl ⊢
              rw [if_pos h2, wrap64_id (n := 192 + p / 64) (by omega) (by omega), text_eq _ hr (by simp) k hk]; rfl
            · rw [if_neg h2] at hr hl ⊢
              rw [if_neg h2]
              by_cases h3 : p < 65536
              · rw [if_pos h3] at hr hl ⊢
                rw [if_pos h3, wrap64_id (n := 224 + p / 4096) (by omega) (by omega), text_eq _ hr (by simp) k hk]; rfl
              · rw [if_neg h3] at hr hl ⊢
                rw [if_neg h3, wrap64_id (n := 240 + p / 262144) (by omega) (by omega), text_eq _ hr (by simp) k hk]; rfl
        · rw [if_neg f0]
          have ho : one f p = [] := by unfold one; rw [if_pos hs, if_neg f2, if_neg f1, if_neg f0]
          rw [ho]; rfl

theorem nums_nil_iff (l : List Int) : (strOfNums l).toList = ([] : List UInt8) ↔ l = [] := by
  rw [ByteArray.toList_eq, strOfNums_data]
  exact List.map_eq_nil_iff

theorem rWrite_l0 (f : Int) (l : List Int) (hn : l.length ≤ 1000000) :
    ∀ (m i : Nat) (acc : List Int) (k : Nat), i + m = l.length → acc.length + 4 * m ≤ 10000000 → m + 14 ≤ k → (0 ≤ f ∧ f ≤ 2 ∨ acc = []) →
      scarfref02_Write.l0 k f l (strOfNums acc) (i : Int) = some (resW acc (wr f (l.drop i))) := by
  intro m
  induction m with
  | zero =>
    intro i acc k hi ha hk hf
    obtain ⟨k, rfl⟩ : ∃ m, k = m + 1 := ⟨k - 1, by omega⟩
    rw [scarfref02_Write.l0, if_neg (by omega), List.drop_eq_nil_of_le (by omega), wr]
    by_cases h : 0 ≤ f ∧ f ≤ 2
    · rw [if_pos h, if_pos h.1, decide_eq_true h.2]
      simp [resW]
    · have hacc : acc = [] := hf.resolve_left h
      subst hacc
      rw [if_neg h]
      by_cases h0 : f ≥ 0
      · rw [if_pos h0, decide_eq_false (by omega)]; rfl
      · rw [if_neg h0]; rfl
  | succ m ih =>
    intro i acc k hi ha hk hf
    obtain ⟨k, rfl⟩ : ∃ m, k = m + 1 := ⟨k - 1, by omega⟩
    have hlt : i < l.length := by omega
    have e : rd l (i : Int) = l.getD i 0 := by simp [rd]
    have hi1 : wrap64 ((i : Int) + 1) = ((i + 1 : Nat) : Int) := by rw [wrap64_id (by omega) (by omega)]; omega
    rw [scarfref02_Write.l0, if_pos (by omega), if_pos (by omega), e, One_eq _ _ _ (by omega), drop_cons hlt]
    generalize l.getD i 0 = p
    rw [wr]
    simp only [Option.bind_some]
    have hol := one_len f p
    by_cases ho : one f p = []
    · rw [if_pos ((nums_nil_iff _).2 ho), if_pos ho]; rfl
    · have hf' : 0 ≤ f ∧ f ≤ 2 := by
        have h' := ho
        unfold one at h'
        by_cases hs : scal p = true
        · rw [if_pos hs] at h'
          by_cases f2 : f = 2
          · omega
          · rw [if_neg f2] at h'
            by_cases f1 : f = 1
            · omega
            · rw [if_neg f1] at h'
              by_cases f0 : f = 0
              · omega
              · rw [if_neg f0] at h'; exact absurd rfl h'
        · rw [if_neg hs] at h'; exact absurd rfl h'
      have hz : (strOfNums acc).size + (strOfNums (one f p)).size ≤ 9223372036854775807 := by
        have := strOfNums_size acc; have := strOfNums_size (one f p); omega
      rw [if_neg (fun h => ho ((nums_nil_iff _).1 h)), if_neg ho, if_pos hz, ← strOfNums_append, hi1, ih (i + 1) _ k (by omega) (by rw [List.length_append]; omega) (by omega) (.inl hf')]
      cases wr f (l.drop (i + 1)) with
      | none => rfl
      | some t' => simp [resW]

theorem rWrite_eq (f : Int) (l : List Int) (hn : l.length ≤ 1000000) (k : Nat) (hk : l.length + 14 ≤ k) : scarfref02_Write.f k f l = some (resW [] (wr f l)) := by
  unfold scarfref02_Write.f
  have := rWrite_l0 f l hn l.length 0 [] k (by omega) (by simp; omega) hk (.inr rfl)
  rwa [List.drop_zero, show ((0 : Nat) : Int) = 0 from rfl] at this
end Go.Proofs.Ytmnnnkfdaepphaa.UtfF
