/- Layer 2: what is read, as the printed functions answer. -/
import Derived.Test.YtmnnnkfdaepphaaUtfF
namespace Go.Proofs.Ytmnnnkfdaepphaa.UtfR
set_option linter.unusedVariables false
set_option linter.unusedSimpArgs false
open Go.RowKit Go.Proofs.Ytmnnnkfdaepphaa.PA Go.Proofs.YtmnnnkfdaepphaaW.PrintWords Go.Proofs.YtmnnnkfdaepphaaW.PrintLast Go.Proofs.YtmnnnkfdaepphaaW.PrintMore
open Go.Proofs.Ytmnnnkfdaepphaa.Str Go.Proofs.Ytmnnnkfdaepphaa.UtfS Go.Proofs.Ytmnnnkfdaepphaa.UtfF

/-- What read8 and read16 answer. -/
def resD : Option (Int × Nat) → Int × Int
  | none => (0, 0)
  | some (p, n) => (p, n)

theorem resD_none : resD none = (0, 0) := rfl
theorem resD_some (p : Int) (n : Nat) : resD (some (p, n)) = (p, (n : Int)) := rfl

theorem wb (s : ByteArray) (i : Int) : wrap64 (bt s i) = bt s i := by
  have := bt_range s i
  exact wrap64_id (by omega) (by omega)

/-- The bytes behind the first one, gone through. -/
def cont : List Int → Int → Option Int
  | [], p => some p
  | d :: l, p => if 128 ≤ d ∧ d < 192 then cont l (p * 64 + d % 64) else none

theorem or64 (p d : Int) (h0 : 0 ≤ p) (h1 : p < 2 ^ 40) (hd : 0 ≤ d) (hd1 : d < 256) : Go.bits .or .i64 (wrap64 (p * 64)) (wrap64 (Go.bits .and .u8 d 63)) = p * 64 + d % 64 := by
  rw [and63b d hd hd1, wrap64_id (n := p * 64) (by omega) (by omega), wrap64_id (n := d % 64) (by omega) (by omega), join 6 _ _ (by omega) (by omega) (by omega) (by omega) (by omega) (by omega)]

theorem cont_range : ∀ (l : List Int) (p q : Int), 0 ≤ p → cont l p = some q → p ≤ q := by
  intro l
  induction l with
  | nil => intro p q _ h; simp only [cont, Option.some.injEq] at h; omega
  | cons d l ih =>
    intro p q h0 h
    unfold cont at h
    split at h
    · have := ih _ _ (by omega) h
      omega
    · cases h

theorem read8_l0 (n : Int) (least : Int) (t : ByteArray) (hn : t.size ≤ 3) :
    ∀ (m i : Nat) (p : Int) (k : Nat), i + m = t.size → 0 ≤ p → p < 64 ^ (i + 1) → m + 1 ≤ k →
      utf_read8.l0 k n least p t (t.size : Int) (i : Int) = some (match cont ((bytesOf t).drop i) p with
        | none => (0, 0)
        | some q => if least ≤ q ∧ scal q = true then (q, n) else (0, 0)) := by
  intro m
  induction m with
  | zero =>
    intro i p k hi h0 h1 hk
    obtain ⟨k, rfl⟩ : ∃ m, k = m + 1 := ⟨k - 1, by omega⟩
    have hd : (bytesOf t).drop i = [] := List.drop_eq_nil_of_le (by rw [bytesOf_length]; omega)
    rw [utf_read8.l0, if_neg (by omega), hd]
    simp only [cont]
    by_cases hp : p < least
    · rw [if_pos hp, if_neg (by omega)]
    · rw [if_neg hp, Scalar_eq]
      simp only [Option.bind_some]
      cases hs : scal p with
      | true => rw [if_pos rfl, if_pos ⟨by omega, rfl⟩]
      | false => simp
  | succ m ih =>
    intro i p k hi h0 h1 hk
    obtain ⟨k, rfl⟩ : ∃ m, k = m + 1 := ⟨k - 1, by omega⟩
    have hlt : i < (bytesOf t).length := by rw [bytesOf_length]; omega
    have hb := bytes_range t _ (getD_mem hlt)
    have hi1 : wrap64 ((i : Int) + 1) = ((i + 1 : Nat) : Int) := by rw [wrap64_id (by omega) (by omega)]; omega
    have hp : p < 2 ^ 40 := by
      have : i = 0 ∨ i = 1 ∨ i = 2 := by omega
      rcases this with rfl | rfl | rfl <;> simp only [Nat.zero_add, Nat.reduceAdd, Int.reducePow] at h1 ⊢ <;> omega
    rw [utf_read8.l0, if_pos (by omega), if_pos (by omega), if_pos (by omega), bt_nat, drop_cons hlt]
    generalize (bytesOf t).getD i 0 = d at *
    simp only [cont]
    by_cases hd : 128 ≤ d ∧ d < 192
    · rw [if_pos ((and192 d hb.1 hb.2).2 hd), if_pos hd, or64 p d h0 hp hb.1 hb.2, hi1]
      refine ih (i + 1) _ k (by omega) (by omega) ?_ (by omega)
      rw [Int.pow_succ] 
      omega
    · rw [if_neg (fun h => hd ((and192 d hb.1 hb.2).1 h)), if_neg hd]

/-- What becomes of n bytes, the first being told. -/
theorem read8_j2 (s : ByteArray) (hs : s.size ≤ 140737488351232) (n : Nat) (h2 : 2 ≤ n) (h4 : n ≤ 4) (least p : Int) (h0 : 0 ≤ p) (h1 : p < 64) (k : Nat) (hk : 10 ≤ k) :
    utf_read8.j2 k s (n : Int) least p = some (if n > s.size then (0, 0) else match cont (((bytesOf s).take n).drop 1) p with
        | none => (0, 0)
        | some q => if least ≤ q ∧ scal q = true then (q, (n : Int)) else (0, 0)) := by
  obtain ⟨k, rfl⟩ : ∃ m, k = m + 2 := ⟨k - 2, by omega⟩
  rw [utf_read8.j2, if_neg (by omega)]
  by_cases hn : n > s.size
  · rw [decide_eq_true (by omega), if_pos hn, utf_read8.j3, if_pos rfl]
  · rw [decide_eq_false (by omega), if_neg hn, utf_read8.j3, if_neg (by decide), if_pos (by omega), if_pos (by omega)]
    have hz : (s.extract 1 ((n : Int)).toNat).size = n - 1 := by
      rw [size_bytes, bytes_extract, List.length_drop, List.length_take, bytesOf_length]; omega
    have := read8_l0 n least (s.extract 1 ((n : Int)).toNat) (by omega) (n - 1) 0 p k (by omega) h0 (by simpa using h1) (by omega)
    rw [show ((0 : Nat) : Int) = 0 from rfl, List.drop_zero, bytes_extract, show ((n : Int)).toNat = n by omega] at this
    rw [show ((n : Int)).toNat = n by omega]
    exact this

theorem read8_eq (s : ByteArray) (hs : s.size ≤ 140737488351232) (hne : 0 < s.size) (k : Nat) (hk : 14 ≤ k) : utf_read8.f k s = some (resD (d8 (bytesOf s))) := by
  obtain ⟨k, rfl⟩ : ∃ m, k = m + 2 := ⟨k - 2, by omega⟩
  unfold utf_read8.f
  rw [if_pos (by omega), wb]
  have hlt : 0 < (bytesOf s).length := by rw [bytesOf_length]; omega
  have hb0 : bt s 0 = (bytesOf s).getD 0 0 := bt_nat s 0
  have hr := bytes_range s
  have hlen := bytesOf_length s
  rw [hb0]
  cases hl : bytesOf s with
  | nil => rw [hl] at hlt; simp at hlt
  | cons c r =>
    rw [hl] at hr hlen
    have hc := hr c (by simp)
    rw [List.length_cons] at hlen
    have hg : (c :: r).getD 0 0 = c := rfl
    rw [hg]
    simp only [d8]
    by_cases h1 : c < 128
    · rw [if_pos h1, if_pos h1]; rfl
    · rw [if_neg h1, if_neg h1]
      have j2 := fun n h2 h4 least p h0 h1 k hk => read8_j2 s hs n h2 h4 least p h0 h1 k hk
      rw [hl] at j2
      by_cases h192 : c ≥ 192
      · rw [if_pos h192]
        by_cases h224 : c < 224
        · rw [decide_eq_true h224, utf_read8.j0, if_pos rfl, and31 c (by omega) (by omega), if_pos (show 192 ≤ c ∧ c < 224 from ⟨h192, h224⟩)]
          have := j2 2 (by omega) (by omega) 128 (c % 32) (by omega) (by omega) (k + 1) (by omega)
          rw [show ((2 : Nat) : Int) = 2 from rfl] at this
          rw [this]
          cases r with
          | nil => rw [if_pos (by simp only [List.length_cons, List.length_nil] at hlen; omega)]; rfl
          | cons d r =>
            rw [if_neg (by simp only [List.length_cons] at hlen; omega)]
            simp only [List.take_succ_cons, List.take_zero, List.drop_succ_cons, List.drop_zero, cont]
            by_cases hd : 128 ≤ d ∧ d < 192
            · simp only [hd, and_self, if_true, true_and]
              split <;> rfl
            · simp only [hd, if_false, false_and]; rfl
        · rw [decide_eq_false h224, utf_read8.j0, if_neg (by decide), if_neg (show ¬ (192 ≤ c ∧ c < 224) from fun h => h224 h.2)]
          by_cases h240 : c < 240
          · rw [if_pos (show c ≥ 224 by omega), decide_eq_true h240, utf_read8.j1, if_pos rfl, and15 c (by omega) (by omega), if_pos (show 224 ≤ c ∧ c < 240 from ⟨by omega, h240⟩)]
            have := j2 3 (by omega) (by omega) 2048 (c % 16) (by omega) (by omega) k (by omega)
            rw [show ((3 : Nat) : Int) = 3 from rfl] at this
            rw [this]
            cases r with
            | nil => rw [if_pos (by simp only [List.length_cons, List.length_nil] at hlen; omega)]; rfl
            | cons d r =>
              cases r with
              | nil => rw [if_pos (by simp only [List.length_cons, List.length_nil] at hlen; omega)]; rfl
              | cons e r =>
                rw [if_neg (by simp only [List.length_cons] at hlen; omega)]
                simp only [List.take_succ_cons, List.take_zero, List.drop_succ_cons, List.drop_zero, cont]
                have hq : (c % 16 * 64 + d % 64) * 64 + e % 64 = c % 16 * 4096 + d % 64 * 64 + e % 64 := by omega
                rw [hq]
                by_cases hd : 128 ≤ d ∧ d < 192
                · by_cases he : 128 ≤ e ∧ e < 192
                  · simp only [hd, he, and_self, if_true, true_and]
                    split <;> rfl
                  · simp only [hd, he, and_self, if_true, if_false, true_and, false_and]; rfl
                · simp only [hd, if_false, false_and]; rfl
          · rw [if_pos (show c ≥ 224 by omega), decide_eq_false h240, utf_read8.j1, if_neg (by decide), if_pos (show c ≥ 240 by omega), if_neg (show ¬ (224 ≤ c ∧ c < 240) from fun h => h240 h.2)]
            by_cases h248 : c < 248
            · rw [if_pos h248, and7 c (by omega) (by omega), if_pos (show 240 ≤ c ∧ c < 248 from ⟨by omega, h248⟩)]
              have := j2 4 (by omega) (by omega) 65536 (c % 8) (by omega) (by omega) k (by omega)
              rw [show ((4 : Nat) : Int) = 4 from rfl] at this
              rw [this]
              cases r with
              | nil => rw [if_pos (by simp only [List.length_cons, List.length_nil] at hlen; omega)]; rfl
              | cons d r =>
                cases r with
                | nil => rw [if_pos (by simp only [List.length_cons, List.length_nil] at hlen; omega)]; rfl
                | cons e r =>
                  cases r with
                  | nil => rw [if_pos (by simp only [List.length_cons, List.length_nil] at hlen; omega)]; rfl
                  | cons g r =>
                    rw [if_neg (by simp only [List.length_cons] at hlen; omega)]
                    simp only [List.take_succ_cons, List.take_zero, List.drop_succ_cons, List.drop_zero, cont]
                    have hq : ((c % 8 * 64 + d % 64) * 64 + e % 64) * 64 + g % 64 = c % 8 * 262144 + d % 64 * 4096 + e % 64 * 64 + g % 64 := by omega
                    rw [hq]
                    by_cases hd : 128 ≤ d ∧ d < 192
                    · by_cases he : 128 ≤ e ∧ e < 192
                      · by_cases hh : 128 ≤ g ∧ g < 192
                        · simp only [hd, he, hh, and_self, if_true, true_and]
                          split <;> rfl
                        · simp only [hd, he, hh, and_self, if_true, if_false, true_and, false_and]; rfl
                      · simp only [hd, he, and_self, if_true, if_false, true_and, false_and]; rfl
                    · simp only [hd, if_false, false_and]; rfl
            · rw [if_neg h248, if_neg (show ¬ (240 ≤ c ∧ c < 248) from fun h => h248 h.2)]
              have hz : utf_read8.j2 k s 0 0 0 = some (0, 0) := by
                obtain ⟨k, rfl⟩ : ∃ m, k = m + 2 := ⟨k - 2, by omega⟩
                rw [utf_read8.j2, if_pos rfl, utf_read8.j3, if_pos rfl]
              rw [hz]; rfl
      · rw [if_neg h192, utf_read8.j0, if_neg (by decide), if_neg (show ¬ c ≥ 224 by omega), utf_read8.j1, if_neg (by decide), if_neg (show ¬ c ≥ 240 by omega), if_neg (show ¬ (192 ≤ c ∧ c < 224) by omega), if_neg (show ¬ (224 ≤ c ∧ c < 240) by omega), if_neg (show ¬ (240 ≤ c ∧ c < 248) by omega)]
        have hz : utf_read8.j2 k s 0 0 0 = some (0, 0) := by
          obtain ⟨k, rfl⟩ : ∃ m, k = m + 2 := ⟨k - 2, by omega⟩
          rw [utf_read8.j2, if_pos rfl, utf_read8.j3, if_pos rfl]
        rw [hz]; rfl
end Go.Proofs.Ytmnnnkfdaepphaa.UtfR
