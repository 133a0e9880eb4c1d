/- Layer 2: Read and its reference, Form and Size, as the printed functions answer. -/
import Derived.Test.YtmnnnkfdaepphaaUtfR
import Derived.Test.YtmnnnkfdaepphaaSame
namespace Go.Proofs.Ytmnnnkfdaepphaa.UtfQ
set_option linter.unusedVariables false
set_option linter.unusedSimpArgs false
open Go.RowKit Go.Proofs.Ytmnnnkfdaepphaa.PA Go.Proofs.YtmnnnkfdaepphaaW.PrintWords Go.Proofs.YtmnnnkfdaepphaaW.PrintLast Go.Proofs.YtmnnnkfdaepphaaW.PrintMore
open Go.Proofs.Ytmnnnkfdaepphaa.Str Go.Proofs.Ytmnnnkfdaepphaa.UtfS Go.Proofs.Ytmnnnkfdaepphaa.UtfF Go.Proofs.Ytmnnnkfdaepphaa.UtfR

theorem unit_eq (s : ByteArray) (h : 2 ≤ s.size) : utf_unit.f s = some ((bytesOf s).getD 0 0 + 256 * (bytesOf s).getD 1 0) := by
  unfold utf_unit.f
  have h0 := bt_range s 0
  have h1 := bt_range s 1
  rw [if_pos (by omega), if_pos (by omega), wb, wb, wrap64_id (n := bt s 1 * 256) (by omega) (by omega), bor_comm, join 8 _ _ (by omega) (by omega) (by omega) (by omega) (by omega) (by omega),
    show bt s 0 = (bytesOf s).getD 0 0 from bt_nat s 0, show bt s 1 = (bytesOf s).getD 1 0 from bt_nat s 1]
  congr 1
  omega

theorem read16_eq (s : ByteArray) (hs : s.size ≤ 140737488351232) (k : Nat) (hk : 4 ≤ k) : utf_read16.f k s = some (resD (d16 (bytesOf s))) := by
  unfold utf_read16.f
  have hr := bytes_range s
  have hlen := bytesOf_length s
  by_cases h2 : (s.size : Int) < 2
  · rw [if_pos h2]
    cases hl : bytesOf s with
    | nil => rfl
    | cons a r =>
      cases r with
      | nil => rfl
      | cons b r => rw [hl] at hlen; simp at hlen; omega
  · rw [if_neg h2, unit_eq s (by omega)]
    simp only [Option.bind_some]
    rw [Scalar_eq]
    simp only [Option.bind_some]
    have hx : 4 ≤ s.size → utf_unit.f (s.extract 2 s.size) = some ((bytesOf s).getD 2 0 + 256 * (bytesOf s).getD 3 0) := by
      intro h4
      rw [unit_eq _ (by rw [size_bytes, bytes_rest, List.length_drop, bytesOf_length]; omega), bytes_rest]
      simp only [List.getD, List.getElem?_drop]
    cases hl : bytesOf s with
    | nil => rw [hl] at hlen; simp at hlen; omega
    | cons a r =>
      cases r with
      | nil => rw [hl] at hlen; simp at hlen; omega
      | cons b r =>
        rw [hl] at hr hlen hx
        have ha := hr a (by simp)
        have hb := hr b (by simp)
        have g0 : (a :: b :: r).getD 0 0 = a := rfl
        have g1 : (a :: b :: r).getD 1 0 = b := rfl
        rw [g0, g1]
        obtain ⟨k, rfl⟩ : ∃ m, k = m + 1 := ⟨k - 1, by omega⟩
        simp only [d16]
        cases hs2 : scal (a + 256 * b) with
        | true => simp only [if_true, resD]; rfl
        | false =>
          have hn : ¬ (0 ≤ a + 256 * b ∧ a + 256 * b ≤ 1114111 ∧ (a + 256 * b < 55296 ∨ a + 256 * b > 57343)) := fun x => by rw [scal_iff.2 x] at hs2; cases hs2
          simp only [Bool.false_eq_true, if_false]
          by_cases h3 : a + 256 * b ≥ 56320
          · rw [if_pos h3, if_pos h3, utf_read16.j0, if_pos rfl]; rfl
          · rw [if_neg h3, if_neg h3]
            by_cases h4 : (s.size : Int) < 4
            · rw [decide_eq_true h4, utf_read16.j0, if_pos rfl]
              cases r with
              | nil => rfl
              | cons c r =>
                cases r with
                | nil => rfl
                | cons d r => simp at hlen; omega
            · rw [decide_eq_false h4, utf_read16.j0, if_neg (by decide), if_pos (by omega), hx (by omega)]
              simp only [Option.bind_some]
              cases r with
              | nil => simp at hlen; omega
              | cons c r =>
                cases r with
                | nil => simp at hlen; omega
                | cons d r =>
                  have hc := hr c (by simp)
                  have hd := hr d (by simp)
                  have g2 : (a :: b :: c :: d :: r).getD 2 0 = c := rfl
                  have g3 : (a :: b :: c :: d :: r).getD 3 0 = d := rfl
                  rw [g2, g3]
                  simp only
                  by_cases h5 : 56320 ≤ c + 256 * d ∧ c + 256 * d < 57344
                  · rw [if_pos (by omega), if_pos (by omega), if_pos h5, wrap64_id (n := a + 256 * b - 55296) (by omega) (by omega), wrap64_id (n := (a + 256 * b - 55296) * 1024) (by omega) (by omega),
                      wrap64_id (n := 65536 + (a + 256 * b - 55296) * 1024) (by omega) (by omega), wrap64_id (n := c + 256 * d - 56320) (by omega) (by omega), wrap64_id (by omega) (by omega)]; rfl
                  · rw [if_neg h5]
                    by_cases h6 : c + 256 * d ≥ 56320
                    · rw [if_pos h6, if_neg (by omega)]; rfl
                    · rw [if_neg h6]; rfl

/-- What Read and its reference answer. -/
def resR (acc : List Int) : Option (List Int) → List Int × Bool
  | none => ([], false)
  | some a => (acc ++ a, true)

theorem dec_len {f : Int} {l : List Int} (hl : ∀ x ∈ l, 0 ≤ x ∧ x < 256) {p : Int} {n : Nat} (h : dec f l = some (p, n)) : 1 ≤ n ∧ n ≤ l.length := (dec_sound hl h).2

theorem empty_iff (s : ByteArray) : s.toList = ([] : List UInt8) ↔ s.size = 0 := by
  rw [ByteArray.toList_eq]
  constructor
  · intro h; rw [← data_length, h]; rfl
  · intro h
    have := data_length s
    exact List.length_eq_zero_iff.1 (by omega)

theorem Read_l0 (f : Int) (hf : 0 ≤ f ∧ f ≤ 2) : ∀ (m : Nat) (s : ByteArray) (acc : List Int) (k : Nat), s.size ≤ m → m ≤ 1000000 → acc.length + m ≤ 10000000 → m + 20 ≤ k →
    utf_Read.l0 k f s acc = some (resR acc (rdL f m (bytesOf s))) := by
  intro m
  induction m with
  | zero =>
    intro s acc k hm _ ha hk
    obtain ⟨k, rfl⟩ : ∃ m, k = m + 1 := ⟨k - 1, by omega⟩
    have hb : bytesOf s = [] := bytes_nil_iff.2 (by omega)
    rw [utf_Read.l0, if_pos ((empty_iff s).2 (by omega)), if_pos hf.1, decide_eq_true hf.2, hb]
    simp [rdL, resR]
  | succ m ih =>
    intro s acc k hm hM ha hk
    obtain ⟨k, rfl⟩ : ∃ m, k = m + 1 := ⟨k - 1, by omega⟩
    rw [utf_Read.l0]
    by_cases h0 : s.size = 0
    · have hb : bytesOf s = [] := bytes_nil_iff.2 h0
      rw [if_pos ((empty_iff s).2 h0), if_pos hf.1, decide_eq_true hf.2, hb]
      simp [rdL, resR]
    · have hb : bytesOf s ≠ [] := fun h => h0 (bytes_nil_iff.1 h)
      have hlt : acc.length < 17592186044416 := by omega
      have goal2 : ∀ (p : Int) (n : Nat), dec f (bytesOf s) = some (p, n) → utf_Read.l0 k f (s.extract n s.size) (acc ++ [p]) = some (resR acc (rdL f (m + 1) (bytesOf s))) := by
        intro p n hd
        have hl := dec_len (bytes_range s) hd
        rw [bytesOf_length] at hl
        have hz : (s.extract n s.size).size = s.size - n := by rw [size_bytes, bytes_rest, List.length_drop, bytesOf_length]
        rw [ih (s.extract n s.size) (acc ++ [p]) k (by omega) (by omega) (by rw [List.length_append, List.length_singleton]; omega) (by omega), bytes_rest, rdL, if_neg hb, hd]
        simp only
        cases rdL f m ((bytesOf s).drop n) with
        | none => rfl
        | some a => simp [resR]
      have none2 : dec f (bytesOf s) = none → some (resR acc (rdL f (m + 1) (bytesOf s))) = some (([] : List Int), false) := by
        intro hd
        rw [rdL, if_neg hb, hd]; rfl
      rw [if_neg (fun h => h0 ((empty_iff s).1 h)), if_pos (by omega)]
      by_cases f0 : f = 0
      · subst f0
        have hde : dec 0 (bytesOf s) = d8 (bytesOf s) := by simp [dec]
        rw [if_pos rfl, read8_eq s (by omega) (by omega) k (by omega)]
        simp only [Option.bind_some]
        cases hd : d8 (bytesOf s) with
        | none => rw [none2 (by rw [hde, hd])]; simp [resD]
        | some q =>
          obtain ⟨p, n⟩ := q
          have hg := goal2 p n (by rw [hde, hd])
          have hl := dec_len (f := 0) (bytes_range s) (by rw [hde, hd])
          rw [bytesOf_length] at hl
          rw [resD_some]
          simp only
          rw [if_neg (show ¬ ((n : Int) = 0) by omega), if_pos hlt, if_pos (by omega), if_pos (by omega), show ((n : Int)).toNat = n by omega]
          exact hg
      · rw [if_neg f0]
        by_cases f1 : f = 1
        · subst f1
          have hde : dec 1 (bytesOf s) = d16 (bytesOf s) := by simp [dec]
          rw [if_pos rfl, read16_eq s (by omega) k (by omega)]
          simp only [Option.bind_some]
          cases hd : d16 (bytesOf s) with
          | none => rw [none2 (by rw [hde, hd])]; simp [resD]
          | some q =>
            obtain ⟨p, n⟩ := q
            have hg := goal2 p n (by rw [hde, hd])
            have hl := dec_len (f := 1) (bytes_range s) (by rw [hde, hd])
            rw [bytesOf_length] at hl
            rw [resD_some]
            simp only
            rw [if_neg (show ¬ ((n : Int) = 0) by omega), if_pos hlt, if_pos (by omega), if_pos (by omega), show ((n : Int)).toNat = n by omega]
            exact hg
        · obtain rfl : f = 2 := by omega
          rw [if_neg f1, if_pos rfl, if_neg (by decide), if_pos hlt, if_pos (by omega), wb, show bt s 0 = (bytesOf s).getD 0 0 from bt_nat s 0]
          refine goal2 _ 1 ?_
          cases hl : bytesOf s with
          | nil => exact absurd hl hb
          | cons c r => simp [dec]

/-- What Read answers at all. -/
def readR (f : Int) (l : List Int) : List Int × Bool := if 0 ≤ f ∧ f ≤ 2 then resR [] (rdL f l.length l) else ([], false)

theorem Read_eq (f : Int) (s : ByteArray) (hs : s.size ≤ 1000000) (k : Nat) (hk : s.size + 20 ≤ k) : utf_Read.f k f s = some (readR f (bytesOf s)) := by
  unfold utf_Read.f readR
  by_cases hf : 0 ≤ f ∧ f ≤ 2
  · rw [if_pos hf, Read_l0 f hf s.size s [] k (by omega) hs (by simp; omega) (by omega), bytesOf_length]
  · rw [if_neg hf]
    obtain ⟨k, rfl⟩ : ∃ m, k = m + 1 := ⟨k - 1, by omega⟩
    rw [utf_Read.l0]
    by_cases h0 : s.size = 0
    · rw [if_pos ((empty_iff s).2 h0)]
      by_cases h1 : f ≥ 0
      · rw [if_pos h1, decide_eq_false (by omega)]
      · rw [if_neg h1]
    · rw [if_neg (fun h => h0 ((empty_iff s).1 h)), if_pos (by omega), if_neg (by omega), if_neg (by omega), if_neg (by omega)]

/-! ### the reference -/
def gs (f : Int) (l : List Int) (k : Nat) : Int :=
  if k = 1 then l.getD 0 0
  else if f = 1 then (if k = 2 then l.getD 0 0 + 256 * l.getD 1 0 else if k = 3 then -1 else 65536 + (l.getD 0 0 + 256 * l.getD 1 0 - 55296) * 1024 + l.getD 2 0 + 256 * l.getD 3 0 - 56320)
  else if k = 2 then l.getD 0 0 % 32 * 64 + l.getD 1 0 % 64
  else if k = 3 then l.getD 0 0 % 16 * 4096 + l.getD 1 0 % 64 * 64 + l.getD 2 0 % 64
  else l.getD 0 0 % 8 * 262144 + l.getD 1 0 % 64 * 4096 + l.getD 2 0 % 64 * 64 + l.getD 3 0 % 64

theorem guess_eq (f : Int) (s : ByteArray) (j : Nat) (h1 : 1 ≤ j) (h4 : j ≤ 4) (hj : j ≤ s.size) (k : Nat) (hk : 3 ≤ k) : scarfref02_guess.f k f s (j : Int) = some (gs f (bytesOf s) j) := by
  obtain ⟨k, rfl⟩ : ∃ m, k = m + 2 := ⟨k - 2, by omega⟩
  unfold scarfref02_guess.f gs
  have e0 : bt s 0 = (bytesOf s).getD 0 0 := bt_nat s 0
  have e1 : bt s 1 = (bytesOf s).getD 1 0 := bt_nat s 1
  have e2 : bt s 2 = (bytesOf s).getD 2 0 := bt_nat s 2
  have e3 : bt s 3 = (bytesOf s).getD 3 0 := bt_nat s 3
  have r0 := bt_range s 0
  have r1 := bt_range s 1
  have r2 := bt_range s 2
  have r3 := bt_range s 3
  rw [wb, wb, e0, e1] 
  rw [e0] at r0; rw [e1] at r1; rw [e2] at r2; rw [e3] at r3
  generalize (bytesOf s).getD 0 0 = a at *
  generalize (bytesOf s).getD 1 0 = b at *
  generalize hc : (bytesOf s).getD 2 0 = c at *
  generalize hd : (bytesOf s).getD 3 0 = d at *
  have w1 : wrap64 (a + wrap64 (256 * b)) = a + 256 * b := by rw [wrap64_id (n := 256 * b) (by omega) (by omega), wrap64_id (by omega) (by omega)]
  have ta : ∀ n : Int, a.tmod n = a % n := fun n => Int.tmod_eq_emod_of_nonneg (by omega)
  have tb : ∀ n : Int, b.tmod n = b % n := fun n => Int.tmod_eq_emod_of_nonneg (by omega)
  have tc : ∀ n : Int, c.tmod n = c % n := fun n => Int.tmod_eq_emod_of_nonneg (by omega)
  have td : ∀ n : Int, d.tmod n = d % n := fun n => Int.tmod_eq_emod_of_nonneg (by omega)
  rw [if_pos (by omega)]
  by_cases j1 : j = 1
  · rw [if_pos (show (j : Int) = 1 by omega), if_pos j1]
  · rw [if_neg (by omega), if_neg j1, if_pos (by omega)]
    by_cases f1 : f = 1
    · rw [if_pos f1, if_pos f1]
      by_cases j2 : j = 2
      · rw [show ((j : Int) == 2) = true by simp [j2], scarfref02_guess.j0, if_pos rfl, w1, if_pos j2]
      · rw [show ((j : Int) == 2) = false by simp; omega, scarfref02_guess.j0, if_neg (by decide), if_pos f1, if_neg j2]
        by_cases j3 : j = 3
        · rw [show ((j : Int) == 3) = true by simp [j3], scarfref02_guess.j1, if_pos rfl, if_pos j3]
        · rw [show ((j : Int) == 3) = false by simp; omega, scarfref02_guess.j1, if_neg (by decide), if_pos f1, if_neg j3, if_pos (by omega), if_pos (by omega), wb, wb, e2, e3, w1,
            wrap64_id (n := a + 256 * b - 55296) (by omega) (by omega), wrap64_id (n := (a + 256 * b - 55296) * 1024) (by omega) (by omega), wrap64_id (n := 65536 + (a + 256 * b - 55296) * 1024) (by omega) (by omega),
            wrap64_id (n := 65536 + (a + 256 * b - 55296) * 1024 + c) (by omega) (by omega), wrap64_id (n := 256 * d) (by omega) (by omega),
            wrap64_id (n := 65536 + (a + 256 * b - 55296) * 1024 + c + 256 * d) (by omega) (by omega), wrap64_id (by omega) (by omega)]
    · rw [if_neg f1, if_neg f1, scarfref02_guess.j0, if_neg (by decide), if_neg f1, scarfref02_guess.j1, if_neg (by decide), if_neg f1]
      by_cases j2 : j = 2
      · rw [if_pos (by omega), if_pos j2, ta, tb, wrap64_id (n := a % 32 * 64) (by omega) (by omega), wrap64_id (by omega) (by omega)]
      · rw [if_neg (by omega), if_neg j2]
        by_cases j3 : j = 3
        · rw [if_pos (by omega), if_pos j3, if_pos (by omega), wb, e2, ta, tb, tc, wrap64_id (n := a % 16 * 4096) (by omega) (by omega), wrap64_id (n := b % 64 * 64) (by omega) (by omega),
            wrap64_id (n := a % 16 * 4096 + b % 64 * 64) (by omega) (by omega), wrap64_id (by omega) (by omega)]
        · rw [if_neg (by omega), if_neg j3, if_pos (by omega), if_pos (by omega), wb, wb, e2, e3, ta, tb, tc, td, wrap64_id (n := a % 8 * 262144) (by omega) (by omega), wrap64_id (n := b % 64 * 4096) (by omega) (by omega),
            wrap64_id (n := a % 8 * 262144 + b % 64 * 4096) (by omega) (by omega), wrap64_id (n := c % 64 * 64) (by omega) (by omega), wrap64_id (n := a % 8 * 262144 + b % 64 * 4096 + c % 64 * 64) (by omega) (by omega), wrap64_id (by omega) (by omega)]

theorem gs_of {f p : Int} (h : one f p ≠ []) (r : List Int) : gs f (one f p ++ r) (one f p).length = p := by
  have hs : scal p = true := by
    cases hc : scal p with
    | true => rfl
    | false => rw [one_none hc] at h; exact absurd rfl h
  have hsi := scal_iff.1 hs
  by_cases h2 : f = 2
  · subst h2
    rw [one2, if_pos hs] at h ⊢
    by_cases hp : p > 255
    · rw [if_pos hp] at h; exact absurd rfl h
    · rw [if_neg hp]; simp [gs]
  · by_cases h1 : f = 1
    · subst h1
      rw [one16, if_pos hs]
      unfold e16
      by_cases hp : p < 65536
      · rw [if_pos hp]
        simp only [gs, List.length_cons, List.length_nil, List.cons_append, List.nil_append, List.getD, List.getElem?_cons_zero, List.getElem?_cons_succ, Option.getD_some, Nat.reduceAdd, Nat.reduceEqDiff, if_false, if_true]
        omega
      · rw [if_neg hp]
        simp only [gs, List.length_cons, List.length_nil, List.cons_append, List.nil_append, List.getD, List.getElem?_cons_zero, List.getElem?_cons_succ, Option.getD_some, Nat.reduceAdd, Nat.reduceEqDiff, if_false, if_true]
        omega
    · by_cases h0 : f = 0
      · subst h0
        rw [one8, if_pos hs]
        unfold e8
        by_cases ha : p < 128
        · rw [if_pos ha]; simp [gs]
        · rw [if_neg ha]
          by_cases hb : p < 2048
          · rw [if_pos hb]
            simp only [gs, List.length_cons, List.length_nil, List.cons_append, List.nil_append, List.getD, List.getElem?_cons_zero, List.getElem?_cons_succ, Option.getD_some, Nat.reduceAdd, Nat.reduceEqDiff, Int.reduceEq, if_false, if_true]
            omega
          · rw [if_neg hb]
            by_cases hc : p < 65536
            · rw [if_pos hc]
              simp only [gs, List.length_cons, List.length_nil, List.cons_append, List.nil_append, List.getD, List.getElem?_cons_zero, List.getElem?_cons_succ, Option.getD_some, Nat.reduceAdd, Nat.reduceEqDiff, Int.reduceEq, if_false, if_true]
              omega
            · rw [if_neg hc]
              simp only [gs, List.length_cons, List.length_nil, List.cons_append, List.nil_append, List.getD, List.getElem?_cons_zero, List.getElem?_cons_succ, Option.getD_some, Nat.reduceAdd, Nat.reduceEqDiff, Int.reduceEq, if_false, if_true]
              omega
      · unfold one at h; rw [if_pos hs, if_neg h2, if_neg h1, if_neg h0] at h; exact absurd rfl h

theorem rRead_l1 (f : Int) (s : ByteArray) (hs : s.size ≤ 1000000) (acc : List Int) (ha : acc.length ≤ 10000000) (K : Nat) (R : List Int × Bool)
    (hnone : dec f (bytesOf s) = none → R = ([], false))
    (hsome : ∀ p n, dec f (bytesOf s) = some (p, n) → ∀ k, K ≤ k → scarfref02_Read.l0 k f (s.extract n s.size) (acc ++ [p]) = some R) :
    ∀ (j i k : Nat), 1 ≤ i → i + j = 5 → (∀ p n, dec f (bytesOf s) = some (p, n) → i ≤ n) → K + 2 * j + 20 ≤ k → scarfref02_Read.l1 k f s acc 0 (i : Int) = some R := by
  intro j
  induction j with
  | zero =>
    intro i k h1 hi hno hk
    obtain ⟨k, rfl⟩ : ∃ m, k = m + 2 := ⟨k - 2, by omega⟩
    have hd : dec f (bytesOf s) = none := by
      cases hd : dec f (bytesOf s) with
      | none => rfl
      | some q =>
        obtain ⟨p, n⟩ := q
        have := hno p n hd
        obtain ⟨h3, h4, h5⟩ := dec_sound (bytes_range s) hd
        have h6 := one_len f p
        rw [h3, List.length_take] at h6
        omega
    rw [scarfref02_Read.l1, if_neg (by omega), scarfref02_Read.j3, if_neg (by decide), if_pos rfl, hnone hd]
  | succ j ih =>
    intro i k h1 hi hno hk
    obtain ⟨k, rfl⟩ : ∃ m, k = m + 2 := ⟨k - 2, by omega⟩
    have hi1 : wrap64 ((i : Int) + 1) = ((i + 1 : Nat) : Int) := by rw [wrap64_id (by omega) (by omega)]; omega
    rw [scarfref02_Read.l1, if_pos (by omega)]
    by_cases hiz : i ≤ s.size
    · rw [if_pos (by omega), show ((0 : Int) == 0) = true from rfl, scarfref02_Read.j3, if_pos rfl, guess_eq f s i h1 (by omega) hiz k (by omega)]
      simp only [Option.bind_some]
      rw [One_eq _ _ _ (by omega)]
      simp only [Option.bind_some]
      rw [if_pos (by omega), if_pos (by omega), show ((i : Int)).toNat = i by omega]
      have hiff : (strOfNums (one f (gs f (bytesOf s) i))).toList = (s.extract 0 i).toList ↔ one f (gs f (bytesOf s) i) = (bytesOf s).take i := by
        rw [toList_iff]
        constructor
        · intro h
          have := congrArg bytesOf h
          rwa [bytes_of (one_range _ _), bytes_head] at this
        · intro h
          apply bytes_inj
          rw [bytes_of (one_range _ _), bytes_head, h]
      by_cases he : one f (gs f (bytesOf s) i) = (bytesOf s).take i
      · have hd := dec_of_prefix h1 (by rw [bytesOf_length]; exact hiz) he
        obtain ⟨k, rfl⟩ : ∃ m, k = m + 2 := ⟨k - 2, by omega⟩
        rw [if_pos (hiff.2 he), if_pos (by omega), hi1, scarfref02_Read.l1]
        have fin : ∀ b, b = false → scarfref02_Read.j3 (k + 1) f s (acc ++ [gs f (bytesOf s) i]) (i : Int) ((i + 1 : Nat) : Int) b = some R := by
          rintro b rfl
          rw [scarfref02_Read.j3, if_neg (by decide), if_neg (by omega), if_pos (by omega), if_pos (by omega), show ((i : Int)).toNat = i by omega]
          exact hsome _ _ hd k (by omega)
        have hb : ((i : Int) == 0) = false := by simp; omega
        rw [hb]
        by_cases h4 : ((i + 1 : Nat) : Int) ≤ 4
        · rw [if_pos h4]
          by_cases h5 : ((i + 1 : Nat) : Int) ≤ (s.size : Int)
          · rw [if_pos h5, fin _ rfl]
          · rw [if_neg h5, fin _ rfl]
        · rw [if_neg h4, fin _ rfl]
      · rw [if_neg (fun h => he (hiff.1 h)), hi1]
        refine ih (i + 1) k (by omega) (by omega) ?_ (by omega)
        intro p n hd
        have hle := hno p n hd
        by_cases hn : n = i
        · subst hn
          obtain ⟨h3, h4, h5⟩ := dec_sound (bytes_range s) hd
          have hne : one f p ≠ [] := by
            rw [h3]; intro e
            have := congrArg List.length e
            rw [List.length_take, List.length_nil] at this
            omega
          have hg := gs_of hne ((bytesOf s).drop n)
          have hl : (one f p).length = n := by rw [h3, List.length_take]; omega
          rw [hl, h3, List.take_append_drop] at hg
          rw [hg] at he
          exact absurd h3 he
        · omega
    · have hd : dec f (bytesOf s) = none := by
        cases hd : dec f (bytesOf s) with
        | none => rfl
        | some q =>
          obtain ⟨p, n⟩ := q
          have := hno p n hd
          have h5 := dec_len (bytes_range s) hd
          rw [bytesOf_length] at h5
          omega
      rw [if_neg (by omega), scarfref02_Read.j3, if_neg (by decide), if_pos rfl, hnone hd]

theorem rRead_l0 (f : Int) : ∀ (m : Nat) (s : ByteArray) (acc : List Int) (k : Nat), s.size ≤ m → m ≤ 1000000 → acc.length + m ≤ 10000000 → 40 * m + 40 ≤ k →
    scarfref02_Read.l0 k f s acc = some (resR acc (rdL f m (bytesOf s))) := by
  intro m
  induction m with
  | zero =>
    intro s acc k hm _ ha hk
    obtain ⟨k, rfl⟩ : ∃ m, k = m + 1 := ⟨k - 1, by omega⟩
    have hb : bytesOf s = [] := bytes_nil_iff.2 (by omega)
    rw [scarfref02_Read.l0, if_neg (by omega), hb]
    simp [rdL, resR]
  | succ m ih =>
    intro s acc k hm hM ha hk
    obtain ⟨k, rfl⟩ : ∃ m, k = m + 1 := ⟨k - 1, by omega⟩
    rw [scarfref02_Read.l0]
    by_cases h0 : s.size = 0
    · have hb : bytesOf s = [] := bytes_nil_iff.2 h0
      rw [if_neg (by omega), hb]
      simp [rdL, resR]
    · have hb : bytesOf s ≠ [] := fun h => h0 (bytes_nil_iff.1 h)
      rw [if_pos (by omega)]
      have := rRead_l1 f s (by omega) acc (by omega) (40 * m + 40) (resR acc (rdL f (m + 1) (bytesOf s)))
        (by intro hd; rw [rdL, if_neg hb, hd]; rfl)
        (by
          intro p n hd k' hk'
          have hl := dec_len (bytes_range s) hd
          rw [bytesOf_length] at hl
          have hz : (s.extract n s.size).size = s.size - n := by rw [size_bytes, bytes_rest, List.length_drop, bytesOf_length]
          rw [ih (s.extract n s.size) (acc ++ [p]) k' (by omega) (by omega) (by rw [List.length_append, List.length_singleton]; omega) hk', bytes_rest, rdL, if_neg hb, hd]
          simp only
          cases rdL f m ((bytesOf s).drop n) with
          | none => rfl
          | some a => simp [resR])
        4 1 k (by omega) (by omega) (fun p n hd => (dec_len (bytes_range s) hd).1) (by omega)
      rwa [show ((1 : Nat) : Int) = 1 from rfl] at this

theorem rRead_eq (f : Int) (s : ByteArray) (hs : s.size ≤ 1000000) (k : Nat) (hk : 40 * s.size + 41 ≤ k) : scarfref02_Read.f k f s = some (readR f (bytesOf s)) := by
  unfold scarfref02_Read.f readR
  obtain ⟨k, rfl⟩ : ∃ m, k = m + 1 := ⟨k - 1, by omega⟩
  by_cases hf : 0 ≤ f ∧ f ≤ 2
  · rw [if_pos hf, if_neg (by omega), decide_eq_false (by omega), scarfref02_Read.j0, if_neg (by decide), rRead_l0 f s.size s [] k (by omega) hs (by simp; omega) (by omega), bytesOf_length]
  · rw [if_neg hf]
    by_cases h : f < 0
    · rw [if_pos h, scarfref02_Read.j0, if_pos rfl]
    · rw [if_neg h, decide_eq_true (by omega), scarfref02_Read.j0, if_pos rfl]

theorem Valid_eq (s : ByteArray) (hs : s.size ≤ 1000000) (k : Nat) (hk : s.size + 20 ≤ k) : utf_Valid.f k s = some (readR 0 (bytesOf s)).2 := by
  unfold utf_Valid.f
  rw [Read_eq 0 s hs k hk]; rfl
end Go.Proofs.Ytmnnnkfdaepphaa.UtfQ
