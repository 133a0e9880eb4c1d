/- Layer 1: the document's own functions (the reference), as printed, answer as the plain side says. -/
import Derived.Test.YtmoeibghjejneaaLebT
namespace Go.Proofs.Ytmoeibghjejneaa.LebR
set_option linter.unusedVariables false
set_option linter.unusedSimpArgs false
open Go.RowKit Go.Proofs.Ytmoeibghjejneaa.PA Go.Proofs.YtmoeibghjejneaaW.PrintWords Go.Proofs.YtmoeibghjejneaaW.PrintLast Go.Proofs.YtmoeibghjejneaaW.PrintMore
open Go.Proofs.Ytmoeibghjejneaa.Str Go.Proofs.Ytmoeibghjejneaa.LebS Go.Proofs.Ytmoeibghjejneaa.LebF Go.Proofs.Ytmoeibghjejneaa.LebT

theorem length_l0 (s : ByteArray) (hs : s.size ≤ 140737488351232) (most : Nat) (hm : most ≤ 10) :
    ∀ (m i k : Nat), i + m = most → i ≤ s.size → 2 * m + 2 ≤ k →
      scarfref01_length.l0 k s most (i : Int) = some (if len ((bytesOf s).drop i) m = 0 then 0 else ((i + len ((bytesOf s).drop i) m : Nat) : Int)) := by
  intro m
  induction m with
  | zero =>
    intro i k h1 h2 hk
    obtain ⟨k, rfl⟩ : ∃ m, k = m + 2 := ⟨k - 2, by omega⟩
    have go : ∀ b : Bool, b = false → scarfref01_length.j1 (k + 1) s most i b = some 0 := by
      rintro b rfl
      rw [scarfref01_length.j1, if_neg (by simp)]
    rw [scarfref01_length.l0, go _ (by simp; omega), go _ rfl]
    simp [len]
  | succ m ih =>
    intro i k h1 h2 hk
    obtain ⟨k, rfl⟩ : ∃ m, k = m + 2 := ⟨k - 2, by omega⟩
    rw [scarfref01_length.l0]
    by_cases he : i = s.size
    · rw [if_neg (by omega), scarfref01_length.j1, if_neg (by simp)]
      have : (bytesOf s).drop i = [] := by rw [List.drop_eq_nil_iff, bytesOf_length]; omega
      simp [this, len]
    · have hlt : i < (bytesOf s).length := by rw [bytesOf_length]; omega
      rw [if_pos (by omega), show decide ((i : Int) < (most : Int)) = true by simp; omega, scarfref01_length.j1, if_pos rfl, if_pos (by omega), if_pos (by omega)]
      have ew : wrap64 ((i : Int) + 1) = ((i + 1 : Nat) : Int) := by rw [wrap64_id (by omega) (by omega)]; omega
      rw [ew, bt_nat, drop_cons hlt]
      by_cases hc : (bytesOf s).getD i 0 < 128
      · have hL : len ((bytesOf s).getD i 0 :: (bytesOf s).drop (i + 1)) (m + 1) = 1 := by rw [len, if_pos hc]
        rw [if_pos hc, hL]; simp
      · rw [if_neg hc, ih (i + 1) k (by omega) (by omega) (by omega)]
        by_cases h0 : len ((bytesOf s).drop (i + 1)) m = 0
        · have hL : len ((bytesOf s).getD i 0 :: (bytesOf s).drop (i + 1)) (m + 1) = 0 := by rw [len, if_neg hc, if_pos h0]
          rw [hL, h0]; simp
        · have hL : len ((bytesOf s).getD i 0 :: (bytesOf s).drop (i + 1)) (m + 1) = len ((bytesOf s).drop (i + 1)) m + 1 := by rw [len, if_neg hc, if_neg h0]
          rw [hL, if_neg h0, if_neg (by omega)]
          congr 2
          omega

theorem length_eq (s : ByteArray) (hs : s.size ≤ 140737488351232) (most : Nat) (hm : most ≤ 10) (k : Nat) (hk : 22 ≤ k) : scarfref01_length.f k s most = some ((len (bytesOf s) most : Nat) : Int) := by
  unfold scarfref01_length.f
  have := length_l0 s hs most hm most 0 k (by omega) (by omega) (by omega)
  rw [List.drop_zero] at this
  rw [show ((0 : Nat) : Int) = 0 from rfl] at this
  rw [this]
  by_cases h : len (bytesOf s) most = 0
  · simp [h]
  · simp [h]

theorem rTakeU_l0 (s : ByteArray) (hs : s.size ≤ 140737488351232) (n : Nat) (hn : n ≤ s.size) (h5 : n ≤ 5) :
    ∀ (m i : Nat) (v : Int) (k : Nat), i + m = n → v = uv ((bytesOf s).take i) → m + 1 ≤ k →
      scarfref01_TakeU.l0 k s n v (128 ^ i) i = some (resU (if uv ((bytesOf s).take n) ≥ 4294967296 then none else some (uv ((bytesOf s).take n), (bytesOf s).drop n))) := by
  intro m
  induction m with
  | zero =>
    intro i v k h1 hv hk
    obtain ⟨k, rfl⟩ : ∃ m, k = m + 1 := ⟨k - 1, by omega⟩
    obtain rfl : i = n := by omega
    rw [scarfref01_TakeU.l0, if_neg (by omega), hv]
    by_cases h : uv ((bytesOf s).take i) ≥ 4294967296
    · rw [if_pos h, if_pos h]; rfl
    · rw [if_neg h, if_neg h, if_pos (by omega), if_pos (by omega), show ((i : Int)).toNat = i by omega, rest_eq]; rfl
  | succ m ih =>
    intro i v k h1 hv hk
    obtain ⟨k, rfl⟩ : ∃ m, k = m + 1 := ⟨k - 1, by omega⟩
    have hlt : i < (bytesOf s).length := by rw [bytesOf_length]; omega
    have hc := bytes_range s _ (getD_mem hlt)
    have hr := uv_range ((bytesOf s).take i)
    have hli : ((bytesOf s).take i).length = i := by rw [List.length_take]; omega
    rw [hli] at hr
    have hp : (128 : Int) ^ i ≤ 128 ^ 4 := pow128 (by omega)
    have hp0 : (0 : Int) < 128 ^ i := Int.pow_pos (by omega)
    have hp4 : (128 : Int) ^ 4 = 268435456 := by decide
    have htake : uv ((bytesOf s).take (i + 1)) = uv ((bytesOf s).take i) + 128 ^ i * ((bytesOf s).getD i 0 % 128) := by
      have e : (bytesOf s).take (i + 1) = (bytesOf s).take i ++ [(bytesOf s).getD i 0] := by
        rw [List.take_succ_eq_append_getElem hlt]
        simp [List.getD, List.getElem?_eq_getElem hlt]
      rw [e, uv_append, hli]
      simp [sv]
    rw [scarfref01_TakeU.l0, if_pos (by omega), if_pos (by omega), if_pos (by omega), bt_nat]
    have hm : (bytesOf s).getD i 0 % 128 * 128 ^ i ≤ 127 * 128 ^ i := Int.mul_le_mul_of_nonneg_right (by omega) (by omega)
    have hm0 : 0 ≤ (bytesOf s).getD i 0 % 128 * 128 ^ i := Int.mul_nonneg (by omega) (by omega)
    rw [wrap64_id (n := (bytesOf s).getD i 0) (by omega) (by omega), Int.tmod_eq_emod_of_nonneg (by omega), wrap64_id (n := (bytesOf s).getD i 0 % 128 * 128 ^ i) (by omega) (by omega),
      wrap64_id (n := v + (bytesOf s).getD i 0 % 128 * 128 ^ i) (by omega) (by omega), wrap64_id (n := 128 ^ i * 128) (by omega) (by omega), wrap64_id (n := (i : Int) + 1) (by omega) (by omega)]
    have := ih (i + 1) (v + (bytesOf s).getD i 0 % 128 * 128 ^ i) k (by omega) (by rw [htake, hv, Int.mul_comm (128 ^ i)]) (by omega)
    rw [Int.pow_succ] at this
    exact this

theorem rTakeU_eq (s : ByteArray) (hs : s.size ≤ 140737488351232) (k : Nat) (hk : 22 ≤ k) : scarfref01_TakeU.f k s = some (resU (takeU (bytesOf s))) := by
  unfold scarfref01_TakeU.f
  have hl := length_eq s hs 5 (by omega) k hk
  rw [show ((5 : Nat) : Int) = 5 from rfl] at hl
  rw [hl]
  simp only [Option.bind_some]
  unfold takeU
  have h5 := len_le (bytesOf s) 5
  have hll := len_le_length (bytesOf s) 5
  rw [bytesOf_length] at hll
  by_cases h : len (bytesOf s) 5 = 0
  · rw [if_pos (by omega), if_pos h]; rfl
  · rw [if_neg (by omega), if_neg h]
    have := rTakeU_l0 s hs (len (bytesOf s) 5) hll h5 (len (bytesOf s) 5) 0 0 k (by omega) (by simp [sv]) (by omega)
    simpa using this

/-- From the n-th byte downwards. -/
theorem rTakeS_l0 (s : ByteArray) (hs : s.size ≤ 140737488351232) (b : Int) (hb : b = 32 ∨ b = 33 ∨ b = 64) (n : Nat) (hn : n ≤ s.size) (h10 : n ≤ 10) (t : Int)
    (hz : ∀ i, i ≤ n → -9223372036854775808 ≤ sv t (((bytesOf s).take n).drop i) ∧ sv t (((bytesOf s).take n).drop i) < 9223372036854775808)
    (hz' : ∀ i, 1 ≤ i → i ≤ n → -9223372036854775808 ≤ 128 * sv t (((bytesOf s).take n).drop i) ∧ 128 * sv t (((bytesOf s).take n).drop i) < 9223372036854775808) :
    ∀ (i k : Nat), i ≤ n → i + 1 ≤ k →
      scarfref01_TakeS.l0 k s b n (sv t (((bytesOf s).take n).drop i)) ((i : Int) - 1) =
        some (resU (if fitsS b (sv t ((bytesOf s).take n)) then some (sv t ((bytesOf s).take n), (bytesOf s).drop n) else none)) := by
  intro i
  induction i with
  | zero =>
    intro k h1 hk
    obtain ⟨k, rfl⟩ : ∃ m, k = m + 1 := ⟨k - 1, by omega⟩
    rw [scarfref01_TakeS.l0, if_neg (by omega), List.drop_zero]
    have h0 : 0 ≤ (n : Int) := by omega
    have h2 : (n : Int) ≤ (s.size : Int) := by omega
    have h3 : ((n : Int)).toNat = n := by omega
    generalize sv t ((bytesOf s).take n) = v
    rw [h3, rest_eq]
    by_cases b64 : b = 64
    · rw [if_pos b64, if_pos h0, if_pos h2, if_pos (show fitsS b v from .inl b64)]; rfl
    · rw [if_neg b64]
      by_cases b33 : b = 33
      · rw [if_pos b33]
        by_cases l : v < -4294967296
        · rw [if_pos l, if_neg (fun h : fitsS b v => by unfold fitsS at h; omega)]; rfl
        · rw [if_neg l]
          by_cases g : v ≥ 4294967296
          · rw [if_pos g, if_neg (fun h : fitsS b v => by unfold fitsS at h; omega)]; rfl
          · rw [if_neg g, if_pos h0, if_pos h2, if_pos (show fitsS b v by unfold fitsS; omega)]; rfl
      · rw [if_neg b33]
        by_cases l : v < -2147483648
        · rw [if_pos l, if_neg (fun h : fitsS b v => by unfold fitsS at h; omega)]; rfl
        · rw [if_neg l]
          by_cases g : v ≥ 2147483648
          · rw [if_pos g, if_neg (fun h : fitsS b v => by unfold fitsS at h; omega)]; rfl
          · rw [if_neg g, if_pos h0, if_pos h2, if_pos (show fitsS b v by unfold fitsS; omega)]; rfl
  | succ i ih =>
    intro k h1 hk
    obtain ⟨k, rfl⟩ : ∃ m, k = m + 1 := ⟨k - 1, by omega⟩
    have hlt : i < (bytesOf s).length := by rw [bytesOf_length]; omega
    have hc := bytes_range s _ (getD_mem hlt)
    have e1 : ((i + 1 : Nat) : Int) - 1 = (i : Int) := by omega
    have hlen : i < ((bytesOf s).take n).length := by rw [List.length_take]; omega
    have e2 : ((bytesOf s).take n).getD i 0 = (bytesOf s).getD i 0 := by
      simp only [List.getD, List.getElem?_take]
      rw [if_pos (by omega)]
    have hd := drop_cons hlen
    rw [e2] at hd
    have z := hz i (by omega)
    have z' := hz' (i + 1) (by omega) h1
    have hI := ih k (by omega) (by omega)
    rw [hd] at z hI
    simp only [sv] at z hI
    rw [e1, scarfref01_TakeS.l0, if_pos (by omega), if_pos (by omega), if_pos (by omega), bt_nat, wrap64_id (n := (bytesOf s).getD i 0) (by omega) (by omega), Int.tmod_eq_emod_of_nonneg (by omega),
      wrap64_id (n := (i : Int) - 1) (by omega) (by omega)]
    generalize sv t (((bytesOf s).take n).drop (i + 1)) = q at *
    rw [wrap64_id (n := q * 128) (by omega) (by omega), wrap64_id (n := q * 128 + (bytesOf s).getD i 0 % 128) (by omega) (by omega), show q * 128 + (bytesOf s).getD i 0 % 128 = (bytesOf s).getD i 0 % 128 + 128 * q by omega]
    exact hI

theorem sv_bound (t : Int) (ht : t = 0 ∨ t = -1) (l : List Int) : -(128 ^ l.length) ≤ sv t l ∧ sv t l < 128 ^ l.length := by
  rw [sv_uv]
  have := uv_range l
  rcases ht with rfl | rfl <;> omega

theorem sgn_or (l : List Int) : sgn l = 0 ∨ sgn l = -1 := by unfold sgn; split <;> simp

/-- No partial number is too great. -/
theorem sv_small (l : List Int) (n : Nat) (hl : l.length = n) (h10 : n ≤ 10) (h : n = 10 → l.getD 9 0 = 0 ∨ l.getD 9 0 = 127) :
    (∀ i, i ≤ n → -9223372036854775808 ≤ sv (sgn l) (l.drop i) ∧ sv (sgn l) (l.drop i) < 9223372036854775808) ∧
    (∀ i, 1 ≤ i → i ≤ n → -9223372036854775808 ≤ 128 * sv (sgn l) (l.drop i) ∧ 128 * sv (sgn l) (l.drop i) < 9223372036854775808) := by
  have hb : ∀ i, i ≤ n → (n = 10 → i ≤ 9) → -(128 ^ (min (n - i) (9 - i))) ≤ sv (sgn l) (l.drop i) ∧ sv (sgn l) (l.drop i) < 128 ^ (min (n - i) (9 - i)) := by
    intro i hi h9
    by_cases hn : n = 10
    · have hg := h hn
      have hd9 : l.drop 9 = [l.getD 9 0] := by
        rw [drop_cons (by omega), List.drop_eq_nil_of_le (by omega)]
      have e9 : sv (sgn l) (l.drop 9) = sgn l := by
        rw [hd9]
        unfold sgn
        rw [hl, hn]
        simp only [sv, Nat.add_one_sub_one]
        rcases hg with hg | hg <;> rw [hg] <;> simp
      have e : l.drop i = (l.drop i).take (9 - i) ++ l.drop 9 := by
        have := List.take_append_drop (9 - i) (l.drop i)
        rw [List.drop_drop, show i + (9 - i) = 9 by have := h9 hn; omega] at this
        exact this.symm
      have ap : ∀ (a c : List Int), sv (sgn l) (a ++ c) = sv (sv (sgn l) c) a := by
        intro a c
        induction a with
        | nil => rfl
        | cons x a ih => simp only [List.cons_append, sv, ih]
      rw [e, ap, e9]
      have := sv_bound (sgn l) (sgn_or l) ((l.drop i).take (9 - i))
      rw [List.length_take, List.length_drop] at this
      rw [show min (n - i) (9 - i) = min (9 - i) (l.length - i) by omega]
      exact this
    · have := sv_bound (sgn l) (sgn_or l) (l.drop i)
      rw [List.length_drop] at this
      rw [show min (n - i) (9 - i) = l.length - i by omega]
      exact this
  have h10' : n = 10 → ∀ i, i = 10 → sv (sgn l) (l.drop i) = sgn l := by
    intro hn i hi
    rw [List.drop_eq_nil_of_le (by omega)]
    rfl
  have hs := sgn_or l
  constructor
  · intro i hi
    by_cases h9 : n = 10 ∧ i = 10
    · rw [h10' h9.1 i h9.2]; omega
    · have := hb i hi (by omega)
      have hp : (128 : Int) ^ (min (n - i) (9 - i)) ≤ 128 ^ 9 := pow128 (by omega)
      omega
  · intro i h1 hi
    by_cases h9 : n = 10 ∧ i = 10
    · rw [h10' h9.1 i h9.2]; omega
    · have := hb i hi (by omega)
      have hp : (128 : Int) ^ (min (n - i) (9 - i)) ≤ 128 ^ 8 := pow128 (by omega)
      have hp8 : (128 : Int) ^ 8 = 72057594037927936 := by decide
      omega

theorem rTakeS_j0 (s : ByteArray) (hs : s.size ≤ 140737488351232) (b : Int) (hb : b = 32 ∨ b = 33 ∨ b = 64) (k : Nat) (hk : 30 ≤ k) : scarfref01_TakeS.j0 k s b false = some (resU (takeS (bytesOf s) b)) := by
  obtain ⟨k, rfl⟩ : ∃ m, k = m + 2 := ⟨k - 2, by omega⟩
  have hj1 : scarfref01_TakeS.j0 (k + 2) s b false = scarfref01_TakeS.j1 (k + 1) s b (mostS b) := by
    rw [scarfref01_TakeS.j0, if_neg (by simp)]
    unfold mostS
    by_cases h : b = 64
    · rw [if_pos h, if_pos h]; rfl
    · rw [if_neg h, if_neg h]; rfl
  have hm : mostS b ≤ 10 := by unfold mostS; split <;> omega
  have hm5 : b ≠ 64 → mostS b = 5 := by intro h; unfold mostS; rw [if_neg h]
  rw [hj1, scarfref01_TakeS.j1, length_eq s hs _ hm k (by omega)]
  simp only [Option.bind_some]
  have hle := len_le (bytesOf s) (mostS b)
  have hll := len_le_length (bytesOf s) (mostS b)
  rw [bytesOf_length] at hll
  unfold takeS
  simp only
  generalize hn : len (bytesOf s) (mostS b) = n at *
  obtain ⟨k, rfl⟩ : ∃ m, k = m + 1 := ⟨k - 1, by omega⟩
  by_cases h0 : n = 0
  · rw [if_pos (by omega), if_pos h0, scarfref01_TakeS.j2, if_pos rfl]; rfl
  · rw [if_neg (by omega), if_neg h0]
    have hlen : ((bytesOf s).take n).length = n := by rw [List.length_take, bytesOf_length]; omega
    have fin : (n = 10 → (bytesOf s).getD 9 0 = 0 ∨ (bytesOf s).getD 9 0 = 127) →
        scarfref01_TakeS.j2 (k + 1) s b n false = some (resU (if fitsS b (sv (sgn ((bytesOf s).take n)) ((bytesOf s).take n)) then some (sv (sgn ((bytesOf s).take n)) ((bytesOf s).take n), (bytesOf s).drop n) else none)) := by
      intro h
      have ew : wrap64 ((n : Int) - 1) = ((n - 1 : Nat) : Int) := by rw [wrap64_id (by omega) (by omega)]; omega
      have hg10 : n = 10 → ((bytesOf s).take n).getD 9 0 = 0 ∨ ((bytesOf s).take n).getD 9 0 = 127 := by
        rintro rfl
        have hg : ((bytesOf s).take 10).getD 9 0 = (bytesOf s).getD 9 0 := by simp [List.getD]
        rw [hg]; exact h rfl
      have hsm := sv_small ((bytesOf s).take n) n hlen (by omega) hg10
      have e2 : ((bytesOf s).take n).getD (n - 1) 0 = (bytesOf s).getD (n - 1) 0 := by
        simp only [List.getD, List.getElem?_take]
        rw [if_pos (by omega)]
      have hlt : n - 1 < (bytesOf s).length := by rw [bytesOf_length]; omega
      have hc := bytes_range s _ (getD_mem hlt)
      obtain ⟨k, rfl⟩ : ∃ m, k = m + 1 := ⟨k - 1, by omega⟩
      have hj3 : scarfref01_TakeS.j2 (k + 1 + 1) s b n false = scarfref01_TakeS.j3 (k + 1) s b n (sgn ((bytesOf s).take n)) := by
        rw [scarfref01_TakeS.j2, if_neg (by simp), ew, if_pos (by omega), if_pos (by omega), bt_nat, Int.tmod_eq_emod_of_nonneg (by omega)]
        unfold sgn
        rw [hlen, e2]
        by_cases z : (bytesOf s).getD (n - 1) 0 % 128 ≥ 64
        · rw [if_pos z, if_pos z]
        · rw [if_neg z, if_neg z]
      rw [hj3, scarfref01_TakeS.j3, ew]
      have := rTakeS_l0 s hs b hb n hll (by omega) (sgn ((bytesOf s).take n)) hsm.1 hsm.2 n k (by omega) (by omega)
      rw [List.drop_eq_nil_of_le (by omega)] at this
      rw [show ((n - 1 : Nat) : Int) = (n : Int) - 1 by omega]
      exact this
    by_cases h10 : n = 10
    · rw [if_pos (by omega), if_pos (by omega), show bt s 9 = (bytesOf s).getD 9 0 from bt_nat s 9]
      by_cases z : (bytesOf s).getD 9 0 = 0
      · rw [if_pos z, fin (fun _ => .inl z), if_neg (fun h : n = 10 ∧ (bytesOf s).getD 9 0 ≠ 0 ∧ (bytesOf s).getD 9 0 ≠ 127 => by omega)]
      · rw [if_neg z]
        by_cases z' : (bytesOf s).getD 9 0 = 127
        · rw [show ((bytesOf s).getD 9 0 != 127) = false by simp only [bne_eq_false_iff_eq]; exact z', fin (fun _ => .inr z'), if_neg (fun h : n = 10 ∧ (bytesOf s).getD 9 0 ≠ 0 ∧ (bytesOf s).getD 9 0 ≠ 127 => by omega)]
        · rw [show ((bytesOf s).getD 9 0 != 127) = true by simp only [bne_iff_ne]; exact z', if_pos ⟨h10, z, z'⟩, scarfref01_TakeS.j2, if_pos rfl]
          rfl
    · rw [if_neg (by omega), fin (fun h => absurd h h10), if_neg (fun h : n = 10 ∧ (bytesOf s).getD 9 0 ≠ 0 ∧ (bytesOf s).getD 9 0 ≠ 127 => by omega)]

theorem rTakeS_eq (s : ByteArray) (hs : s.size ≤ 140737488351232) (b : Int) (k : Nat) (hk : 30 ≤ k) : scarfref01_TakeS.f k s b = some (resS (bytesOf s) b) := by
  unfold scarfref01_TakeS.f resS
  by_cases h32 : b = 32
  · rw [if_pos h32, rTakeS_j0 s hs b (by omega) k hk, if_pos (by omega)]
  · rw [if_neg h32]
    by_cases h33 : b = 33
    · rw [if_pos h33, rTakeS_j0 s hs b (by omega) k hk, if_pos (by omega)]
    · rw [if_neg h33]
      by_cases h64 : b = 64
      · rw [show (b != 64) = false by simp [h64], rTakeS_j0 s hs b (by omega) k hk, if_pos (by omega)]
      · rw [show (b != 64) = true by simp [h64], if_neg (by omega)]
        obtain ⟨k, rfl⟩ : ∃ m, k = m + 1 := ⟨k - 1, by omega⟩
        rw [scarfref01_TakeS.j0, if_pos rfl]
end Go.Proofs.Ytmoeibghjejneaa.LebR
