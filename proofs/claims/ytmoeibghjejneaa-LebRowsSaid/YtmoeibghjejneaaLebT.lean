/- Layer 1: what is taken, as the printed functions answer. -/
import Derived.Test.YtmoeibghjejneaaLebF
namespace Go.Proofs.Ytmoeibghjejneaa.LebT
set_option linter.unusedVariables false
set_option linter.unusedSimpArgs false
open Go.RowKit Go.Proofs.Ytmoeibghjejneaa.PA Go.Proofs.YtmoeibghjejneaaW.PrintWords Go.Proofs.YtmoeibghjejneaaW.PrintLast Go.Proofs.YtmoeibghjejneaaW.PrintMore
open Go.Proofs.Ytmoeibghjejneaa.Str Go.Proofs.Ytmoeibghjejneaa.LebS Go.Proofs.Ytmoeibghjejneaa.LebF

theorem bits_or_comm (k : IntKind) (x y : Int) : Go.bits .or k x y = Go.bits .or k y x := by
  simp only [Go.bits, BitVec.or_comm]

theorem wraps_u64 (n : Int) (h0 : 0 ≤ n) (h1 : n < 2 ^ 64) : IntKind.u64.wrap n = n := by
  simp [IntKind.wrap, IntKind.bits, IntKind.signed]
  omega

theorem wrap_u64 (n : Int) : IntKind.u64.wrap n = n % 18446744073709551616 := by
  simp [IntKind.wrap, IntKind.bits, IntKind.signed]

/-- One more group of seven bits. -/
theorem or_group (i : Nat) (hi : i ≤ 9) (u c : Int) (hu0 : 0 ≤ u) (hu : u < 128 ^ i) (hc0 : 0 ≤ c) (hc : c < 256) :
    Go.bits .or .u64 u (shl .u64 (IntKind.u64.wrap (Go.bits .and .u8 c 127)) (wrap64 (7 * (i : Int)))) = (u + c % 128 * 128 ^ i) % 18446744073709551616 := by
  rw [and127 c hc0 hc, wraps_u64 _ (by omega) (by omega), wrap64_id (by omega) (by omega)]
  have e7 : (7 * (i : Int)).toNat = 7 * i := by omega
  unfold shl
  rw [e7, Nat.min_eq_left (by simp [IntKind.bits]; omega), bits_or_comm, wrap_u64]
  have hp : (2 : Int) ^ (7 * i) = 128 ^ i := by rw [Int.pow_mul]; rfl
  rw [hp]
  have hd : 0 ≤ c % 128 ∧ c % 128 < 128 := by omega
  generalize c % 128 = d at hd
  have key : ∀ (p : Int) (j : Nat), (2 : Int) ^ j = p → 0 ≤ d * p % 18446744073709551616 → d * p % 18446744073709551616 % p = 0 → u < p → p < 18446744073709551616 → (d * p % 18446744073709551616 + u < 18446744073709551616) →
      Go.bits .or .u64 (d * p % 18446744073709551616) u = (u + d * p) % 18446744073709551616 := by
    intro p j hj h0 h1 h2 h3 h4
    rw [Go.bits_join .u64 64 (by decide) wraps_u64 j _ u h0 (by rw [hj]; exact h1) (by omega) hu0 (by rw [hj]; exact h2) (by omega)]
    omega
  have hi' : i = 0 ∨ i = 1 ∨ i = 2 ∨ i = 3 ∨ i = 4 ∨ i = 5 ∨ i = 6 ∨ i = 7 ∨ i = 8 ∨ i = 9 := by omega
  rcases hi' with rfl | rfl | rfl | rfl | rfl | rfl | rfl | rfl | rfl | rfl <;>
    refine key _ (7 * _) hp ?_ ?_ hu ?_ ?_ <;> simp only [Int.reducePow] at * <;> omega

/-- What raw answers. -/
def rawR (s : ByteArray) (i n : Nat) (u : Int) : Int × Int × ByteArray × Bool :=
  if n = 0 then (0, 0, ⟨#[]⟩, false) else ((u + 128 ^ i * uv (((bytesOf s).drop i).take n)) % 18446744073709551616, 7 * ((i : Int) + n), s.extract (i + n) s.size, true)

theorem raw_l0 (s : ByteArray) (hs : s.size ≤ 140737488351232) (b : Int) (most : Nat) (hb : (most = 5 ∧ (b = 32 ∨ b = 33)) ∨ (most = 10 ∧ b = 64)) :
    ∀ (m i : Nat) (u : Int) (k : Nat), i + m = most → i ≤ s.size → (i ≤ 9 → u < 128 ^ i) → 0 ≤ u → 2 * m + 2 ≤ k →
      leb_raw.l0 k s b u (i : Int) = some (rawR s i (len ((bytesOf s).drop i) m) u) := by
  intro m
  induction m with
  | zero =>
    intro i u k hm hi hu hu0 hk
    obtain ⟨k, rfl⟩ : ∃ m, k = m + 2 := ⟨k - 2, by omega⟩
    simp only [leb_raw.l0, leb_raw.j1]
    rw [wrap64_id (by omega) (by omega), if_pos (by omega), if_pos trivial]
    simp [rawR, len]
  | succ m ih =>
    intro i u k hm hi hu hu0 hk
    obtain ⟨k, rfl⟩ : ∃ m, k = m + 2 := ⟨k - 2, by omega⟩
    have hw : wrap64 (7 * (i : Int)) = 7 * i := wrap64_id (by omega) (by omega)
    rw [leb_raw.l0, hw, if_neg (by omega)]
    by_cases he : i = s.size
    · rw [show ((i : Int) == (s.size : Int)) = true by simp [he]]
      rw [leb_raw.j1, if_pos rfl]
      have : (bytesOf s).drop i = [] := by rw [List.drop_eq_nil_iff, bytesOf_length]; omega
      simp [rawR, this, len]
    · rw [show ((i : Int) == (s.size : Int)) = false by simp; omega]
      rw [leb_raw.j1, if_neg (by simp), if_pos (by omega), if_pos (by omega), hw, if_pos (by omega)]
      have hlt : i < (bytesOf s).length := by rw [bytesOf_length]; omega
      have hc := bytes_range s _ (getD_mem hlt)
      have hd := drop_cons hlt
      have ew : wrap64 ((i : Int) + 1) = ((i + 1 : Nat) : Int) := by rw [wrap64_id (by omega) (by omega)]; omega
      have hg := or_group i (by omega) u (bt s i) hu0 (hu (by omega)) (bt_range s i).1 (by have := (bt_range s i).2; omega)
      rw [hw] at hg
      rw [hg, ew, bt_nat]
      generalize hcd : (bytesOf s).getD i 0 = c at *
      rw [hd]
      simp only [len]
      have hp : (0 : Int) < 128 ^ i := Int.pow_pos (by omega)
      by_cases h128 : c ≥ 128
      · rw [if_pos h128, if_neg (by omega), ih (i + 1) _ k (by omega) (by omega) ?_ (by omega) (by omega)]
        · unfold rawR
          by_cases h0 : len ((bytesOf s).drop (i + 1)) m = 0
          · rw [if_pos h0, if_pos h0, if_pos rfl]
          · rw [if_neg h0, if_neg h0, if_neg (by omega)]
            rw [hd, List.take_succ_cons]
            simp only [uv, sv]
            rw [Int.pow_succ]
            refine congrArg some ?_
            refine Prod.ext ?_ (Prod.ext ?_ (Prod.ext ?_ rfl))
            · simp only
              generalize sv 0 (((bytesOf s).drop (i + 1)).take (len ((bytesOf s).drop (i + 1)) m)) = q
              rw [Int.mul_add, Int.mul_comm (128 ^ i) (c % 128), Int.mul_assoc (128 ^ i) 128 q]
              generalize 128 ^ i * (128 * q) = z
              omega
            · simp only; omega
            · simp only
              rw [show i + 1 + len ((bytesOf s).drop (i + 1)) m = i + (len ((bytesOf s).drop (i + 1)) m + 1) by omega]
        · intro h9
          rw [Int.pow_succ]
          have hi8 : (128 : Int) ^ i ≤ 128 ^ 8 := pow128 (by omega)
          have hu' := hu (by omega)
          have : c % 128 * 128 ^ i ≤ 127 * 128 ^ i := Int.mul_le_mul_of_nonneg_right (by omega) (by omega)
          have h3 : 0 ≤ c % 128 * 128 ^ i := Int.mul_nonneg (by omega) (by omega)
          omega
      · rw [if_neg h128, if_pos (by omega), if_pos (by omega), if_pos (by omega)]
        unfold rawR
        rw [if_neg (by omega)]
        rw [hd, List.take_succ_cons, List.take_zero]
        simp only [uv, sv]
        refine congrArg some ?_
        refine Prod.ext ?_ (Prod.ext ?_ (Prod.ext ?_ rfl))
        · simp only
          rw [Int.mul_comm (128 ^ i)]
          simp
        · simp only
          rw [wrap64_id (by omega) (by omega)]
          omega
        · simp only
          congr 1

theorem raw_eq (s : ByteArray) (hs : s.size ≤ 140737488351232) (b : Int) (hb : b = 32 ∨ b = 33 ∨ b = 64) (k : Nat) (hk : 22 ≤ k) :
    leb_raw.f k s b = some (rawR s 0 (len (bytesOf s) (mostS b)) 0) := by
  unfold leb_raw.f
  have := raw_l0 s hs b (mostS b) (by unfold mostS; rcases hb with rfl | rfl | rfl <;> simp) (mostS b) 0 0 k (by omega) (by omega) (by intro; simp) (by omega) (by unfold mostS; split <;> omega)
  rw [List.drop_zero] at this
  exact this

/-- An answer of TakeU and TakeS. -/
def resU : Option (Int × List Int) → Int × ByteArray × Int
  | none => (0, ⟨#[]⟩, 2)
  | some (v, r) => (v, strOfNums r, 0)

theorem rest_eq (s : ByteArray) (n : Nat) : s.extract n s.size = strOfNums ((bytesOf s).drop n) := by
  apply bytes_inj
  rw [bytes_rest, bytes_of]
  intro x hx
  exact bytes_range s x (List.mem_of_mem_drop hx)

theorem TakeU_eq (s : ByteArray) (hs : s.size ≤ 140737488351232) (k : Nat) (hk : 22 ≤ k) : leb_TakeU.f k s = some (resU (takeU (bytesOf s))) := by
  unfold leb_TakeU.f takeU
  rw [raw_eq s hs 32 (by omega) k hk]
  have hm : mostS 32 = 5 := rfl
  have h5 := len_le (bytesOf s) 5
  rw [hm]
  simp only [Option.bind_some, rawR]
  by_cases h : len (bytesOf s) 5 = 0
  · rw [if_pos h, if_pos h, if_neg (by simp)]; rfl
  · rw [if_neg h, if_neg h]
    simp only [if_true]
    have hr := uv_range ((bytesOf s).take (len (bytesOf s) 5))
    have h128 : (128 : Int) ^ ((bytesOf s).take (len (bytesOf s) 5)).length ≤ 128 ^ 5 := pow128 (by rw [List.length_take]; omega)
    have e : (0 + 128 ^ 0 * uv (((bytesOf s).drop 0).take (len (bytesOf s) 5))) % 18446744073709551616 = uv ((bytesOf s).take (len (bytesOf s) 5)) := by
      rw [List.drop_zero]; omega
    rw [e]
    by_cases h2 : uv ((bytesOf s).take (len (bytesOf s) 5)) ≥ 4294967296
    · rw [if_pos h2, if_pos h2]; rfl
    · rw [if_neg h2, if_neg h2, wrap64_id (by omega) (by omega), Nat.zero_add, rest_eq]; rfl

/-- Answers of TakeS. -/
def resS (l : List Int) (b : Int) : Int × ByteArray × Int := if b = 32 ∨ b = 33 ∨ b = 64 then resU (takeS l b) else (0, ⟨#[]⟩, 1)

theorem shr_eq (x : Int) (j : Nat) (hj : j ≤ 64) : shr .i64 x (j : Int) = x / 2 ^ j := by
  unfold shr
  rw [show ((j : Int)).toNat = j by omega, Nat.min_eq_left (by simp [IntKind.bits]; omega)]

/-- The sign of n groups, spread. -/
theorem spread (l : List Int) (n : Nat) (h1 : 1 ≤ n) (h9 : n ≤ 9) (hl : l.length = n) (k : Int) (hk : k = 7 * (n : Int)) :
    shr .i64 (wrap64 (shl .u64 (uv l) (wrap64 (64 - k)))) (wrap64 (64 - k)) = sv (sgn l) l := by
  subst hk
  have e : wrap64 (64 - 7 * (n : Int)) = ((64 - 7 * n : Nat) : Int) := by rw [wrap64_id (by omega) (by omega)]; omega
  rw [e, shr_eq _ _ (by omega), sv_uv]
  unfold shl
  rw [show (((64 - 7 * n : Nat) : Int)).toNat = 64 - 7 * n by omega, Nat.min_eq_left (by simp [IntKind.bits]), wrap_u64]
  have hr := uv_range l
  rw [hl] at hr ⊢
  have hs : (sgn l = 0 ∧ 2 * uv l < 128 ^ n) ∨ (sgn l = -1 ∧ 2 * uv l ≥ 128 ^ n) := by
    obtain ⟨m, rfl⟩ : ∃ m, n = m + 1 := ⟨n - 1, by omega⟩
    have hd : l = l.take m ++ [l.getD m 0] := by
      have := List.take_append_drop m l
      rw [drop_cons (by omega)] at this
      rw [List.drop_eq_nil_of_le (by omega)] at this
      exact this.symm
    have hu : uv l = uv (l.take m) + 128 ^ m * (l.getD m 0 % 128) := by
      conv => lhs; rw [hd]
      rw [uv_append, List.length_take, Nat.min_eq_left (by omega)]
      simp [sv]
    have hr2 := uv_range (l.take m)
    rw [List.length_take, Nat.min_eq_left (by omega)] at hr2
    unfold sgn
    rw [hl, Nat.add_sub_cancel]
    have hp : (0 : Int) < 128 ^ m := Int.pow_pos (by omega)
    rw [Int.pow_succ]
    have hc : 0 ≤ l.getD m 0 % 128 ∧ l.getD m 0 % 128 < 128 := by omega
    generalize l.getD m 0 % 128 = c at *
    split
    · right
      refine ⟨rfl, ?_⟩
      have : 128 ^ m * 64 ≤ 128 ^ m * c := Int.mul_le_mul_of_nonneg_left (by omega) (by omega)
      omega
    · left
      refine ⟨rfl, ?_⟩
      have : 128 ^ m * c ≤ 128 ^ m * 63 := Int.mul_le_mul_of_nonneg_left (by omega) (by omega)
      omega
  generalize uv l = u at *
  generalize sgn l = t at *
  have hn : n = 1 ∨ n = 2 ∨ n = 3 ∨ n = 4 ∨ n = 5 ∨ n = 6 ∨ n = 7 ∨ n = 8 ∨ n = 9 := by omega
  unfold wrap64
  rcases hn with rfl | rfl | rfl | rfl | rfl | rfl | rfl | rfl | rfl <;>
    simp only [Nat.reduceMul, Nat.reduceSub, Int.reducePow] at * <;> omega

theorem fits_iff (b v : Int) (hb : b = 32 ∨ b = 33 ∨ b = 64) (h0 : -9223372036854775808 ≤ v) (h1 : v < 9223372036854775808) :
    (shr .i64 v (wrap64 (b - 1)) = 0 ∨ shr .i64 v (wrap64 (b - 1)) = -1) ↔ fitsS b v := by
  unfold fitsS
  rcases hb with rfl | rfl | rfl
  · rw [show wrap64 (32 - 1) = ((31 : Nat) : Int) by (unfold wrap64; omega), shr_eq _ _ (by omega)]
    simp only [Int.reducePow, true_and, true_or, iff_true]; omega
  · rw [show wrap64 (33 - 1) = ((32 : Nat) : Int) by (unfold wrap64; omega), shr_eq _ _ (by omega)]
    simp only [Int.reducePow, true_and, true_or, iff_true]; omega
  · rw [show wrap64 (64 - 1) = ((63 : Nat) : Int) by (unfold wrap64; omega), shr_eq _ _ (by omega)]
    simp only [Int.reducePow, true_and, true_or, iff_true]; omega

/-- Ten groups, of which the last one is 0 or 127. -/
theorem ten (l : List Int) (hl : l.length = 10) (h : l.getD 9 0 = 0 ∨ l.getD 9 0 = 127) : wrap64 (uv l % 18446744073709551616) = sv (sgn l) l ∧ -9223372036854775808 ≤ sv (sgn l) l ∧ sv (sgn l) l < 9223372036854775808 := by
  have hd : l = l.take 9 ++ [l.getD 9 0] := by
    have := List.take_append_drop 9 l
    rw [drop_cons (by omega)] at this
    rw [List.drop_eq_nil_of_le (by omega)] at this
    exact this.symm
  have hu : uv l = uv (l.take 9) + 128 ^ 9 * (l.getD 9 0 % 128) := by
    conv => lhs; rw [hd]
    rw [uv_append, List.length_take, Nat.min_eq_left (by omega)]
    simp [sv]
  have hr2 := uv_range (l.take 9)
  rw [List.length_take, Nat.min_eq_left (by omega)] at hr2
  rw [sv_uv, hu, hl]
  unfold sgn wrap64
  rw [hl]
  rcases h with h | h <;> simp only [Nat.add_one_sub_one, h] <;> simp <;> omega

theorem TakeS_j0 (s : ByteArray) (hs : s.size ≤ 140737488351232) (b : Int) (hb : b = 32 ∨ b = 33 ∨ b = 64) (k : Nat) (hk : 24 ≤ k) : leb_TakeS.j0 k s b false = some (resU (takeS (bytesOf s) b)) := by
  obtain ⟨k, rfl⟩ : ∃ m, k = m + 2 := ⟨k - 2, by omega⟩
  rw [leb_TakeS.j0, if_neg (by simp), raw_eq s hs b hb (k + 1) (by omega)]
  simp only [Option.bind_some, rawR]
  have hle := len_le (bytesOf s) (mostS b)
  have hll := len_le_length (bytesOf s) (mostS b)
  have hm : mostS b ≤ 10 := by unfold mostS; split <;> omega
  have hm5 : b ≠ 64 → mostS b = 5 := by intro h; unfold mostS; rw [if_neg h]
  unfold takeS
  simp only
  generalize hn : len (bytesOf s) (mostS b) = n at *
  by_cases h0 : n = 0
  · rw [if_pos h0, if_pos h0, if_neg (by simp)]; rfl
  · rw [if_neg h0, if_neg h0]
    simp only [if_true, List.drop_zero, Int.pow_zero, Int.one_mul, Int.zero_add, Nat.zero_add]
    have hlen : ((bytesOf s).take n).length = n := by rw [List.length_take]; omega
    have hr := uv_range ((bytesOf s).take n)
    rw [hlen] at hr
    rw [bytesOf_length] at hll
    by_cases h10 : n = 10
    · subst h10
      have hb64 : b = 64 := by
        by_cases h : b = 64
        · exact h
        · have := hm5 h; omega
      have hg : ((bytesOf s).take 10).getD 9 0 = (bytesOf s).getD 9 0 := by simp [List.getD]
      rw [if_pos (by omega), if_pos (by omega), show bt s 9 = (bytesOf s).getD 9 0 from bt_nat s 9]
      have fin : ∀ (h : (bytesOf s).getD 9 0 = 0 ∨ (bytesOf s).getD 9 0 = 127), leb_TakeS.j1 (k + 1) (uv ((bytesOf s).take 10) % 18446744073709551616) (s.extract 10 s.size) false = some (resU (if 10 = 10 ∧ (bytesOf s).getD 9 0 ≠ 0 ∧ (bytesOf s).getD 9 0 ≠ 127 then none else if fitsS b (sv (sgn ((bytesOf s).take 10)) ((bytesOf s).take 10)) then some (sv (sgn ((bytesOf s).take 10)) ((bytesOf s).take 10), (bytesOf s).drop 10) else none)) := by
        intro h
        have ht := ten _ hlen (by rw [hg]; exact h)
        rw [leb_TakeS.j1, if_neg (by simp), ht.1, if_neg (by omega), if_pos (.inl hb64), rest_eq]
        rfl
      by_cases z : (bytesOf s).getD 9 0 = 0
      · rw [if_pos z]; exact fin (.inl z)
      · rw [if_neg z]
        by_cases z' : (bytesOf s).getD 9 0 = 127
        · rw [show ((bytesOf s).getD 9 0 != 127) = false by simp only [bne_eq_false_iff_eq]; exact z']
          exact fin (.inr z')
        · rw [show ((bytesOf s).getD 9 0 != 127) = true by simp only [bne_iff_ne]; exact z']
          rw [leb_TakeS.j1, if_pos rfl, if_pos ⟨rfl, z, z'⟩]
          rfl
    · have h9 : n ≤ 9 := by omega
      have h128 : (128 : Int) ^ n ≤ 128 ^ 9 := pow128 h9
      have e : uv ((bytesOf s).take n) % 18446744073709551616 = uv ((bytesOf s).take n) := by omega
      have hsp := spread ((bytesOf s).take n) n (by omega) h9 hlen (7 * (0 + (n : Int))) (by omega)
      have hsr := sv_range ((bytesOf s).take n) (by omega)
      rw [hlen] at hsr
      have h128' : (128 : Int) ^ (n - 1) ≤ 128 ^ 8 := pow128 (by omega)
      have hp8 : (128 : Int) ^ 8 = 72057594037927936 := by decide
      have hfi := fits_iff b (sv (sgn ((bytesOf s).take n)) ((bytesOf s).take n)) hb (by omega) (by omega)
      rw [if_neg (by omega), wrap64_id (n := 64 - 7 * ((0 : Nat) + (n : Int))) (by omega) (by omega), if_pos (by omega), wrap64_id (n := b - 1) (by omega) (by omega), if_pos (by omega)]
      rw [wrap64_id (n := 64 - 7 * (0 + (n : Int))) (by omega) (by omega)] at hsp
      rw [wrap64_id (n := b - 1) (by omega) (by omega)] at hfi
      have hz : (((0 : Nat) : Int) + (n : Int)) = 0 + (n : Int) := rfl
      have hn10 : ¬ (n = 10 ∧ (bytesOf s).getD 9 0 ≠ 0 ∧ (bytesOf s).getD 9 0 ≠ 127) := fun h => h10 h.1
      rw [hz, e, hsp, if_neg hn10, rest_eq]
      by_cases hf : fitsS b (sv (sgn ((bytesOf s).take n)) ((bytesOf s).take n))
      · rw [if_pos hf]
        rcases hfi.2 hf with h | h
        · rw [if_pos h]; rfl
        · rw [if_neg (by omega), if_pos h]; rfl
      · rw [if_neg hf, if_neg (fun h => hf (hfi.1 (.inl h))), if_neg (fun h => hf (hfi.1 (.inr h)))]; rfl

theorem TakeS_eq (s : ByteArray) (hs : s.size ≤ 140737488351232) (b : Int) (k : Nat) (hk : 24 ≤ k) : leb_TakeS.f k s b = some (resS (bytesOf s) b) := by
  unfold leb_TakeS.f resS
  by_cases h32 : b = 32
  · rw [if_pos h32, TakeS_j0 s hs b (by omega) k hk, if_pos (by omega)]
  · rw [if_neg h32]
    by_cases h33 : b = 33
    · rw [if_pos h33, TakeS_j0 s hs b (by omega) k hk, if_pos (by omega)]
    · rw [if_neg h33]
      by_cases h64 : b = 64
      · rw [show (b != 64) = false by simp [h64], TakeS_j0 s hs b (by omega) k hk, if_pos (by omega)]
      · rw [show (b != 64) = true by simp [h64], if_neg (by omega)]
        obtain ⟨k, rfl⟩ : ∃ m, k = m + 1 := ⟨k - 1, by omega⟩
        rw [leb_TakeS.j0, if_pos rfl]
end Go.Proofs.Ytmoeibghjejneaa.LebT
