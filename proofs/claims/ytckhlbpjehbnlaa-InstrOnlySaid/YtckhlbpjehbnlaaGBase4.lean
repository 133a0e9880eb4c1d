/- Several texts of this session, laid into one for a claim: InstrL, InstrSh, InstrB, InstrN, Reads, InstrRd, InstrK, InstrF. -/
import Derived.Test.YtckhlbpjehbnlaaGBase2
import Derived.Test.YtckhlbpjehbnlaaGBase3
import Derived.Test.YtckhlbpjehbnlaaWWords
import Derived.ChangeArms
import Derived.ChangeShapes
import Derived.DataReads
import Derived.SizedLaws
import Derived.Test.YtckhlbpjehbnlaaGBase0
namespace Go.Proofs.Ytckhlbpjehbnlaa.LebF
set_option linter.unusedVariables false
set_option linter.unusedSimpArgs false
open Go.RowKit Go.Proofs.Ytckhlbpjehbnlaa.PB Go.Proofs.YtckhlbpjehbnlaaW.PrintWords Go.Proofs.YtckhlbpjehbnlaaW.PrintLast Go.Proofs.YtckhlbpjehbnlaaW.PrintMore
open Go.Proofs.Ytckhlbpjehbnlaa.Str Go.Proofs.Ytckhlbpjehbnlaa.LebS
theorem or128 (x : Int) : Go.bits .or .u8 (x % 256) 128 = x % 128 + 128 := by
  have h : ∀ y : Fin 256, Go.bits .or .u8 (y.val : Int) 128 = (y.val : Int) % 128 + 128 := by decide +kernel
  have := h ⟨(x % 256).toNat, by omega⟩
  simp only at this
  rw [show (((x % 256).toNat : Nat) : Int) = x % 256 by omega] at this
  rw [this]
  omega
theorem and127 (x : Int) (h0 : 0 ≤ x) (h1 : x < 256) : Go.bits .and .u8 x 127 = x % 128 := by
  have h : ∀ y : Fin 256, Go.bits .and .u8 (y.val : Int) 127 = (y.val : Int) % 128 := by decide +kernel
  have := h ⟨x.toNat, by omega⟩
  simp only at this
  rw [show ((x.toNat : Nat) : Int) = x by omega] at this
  exact this
theorem PutU_l0 : ∀ (j n : Nat) (acc : List Int) (k : Nat), n < 128 ^ (j + 1) → j + 1 ≤ k → acc.length + j + 1 ≤ 1000 → leb_PutU.l0 k (n : Int) acc = some (strOfNums (acc ++ pu n)) := by
  intro j
  induction j with
  | zero =>
    intro n acc k hn hk ha
    obtain ⟨k, rfl⟩ : ∃ m, k = m + 1 := ⟨k - 1, by omega⟩
    simp only [leb_PutU.l0]
    rw [if_neg (by omega), if_pos (by omega), pu_small (by omega), show (n : Int) % 256 = n by omega]
  | succ j ih =>
    intro n acc k hn hk ha
    obtain ⟨k, rfl⟩ : ∃ m, k = m + 1 := ⟨k - 1, by omega⟩
    simp only [leb_PutU.l0]
    by_cases h : n < 128
    · rw [if_neg (by omega), if_pos (by omega), pu_small h, show (n : Int) % 256 = n by omega]
    · rw [Nat.pow_succ] at hn
      rw [if_pos (by omega), if_pos (by omega), pu_big h, or128, show (n : Int) / 128 = ((n / 128 : Nat) : Int) by omega,
        ih (n / 128) _ k (by omega) (by omega) (by simp only [List.length_append, List.length_singleton]; omega)]
      simp only [List.append_assoc, List.singleton_append]
      congr 4
/-- What PutU answers. -/
def puZ (n : Int) : List Int := if n < 0 then [] else pu n.toNat
theorem puZ_range (n : Int) : ∀ x ∈ puZ n, 0 ≤ x ∧ x < 256 := by
  unfold puZ
  split
  · intro x hx; cases hx
  · exact pu_range _
theorem puZ_len (n : Int) (h1 : n < 9223372036854775808) : (puZ n).length ≤ 9 := by
  unfold puZ
  split
  · simp
  · exact pu_len 8 _ (by omega)
theorem PutU_eq (n : Int) (h1 : n < 9223372036854775808) (k : Nat) (hk : 12 ≤ k) : leb_PutU.f k n = some (strOfNums (puZ n)) := by
  unfold leb_PutU.f puZ
  by_cases h : n < 0
  · rw [if_pos h, if_pos h]; rfl
  · rw [if_neg h, if_neg h]
    have := PutU_l0 9 n.toNat [] k (by omega) (by omega) (by simp)
    rw [show ((n.toNat : Nat) : Int) = n by omega] at this
    rw [this, List.nil_append]
theorem PutS_l0 : ∀ (j : Nat) (n : Int) (acc : List Int) (k : Nat), -(64 * 128 ^ j) ≤ n → n < 64 * 128 ^ j → j + 1 ≤ k → acc.length + j + 1 ≤ 1000 → leb_PutS.l0 k n acc = some (strOfNums (acc ++ ps n)) := by
  intro j
  induction j with
  | zero =>
    intro n acc k h0 h1 hk ha
    obtain ⟨k, rfl⟩ : ∃ m, k = m + 1 := ⟨k - 1, by omega⟩
    simp only [leb_PutS.l0]
    rw [if_neg (by omega), if_neg (by omega), if_pos (by omega), ps_small (by omega), and127 _ (by omega) (by omega), show n % 256 % 128 = n % 128 by omega]
  | succ j ih =>
    intro n acc k h0 h1 hk ha
    obtain ⟨k, rfl⟩ : ∃ m, k = m + 1 := ⟨k - 1, by omega⟩
    simp only [leb_PutS.l0]
    by_cases h : -64 ≤ n ∧ n < 64
    · rw [if_neg (by omega), if_neg (by omega), if_pos (by omega), ps_small h, and127 _ (by omega) (by omega), show n % 256 % 128 = n % 128 by omega]
    · rw [Int.pow_succ] at h0 h1
      have go : leb_PutS.l0 k (n / 128) (acc ++ [Go.bits .or .u8 (n % 256) 128]) = some (strOfNums (acc ++ ps n)) := by
        rw [ps_big h, or128, ih (n / 128) _ k (by omega) (by omega) (by omega) (by simp only [List.length_append, List.length_singleton]; omega)]
        simp only [List.append_assoc, List.singleton_append]
      by_cases h2 : n < -64
      · rw [if_pos h2, if_pos (by omega), go]
      · rw [if_neg h2, if_pos (by omega), if_pos (by omega), go]
theorem PutS_eq (n : Int) (h0 : -9223372036854775808 ≤ n) (h1 : n < 9223372036854775808) (k : Nat) (hk : 12 ≤ k) : leb_PutS.f k n = some (strOfNums (ps n)) := by
  unfold leb_PutS.f
  rw [PutS_l0 9 n [] k (by omega) (by omega) (by omega) (by simp), List.nil_append]
theorem bits_or_comm (k : IntKind) (x y : Int) : Go.bits .or k x y = Go.bits .or k y x := by
  simp only [Go.bits, BitVec.or_comm]
theorem wraps_u64 (n : Int) (h0 : 0 ≤ n) (h1 : n < 2 ^ 64) : IntKind.u64.wrap n = n := by
  simp [IntKind.wrap, IntKind.bits, IntKind.signed]
  omega
theorem wrap_u64 (n : Int) : IntKind.u64.wrap n = n % 18446744073709551616 := by
  simp [IntKind.wrap, IntKind.bits, IntKind.signed]
/-- One more group of seven bits. -/
theorem or_group (i : Nat) (hi : i ≤ 9) (u c : Int) (hu0 : 0 ≤ u) (hu : u < 128 ^ i) (hc0 : 0 ≤ c) (hc : c < 256) :
    Go.bits .or .u64 u (shl .u64 (IntKind.u64.wrap (Go.bits .and .u8 c 127)) (wrap64 (7 * (i : Int)))) = (u + c % 128 * 128 ^ i) % 18446744073709551616 := by
  rw [and127 c hc0 hc, wraps_u64 _ (by omega) (by omega), wrap64_id (by omega) (by omega)]
  have e7 : (7 * (i : Int)).toNat = 7 * i := by omega
  unfold shl
  rw [e7, Nat.min_eq_left (by simp [IntKind.bits]; omega), bits_or_comm, wrap_u64]
  have hp : (2 : Int) ^ (7 * i) = 128 ^ i := by rw [Int.pow_mul]; rfl
  rw [hp]
  have hd : 0 ≤ c % 128 ∧ c % 128 < 128 := by omega
  generalize c % 128 = d at hd
  have key : ∀ (p : Int) (j : Nat), (2 : Int) ^ j = p → 0 ≤ d * p % 18446744073709551616 → d * p % 18446744073709551616 % p = 0 → u < p → p < 18446744073709551616 → (d * p % 18446744073709551616 + u < 18446744073709551616) →
      Go.bits .or .u64 (d * p % 18446744073709551616) u = (u + d * p) % 18446744073709551616 := by
    intro p j hj h0 h1 h2 h3 h4
    rw [Go.bits_join .u64 64 (by decide) wraps_u64 j _ u h0 (by rw [hj]; exact h1) (by omega) hu0 (by rw [hj]; exact h2) (by omega)]
    omega
  have hi' : i = 0 ∨ i = 1 ∨ i = 2 ∨ i = 3 ∨ i = 4 ∨ i = 5 ∨ i = 6 ∨ i = 7 ∨ i = 8 ∨ i = 9 := by omega
  rcases hi' with rfl | rfl | rfl | rfl | rfl | rfl | rfl | rfl | rfl | rfl <;>
    refine key _ (7 * _) hp ?_ ?_ hu ?_ ?_ <;> simp only [Int.reducePow] at * <;> omega
/-- What raw answers. -/
def rawR (s : ByteArray) (i n : Nat) (u : Int) : Int × Int × ByteArray × Bool :=
  if n = 0 then (0, 0, ⟨#[]⟩, false) else ((u + 128 ^ i * uv (((bytesOf s).drop i).take n)) % 18446744073709551616, 7 * ((i : Int) + n), s.extract (i + n) s.size, true)
theorem raw_l0 (s : ByteArray) (hs : s.size ≤ 140737488351232) (b : Int) (most : Nat) (hb : (most = 5 ∧ (b = 32 ∨ b = 33)) ∨ (most = 10 ∧ b = 64)) :
    ∀ (m i : Nat) (u : Int) (k : Nat), i + m = most → i ≤ s.size → (i ≤ 9 → u < 128 ^ i) → 0 ≤ u → 2 * m + 2 ≤ k →
      leb_raw.l0 k s b u (i : Int) = some (rawR s i (len ((bytesOf s).drop i) m) u) := by
  intro m
  induction m with
  | zero =>
    intro i u k hm hi hu hu0 hk
    obtain ⟨k, rfl⟩ : ∃ m, k = m + 2 := ⟨k - 2, by omega⟩
    simp only [leb_raw.l0, leb_raw.j1]
    rw [wrap64_id (by omega) (by omega), if_pos (by omega), if_pos trivial]
    simp [rawR, len]
  | succ m ih =>
    intro i u k hm hi hu hu0 hk
    obtain ⟨k, rfl⟩ : ∃ m, k = m + 2 := ⟨k - 2, by omega⟩
    have hw : wrap64 (7 * (i : Int)) = 7 * i := wrap64_id (by omega) (by omega)
    rw [leb_raw.l0, hw, if_neg (by omega)]
    by_cases he : i = s.size
    · rw [show ((i : Int) == (s.size : Int)) = true by simp [he]]
      rw [leb_raw.j1, if_pos rfl]
      have : (bytesOf s).drop i = [] := by rw [List.drop_eq_nil_iff, bytesOf_length]; omega
      simp [rawR, this, len]
    · rw [show ((i : Int) == (s.size : Int)) = false by simp; omega]
      rw [leb_raw.j1, if_neg (by simp), if_pos (by omega), if_pos (by omega), hw, if_pos (by omega)]
      have hlt : i < (bytesOf s).length := by rw [bytesOf_length]; omega
      have hc := bytes_range s _ (getD_mem hlt)
      have hd := drop_cons hlt
      have ew : wrap64 ((i : Int) + 1) = ((i + 1 : Nat) : Int) := by rw [wrap64_id (by omega) (by omega)]; omega
      have hg := or_group i (by omega) u (bt s i) hu0 (hu (by omega)) (bt_range s i).1 (by have := (bt_range s i).2; omega)
      rw [hw] at hg
      rw [hg, ew, bt_nat]
      generalize hcd : (bytesOf s).getD i 0 = c at *
      rw [hd]
      simp only [len]
      have hp : (0 : Int) < 128 ^ i := Int.pow_pos (by omega)
      by_cases h128 : c ≥ 128
      · rw [if_pos h128, if_neg (by omega), ih (i + 1) _ k (by omega) (by omega) ?_ (by omega) (by omega)]
        · unfold rawR
          by_cases h0 : len ((bytesOf s).drop (i + 1)) m = 0
          · rw [if_pos h0, if_pos h0, if_pos rfl]
          · rw [if_neg h0, if_neg h0, if_neg (by omega)]
            rw [hd, List.take_succ_cons]
            simp only [uv, sv]
            rw [Int.pow_succ]
            refine congrArg some ?_
            refine Prod.ext ?_ (Prod.ext ?_ (Prod.ext ?_ rfl))
            · simp only
              generalize sv 0 (((bytesOf s).drop (i + 1)).take (len ((bytesOf s).drop (i + 1)) m)) = q
              rw [Int.mul_add, Int.mul_comm (128 ^ i) (c % 128), Int.mul_assoc (128 ^ i) 128 q]
              generalize 128 ^ i * (128 * q) = z
              omega
            · simp only; omega
            · simp only
              rw [show i + 1 + len ((bytesOf s).drop (i + 1)) m = i + (len ((bytesOf s).drop (i + 1)) m + 1) by omega]
        · intro h9
          rw [Int.pow_succ]
          have hi8 : (128 : Int) ^ i ≤ 128 ^ 8 := pow128 (by omega)
          have hu' := hu (by omega)
          have : c % 128 * 128 ^ i ≤ 127 * 128 ^ i := Int.mul_le_mul_of_nonneg_right (by omega) (by omega)
          have h3 : 0 ≤ c % 128 * 128 ^ i := Int.mul_nonneg (by omega) (by omega)
          omega
      · rw [if_neg h128, if_pos (by omega), if_pos (by omega), if_pos (by omega)]
        unfold rawR
        rw [if_neg (by omega)]
        rw [hd, List.take_succ_cons, List.take_zero]
        simp only [uv, sv]
        refine congrArg some ?_
        refine Prod.ext ?_ (Prod.ext ?_ (Prod.ext ?_ rfl))
        · simp only
          rw [Int.mul_comm (128 ^ i)]
          simp
        · simp only
          rw [wrap64_id (by omega) (by omega)]
          omega
        · simp only
          congr 1
theorem raw_eq (s : ByteArray) (hs : s.size ≤ 140737488351232) (b : Int) (hb : b = 32 ∨ b = 33 ∨ b = 64) (k : Nat) (hk : 22 ≤ k) :
    leb_raw.f k s b = some (rawR s 0 (len (bytesOf s) (mostS b)) 0) := by
  unfold leb_raw.f
  have := raw_l0 s hs b (mostS b) (by unfold mostS; rcases hb with rfl | rfl | rfl <;> simp) (mostS b) 0 0 k (by omega) (by omega) (by intro; simp) (by omega) (by unfold mostS; split <;> omega)
  rw [List.drop_zero] at this
  exact this
/-- An answer of TakeU and TakeS. -/
def resU : Option (Int × List Int) → Int × ByteArray × Int
  | none => (0, ⟨#[]⟩, 2)
  | some (v, r) => (v, strOfNums r, 0)
theorem rest_eq (s : ByteArray) (n : Nat) : s.extract n s.size = strOfNums ((bytesOf s).drop n) := by
  apply bytes_inj
  rw [bytes_rest, bytes_of]
  intro x hx
  exact bytes_range s x (List.mem_of_mem_drop hx)
theorem TakeU_eq (s : ByteArray) (hs : s.size ≤ 140737488351232) (k : Nat) (hk : 22 ≤ k) : leb_TakeU.f k s = some (resU (takeU (bytesOf s))) := by
  unfold leb_TakeU.f takeU
  rw [raw_eq s hs 32 (by omega) k hk]
  have hm : mostS 32 = 5 := rfl
  have h5 := len_le (bytesOf s) 5
  rw [hm]
  simp only [Option.bind_some, rawR]
  by_cases h : len (bytesOf s) 5 = 0
  · rw [if_pos h, if_pos h, if_neg (by simp)]; rfl
  · rw [if_neg h, if_neg h]
    simp only [if_true]
    have hr := uv_range ((bytesOf s).take (len (bytesOf s) 5))
    have h128 : (128 : Int) ^ ((bytesOf s).take (len (bytesOf s) 5)).length ≤ 128 ^ 5 := pow128 (by rw [List.length_take]; omega)
    have e : (0 + 128 ^ 0 * uv (((bytesOf s).drop 0).take (len (bytesOf s) 5))) % 18446744073709551616 = uv ((bytesOf s).take (len (bytesOf s) 5)) := by
      rw [List.drop_zero]; omega
    rw [e]
    by_cases h2 : uv ((bytesOf s).take (len (bytesOf s) 5)) ≥ 4294967296
    · rw [if_pos h2, if_pos h2]; rfl
    · rw [if_neg h2, if_neg h2, wrap64_id (by omega) (by omega), Nat.zero_add, rest_eq]; rfl
/-- Answers of TakeS. -/
def resS (l : List Int) (b : Int) : Int × ByteArray × Int := if b = 32 ∨ b = 33 ∨ b = 64 then resU (takeS l b) else (0, ⟨#[]⟩, 1)
theorem shr_eq (x : Int) (j : Nat) (hj : j ≤ 64) : shr .i64 x (j : Int) = x / 2 ^ j := by
  unfold shr
  rw [show ((j : Int)).toNat = j by omega, Nat.min_eq_left (by simp [IntKind.bits]; omega)]
/-- The sign of n groups, spread. -/
theorem spread (l : List Int) (n : Nat) (h1 : 1 ≤ n) (h9 : n ≤ 9) (hl : l.length = n) (k : Int) (hk : k = 7 * (n : Int)) :
    shr .i64 (wrap64 (shl .u64 (uv l) (wrap64 (64 - k)))) (wrap64 (64 - k)) = sv (sgn l) l := by
  subst hk
  have e : wrap64 (64 - 7 * (n : Int)) = ((64 - 7 * n : Nat) : Int) := by rw [wrap64_id (by omega) (by omega)]; omega
  rw [e, shr_eq _ _ (by omega), sv_uv]
  unfold shl
  rw [show (((64 - 7 * n : Nat) : Int)).toNat = 64 - 7 * n by omega, Nat.min_eq_left (by simp [IntKind.bits]), wrap_u64]
  have hr := uv_range l
  rw [hl] at hr ⊢
  have hs : (sgn l = 0 ∧ 2 * uv l < 128 ^ n) ∨ (sgn l = -1 ∧ 2 * uv l ≥ 128 ^ n) := by
    obtain ⟨m, rfl⟩ : ∃ m, n = m + 1 := ⟨n - 1, by omega⟩
    have hd : l = l.take m ++ [l.getD m 0] := by
      have := List.take_append_drop m l
      rw [drop_cons (by omega)] at this
      rw [List.drop_eq_nil_of_le (by omega)] at this
      exact this.symm
    have hu : uv l = uv (l.take m) + 128 ^ m * (l.getD m 0 % 128) := by
      conv => lhs; rw [hd]
      rw [uv_append, List.length_take, Nat.min_eq_left (by omega)]
      simp [sv]
    have hr2 := uv_range (l.take m)
    rw [List.length_take, Nat.min_eq_left (by omega)] at hr2
    unfold sgn
    rw [hl, Nat.add_sub_cancel]
    have hp : (0 : Int) < 128 ^ m := Int.pow_pos (by omega)
    rw [Int.pow_succ]
    have hc : 0 ≤ l.getD m 0 % 128 ∧ l.getD m 0 % 128 < 128 := by omega
    generalize l.getD m 0 % 128 = c at *
    split
    · right
      refine ⟨rfl, ?_⟩
      have : 128 ^ m * 64 ≤ 128 ^ m * c := Int.mul_le_mul_of_nonneg_left (by omega) (by omega)
      omega
    · left
      refine ⟨rfl, ?_⟩
      have : 128 ^ m * c ≤ 128 ^ m * 63 := Int.mul_le_mul_of_nonneg_left (by omega) (by omega)
      omega
  generalize uv l = u at *
  generalize sgn l = t at *
  have hn : n = 1 ∨ n = 2 ∨ n = 3 ∨ n = 4 ∨ n = 5 ∨ n = 6 ∨ n = 7 ∨ n = 8 ∨ n = 9 := by omega
  unfold wrap64
  rcases hn with rfl | rfl | rfl | rfl | rfl | rfl | rfl | rfl | rfl <;>
    simp only [Nat.reduceMul, Nat.reduceSub, Int.reducePow] at * <;> omega
theorem fits_iff (b v : Int) (hb : b = 32 ∨ b = 33 ∨ b = 64) (h0 : -9223372036854775808 ≤ v) (h1 : v < 9223372036854775808) :
    (shr .i64 v (wrap64 (b - 1)) = 0 ∨ shr .i64 v (wrap64 (b - 1)) = -1) ↔ fitsS b v := by
  unfold fitsS
  rcases hb with rfl | rfl | rfl
  · rw [show wrap64 (32 - 1) = ((31 : Nat) : Int) by (unfold wrap64; omega), shr_eq _ _ (by omega)]
    simp only [Int.reducePow, true_and, true_or, iff_true]; omega
  · rw [show wrap64 (33 - 1) = ((32 : Nat) : Int) by (unfold wrap64; omega), shr_eq _ _ (by omega)]
    simp only [Int.reducePow, true_and, true_or, iff_true]; omega
  · rw [show wrap64 (64 - 1) = ((63 : Nat) : Int) by (unfold wrap64; omega), shr_eq _ _ (by omega)]
    simp only [Int.reducePow, true_and, true_or, iff_true]; omega
/-- Ten groups, of which the last one is 0 or 127. -/
theorem ten (l : List Int) (hl : l.length = 10) (h : l.getD 9 0 = 0 ∨ l.getD 9 0 = 127) : wrap64 (uv l % 18446744073709551616) = sv (sgn l) l ∧ -9223372036854775808 ≤ sv (sgn l) l ∧ sv (sgn l) l < 9223372036854775808 := by
  have hd : l = l.take 9 ++ [l.getD 9 0] := by
    have := List.take_append_drop 9 l
    rw [drop_cons (by omega)] at this
    rw [List.drop_eq_nil_of_le (by omega)] at this
    exact this.symm
  have hu : uv l = uv (l.take 9) + 128 ^ 9 * (l.getD 9 0 % 128) := by
    conv => lhs; rw [hd]
    rw [uv_append, List.length_take, Nat.min_eq_left (by omega)]
    simp [sv]
  have hr2 := uv_range (l.take 9)
  rw [List.length_take, Nat.min_eq_left (by omega)] at hr2
  rw [sv_uv, hu, hl]
  unfold sgn wrap64
  rw [hl]
  rcases h with h | h <;> simp only [Nat.add_one_sub_one, h] <;> simp <;> omega
theorem TakeS_j0 (s : ByteArray) (hs : s.size ≤ 140737488351232) (b : Int) (hb : b = 32 ∨ b = 33 ∨ b = 64) (k : Nat) (hk : 24 ≤ k) : leb_TakeS.j0 k s b false = some (resU (takeS (bytesOf s) b)) := by
  obtain ⟨k, rfl⟩ : ∃ m, k = m + 2 := ⟨k - 2, by omega⟩
  rw [leb_TakeS.j0, if_neg (by simp), raw_eq s hs b hb (k + 1) (by omega)]
  simp only [Option.bind_some, rawR]
  have hle := len_le (bytesOf s) (mostS b)
  have hll := len_le_length (bytesOf s) (mostS b)
  have hm : mostS b ≤ 10 := by unfold mostS; split <;> omega
  have hm5 : b ≠ 64 → mostS b = 5 := by intro h; unfold mostS; rw [if_neg h]
  unfold takeS
  simp only
  generalize hn : len (bytesOf s) (mostS b) = n at *
  by_cases h0 : n = 0
  · rw [if_pos h0, if_pos h0, if_neg (by simp)]; rfl
  · rw [if_neg h0, if_neg h0]
    simp only [if_true, List.drop_zero, Int.pow_zero, Int.one_mul, Int.zero_add, Nat.zero_add]
    have hlen : ((bytesOf s).take n).length = n := by rw [List.length_take]; omega
    have hr := uv_range ((bytesOf s).take n)
    rw [hlen] at hr
    rw [bytesOf_length] at hll
    by_cases h10 : n = 10
    · subst h10
      have hb64 : b = 64 := by
        by_cases h : b = 64
        · exact h
        · have := hm5 h; omega
      have hg : ((bytesOf s).take 10).getD 9 0 = (bytesOf s).getD 9 0 := by simp [List.getD]
      rw [if_pos (by omega), if_pos (by omega), show bt s 9 = (bytesOf s).getD 9 0 from bt_nat s 9]
      have fin : ∀ (h : (bytesOf s).getD 9 0 = 0 ∨ (bytesOf s).getD 9 0 = 127), leb_TakeS.j1 (k + 1) (uv ((bytesOf s).take 10) % 18446744073709551616) (s.extract 10 s.size) false = some (resU (if 10 = 10 ∧ (bytesOf s).getD 9 0 ≠ 0 ∧ (bytesOf s).getD 9 0 ≠ 127 then none else if fitsS b (sv (sgn ((bytesOf s).take 10)) ((bytesOf s).take 10)) then some (sv (sgn ((bytesOf s).take 10)) ((bytesOf s).take 10), (bytesOf s).drop 10) else none)) := by
        intro h
        have ht := ten _ hlen (by rw [hg]; exact h)
        rw [leb_TakeS.j1, if_neg (by simp), ht.1, if_neg (by omega), if_pos (.inl hb64), rest_eq]
        rfl
      by_cases z : (bytesOf s).getD 9 0 = 0
      · rw [if_pos z]; exact fin (.inl z)
      · rw [if_neg z]
        by_cases z' : (bytesOf s).getD 9 0 = 127
        · rw [show ((bytesOf s).getD 9 0 != 127) = false by simp only [bne_eq_false_iff_eq]; exact z']
          exact fin (.inr z')
        · rw [show ((bytesOf s).getD 9 0 != 127) = true by simp only [bne_iff_ne]; exact z']
          rw [leb_TakeS.j1, if_pos rfl, if_pos ⟨rfl, z, z'⟩]
          rfl
    · have h9 : n ≤ 9 := by omega
      have h128 : (128 : Int) ^ n ≤ 128 ^ 9 := pow128 h9
      have e : uv ((bytesOf s).take n) % 18446744073709551616 = uv ((bytesOf s).take n) := by omega
      have hsp := spread ((bytesOf s).take n) n (by omega) h9 hlen (7 * (0 + (n : Int))) (by omega)
      have hsr := sv_range ((bytesOf s).take n) (by omega)
      rw [hlen] at hsr
      have h128' : (128 : Int) ^ (n - 1) ≤ 128 ^ 8 := pow128 (by omega)
      have hp8 : (128 : Int) ^ 8 = 72057594037927936 := by decide
      have hfi := fits_iff b (sv (sgn ((bytesOf s).take n)) ((bytesOf s).take n)) hb (by omega) (by omega)
      rw [if_neg (by omega), wrap64_id (n := 64 - 7 * ((0 : Nat) + (n : Int))) (by omega) (by omega), if_pos (by omega), wrap64_id (n := b - 1) (by omega) (by omega), if_pos (by omega)]
      rw [wrap64_id (n := 64 - 7 * (0 + (n : Int))) (by omega) (by omega)] at hsp
      rw [wrap64_id (n := b - 1) (by omega) (by omega)] at hfi
      have hz : (((0 : Nat) : Int) + (n : Int)) = 0 + (n : Int) := rfl
      have hn10 : ¬ (n = 10 ∧ (bytesOf s).getD 9 0 ≠ 0 ∧ (bytesOf s).getD 9 0 ≠ 127) := fun h => h10 h.1
      rw [hz, e, hsp, if_neg hn10, rest_eq]
      by_cases hf : fitsS b (sv (sgn ((bytesOf s).take n)) ((bytesOf s).take n))
      · rw [if_pos hf]
        rcases hfi.2 hf with h | h
        · rw [if_pos h]; rfl
        · rw [if_neg (by omega), if_pos h]; rfl
      · rw [if_neg hf, if_neg (fun h => hf (hfi.1 (.inl h))), if_neg (fun h => hf (hfi.1 (.inr h)))]; rfl
theorem TakeS_eq (s : ByteArray) (hs : s.size ≤ 140737488351232) (b : Int) (k : Nat) (hk : 24 ≤ k) : leb_TakeS.f k s b = some (resS (bytesOf s) b) := by
  unfold leb_TakeS.f resS
  by_cases h32 : b = 32
  · rw [if_pos h32, TakeS_j0 s hs b (by omega) k hk, if_pos (by omega)]
  · rw [if_neg h32]
    by_cases h33 : b = 33
    · rw [if_pos h33, TakeS_j0 s hs b (by omega) k hk, if_pos (by omega)]
    · rw [if_neg h33]
      by_cases h64 : b = 64
      · rw [show (b != 64) = false by simp [h64], TakeS_j0 s hs b (by omega) k hk, if_pos (by omega)]
      · rw [show (b != 64) = true by simp [h64], if_neg (by omega)]
        obtain ⟨k, rfl⟩ : ∃ m, k = m + 1 := ⟨k - 1, by omega⟩
        rw [leb_TakeS.j0, if_pos rfl]
theorem resU_none : resU none = (0, ⟨#[]⟩, 2) := rfl
theorem resU_some (v : Int) (r : List Int) : resU (some (v, r)) = (v, strOfNums r, 0) := rfl
theorem resS_good (l : List Int) {b : Int} (h : b = 32 ∨ b = 33 ∨ b = 64) : resS l b = resU (takeS l b) := by unfold resS; rw [if_pos h]
theorem app_bytes {l : List Int} (hl : ∀ x ∈ l, 0 ≤ x ∧ x < 256) (s : ByteArray) : bytesOf (strOfNums l ++ s) = l ++ bytesOf s := by
  rw [bytes_append, bytes_of hl]
theorem app_size (l : List Int) (s : ByteArray) : (strOfNums l ++ s).size = l.length + s.size := by
  rw [size_bytes, bytes_append, List.length_append, bytesOf_length, bytesOf_length, strOfNums_size]
theorem empty_toList : (⟨#[]⟩ : ByteArray).toList = [] := by decide +kernel
theorem empty_nums : (strOfNums []).toList = [] := by decide +kernel
def takeN : Nat → List Int → Option (List Int × List Int)
  | 0, l => some ([], l)
  | n + 1, l => match takeU l with
    | none => none
    | some (v, r) => match takeN n r with
      | none => none
      | some (a, b) => some (v :: a, b)
def takeA (l : List Int) (most : Int) : List Int × ByteArray × Int :=
  match takeU l with
  | none => ([], ⟨#[]⟩, 2)
  | some (n, r) => if n > most then ([], ⟨#[]⟩, 14) else match takeN n.toNat r with
    | none => ([], ⟨#[]⟩, 2)
    | some (a, b) => (a, strOfNums b, 0)
def resN (acc : List Int) : Option (List Int × List Int) → List Int × ByteArray × Int
  | none => ([], ⟨#[]⟩, 2)
  | some (a, b) => (acc ++ a, strOfNums b, 0)
theorem TakeAll_l0 : ∀ (m : Nat) (s : ByteArray) (acc : List Int) (n i k : Nat), n - i ≤ m → n < 4294967296 → s.size ≤ 140737488351232 → acc.length + m ≤ 10000000 → m + 40 ≤ k →
    leb_TakeAll.l0 k s acc (n : Int) (i : Int) = some (resN acc (takeN (n - i) (bytesOf s))) := by
  intro m
  induction m with
  | zero =>
    intro s acc n i k hm hn hs ha hk
    obtain ⟨k, rfl⟩ : ∃ m, k = m + 1 := ⟨k - 1, by omega⟩
    rw [leb_TakeAll.l0, if_neg (by omega), show n - i = 0 by omega]
    simp only [takeN, resN, List.append_nil, str_of]
  | succ m ih =>
    intro s acc n i k hm hn hs ha hk
    obtain ⟨k, rfl⟩ : ∃ m, k = m + 1 := ⟨k - 1, by omega⟩
    rw [leb_TakeAll.l0]
    by_cases h : i < n
    · obtain ⟨j, hj⟩ : ∃ j, n - i = j + 1 := ⟨n - i - 1, by omega⟩
      have hnj : n - (i + 1) = j := by omega
      rw [if_pos (by omega), TakeU_eq s hs k (by omega), hj]
      cases ht : takeU (bytesOf s) with
      | none =>
        rw [resU_none]
        simp only [Option.bind_some, takeN, ht, Int.reduceEq, if_false, resN]
      | some p =>
        obtain ⟨v, r⟩ := p
        obtain ⟨h0, h1, _, hlt, d, hd⟩ := takeU_len ht
        rw [bytesOf_length] at hlt
        have hr : ∀ x ∈ r, 0 ≤ x ∧ x < 256 := by
          rw [hd]; intro x hx; exact bytes_range s x (List.mem_of_mem_drop hx)
        rw [resU_some]
        have hi1 : wrap64 ((i : Int) + 1) = ((i + 1 : Nat) : Int) := by rw [wrap64_id (by omega) (by omega)]; omega
        have ha2 : acc.length < 17592186044416 := by omega
        simp only [Option.bind_some, takeN, ht, if_true, ha2]
        rw [hi1, ih (strOfNums r) (acc ++ [v]) n (i + 1) k (by omega) hn (by have := strOfNums_size r; omega) (by rw [List.length_append, List.length_singleton]; omega) (by omega),
          bytes_of hr, hnj]
        cases takeN j r with
        | none => rfl
        | some q => obtain ⟨a, b⟩ := q; simp [resN]
    · rw [if_neg (by omega), show n - i = 0 by omega]
      simp only [takeN, resN, List.append_nil, str_of]
theorem TakeAll_eq (s : ByteArray) (hs : s.size ≤ 140737488351232) : leb_TakeAll.f 1100 s 1000 = some (takeA (bytesOf s) 1000) := by
  unfold leb_TakeAll.f takeA
  rw [TakeU_eq s hs 1100 (by omega)]
  cases ht : takeU (bytesOf s) with
  | none => rw [resU_none]; simp
  | some p =>
    obtain ⟨v, r⟩ := p
    obtain ⟨h0, h1, _, hlt, d, hd⟩ := takeU_len ht
    rw [bytesOf_length] at hlt
    have hr : ∀ x ∈ r, 0 ≤ x ∧ x < 256 := by
      rw [hd]; intro x hx; exact bytes_range s x (List.mem_of_mem_drop hx)
    rw [resU_some]
    simp only [Option.bind_some, if_true]
    by_cases h : v > 1000
    · rw [if_pos h, if_pos h]
    · rw [if_neg h, if_neg h]
      have := TakeAll_l0 1000 (strOfNums r) [] v.toNat 0 1100 (by omega) (by omega) (by have := strOfNums_size r; omega) (by simp) (by omega)
      rw [show ((v.toNat : Nat) : Int) = v by omega, bytes_of hr] at this
      rw [show (0 : Int) = ((0 : Nat) : Int) from rfl, this]
      simp only [Nat.sub_zero]
      cases takeN v.toNat r with
      | none => rfl
      | some q => obtain ⟨a, b⟩ := q; simp [resN]
/-- Numbers laid one behind the other. -/
def puA : List Int → List Int
  | [] => []
  | x :: l => puZ x ++ puA l
theorem puA_range (l : List Int) : ∀ x ∈ puA l, 0 ≤ x ∧ x < 256 := by
  induction l with
  | nil => intro x hx; cases hx
  | cons a l ih =>
    intro x hx
    rcases List.mem_append.1 hx with h | h
    · exact puZ_range a x h
    · exact ih x h
theorem puA_len (l : List Int) (hl : ∀ x ∈ l, (Lit.int .i64 x).wf = true) : (puA l).length ≤ 9 * l.length := by
  induction l with
  | nil => simp [puA]
  | cons a l ih =>
    have := puZ_len a (wf64 (hl a (by simp))).2
    have := ih (fun x hx => hl x (by simp [hx]))
    simp only [puA, List.length_append, List.length_cons]
    omega
theorem PutAll_l0 (l : List Int) (hl : ∀ x ∈ l, (Lit.int .i64 x).wf = true) (hn : l.length ≤ 1000000) :
    ∀ (m i : Nat) (acc : List Int) (k : Nat), i + m = l.length → acc.length + 9 * m ≤ 100000000 → m + 20 ≤ k →
      leb_PutAll.l0 k (strOfNums acc) l (l.length : Int) (i : Int) = some (strOfNums (acc ++ puA (l.drop i))) := by
  intro m
  induction m with
  | zero =>
    intro i acc k hi ha hk
    obtain ⟨k, rfl⟩ : ∃ m, k = m + 1 := ⟨k - 1, by omega⟩
    rw [leb_PutAll.l0, if_neg (by omega), List.drop_eq_nil_of_le (by omega), puA, List.append_nil]
  | succ m ih =>
    intro i acc k hi ha hk
    obtain ⟨k, rfl⟩ : ∃ m, k = m + 1 := ⟨k - 1, by omega⟩
    have hlt : i < l.length := by omega
    have hw := wf64 (hl _ (getD_mem hlt))
    have hz := puZ_len (l.getD i 0) hw.2
    have e : rd l (i : Int) = l.getD i 0 := by simp [rd]
    have hi1 : wrap64 ((i : Int) + 1) = ((i + 1 : Nat) : Int) := by rw [wrap64_id (by omega) (by omega)]; omega
    rw [leb_PutAll.l0, if_pos (by omega), if_pos (by omega), if_pos (by omega), e, PutU_eq _ hw.2 k (by omega)]
    simp only [Option.bind_some]
    rw [if_pos (by rw [strOfNums_size, strOfNums_size]; omega), ← strOfNums_append, hi1, ih (i + 1) _ k (by omega) (by rw [List.length_append]; omega) (by omega), drop_cons hlt, puA, List.append_assoc]
theorem PutAll_eq (l : List Int) (hl : ∀ x ∈ l, (Lit.int .i64 x).wf = true) (hn : l.length ≤ 1000000) (k : Nat) (hk : l.length + 20 ≤ k) :
    leb_PutAll.f k l = some (strOfNums (pu l.length ++ puA l)) := by
  unfold leb_PutAll.f
  have e : puZ (l.length : Int) = pu l.length := by unfold puZ; rw [if_neg (by omega)]; rfl
  have hz := puZ_len (l.length : Int) (by omega)
  rw [PutU_eq _ (by omega) k (by omega)]
  simp only [Option.bind_some]
  have := PutAll_l0 l hl hn l.length 0 (puZ (l.length : Int)) k (by omega) (by omega) (by omega)
  rw [show ((0 : Nat) : Int) = 0 from rfl] at this
  rw [this, e, List.drop_zero]
theorem takeN_len : ∀ (n : Nat) (l a b : List Int), takeN n l = some (a, b) → a.length + b.length ≤ l.length := by
  intro n
  induction n with
  | zero => intro l a b h; simp only [takeN, Option.some.injEq, Prod.mk.injEq] at h; obtain ⟨rfl, rfl⟩ := h; simp
  | succ n ih =>
    intro l a b h
    simp only [takeN] at h
    cases ht : takeU l with
    | none => rw [ht] at h; cases h
    | some p =>
      obtain ⟨v, r⟩ := p
      rw [ht] at h
      simp only at h
      cases hn : takeN n r with
      | none => rw [hn] at h; cases h
      | some q =>
        obtain ⟨a', b'⟩ := q
        rw [hn] at h
        simp only [Option.some.injEq, Prod.mk.injEq] at h
        obtain ⟨rfl, rfl⟩ := h
        have := ih r a' b' hn
        have := takeU_len ht
        simp only [List.length_cons]
        omega
end Go.Proofs.Ytckhlbpjehbnlaa.LebF
namespace Go.Proofs.Ytckhlbpjehbnlaa.PB
open Go.RowKit Go.Proofs.YtckhlbpjehbnlaaW.PrintWords Go.Proofs.YtckhlbpjehbnlaaW.PrintLast Go.Proofs.YtckhlbpjehbnlaaW.PrintMore
open Go.Proofs.Ytckhlbpjehbnlaa.Str Go.Proofs.Ytckhlbpjehbnlaa.LebS Go.Proofs.Ytckhlbpjehbnlaa.LebF
set_option linter.unusedVariables false
set_option linter.unusedSimpArgs false
theorem beq_no {a b : Int} (h : a ≠ b) : (a == b) = false := by simpa using h
def Out (op : Int) : Prop := op < 0 ∨ (255 < op ∧ op < 64512) ∨ 64529 < op
theorem Out.ne {op : Int} (h : Out op) (c : Int) (hc : (0 ≤ c ∧ c ≤ 255) ∨ (64512 ≤ c ∧ c ≤ 64529)) : op ≠ c := by unfold Out at h; omega
theorem Out.nb {op : Int} (h : Out op) (c : Int) (hc : (0 ≤ c ∧ c ≤ 255) ∨ (64512 ≤ c ∧ c ≤ 64529)) : (op == c) = false := beq_no (h.ne c hc)
theorem wid_out (op : Int) (h : Out op) (k : Nat) : mem_Width.f (k + 5) op = some (0, 0, false) := by
  have e : ∀ c : Int, (0 ≤ c ∧ c ≤ 255) → (op = c) = False := fun c hc => eq_false (h.ne c (.inl hc))
  have b : ∀ c : Int, (0 ≤ c ∧ c ≤ 255) → (op == c) = false := fun c hc => h.nb c (.inl hc)
  have j4 : ∀ k, mem_Width.j4 (k + 1) op false = some (0, 0, false) := fun k => by
    simp only [mem_Width.j4, Bool.false_eq_true, if_false, e 54 (by decide), e 55 (by decide), e 58 (by decide), e 59 (by decide), e 60 (by decide), e 61 (by decide), e 62 (by decide)]
  have j3 : ∀ k, mem_Width.j3 (k + 2) op false = some (0, 0, false) := fun k => by
    simp only [mem_Width.j3, Bool.false_eq_true, if_false, e 52 (by decide), b 53 (by decide), j4]
  have j2 : ∀ k, mem_Width.j2 (k + 3) op false = some (0, 0, false) := fun k => by
    simp only [mem_Width.j2, Bool.false_eq_true, if_false, e 50 (by decide), b 51 (by decide), j3]
  have j1 : ∀ k, mem_Width.j1 (k + 4) op false = some (0, 0, false) := fun k => by
    simp only [mem_Width.j1, Bool.false_eq_true, if_false, e 48 (by decide), b 49 (by decide), j2]
  simp only [mem_Width.f, mem_Width.j0, Bool.false_eq_true, if_false, e 40 (by decide), e 41 (by decide), e 44 (by decide), b 45 (by decide), e 46 (by decide), b 47 (by decide), j1]
theorem sig_out (op : Int) (h : Out op) (k : Nat) : num_Sig.f (k + 6) op = some (0, 0, 0) := by
  have e : ∀ c : Int, (0 ≤ c ∧ c ≤ 255) → (op = c) = False := fun c hc => eq_false (h.ne c (.inl hc))
  have b : ∀ c : Int, (0 ≤ c ∧ c ≤ 255) → (op == c) = false := fun c hc => h.nb c (.inl hc)
  have d : ∀ c x : Int, (0 ≤ c ∧ c ≤ 255) → (0 ≤ x ∧ x ≤ 255) → op ≥ c → decide (op ≤ x) = false := fun c x hc hx hg => decide_eq_false (by unfold Out at h; omega)
  have d' : ∀ c x : Int, (0 ≤ c ∧ c ≤ 255) → (0 ≤ x ∧ x ≤ 255) → op ≥ c → decide (op < x) = false := fun c x hc hx hg => decide_eq_false (by unfold Out at h; omega)
  have n : ∀ c x : Int, (0 ≤ c ∧ c ≤ 255) → (0 ≤ x ∧ x ≤ 255) → op ≥ c → ¬ (op < x) := fun c x hc hx hg => by unfold Out at h; omega
  have n' : ∀ c x : Int, (0 ≤ c ∧ c ≤ 255) → (0 ≤ x ∧ x ≤ 255) → op ≥ c → ¬ (op ≤ x) := fun c x hc hx hg => by unfold Out at h; omega
  have j5 : ∀ k, num_Sig.j5 (k + 1) op false = some (0, 0, 0) := fun k => by
    simp only [num_Sig.j5, Bool.false_eq_true, if_false]
    split
    · rename_i q; rw [if_neg (n' 124 138 (by decide) (by decide) q)]
    · rfl
  have j4 : ∀ k, num_Sig.j4 (k + 2) op false = some (0, 0, 0) := fun k => by
    simp only [num_Sig.j4, Bool.false_eq_true, if_false]
    split
    · rename_i q; rw [d 81 90 (by decide) (by decide) q, j5]
    · exact j5 k
  have j3 : ∀ k, num_Sig.j3 (k + 3) op false = some (0, 0, 0) := fun k => by
    simp only [num_Sig.j3, Bool.false_eq_true, if_false]
    have m : (if op ≥ 106 then num_Sig.j4 (k + 2) op (decide (op < 121)) else num_Sig.j4 (k + 2) op false) = some (0, 0, 0) := by
      split
      · rename_i q; rw [d' 106 121 (by decide) (by decide) q, j4]
      · exact j4 k
    split
    · rename_i q; rw [if_neg (n 70 80 (by decide) (by decide) q), m]
    · exact m
  have j2 : ∀ k, num_Sig.j2 (k + 4) op false = some (0, 0, 0) := fun k => by
    simp only [num_Sig.j2, Bool.false_eq_true, if_false, e 172 (by decide), b 173 (by decide), j3]
  have j1 : ∀ k, num_Sig.j1 (k + 5) op false = some (0, 0, 0) := fun k => by
    simp only [num_Sig.j1, Bool.false_eq_true, if_false]
    have m : (if op ≥ 194 then num_Sig.j2 (k + 4) op (decide (op ≤ 196)) else num_Sig.j2 (k + 4) op false) = some (0, 0, 0) := by
      split
      · rename_i q; rw [d 194 196 (by decide) (by decide) q, j2]
      · exact j2 k
    split
    · rename_i q; rw [if_neg (n 121 124 (by decide) (by decide) q), m]
    · exact m
  have j0 : ∀ k, num_Sig.j0 (k + 6) op false = some (0, 0, 0) := fun k => by
    simp only [num_Sig.j0, Bool.false_eq_true, if_false, e 80 (by decide), b 167 (by decide), j1]
  simp only [num_Sig.f, e 69 (by decide), e 192 (by decide), b 193 (by decide), if_false, j0]
  split
  · rename_i q; rw [if_neg (n 103 106 (by decide) (by decide) q)]
  · rfl
theorem flo_out (op : Int) (h : Out op) (k : Nat) : instr_float.f (k + 4) op = some false := by
  have e : ∀ c : Int, (0 ≤ c ∧ c ≤ 255) → (op = c) = False := fun c hc => eq_false (h.ne c (.inl hc))
  have d : ∀ c x : Int, (0 ≤ c ∧ c ≤ 255) → (0 ≤ x ∧ x ≤ 255) → op ≥ c → decide (op ≤ x) = false := fun c x hc hx hg => decide_eq_false (by unfold Out at h; omega)
  have j3 : ∀ k, instr_float.j3 (k + 1) op false = some false := fun k => by
    simp only [instr_float.j3, Bool.false_eq_true, if_false]
    split
    · rw [if_neg (by unfold Out at h; omega)]
    · rfl
  have j2 : ∀ k, instr_float.j2 (k + 2) op false = some false := fun k => by
    simp only [instr_float.j2, Bool.false_eq_true, if_false]
    split
    · rename_i q; rw [d 174 191 (by decide) (by decide) q, j3]
    · exact j3 k
  have j1 : ∀ k, instr_float.j1 (k + 3) op false = some false := fun k => by
    simp only [instr_float.j1, Bool.false_eq_true, if_false]
    split
    · rename_i q; rw [d 168 171 (by decide) (by decide) q, j2]
    · exact j2 k
  have j0 : ∀ k, instr_float.j0 (k + 4) op false = some false := fun k => by
    simp only [instr_float.j0, Bool.false_eq_true, if_false]
    split
    · rename_i q; rw [d 139 166 (by decide) (by decide) q, j1]
    · exact j1 k
  simp only [instr_float.f, e 42 (by decide), e 43 (by decide), e 56 (by decide), e 57 (by decide), e 67 (by decide), e 68 (by decide), if_false]
  split
  · rename_i q; rw [d 91 102 (by decide) (by decide) q, j0]
  · exact j0 k
theorem shp_out (op : Int) (h : Out op) : instr_Shape.f 40 op = some (0, 5) := by
  have e : ∀ c : Int, (0 ≤ c ∧ c ≤ 255) ∨ (64512 ≤ c ∧ c ≤ 64529) → (op = c) = False := fun c hc => eq_false (h.ne c hc)
  have b : ∀ c : Int, (0 ≤ c ∧ c ≤ 255) ∨ (64512 ≤ c ∧ c ≤ 64529) → (op == c) = false := fun c hc => h.nb c hc
  have j5 : instr_Shape.j5 35 op op false = some (0, 5) := by
    simp only [instr_Shape.j5, Bool.false_eq_true, if_false, e 208 (by decide), wid_out op h 29, sig_out op h 28, flo_out op h 30, Option.bind_some, e 253 (by decide), Int.lt_irrefl, gt_iff_lt]
  have j4 : instr_Shape.j4 36 op op false = some (0, 5) := by
    simp only [instr_Shape.j4, Bool.false_eq_true, if_false, e 65 (by decide), b 66 (by decide), j5]
  have j3 : instr_Shape.j3 37 op op false = some (0, 5) := by
    simp only [instr_Shape.j3, Bool.false_eq_true, if_false, e 64522 (by decide), b 64526 (by decide), j4]
  have j2 : instr_Shape.j2 38 op op false = some (0, 5) := by
    simp only [instr_Shape.j2, Bool.false_eq_true, if_false, e 14 (by decide), e 17 (by decide), e 28 (by decide), e 37 (by decide), e 38 (by decide), e 63 (by decide), e 64 (by decide), e 64523 (by decide), e 64527 (by decide), e 64528 (by decide), b 64529 (by decide), j3]
  have j1 : instr_Shape.j1 39 op op false = some (0, 5) := by
    simp only [instr_Shape.j1, Bool.false_eq_true, if_false, e 12 (by decide), e 13 (by decide), e 16 (by decide), e 32 (by decide), e 33 (by decide), e 34 (by decide), e 35 (by decide), e 36 (by decide), b 210 (by decide), j2]
  have j0 : instr_Shape.j0 40 op op false = some (0, 5) := by
    simp only [instr_Shape.j0, Bool.false_eq_true, if_false, e 2 (by decide), e 3 (by decide), b 4 (by decide), j1]
  simp only [instr_Shape.f, e 0 (by decide), e 1 (by decide), e 15 (by decide), e 26 (by decide), e 27 (by decide), b 209 (by decide), if_false, j0]
/-- What there is to know of an opcode's shape. -/
def shB (op s e : Int) : Bool :=
  (e == 0 && decide (1 ≤ s) && decide (s ≤ 11) && ((s == 2) == (decide (2 ≤ op) && decide (op ≤ 4))) && (s != 10 || (op == 65 || op == 66)) && op != 5 && op != 11 && op != 252)
  || (s == 0 && (e == 3 || e == 4 || e == 5) && !(decide (2 ≤ op) && decide (op ≤ 4)))
def shC (op : Int) : Bool := match instr_Shape.f 40 op with
  | some (s, e) => shB op s e
  | none => false
theorem shC_low : ∀ i : Fin 256, shC (i.val : Int) = true := by decide +kernel
theorem shC_high : ∀ i : Fin 18, shC ((i.val : Int) + 64512) = true := by decide +kernel
structure ShOk (op s : Int) : Prop where
  s1 : 1 ≤ s
  s11 : s ≤ 11
  two : s = 2 ↔ 2 ≤ op ∧ op ≤ 4
  ten : s = 10 → op = 65 ∨ op = 66
  n5 : op ≠ 5
  n11 : op ≠ 11
  n252 : op ≠ 252
  range : (0 ≤ op ∧ op ≤ 255) ∨ (64512 ≤ op ∧ op ≤ 64529)
theorem shp_any (op : Int) : ∃ s e, instr_Shape.f 40 op = some (s, e) ∧ ((e = 0 ∧ ShOk op s) ∨ (s = 0 ∧ (e = 3 ∨ e = 4 ∨ e = 5) ∧ ¬ (2 ≤ op ∧ op ≤ 4))) := by
  by_cases h : Out op
  · exact ⟨0, 5, shp_out op h, .inr ⟨rfl, .inr (.inr rfl), by unfold Out at h; omega⟩⟩
  · have hr : (0 ≤ op ∧ op ≤ 255) ∨ (64512 ≤ op ∧ op ≤ 64529) := by unfold Out at h; omega
    have hc : shC op = true := by
      rcases hr with hr | hr
      · have := shC_low ⟨op.toNat, by omega⟩
        simpa [show ((op.toNat : Nat) : Int) = op by omega] using this
      · have := shC_high ⟨(op - 64512).toNat, by omega⟩
        have e : (((op - 64512).toNat : Nat) : Int) + 64512 = op := by omega
        simp only [e] at this
        exact this
    unfold shC at hc
    cases hs : instr_Shape.f 40 op with
    | none => rw [hs] at hc; cases hc
    | some p =>
      obtain ⟨s, e⟩ := p
      rw [hs] at hc
      refine ⟨s, e, rfl, ?_⟩
      simp only [shB, Bool.or_eq_true, Bool.and_eq_true, beq_iff_eq, decide_eq_true_eq, bne_iff_ne, ne_eq, Bool.not_eq_true', Bool.and_eq_false_iff, decide_eq_false_iff_not] at hc
      rcases hc with ⟨⟨⟨⟨⟨⟨⟨h1, h2⟩, h3⟩, h4⟩, h5⟩, h6⟩, h7⟩, h8⟩ | ⟨⟨h1, h2⟩, h3⟩
      · refine .inl ⟨h1, ⟨h2, h3, ?_, fun h => by omega, h6, h7, h8, hr⟩⟩
        have h4' := (Bool.eq_iff_iff.mp h4)
        simpa using h4'
      · exact .inr ⟨h1, by omega, by omega⟩
theorem shp_ok {op s : Int} (h : instr_Shape.f 40 op = some (s, 0)) : ShOk op s := by
  obtain ⟨s', e, h', hk⟩ := shp_any op
  rw [h'] at h
  obtain ⟨rfl, rfl⟩ := Prod.mk.inj (Option.some.inj h)
  rcases hk with ⟨_, hk⟩ | ⟨_, hk, _⟩
  · exact hk
  · omega
theorem ty_at (c : Int) : ∃ t e, instr_Type.f 5 c = some (t, e) ∧ ((e = 0 ∧ t = c ∧ (c = 127 ∨ c = 126 ∨ c = 112)) ∨ (t = 0 ∧ e ≠ 0 ∧ ¬ (c = 127 ∨ c = 126 ∨ c = 112))) := by
  by_cases h1 : c = 127
  · subst h1; exact ⟨127, 0, by decide +kernel, .inl ⟨rfl, rfl, by omega⟩⟩
  by_cases h2 : c = 126
  · subst h2; exact ⟨126, 0, by decide +kernel, .inl ⟨rfl, rfl, by omega⟩⟩
  by_cases h3 : c = 112
  · subst h3; exact ⟨112, 0, by decide +kernel, .inl ⟨rfl, rfl, by omega⟩⟩
  by_cases h4 : c = 125
  · subst h4; exact ⟨0, 3, by decide +kernel, .inr ⟨rfl, by decide, by omega⟩⟩
  by_cases h5 : c = 124
  · subst h5; exact ⟨0, 3, by decide +kernel, .inr ⟨rfl, by decide, by omega⟩⟩
  by_cases h6 : c = 123
  · subst h6; exact ⟨0, 4, by decide +kernel, .inr ⟨rfl, by decide, by omega⟩⟩
  exact ⟨0, 2, by simp [instr_Type.f, instr_Type.j0, instr_Type.j1, h1, h2, h3, h4, h5, h6], .inr ⟨rfl, by decide, by omega⟩⟩
def Rng (l : List Int) : Prop := ∀ x ∈ l, 0 ≤ x ∧ x < 256
theorem Rng.app {a b : List Int} (ha : Rng a) (hb : Rng b) : Rng (a ++ b) := fun x hx => (List.mem_append.mp hx).elim (ha x) (hb x)
theorem Rng.left {a b : List Int} (h : Rng (a ++ b)) : Rng a := fun x hx => h x (List.mem_append_left _ hx)
theorem Rng.right {a b : List Int} (h : Rng (a ++ b)) : Rng b := fun x hx => h x (List.mem_append_right _ hx)
theorem Rng.nil : Rng [] := fun x hx => by cases hx
theorem Rng.cons {c : Int} {l : List Int} (h0 : 0 ≤ c ∧ c < 256) (h : Rng l) : Rng (c :: l) := fun x hx => (List.mem_cons.mp hx).elim (fun e => e ▸ h0) (h x)
theorem Rng.drop {l : List Int} (h : Rng l) (n : Nat) : Rng (l.drop n) := fun x hx => h x (List.mem_of_mem_drop hx)
theorem Rng.pu (n : Nat) : Rng (pu n) := pu_range n
theorem Rng.ps (n : Int) : Rng (ps n) := ps_range _ n (Nat.le_refl _)
theorem takeS_ps33 (n : Int) (more : List Int) : takeS (ps n ++ more) 33 = if -4294967296 ≤ n ∧ n < 4294967296 then some (n, more) else none := by
  have hw := ps_whole _ n (Nat.le_refl _)
  have hp := ps_pos n
  unfold takeS mostS fitsS
  simp only [hw.len more, show ¬ ((33 : Int) = 64) by omega, if_false]
  by_cases h : (ps n).length ≤ 5
  · rw [if_pos h, if_neg (by omega), if_neg (by omega), List.take_left, List.drop_left, sv_ps _ n (Nat.le_refl _)]
    by_cases h2 : -4294967296 ≤ n ∧ n < 4294967296
    · rw [if_pos h2, if_pos]; exact .inr (.inl ⟨by simp, h2⟩)
    · rw [if_neg h2, if_neg]; rintro (h | h | h) <;> omega
  · rw [if_neg h, if_pos rfl, if_neg]
    rintro ⟨h2, h3⟩
    exact h (ps_len 4 n (by omega) (by omega))
/-- A part at the begin, and not the whole. -/
def Cutp (p l : List Int) : Prop := ∃ q, l = p ++ q ∧ q ≠ []
theorem cut_app {p a b : List Int} (h : Cutp p (a ++ b)) : Cutp p a ∨ ∃ p', p = a ++ p' ∧ Cutp p' b := by
  obtain ⟨q, hq, hn⟩ := h
  rcases List.append_eq_append_iff.mp hq with ⟨x, hx, hx2⟩ | ⟨x, hx, hx2⟩
  · exact .inr ⟨x, hx, q, hx2, hn⟩
  · by_cases hx0 : x = []
    · subst hx0
      rw [List.append_nil] at hx
      rw [List.nil_append] at hx2
      exact .inr ⟨[], by rw [hx, List.append_nil], q, by rw [hx2, List.nil_append], hn⟩
    · exact .inl ⟨x, hx, hx0⟩
theorem cut_one {p : List Int} {c : Int} (h : Cutp p [c]) : p = [] := by
  obtain ⟨q, hq, hn⟩ := h
  cases p with
  | nil => rfl
  | cons a p =>
    simp at hq
    exact absurd hq.2.2 hn
theorem cut_nil {p : List Int} (h : Cutp p []) : False := by
  obtain ⟨q, hq, hn⟩ := h
  simp at hq
  exact hn hq.2
theorem cut_rng {p l : List Int} (h : Cutp p l) (hl : Rng l) : Rng p := by
  obtain ⟨q, rfl, _⟩ := h
  exact hl.left
theorem cut_len {p l : List Int} (h : Cutp p l) : p.length < l.length := by
  obtain ⟨q, rfl, hn⟩ := h
  have := List.length_pos_iff.mpr hn
  rw [List.length_append]; omega
theorem whole_cut {l : List Int} (h : Whole l) : ∀ p, Cutp p l → ∀ m, LebS.len p m = 0 := by
  induction h with
  | one h =>
    intro p hp m
    rw [cut_one hp]
    cases m <;> simp [LebS.len]
  | more h k ih =>
    rintro p ⟨q, hq, hn⟩ m
    cases p with
    | nil => cases m <;> simp [LebS.len]
    | cons a p =>
      simp at hq
      obtain ⟨rfl, hq⟩ := hq
      cases m with
      | zero => simp [LebS.len]
      | succ m => simp only [LebS.len, if_neg h, ih p ⟨q, hq, hn⟩ m, if_true]
theorem takeU_cut {n : Nat} {p : List Int} (h : Cutp p (pu n)) : takeU p = none := by
  unfold takeU
  rw [whole_cut (pu_whole n) p h 5, if_pos rfl]
theorem takeS_cut {n : Int} {p : List Int} (h : Cutp p (ps n)) (b : Int) : takeS p b = none := by
  unfold takeS
  rw [whole_cut (ps_whole _ n (Nat.le_refl _)) p h]
  simp
abbrev Sm (l : List Int) : Prop := l.length ≤ 140737488351232
theorem rU_some {l r : List Int} {v n : Int} (hl : Rng l) (hs : Sm l) (h : takeU l = some (v, r)) : rU (strOfNums l, n, 0) = some (v, strOfNums r, n, 0) := by
  show instr_reader_u.f 40 (strOfNums l) n 0 = _
  unfold instr_reader_u.f
  rw [if_pos rfl, TakeU_eq (strOfNums l) (by rw [strOfNums_size]; exact hs) 40 (by omega), bytes_of hl, h, resU_some]
  rfl
theorem rU_none {l : List Int} {n : Int} (hl : Rng l) (hs : Sm l) (h : takeU l = none) : rU (strOfNums l, n, 0) = some (0, ⟨#[]⟩, n, 2) := by
  show instr_reader_u.f 40 (strOfNums l) n 0 = _
  unfold instr_reader_u.f
  rw [if_pos rfl, TakeU_eq (strOfNums l) (by rw [strOfNums_size]; exact hs) 40 (by omega), bytes_of hl, h, resU_none]
  rfl
theorem rU_err {s : ByteArray} {n e : Int} (h : e ≠ 0) : rU (s, n, e) = some (0, s, n, e) := by
  show instr_reader_u.f 40 s n e = _
  unfold instr_reader_u.f
  rw [if_neg h]
theorem rS_some {l r : List Int} {v n b : Int} (hb : b = 32 ∨ b = 33 ∨ b = 64) (hl : Rng l) (hs : Sm l) (h : takeS l b = some (v, r)) : rSigned (strOfNums l, n, 0) b = some (v, strOfNums r, n, 0) := by
  show instr_reader_signed.f 40 (strOfNums l) n 0 b = _
  unfold instr_reader_signed.f
  rw [if_pos rfl, TakeS_eq (strOfNums l) (by rw [strOfNums_size]; exact hs) b 40 (by omega), bytes_of hl, resS_good _ hb, h, resU_some]
  rfl
theorem rS_none {l : List Int} {n b : Int} (hb : b = 32 ∨ b = 33 ∨ b = 64) (hl : Rng l) (hs : Sm l) (h : takeS l b = none) : rSigned (strOfNums l, n, 0) b = some (0, ⟨#[]⟩, n, 2) := by
  show instr_reader_signed.f 40 (strOfNums l) n 0 b = _
  unfold instr_reader_signed.f
  rw [if_pos rfl, TakeS_eq (strOfNums l) (by rw [strOfNums_size]; exact hs) b 40 (by omega), bytes_of hl, resS_good _ hb, h, resU_none]
  rfl
theorem rS_err {s : ByteArray} {n e b : Int} (h : e ≠ 0) : rSigned (s, n, e) b = some (0, s, n, e) := by
  show instr_reader_signed.f 40 s n e b = _
  unfold instr_reader_signed.f
  rw [if_neg h]
theorem rFail_0 {s : ByteArray} {n c : Int} : rFail (s, n, 0) c = some (s, n, c) := by
  show instr_reader_fail.f s n 0 c = _
  unfold instr_reader_fail.f
  rw [if_pos rfl]
theorem rFail_e {s : ByteArray} {n e c : Int} (h : e ≠ 0) : rFail (s, n, e) c = some (s, n, e) := by
  show instr_reader_fail.f s n e c = _
  unfold instr_reader_fail.f
  rw [if_neg h]
theorem str_nil : strOfNums [] = (⟨#[]⟩ : ByteArray) := by decide +kernel
theorem toList_ne {c : Int} {l : List Int} : (strOfNums (c :: l)).toList ≠ [] := fun h => by
  have := toList_iff.mp (h.trans empty_nums.symm)
  have h2 := congrArg ByteArray.size this
  rw [strOfNums_size, strOfNums_size] at h2
  simp at h2
theorem head_bt {c : Int} {l : List Int} (h : Rng (c :: l)) : bt (strOfNums (c :: l)) 0 = c := by
  rw [bt_get, bytes_of h]; rfl
theorem tail_ex {c : Int} {l : List Int} (h : Rng (c :: l)) : (strOfNums (c :: l)).extract 1 (strOfNums (c :: l)).size = strOfNums l := by
  rw [rest_eq, bytes_of h]; rfl
theorem rByte_cons {c : Int} {l : List Int} {n : Int} (h : Rng (c :: l)) : rByte (strOfNums (c :: l), n, 0) = some (c, strOfNums l, n, 0) := by
  show instr_reader_byte.f (strOfNums (c :: l)) n 0 = _
  unfold instr_reader_byte.f
  have hc := h c (by simp)
  have hz : (strOfNums (c :: l)).size = l.length + 1 := by rw [strOfNums_size]; rfl
  rw [if_pos rfl, if_neg toList_ne, if_pos (by omega), if_pos (by omega), head_bt h, tail_ex h, wrap64_id (by omega) (by omega)]
theorem rByte_nil {n : Int} : rByte (⟨#[]⟩, n, 0) = some (0, ⟨#[]⟩, n, 2) := by
  show instr_reader_byte.f ⟨#[]⟩ n 0 = _
  unfold instr_reader_byte.f
  rw [if_pos rfl, if_pos empty_toList]
  have := @rFail_0 ⟨#[]⟩ n 2
  rw [show instr_reader_fail.f ⟨#[]⟩ n 0 2 = some (⟨#[]⟩, n, 2) from this]
  rfl
theorem rByte_err {s : ByteArray} {n e : Int} (h : e ≠ 0) : rByte (s, n, e) = some (0, s, n, e) := by
  show instr_reader_byte.f s n e = _
  unfold instr_reader_byte.f
  rw [if_neg h, show instr_reader_fail.f s n e 2 = some (s, n, e) from rFail_e h]
  rfl
theorem rLab {l : List Int} {n : Int} (hl : Rng l) (hs : Sm l) : rLabels (strOfNums l, n, 0) = some ((takeA l 1000).1, (takeA l 1000).2.1, n, (takeA l 1000).2.2) := by
  show instr_reader_labels.f 1100 (strOfNums l) n 0 = _
  unfold instr_reader_labels.f
  rw [if_pos rfl, TakeAll_eq (strOfNums l) (by rw [strOfNums_size]; exact hs), bytes_of hl]
  rfl
theorem rLab_err {s : ByteArray} {n e : Int} (h : e ≠ 0) : rLabels (s, n, e) = some ([], s, n, e) := by
  show instr_reader_labels.f 1100 s n e = _
  unfold instr_reader_labels.f
  rw [if_neg h]
theorem ty_more {c : Int} {r : Int × Int} (h : instr_Type.f 5 c = some r) (k : Nat) (hk : 5 ≤ k) : instr_Type.f k c = some r := at_rounds (instr_Type.mono c) hk h
theorem rBlock_c {c : Int} {l : List Int} {n t e : Int} (h : Rng (c :: l)) (h0 : 64 ≤ c) (h1 : c < 128) (ht : instr_Type.f 5 c = some (t, e)) :
    rBlock (strOfNums (c :: l), n, 0) = some (c - 128, strOfNums l, n, if c = 64 then 0 else e) := by
  show instr_reader_block.f 40 (strOfNums (c :: l)) n 0 = _
  unfold instr_reader_block.f
  have hc := h c (by simp)
  have hz : (strOfNums (c :: l)).size = l.length + 1 := by rw [strOfNums_size]; rfl
  rw [if_pos rfl, if_neg toList_ne, if_pos (by omega), head_bt h, if_pos h0, decide_eq_true h1]
  simp only [instr_reader_block.j0, if_true]
  rw [show instr_reader_byte.f (strOfNums (c :: l)) n 0 = some (c, strOfNums l, n, 0) from rByte_cons h]
  simp only [Option.bind_some]
  by_cases hc4 : c = 64
  · rw [if_pos hc4, if_pos hc4, hc4]; rfl
  · rw [if_neg hc4, if_neg hc4, ty_more ht 39 (by omega)]
    simp only [Option.bind_some]
    rw [show instr_reader_fail.f (strOfNums l) n 0 e = some (strOfNums l, n, e) from rFail_0, wrap64_id (by omega) (by omega)]
    rfl
/-- What begins a number, and no block's type by a letter. -/
def NoC (l : List Int) : Prop := ∀ c r, l = c :: r → ¬ (64 ≤ c ∧ c < 128)
theorem rBlock_j {l : List Int} {n : Int} : NoC l → Rng l → instr_reader_block.f 40 (strOfNums l) n 0 = instr_reader_block.j0 40 false (strOfNums l) n 0 := by
  intro h hl
  unfold instr_reader_block.f
  rw [if_pos rfl]
  cases l with
  | nil => rw [if_pos empty_nums]
  | cons c l =>
    have hz : (strOfNums (c :: l)).size = l.length + 1 := by rw [strOfNums_size]; rfl
    rw [if_neg toList_ne, if_pos (by omega), head_bt hl]
    split
    · rename_i h0
      rw [decide_eq_false (fun h1 => h c l rfl ⟨h0, h1⟩)]
    · rfl
theorem rBlock_some {l r : List Int} {n v : Int} (h : NoC l) (hl : Rng l) (hs : Sm l) (ht : takeS l 33 = some (v, r)) : rBlock (strOfNums l, n, 0) = some (v, strOfNums r, n, if v < 0 then 2 else 0) := by
  show instr_reader_block.f 40 (strOfNums l) n 0 = _
  rw [rBlock_j h hl]
  simp only [instr_reader_block.j0, Bool.false_eq_true, if_false]
  have h2 := rS_some (n := n) (.inr (.inl rfl)) hl hs ht
  have h3 : instr_reader_signed.f 39 (strOfNums l) n 0 33 = some (v, strOfNums r, n, 0) := by
    unfold instr_reader_signed.f
    rw [if_pos rfl, TakeS_eq (strOfNums l) (by rw [strOfNums_size]; exact hs) 33 39 (by omega), bytes_of hl, resS_good _ (.inr (.inl rfl)), ht, resU_some]
    rfl
  rw [h3]
  simp only [Option.bind_some]
  split
  · rw [show instr_reader_fail.f (strOfNums r) n 0 2 = some (strOfNums r, n, 2) from rFail_0]
    rfl
  · rfl
theorem rBlock_none {l : List Int} {n : Int} (h : NoC l) (hl : Rng l) (hs : Sm l) (ht : takeS l 33 = none) : rBlock (strOfNums l, n, 0) = some (0, ⟨#[]⟩, n, 2) := by
  show instr_reader_block.f 40 (strOfNums l) n 0 = _
  rw [rBlock_j h hl]
  simp only [instr_reader_block.j0, Bool.false_eq_true, if_false]
  have h3 : instr_reader_signed.f 39 (strOfNums l) n 0 33 = some (0, ⟨#[]⟩, n, 2) := by
    unfold instr_reader_signed.f
    rw [if_pos rfl, TakeS_eq (strOfNums l) (by rw [strOfNums_size]; exact hs) 33 39 (by omega), bytes_of hl, resS_good _ (.inr (.inl rfl)), ht, resU_none]
    rfl
  rw [h3]
  simp only [Option.bind_some, Int.lt_irrefl, if_false]
theorem rBlock_err {s : ByteArray} {n e : Int} (h : e ≠ 0) : rBlock (s, n, e) = some (0, s, n, e) := by
  show instr_reader_block.f 40 s n e = _
  unfold instr_reader_block.f
  rw [if_neg h]
  simp only [instr_reader_block.j0, Bool.false_eq_true, if_false]
  have h3 : instr_reader_signed.f 39 s n e 33 = some (0, s, n, e) := by
    unfold instr_reader_signed.f
    rw [if_neg h]
  rw [h3]
  simp only [Option.bind_some, Int.lt_irrefl, if_false]
/-- An instruction's own numbers' bytes, by its shape. -/
def body (s : Int) (x : S54) : List Int :=
  if s = 2 then ps x.f1
  else if s = 3 then pu x.f1.toNat
  else if s = 4 then pu x.f4.length ++ (puA x.f4 ++ pu x.f1.toNat)
  else if s = 5 then pu x.f1.toNat ++ pu x.f3.toNat
  else if s = 6 then [1, x.f1]
  else if s = 7 then (if x.f3 > 0 then pu (x.f2 + 64).toNat ++ (pu x.f3.toNat ++ pu x.f1.toNat) else pu x.f2.toNat ++ pu x.f1.toNat)
  else if s = 8 then pu x.f3.toNat
  else if s = 9 then pu x.f3.toNat ++ pu x.f1.toNat
  else if s = 10 then ps x.f1
  else if s = 11 then [112]
  else []
theorem inx_iff {n : Int} : inx n = true ↔ 0 ≤ n ∧ n < 4294967296 := by simp [inx]
theorem bty_iff {n : Int} : bty n = true ↔ (0 ≤ n ∧ n < 4294967296) ∨ n = -64 ∨ n = -1 ∨ n = -2 ∨ n = -16 := by
  unfold bty
  simp only [Bool.or_eq_true, inx_iff, beq_iff_eq]
  omega
theorem sm_app {a b : List Int} (h : Sm (a ++ b)) : Sm b := by
  have : (a ++ b).length ≤ 140737488351232 := h
  rw [List.length_append] at this
  show b.length ≤ _
  omega
theorem rU_pu {m n : Int} {more : List Int} (h : 0 ≤ m ∧ m < 4294967296) (hr : Rng more) (hs : Sm (pu m.toNat ++ more)) : rU (strOfNums (pu m.toNat ++ more), n, 0) = some (m, strOfNums more, n, 0) := by
  refine rU_some ((Rng.pu _).app hr) hs ?_
  rw [takeU_pu, if_pos (by omega), show ((m.toNat : Nat) : Int) = m by omega]
theorem rU_cut {k : Nat} {n : Int} {p : List Int} (h : Cutp p (pu k)) (hs : Sm p) : rU (strOfNums p, n, 0) = some (0, ⟨#[]⟩, n, 2) := rU_none (cut_rng h (Rng.pu _)) hs (takeU_cut h)
theorem takeN_puA : ∀ (N : List Int) (more : List Int), (∀ x ∈ N, inx x = true) → takeN N.length (puA N ++ more) = some (N, more) := by
  intro N
  induction N with
  | nil => intro more _; rfl
  | cons x N ih =>
    intro more h
    have hx := inx_iff.mp (h x (by simp))
    have e : puZ x = pu x.toNat := by unfold puZ; rw [if_neg (by omega)]
    simp only [List.length_cons, puA, takeN, e, List.append_assoc]
    rw [takeU_pu, if_pos (by omega), show ((x.toNat : Nat) : Int) = x by omega]
    simp only [ih more (fun y hy => h y (by simp [hy]))]
theorem takeN_cut : ∀ (N : List Int) (p : List Int), (∀ x ∈ N, inx x = true) → Cutp p (puA N) → takeN N.length p = none := by
  intro N
  induction N with
  | nil => intro p _ h; exact (cut_nil h).elim
  | cons x N ih =>
    intro p h hp
    have hx := inx_iff.mp (h x (by simp))
    have e : puZ x = pu x.toNat := by unfold puZ; rw [if_neg (by omega)]
    simp only [puA, e] at hp
    simp only [List.length_cons, takeN]
    rcases cut_app hp with hc | ⟨p', rfl, hc⟩
    · rw [takeU_cut hc]
    · rw [takeU_pu, if_pos (by omega)]
      simp only [ih p' (fun y hy => h y (by simp [hy])) hc]
theorem ps_head {a : Int} (h0 : 0 ≤ a) (more : List Int) : NoC (ps a ++ more) := by
  intro c r hc
  by_cases h : -64 ≤ a ∧ a < 64
  · rw [ps_small h] at hc
    simp at hc
    omega
  · rw [ps_big h] at hc
    simp at hc
    omega
theorem ps_headcut {a : Int} (h0 : 0 ≤ a) {p : List Int} (hp : Cutp p (ps a)) : NoC p := by
  intro c r hc
  obtain ⟨q, hq, _⟩ := hp
  rw [hc] at hq
  exact ps_head h0 [] c (r ++ q) (by rw [List.append_nil, hq]; rfl)
theorem rBlock_ps {a n : Int} {more : List Int} (h : bty a = true) (hr : Rng more) (hs : Sm (ps a ++ more)) : rBlock (strOfNums (ps a ++ more), n, 0) = some (a, strOfNums more, n, 0) := by
  rcases bty_iff.mp h with h | h | h | h | h
  · have := rBlock_some (n := n) (ps_head h.1 more) ((Rng.ps a).app hr) hs (v := a) (r := more) (by rw [takeS_ps33, if_pos (by omega)])
    rw [this, if_neg (by omega)]
  · subst h
    have e : ps (-64) = [64] := by rw [ps_small (by omega)]; rfl
    rw [e] at hs ⊢
    have := rBlock_c (c := 64) (l := more) (n := n) (Rng.cons (by omega) hr) (by omega) (by omega) (show instr_Type.f 5 64 = some (0, 2) by decide +kernel)
    rw [List.singleton_append, this, if_pos rfl]; rfl
  · subst h
    have e : ps (-1) = [127] := by rw [ps_small (by omega)]; rfl
    rw [e] at hs ⊢
    have := rBlock_c (c := 127) (l := more) (n := n) (Rng.cons (by omega) hr) (by omega) (by omega) (show instr_Type.f 5 127 = some (127, 0) by decide +kernel)
    rw [List.singleton_append, this, if_neg (by omega)]; rfl
  · subst h
    have e : ps (-2) = [126] := by rw [ps_small (by omega)]; rfl
    rw [e] at hs ⊢
    have := rBlock_c (c := 126) (l := more) (n := n) (Rng.cons (by omega) hr) (by omega) (by omega) (show instr_Type.f 5 126 = some (126, 0) by decide +kernel)
    rw [List.singleton_append, this, if_neg (by omega)]; rfl
  · subst h
    have e : ps (-16) = [112] := by rw [ps_small (by omega)]; rfl
    rw [e] at hs ⊢
    have := rBlock_c (c := 112) (l := more) (n := n) (Rng.cons (by omega) hr) (by omega) (by omega) (show instr_Type.f 5 112 = some (112, 0) by decide +kernel)
    rw [List.singleton_append, this, if_neg (by omega)]; rfl
theorem rBlock_cut {a n : Int} {p : List Int} (h : bty a = true) (hp : Cutp p (ps a)) (hs : Sm p) : rBlock (strOfNums p, n, 0) = some (0, ⟨#[]⟩, n, 2) := by
  have hn : NoC p := by
    rcases bty_iff.mp h with h | h
    · exact ps_headcut h.1 hp
    · rw [ps_small (by omega)] at hp
      rw [cut_one hp]
      intro c r hc
      cases hc
  exact rBlock_none hn (cut_rng hp (Rng.ps a)) hs (takeS_cut hp 33)
theorem takeA_fwd {N : List Int} (hN : ∀ x ∈ N, inx x = true) (hn : N.length ≤ 1000) (more : List Int) : takeA (pu N.length ++ (puA N ++ more)) 1000 = (N, strOfNums more, 0) := by
  unfold takeA
  rw [takeU_pu, if_pos (by omega)]
  simp only
  rw [if_neg (by omega), show ((N.length : Nat) : Int).toNat = N.length by omega, takeN_puA N more hN]
theorem place_fwd {a b m n : Int} {more : List Int} (ha : 0 ≤ a ∧ a < 4294967296) (hm : 0 ≤ m ∧ m < 4294967296) (hb0 : 0 ≤ b) (hb1 : b < 64) (hr : Rng more)
    (hs : Sm ((if m > 0 then pu (b + 64).toNat ++ (pu m.toNat ++ pu a.toNat) else pu b.toNat ++ pu a.toNat) ++ more)) :
    placeF (strOfNums ((if m > 0 then pu (b + 64).toNat ++ (pu m.toNat ++ pu a.toNat) else pu b.toNat ++ pu a.toNat) ++ more), n, 0) = some (a, b, m, strOfNums more, n, 0) := by
  unfold placeF
  by_cases h : m > 0
  · rw [if_pos h] at hs ⊢
    rw [List.append_assoc, List.append_assoc] at hs ⊢
    have r1 : Rng (pu m.toNat ++ (pu a.toNat ++ more)) := (Rng.pu _).app ((Rng.pu _).app hr)
    rw [rU_pu (m := b + 64) (by omega) r1 hs]
    simp only [Option.bind_some]
    rw [if_neg (by omega)]
    simp only [Option.bind_some]
    rw [if_pos (by omega), rU_pu (m := m) hm r1.right (sm_app hs)]
    simp only [Option.bind_some]
    rw [rU_pu (m := a) ha hr (sm_app (sm_app hs))]
    simp only [Option.bind_some]
    rw [wrap64_id (by omega) (by omega), show b + 64 - 64 = b by omega]
  · rw [if_neg h] at hs ⊢
    rw [List.append_assoc] at hs ⊢
    have r1 : Rng (pu a.toNat ++ more) := (Rng.pu _).app hr
    rw [rU_pu (m := b) (by omega) r1 hs]
    simp only [Option.bind_some]
    rw [if_neg (by omega)]
    simp only [Option.bind_some]
    rw [if_neg (by omega), rU_pu (m := a) ha hr (sm_app hs)]
    simp only [Option.bind_some]
    rw [show m = 0 by omega]
theorem ty_self {c : Int} (h : c = 127 ∨ c = 126 ∨ c = 112) : instr_Type.f 5 c = some (c, 0) := by
  rcases h with rfl | rfl | rfl <;> decide +kernel
theorem ty_ok {c t e : Int} (h : instr_Type.f 5 c = some (t, e)) (he : e = 0) : t = c ∧ (c = 127 ∨ c = 126 ∨ c = 112) := by
  obtain ⟨t', e', h', hk⟩ := ty_at c
  rw [h'] at h
  obtain ⟨rfl, rfl⟩ := Prod.mk.inj (Option.some.inj h)
  rcases hk with ⟨_, h1, h2⟩ | ⟨_, h2, _⟩
  · exact ⟨h1, h2⟩
  · exact absurd he h2
theorem s_cases {op s : Int} (h : ShOk op s) : s = 1 ∨ s = 2 ∨ s = 3 ∨ s = 4 ∨ s = 5 ∨ s = 6 ∨ s = 7 ∨ s = 8 ∨ s = 9 ∨ s = 10 ∨ s = 11 := by
  have := h.s1
  have := h.s11
  omega
theorem const_bits {op : Int} (h : op = 65 ∨ op = 66) : wrap64 (32 + wrap64 (32 * wrap64 (op - 65))) = if op = 66 then 64 else 32 := by
  rcases h with rfl | rfl <;> decide +kernel
theorem const_fwd {op a n : Int} {more : List Int} (h : op = 65 ∨ op = 66) (h0 : -9223372036854775808 ≤ a) (h1 : a < 9223372036854775808) (ha : op = 66 ∨ (-2147483648 ≤ a ∧ a < 2147483648)) (hr : Rng more) (hs : Sm (ps a ++ more)) :
    rSigned (strOfNums (ps a ++ more), n, 0) (wrap64 (32 + wrap64 (32 * wrap64 (op - 65)))) = some (a, strOfNums more, n, 0) := by
  rw [const_bits h]
  by_cases h66 : op = 66
  · rw [if_pos h66]
    exact rS_some (.inr (.inr rfl)) ((Rng.ps a).app hr) hs (takeS_ps a h0 h1 more)
  · rw [if_neg h66]
    exact rS_some (.inl rfl) ((Rng.ps a).app hr) hs (by rw [takeS_ps32, if_pos (by omega)])
set_option maxHeartbeats 1000000 in
theorem num_fwd {x : S54} {s n : Int} {t : Int × Int} {more : List Int} (hs : instr_Shape.f 40 x.f0 = some (s, 0)) (ht : instr_Type.f 5 x.f1 = some t) (hm : mayS s x.f0 x.f1 x.f2 x.f3 x.f4 x.f5 x.f6 t = true)
    (h0 : -9223372036854775808 ≤ x.f1) (h1 : x.f1 < 9223372036854775808) (hr : Rng more) (hz : Sm (body s x ++ more)) : numF (strOfNums (body s x ++ more), n, 0) x.f0 = some (x.f1, x.f2, x.f3, x.f4, strOfNums more, n, 0) := by
  have hk := shp_ok hs
  obtain ⟨op, a, b, m, N, L, E⟩ := x
  simp only at hs ht hm h0 h1 hk ⊢
  unfold numF
  rw [hs]
  simp only [Option.bind_some, rFail_0]
  rcases s_cases hk with rfl | rfl | rfl | rfl | rfl | rfl | rfl | rfl | rfl | rfl | rfl
  · simp [mayS] at hm
    obtain ⟨rfl, rfl, rfl, rfl, rfl, rfl⟩ := hm
    simp [body]
  · simp [mayS] at hm
    obtain ⟨⟨hb, _⟩, rfl, rfl, rfl⟩ := hm
    simp only [body, Int.reduceEq, if_true] at hz ⊢
    rw [rBlock_ps hb hr hz]
    rfl
  · simp [mayS] at hm
    obtain ⟨ha, rfl, rfl, rfl, rfl, rfl⟩ := hm
    simp only [body, Int.reduceEq, if_true, if_false] at hz ⊢
    rw [rU_pu (inx_iff.mp ha) hr hz]
    rfl
  · simp [mayS] at hm
    obtain ⟨⟨⟨ha, hn⟩, hN⟩, rfl, rfl, rfl, rfl⟩ := hm
    simp only [body, Int.reduceEq, if_true, if_false] at hz ⊢
    have hp : Rng (pu N.length ++ (puA N ++ (pu a.toNat ++ more))) := (Rng.pu _).app (Rng.app (puA_range N) ((Rng.pu _).app hr))
    rw [List.append_assoc, List.append_assoc] at hz ⊢
    rw [rLab hp hz, takeA_fwd hN hn]
    simp only [Option.bind_some]
    rw [rU_pu (inx_iff.mp ha) hr (sm_app (sm_app hz))]
    rfl
  · simp [mayS] at hm
    obtain ⟨⟨ha, hm⟩, rfl, rfl, rfl, rfl⟩ := hm
    simp only [body, Int.reduceEq, if_true, if_false] at hz ⊢
    rw [List.append_assoc] at hz ⊢
    rw [rU_pu (inx_iff.mp ha) ((Rng.pu _).app hr) hz]
    simp only [Option.bind_some]
    rw [rU_pu (inx_iff.mp hm) hr (sm_app hz)]
    rfl
  · simp [mayS] at hm
    obtain ⟨he, rfl, rfl, rfl, rfl, rfl⟩ := hm
    obtain ⟨rfl, hc⟩ := ty_ok (t := t.1) (e := t.2) ht he
    simp only [body, Int.reduceEq, if_true, if_false] at hz ⊢
    have e1 : pu (1 : Int).toNat = [1] := by rw [pu_small (by decide)]; rfl
    have h2 : Rng ([t.1] ++ more) := Rng.app (Rng.cons (by omega) Rng.nil) hr
    have hz2 : Sm (pu (1 : Int).toNat ++ ([t.1] ++ more)) := by rw [e1]; exact hz
    have := rU_pu (m := 1) (n := n) (by omega) h2 hz2
    rw [e1] at this
    rw [show [1, t.1] ++ more = [1] ++ ([t.1] ++ more) from rfl, this]
    simp only [Option.bind_some, if_true, List.singleton_append]
    rw [rByte_cons (show Rng (t.1 :: more) from h2)]
    simp only [Option.bind_some]
    rw [ty_self hc]
    simp only [Option.bind_some, rFail_0]
  · simp [mayS] at hm
    obtain ⟨⟨⟨⟨ha, hm⟩, hb0⟩, hb1⟩, rfl, rfl, rfl⟩ := hm
    simp only [body, Int.reduceEq, if_true, if_false] at hz ⊢
    rw [place_fwd (inx_iff.mp ha) (inx_iff.mp hm) hb0 hb1 hr hz]
    rfl
  · simp [mayS] at hm
    obtain ⟨hm, rfl, rfl, rfl, rfl, rfl⟩ := hm
    simp only [body, Int.reduceEq, if_true, if_false] at hz ⊢
    rw [rU_pu (inx_iff.mp hm) hr hz]
    rfl
  · simp [mayS] at hm
    obtain ⟨⟨ha, hm⟩, rfl, rfl, rfl, rfl⟩ := hm
    simp only [body, Int.reduceEq, if_true, if_false] at hz ⊢
    rw [List.append_assoc] at hz ⊢
    rw [rU_pu (inx_iff.mp hm) ((Rng.pu _).app hr) hz]
    simp only [Option.bind_some]
    rw [rU_pu (inx_iff.mp ha) hr (sm_app hz)]
    rfl
  · simp [mayS] at hm
    obtain ⟨ha, rfl, rfl, rfl, rfl, rfl⟩ := hm
    simp only [body, Int.reduceEq, if_true, if_false] at hz ⊢
    rw [const_fwd (hk.ten rfl) h0 h1 (by omega) hr hz]
    rfl
  · simp [mayS] at hm
    obtain ⟨rfl, rfl, rfl, rfl, rfl, rfl⟩ := hm
    simp only [body, Int.reduceEq, if_true, if_false] at hz ⊢
    rw [List.singleton_append, rByte_cons (Rng.cons (by omega) hr)]
    simp only [Option.bind_some]
    rw [ty_self (c := 112) (by omega)]
    simp only [Option.bind_some, rFail_0, if_true]
theorem place_cut {a b m n : Int} {p : List Int} (ha : 0 ≤ a ∧ a < 4294967296) (hm : 0 ≤ m ∧ m < 4294967296) (hb0 : 0 ≤ b) (hb1 : b < 64) (hs : Sm p)
    (hp : Cutp p (if m > 0 then pu (b + 64).toNat ++ (pu m.toNat ++ pu a.toNat) else pu b.toNat ++ pu a.toNat)) :
    ∃ a' b' m' z, placeF (strOfNums p, n, 0) = some (a', b', m', z, n, 2) := by
  unfold placeF
  have zero : ∀ {s : ByteArray}, (if (0 : Int) ≥ 128 then rFail (s, n, 2) 2 else some (s, n, 2)) = some (s, n, 2) := by
    intro s; rw [if_neg (by omega)]
  by_cases h : m > 0
  · rw [if_pos h] at hp
    rcases cut_app hp with hc | ⟨p', rfl, hc⟩
    · rw [rU_cut hc hs]
      simp only [Option.bind_some]
      rw [zero]
      simp only [Option.bind_some]
      rw [if_neg (by omega), rU_err (by decide)]
      exact ⟨_, _, _, _, rfl⟩
    · have hr' := cut_rng hc ((Rng.pu _).app (Rng.pu _))
      rw [rU_pu (m := b + 64) (by omega) hr' hs]
      simp only [Option.bind_some]
      rw [if_neg (by omega)]
      simp only [Option.bind_some]
      rw [if_pos (by omega)]
      rcases cut_app hc with hc2 | ⟨p2, rfl, hc2⟩
      · rw [rU_cut hc2 (sm_app hs)]
        simp only [Option.bind_some]
        rw [rU_err (by decide)]
        exact ⟨_, _, _, _, rfl⟩
      · have hr2 := cut_rng hc2 (Rng.pu _)
        rw [rU_pu (m := m) hm hr2 (sm_app hs)]
        simp only [Option.bind_some]
        rw [rU_cut hc2 (sm_app (sm_app hs))]
        exact ⟨_, _, _, _, rfl⟩
  · rw [if_neg h] at hp
    rcases cut_app hp with hc | ⟨p', rfl, hc⟩
    · rw [rU_cut hc hs]
      simp only [Option.bind_some]
      rw [zero]
      simp only [Option.bind_some]
      rw [if_neg (by omega), rU_err (by decide)]
      exact ⟨_, _, _, _, rfl⟩
    · have hr' := cut_rng hc (Rng.pu _)
      rw [rU_pu (m := b) (by omega) hr' hs]
      simp only [Option.bind_some]
      rw [if_neg (by omega)]
      simp only [Option.bind_some]
      rw [if_neg (by omega), rU_cut hc (sm_app hs)]
      exact ⟨_, _, _, _, rfl⟩
theorem takeA_cut1 {N : List Int} (p : List Int) (hc : Cutp p (pu N.length)) : takeA p 1000 = ([], ⟨#[]⟩, 2) := by
  unfold takeA
  rw [takeU_cut hc]
theorem takeA_cut2 {N : List Int} (hN : ∀ x ∈ N, inx x = true) (hn : N.length ≤ 1000) (p : List Int) (hc : Cutp p (puA N)) : takeA (pu N.length ++ p) 1000 = ([], ⟨#[]⟩, 2) := by
  unfold takeA
  rw [takeU_pu, if_pos (by omega)]
  simp only
  rw [if_neg (by omega), show ((N.length : Nat) : Int).toNat = N.length by omega, takeN_cut N p hN hc]
set_option maxHeartbeats 1000000 in
theorem num_cut {x : S54} {s n : Int} {t : Int × Int} {p : List Int} (hs : instr_Shape.f 40 x.f0 = some (s, 0)) (ht : instr_Type.f 5 x.f1 = some t) (hm : mayS s x.f0 x.f1 x.f2 x.f3 x.f4 x.f5 x.f6 t = true)
    (h0 : -9223372036854775808 ≤ x.f1) (h1 : x.f1 < 9223372036854775808) (hp : Cutp p (body s x)) (hz : Sm p) : ∃ a b m N z, numF (strOfNums p, n, 0) x.f0 = some (a, b, m, N, z, n, 2) := by
  have hk := shp_ok hs
  obtain ⟨op, a, b, m, N, L, E⟩ := x
  simp only at hs ht hm h0 h1 hk hp ⊢
  unfold numF
  rw [hs]
  simp only [Option.bind_some, rFail_0]
  have n2 : (2 : Int) ≠ 0 := by decide
  have e0 : ∃ t' e', instr_Type.f 5 0 = some (t', e') := ⟨0, 2, by decide +kernel⟩
  obtain ⟨t', e', he0⟩ := e0
  rcases s_cases hk with rfl | rfl | rfl | rfl | rfl | rfl | rfl | rfl | rfl | rfl | rfl
  · simp only [body, Int.reduceEq, if_false] at hp
    exact (cut_nil hp).elim
  · simp [mayS] at hm
    obtain ⟨⟨hb, _⟩, rfl, rfl, rfl⟩ := hm
    simp only [body, Int.reduceEq, if_true, if_false] at hp ⊢
    rw [rBlock_cut hb hp hz]
    exact ⟨_, _, _, _, _, rfl⟩
  · simp [mayS] at hm
    obtain ⟨ha, rfl, rfl, rfl, rfl, rfl⟩ := hm
    simp only [body, Int.reduceEq, if_true, if_false] at hp ⊢
    rw [rU_cut hp hz]
    exact ⟨_, _, _, _, _, rfl⟩
  · simp [mayS] at hm
    obtain ⟨⟨⟨ha, hn⟩, hN⟩, rfl, rfl, rfl, rfl⟩ := hm
    simp only [body, Int.reduceEq, if_true, if_false] at hp ⊢
    rw [rLab (cut_rng hp ((Rng.pu _).app (Rng.app (puA_range N) (Rng.pu _)))) hz]
    simp only [Option.bind_some]
    rcases cut_app hp with hc | ⟨p', rfl, hc⟩
    · rw [takeA_cut1 p hc]
      simp only
      rw [rU_err n2]
      exact ⟨_, _, _, _, _, rfl⟩
    · rcases cut_app hc with hc2 | ⟨p2, rfl, hc2⟩
      · rw [takeA_cut2 hN hn p' hc2]
        simp only
        rw [rU_err n2]
        exact ⟨_, _, _, _, _, rfl⟩
      · rw [takeA_fwd hN hn]
        simp only
        rw [rU_cut hc2 (sm_app (sm_app hz))]
        exact ⟨_, _, _, _, _, rfl⟩
  · simp [mayS] at hm
    obtain ⟨⟨ha, hm⟩, rfl, rfl, rfl, rfl⟩ := hm
    simp only [body, Int.reduceEq, if_true, if_false] at hp ⊢
    rcases cut_app hp with hc | ⟨p', rfl, hc⟩
    · rw [rU_cut hc hz]
      simp only [Option.bind_some]
      rw [rU_err n2]
      exact ⟨_, _, _, _, _, rfl⟩
    · rw [rU_pu (inx_iff.mp ha) (cut_rng hc (Rng.pu _)) hz]
      simp only [Option.bind_some]
      rw [rU_cut hc (sm_app hz)]
      exact ⟨_, _, _, _, _, rfl⟩
  · simp [mayS] at hm
    obtain ⟨he, rfl, rfl, rfl, rfl, rfl⟩ := hm
    obtain ⟨rfl, hc⟩ := ty_ok (t := t.1) (e := t.2) ht he
    simp only [body, Int.reduceEq, if_true, if_false] at hp ⊢
    have e1 : pu (1 : Int).toNat = [1] := by rw [pu_small (by decide)]; rfl
    rcases cut_app (a := [1]) (b := [t.1]) hp with hc1 | ⟨p', rfl, hc1⟩
    · rw [← e1] at hc1
      rw [rU_cut hc1 hz]
      simp only [Option.bind_some, Int.reduceEq, if_false]
      rw [rFail_e n2]
      simp only [Option.bind_some]
      rw [rByte_err n2]
      simp only [Option.bind_some]
      rw [he0]
      simp only [Option.bind_some]
      rw [rFail_e n2]
      exact ⟨_, _, _, _, _, rfl⟩
    · obtain rfl := cut_one hc1
      have := rU_pu (m := 1) (n := n) (more := []) (by omega) Rng.nil (by rw [e1]; exact hz)
      rw [e1] at this
      rw [this]
      simp only [Option.bind_some, if_true]
      rw [str_nil, rByte_nil]
      simp only [Option.bind_some]
      rw [he0]
      simp only [Option.bind_some]
      rw [rFail_e n2]
      exact ⟨_, _, _, _, _, rfl⟩
  · simp [mayS] at hm
    obtain ⟨⟨⟨⟨ha, hm⟩, hb0⟩, hb1⟩, rfl, rfl, rfl⟩ := hm
    simp only [body, Int.reduceEq, if_true, if_false] at hp ⊢
    obtain ⟨a', b', m', z, h⟩ := place_cut (n := n) (inx_iff.mp ha) (inx_iff.mp hm) hb0 hb1 hz hp
    rw [h]
    exact ⟨_, _, _, _, _, rfl⟩
  · simp [mayS] at hm
    obtain ⟨hm, rfl, rfl, rfl, rfl, rfl⟩ := hm
    simp only [body, Int.reduceEq, if_true, if_false] at hp ⊢
    rw [rU_cut hp hz]
    exact ⟨_, _, _, _, _, rfl⟩
  · simp [mayS] at hm
    obtain ⟨⟨ha, hm⟩, rfl, rfl, rfl, rfl⟩ := hm
    simp only [body, Int.reduceEq, if_true, if_false] at hp ⊢
    rcases cut_app hp with hc | ⟨p', rfl, hc⟩
    · rw [rU_cut hc hz]
      simp only [Option.bind_some]
      rw [rU_err n2]
      exact ⟨_, _, _, _, _, rfl⟩
    · rw [rU_pu (inx_iff.mp hm) (cut_rng hc (Rng.pu _)) hz]
      simp only [Option.bind_some]
      rw [rU_cut hc (sm_app hz)]
      exact ⟨_, _, _, _, _, rfl⟩
  · simp [mayS] at hm
    obtain ⟨ha, rfl, rfl, rfl, rfl, rfl⟩ := hm
    simp only [body, Int.reduceEq, if_true, if_false] at hp ⊢
    rw [const_bits (hk.ten rfl), rS_none (by split <;> omega) (cut_rng hp (Rng.ps a)) hz (takeS_cut hp _)]
    exact ⟨_, _, _, _, _, rfl⟩
  · simp [mayS] at hm
    obtain ⟨rfl, rfl, rfl, rfl, rfl, rfl⟩ := hm
    simp only [body, Int.reduceEq, if_true, if_false] at hp ⊢
    obtain rfl := cut_one hp
    rw [str_nil, rByte_nil]
    simp only [Option.bind_some]
    rw [he0]
    simp only [Option.bind_some]
    rw [rFail_e n2]
    simp only [Option.bind_some]
    split
    · exact ⟨_, _, _, _, _, rfl⟩
    · rw [rFail_e n2]
      exact ⟨_, _, _, _, _, rfl⟩
end Go.Proofs.Ytckhlbpjehbnlaa.PB
namespace Go.Proofs.Ytckhlbpjehbnlaa.Reads
open Go.RowKit Go.Proofs.YtckhlbpjehbnlaaW.PrintWords

section
variable {H : Type} {enc : TypeId × Value → H} {P : Program} {w : World} {α β : Type}
/-- Whatever reads as a value of the type t, with at most n steps, is of the kind d. -/
def Opn (enc : TypeId × Value → H) (P : Program) (w : World) (d : Kd α) (t : TypeId) (wf : α → Prop) (n : Nat) : Prop :=
  ∀ m, m ≤ n → ∀ cs x, DataW.trod enc P w 0 (fun _ => true) true m t cs = some x → (∀ q ∈ x.1.weights P t, q ≤ reachBytes) → ∃ a, d.K w a cs ∧ wf a
theorem weights_mem {P : Program} {e : TypeId} {H : Type} : ∀ {ds : List (DataW H)} {d : DataW H}, d ∈ ds → ∀ q ∈ d.weights P e, q ∈ DataW.weightsAll P e ds
  | d0 :: ds, d, hd, q, hq => by
    simp only [DataW.weightsAll, List.mem_append]
    rcases List.mem_cons.mp hd with rfl | h
    · exact .inl hq
    · exact .inr (weights_mem h q hq)
theorem Opn.le {d : Kd α} {t : TypeId} {wf : α → Prop} {n m : Nat} (h : Opn enc P w d t wf n) (hm : m ≤ n) : Opn enc P w d t wf m := fun q hq => h q (by omega)
theorem Opn.imp {d : Kd α} {t : TypeId} {wf wf' : α → Prop} {n : Nat} (h : Opn enc P w d t wf n) (hi : ∀ a, wf a → wf' a) : Opn enc P w d t wf' n := fun m hm cs x hx hz => by
  obtain ⟨a, h1, h2⟩ := h m hm cs x hx hz
  exact ⟨a, h1, hi a h2⟩
theorem opn_int {t : TypeId} {k : IntKind} (ht : P.underlying t = some (.int k)) (n : Nat) : Opn enc P w (Kd.int k) t (fun x => (Lit.int k x).wf = true) n := by
  intro m _ cs x hx hz
  cases m with
  | zero => simp [DataW.trod] at hx
  | succ m =>
    unfold DataW.trod at hx
    rw [ht] at hx
    split at hx <;> simp_all
    obtain ⟨⟨rfl, hwf⟩, rfl⟩ := hx
    exact ⟨_, rfl, hwf⟩
theorem opn_bool {t : TypeId} (ht : P.underlying t = some .bool) (n : Nat) : Opn enc P w Kd.bool t (fun _ => True) n := by
  intro m _ cs x hx hz
  cases m with
  | zero => simp [DataW.trod] at hx
  | succ m =>
    unfold DataW.trod at hx
    rw [ht] at hx
    split at hx <;> simp_all
    rename Bool => b
    cases b
    · exact .inl rfl
    · exact .inr rfl
theorem opn_string {t : TypeId} (ht : P.underlying t = some .string) (n : Nat) : Opn enc P w Kd.string t (fun s => s.size ≤ reachBytes) n := by
  intro m _ cs x hx hz
  cases m with
  | zero => simp [DataW.trod] at hx
  | succ m =>
    unfold DataW.trod at hx
    rw [ht] at hx
    split at hx <;> simp_all
    obtain ⟨_, rfl⟩ := hx
    refine ⟨_, rfl, ?_⟩
    have := hz _ (List.mem_singleton.2 rfl)
    simpa using this
theorem add_add' (a : Addr) (i j : Nat) : (a.add i).add j = a.add (i + j) := by
  unfold Addr.add
  by_cases hi : i = 0 <;> by_cases hj : j = 0 <;> simp [hi, hj, Nat.add_assoc]
theorem choose_list {p : Nat → α → Prop} : ∀ {n : Nat}, (∀ i, i < n → ∃ x, p i x) → ∃ l : List α, l.length = n ∧ ∀ i x, l[i]? = some x → p i x := by
  intro n
  induction n with
  | zero => intro _; exact ⟨[], rfl, fun i x h => by simp at h⟩
  | succ n ih =>
    intro h
    obtain ⟨l, hl, hp⟩ := ih (fun i hi => h i (by omega))
    obtain ⟨x, hx⟩ := h n (by omega)
    refine ⟨l ++ [x], by simp [hl], fun i y hy => ?_⟩
    by_cases hi : i < n
    · rw [List.getElem?_append_left (by omega)] at hy
      exact hp i y hy
    · rw [List.getElem?_append_right (by omega)] at hy
      have e : i = n := by
        have := List.getElem?_eq_some_iff.mp hy
        obtain ⟨h1, _⟩ := this
        simp at h1
        omega
      subst e
      rw [hl] at hy
      simp at hy
      exact hy ▸ hx
theorem opn_slice {t e : TypeId} {d : Kd α} {wf : α → Prop} {n : Nat} (q : Nat) (ht : P.underlying t = some (.slice e)) (hc : P.cellsOf e = d.sz) (h : Opn enc P w d e wf n) :
    Opn enc P w (Kd.slice q d) t (fun l => l.length * P.bytesOf e ≤ reachBytes ∧ ∀ x ∈ l, wf x) (n + 1) := by
  intro m hm cs x hx hz
  rcases DataW.trod_slice ht hx with ⟨rfl, _⟩ | ⟨a, len, cap, elems, rest, m', rfl, rfl, rfl, _, hl, hcap, hlen, hel, _, _⟩
  · exact ⟨[], ⟨none, 0, rfl, Nat.le_refl _, rfl, by simp, fun h => by simp at h⟩, by simp, by simp⟩
  · have hwt : (DataW.slice (elems.map (·.1)) (rest.map (·.1))).weights P t = (elems.length + rest.length) * P.bytesOf e :: (DataW.weightsAll P e (elems.map (·.1)) ++ DataW.weightsAll P e (rest.map (·.1))) := by
      simp [DataW.weights, ht]
    rw [hwt] at hz
    have key : ∀ i, i < len → ∃ y : α, wf y ∧ ∃ c, w.cells? 0 (a.add (i * P.cellsOf e)) (P.cellsOf e) = some c ∧ d.K w y c := by
      intro i hi
      have h1 := hel i hi
      rw [List.getElem?_eq_getElem (by omega)] at h1
      obtain ⟨c, hc1, hc2⟩ := Option.bind_eq_some_iff.mp h1
      obtain ⟨y, hy1, hy2⟩ := h m' (by omega) c _ hc2 (fun q hq => hz q (List.mem_cons_of_mem _ (List.mem_append_left _ (weights_mem (List.mem_map.2 ⟨_, List.getElem_mem _, rfl⟩) q hq))))
      exact ⟨y, hy2, c, hc1, hy1⟩
    obtain ⟨l, hll, hlp⟩ := choose_list key
    refine ⟨l, ⟨some a, cap, by rw [hll], by omega, rfl, ?_, fun _ => ⟨a, rfl, fun j p hj => ?_⟩⟩, ?_, fun y hy => ?_⟩
    · have : maxLen = 9223372036854775807 := by decide
      omega
    · obtain ⟨_, c, hc1, hK⟩ := hlp j p hj
      obtain ⟨_, hcl, hcell⟩ := World.cells?_some hc1
      rw [hc] at hcl hcell hc1
      refine ⟨c, hcl, hK, fun i u hi => ?_⟩
      have hi' : i < d.sz := by
        obtain ⟨h1, _⟩ := List.getElem?_eq_some_iff.mp hi
        omega
      have := hcell i hi'
      rw [add_add'] at this
      rw [this, hi]
    · have hq := hz _ (List.mem_cons_self ..)
      rw [hll, ← hlen]
      exact Nat.le_trans (Nat.mul_le_mul_right _ (by omega)) hq
    · obtain ⟨i, hi, rfl⟩ := List.getElem_of_mem hy
      exact (hlp i _ (List.getElem?_eq_getElem hi)).1
/-- The fields of a struct, from the cell o on. -/
def OpnFs (enc : TypeId × Value → H) (P : Program) (w : World) (d : Kd α) (fs : List Field) (o : Nat) (wf : α → Prop) (n : Nat) : Prop :=
  ∀ m, m ≤ n → ∀ cs : List Value, cs.length = o + d.sz → (∀ f ∈ fs, ∃ x, DataW.trod enc P w 0 (fun _ => true) true m f.type ((cs.drop f.offset).take (P.cellsOf f.type)) = some x ∧ ∀ q ∈ x.1.weights P f.type, q ≤ reachBytes) → ∃ a, d.K w a (cs.drop o) ∧ wf a
theorem opn_one {d : Kd α} {f : Field} {o : Nat} {wf : α → Prop} {n : Nat} (ho : f.offset = o) (hc : P.cellsOf f.type = d.sz) (h : Opn enc P w d f.type wf n) : OpnFs enc P w d [f] o wf n := by
  intro m hm cs hl hf
  obtain ⟨x, hx, hz⟩ := hf f (by simp)
  rw [ho, hc, List.take_of_length_le (by simp; omega)] at hx
  exact h m hm _ _ hx hz
theorem opn_pair {a : Kd α} {b : Kd β} {f : Field} {fs : List Field} {o : Nat} {wa : α → Prop} {wb : β → Prop} {n : Nat} (ho : f.offset = o) (hc : P.cellsOf f.type = a.sz) (h : Opn enc P w a f.type wa n) (hs : OpnFs enc P w b fs (o + a.sz) wb n) :
    OpnFs enc P w (Kd.pair a b) (f :: fs) o (fun x => wa x.1 ∧ wb x.2) n := by
  intro m hm cs hl hf
  have hl' : cs.length = o + (a.sz + b.sz) := hl
  obtain ⟨x, hx, hz0⟩ := hf f (by simp)
  rw [ho, hc] at hx
  obtain ⟨y, hy, wy⟩ := h m hm _ _ hx hz0
  obtain ⟨z, hz, wz⟩ := hs m hm cs (by omega) (fun g hg => hf g (by simp [hg]))
  refine ⟨(y, z), ⟨_, _, ?_, hy, hz⟩, wy, wz⟩
  rw [show cs.drop (o + a.sz) = (cs.drop o).drop a.sz by rw [List.drop_drop], List.take_append_drop]
theorem opn_struct {t : TypeId} {fs : Array Field} {d : Kd α} {wf : α → Prop} {n : Nat} (ht : P.underlying t = some (.struct fs)) (hc : P.cellsOf t = d.sz) (h : OpnFs enc P w d fs.toList 0 wf n) : Opn enc P w d t wf (n + 1) := by
  intro m hm cs x hx hz0
  obtain ⟨xs, m', rfl, rfl, hl, hxl, hf⟩ := DataW.trod_struct ht hx
  obtain ⟨a, ha, wa⟩ := h m' (by omega) cs (by omega) (fun f hf' => by
    obtain ⟨i, hi, rfl⟩ := List.getElem_of_mem hf'
    have hi' : i < fs.size := by simpa using hi
    have := hf i fs[i] (Array.getElem?_eq_getElem hi')
    rw [List.getElem?_eq_getElem (by omega)] at this
    refine ⟨_, this, fun q hq => hz0 q ?_⟩
    have hwt : (DataW.agg (xs.map (·.1))).weights P t = DataW.weightsEach P (fs.toList.map (·.type)) (xs.map (·.1)) := by simp [DataW.weights, ht]
    rw [hwt]
    refine DataW.weights_mem_each (j := i) (t := fs[i].type) (d := (xs[i]'(by omega)).1) (by simp [hi']) (by rw [List.getElem?_map, List.getElem?_eq_getElem (by omega)]; rfl) q ?_
    simpa using hq)
  exact ⟨a, ha, wa⟩
theorem opn_iso {t : TypeId} {d : Kd α} {f : β → α} (g : α → β) (hg : ∀ a, f (g a) = a) {wf : α → Prop} {n : Nat} (h : Opn enc P w d t wf n) : Opn enc P w (Kd.iso d f) t (fun b => wf (f b)) n := by
  intro m hm cs x hx hz
  obtain ⟨a, ha, wa⟩ := h m hm cs x hx hz
  exact ⟨g a, (by show d.K w (f (g a)) cs; rw [hg]; exact ha), by show wf (f (g a)); rw [hg]; exact wa⟩
end
end Go.Proofs.Ytckhlbpjehbnlaa.Reads

namespace Go.Proofs.Ytckhlbpjehbnlaa.PB
open Go.RowKit Go.Proofs.YtckhlbpjehbnlaaW.PrintWords Go.Proofs.YtckhlbpjehbnlaaW.PrintLast Go.Proofs.YtckhlbpjehbnlaaW.PrintMore Go.Proofs.Ytckhlbpjehbnlaa.Reads
/-- Its numbers are of their kind, within too. -/
inductive WfI : S54 → Prop
  | mk (x : S54) (h0 : (Lit.int .i64 x.f0).wf = true) (h1 : (Lit.int .i64 x.f1).wf = true) (h2 : (Lit.int .i64 x.f2).wf = true) (h3 : (Lit.int .i64 x.f3).wf = true) (l4 : x.f4.length ≤ 17592186044416) (h4 : ∀ n ∈ x.f4, (Lit.int .i64 n).wf = true)
      (l5 : x.f5.length ≤ 17592186044416) (h5 : ∀ y ∈ x.f5, WfI y) (l6 : x.f6.length ≤ 17592186044416) (h6 : ∀ y ∈ x.f6, WfI y) : WfI x
theorem k54_of {w : World} {x : S54} {cs : List Value} (h : (F54 k54).K w x cs) : k54.K w x cs := by
  obtain ⟨_, _, rfl, rfl, ⟨_, _, rfl, rfl, ⟨_, _, rfl, rfl, ⟨_, _, rfl, rfl, ⟨_, _, rfl, ⟨A4, c4, rfl, l4, g4⟩, ⟨_, _, rfl, ⟨A5, c5, rfl, l5, g5⟩, ⟨A6, c6, rfl, l6, g6⟩⟩⟩⟩⟩⟩⟩ := h
  exact k54_mk w x l4 g4 l5 g5 l6 g6
theorem len8 {n : Nat} (h : n * Try.prog.bytesOf 3 ≤ reachBytes) : n ≤ 17592186044416 := by
  have e : Try.prog.bytesOf 3 = 8 := by kernel_rfl
  rw [e] at h
  unfold reachBytes at h
  omega
theorem len104 {n : Nat} (h : n * Try.prog.bytesOf 54 ≤ reachBytes) : n ≤ 17592186044416 := by
  have e : Try.prog.bytesOf 54 = 104 := by kernel_rfl
  rw [e] at h
  unfold reachBytes at h
  omega
theorem opn54 {H : Type} {enc : TypeId × Value → H} {w : World} : ∀ n, Opn enc Try.prog w k54 54 WfI n := by
  intro n
  induction n with
  | zero =>
    intro m hm cs x hx hz
    obtain rfl : m = 0 := by omega
    simp [DataW.trod] at hx
  | succ n ih =>
    have hi : Opn enc Try.prog w (Kd.int .i64) 3 (fun x => (Lit.int .i64 x).wf = true) n := opn_int Try.underlying3 n
    have hN : Opn enc Try.prog w (Kd.slice 3 (Kd.int .i64)) 52 (fun l => l.length ≤ 17592186044416 ∧ ∀ x ∈ l, (Lit.int .i64 x).wf = true) n := ((opn_slice 3 Try.underlying52 (by kernel_rfl) (opn_int Try.underlying3 n)).imp (fun l h => ⟨len8 h.1, h.2⟩)).le (by omega)
    have hL : Opn enc Try.prog w (Kd.slice 54 k54) 29 (fun l => l.length ≤ 17592186044416 ∧ ∀ x ∈ l, WfI x) n := ((opn_slice 54 Try.underlying29 (by kernel_rfl) ih).imp (fun l h => ⟨len104 h.1, h.2⟩)).le (by omega)
    have hs := opn_struct (d := Kd.pair (Kd.int .i64) (Kd.pair (Kd.int .i64) (Kd.pair (Kd.int .i64) (Kd.pair (Kd.int .i64) (Kd.pair (Kd.slice 3 (Kd.int .i64)) (Kd.pair (Kd.slice 54 k54) (Kd.slice 54 k54))))))) Try.underlying54 (by kernel_rfl)
      (opn_pair rfl (by kernel_rfl) hi (opn_pair rfl (by kernel_rfl) hi (opn_pair rfl (by kernel_rfl) hi (opn_pair rfl (by kernel_rfl) hi (opn_pair rfl (by kernel_rfl) hN (opn_pair rfl (by kernel_rfl) hL (opn_one rfl (by kernel_rfl) hL)))))))
    have hq := opn_iso (f := fun x : S54 => (x.f0, x.f1, x.f2, x.f3, x.f4, x.f5, x.f6)) (fun q => ⟨q.1, q.2.1, q.2.2.1, q.2.2.2.1, q.2.2.2.2.1, q.2.2.2.2.2.1, q.2.2.2.2.2.2⟩) (fun _ => rfl) hs
    intro m hm cs x hx hz
    obtain ⟨a, ha, w0, w1, w2, w3, ⟨l4, w4⟩, ⟨l5, w5⟩, l6, w6⟩ := hq m hm cs x hx hz
    exact ⟨a, k54_of ha, .mk a w0 w1 w2 w3 l4 w4 l5 w5 l6 w6⟩
/-- The argument of a law: instructions. -/
theorem arg_instrs {H : Type} {enc : TypeId × Value → H} {w : World} {v : Value} {d : DataW H} {ps : List MemPlace} (h : DataW.Trod enc Try.prog w 0 (fun _ => true) true 29 v d ps) (hv : ∃ a len cap, v = .slice a len cap) (hz : ∀ q ∈ d.weights Try.prog 29, q ≤ reachBytes) :
    ∃ (A : Option Addr) (c : Nat) (l : List S54), v = .slice A l.length c ∧ l.length ≤ c ∧ Kd.C k54 w A l.length l ∧ l.length ≤ 17592186044416 ∧ ∀ x ∈ l, WfI x := by
  obtain ⟨n, hn⟩ := h
  obtain ⟨a, len, cap, rfl⟩ := hv
  obtain ⟨l, ⟨A, c, e, hc, hC⟩, hm, hw⟩ := (opn_slice 54 Try.underlying29 (by kernel_rfl) (opn54 n)) n (by omega) _ _ hn hz
  have e' : [Value.slice a len cap] = [Value.slice A l.length c] := e
  simp at e'
  obtain ⟨rfl, rfl, rfl⟩ := e'
  exact ⟨_, _, l, rfl, hc, hC, len104 hm, hw⟩
open Go.RowKit Go.Proofs.YtckhlbpjehbnlaaW.PrintWords Go.Proofs.YtckhlbpjehbnlaaW.PrintLast Go.Proofs.YtckhlbpjehbnlaaW.PrintMore
open Go.Proofs.Ytckhlbpjehbnlaa.Str Go.Proofs.Ytckhlbpjehbnlaa.LebS Go.Proofs.Ytckhlbpjehbnlaa.LebF
set_option linter.unusedVariables false
set_option linter.unusedSimpArgs false
/-- An opcode's bytes. -/
def opb (op : Int) : List Int := if op ≥ 64512 then 252 :: pu (op - 64512).toNat else [op]
/-- An opcode's shape. -/
def shS (op : Int) : Int := match instr_Shape.f 40 op with | some (s, _) => s | none => 0
theorem shS_eq {op s e : Int} (h : instr_Shape.f 40 op = some (s, e)) : shS op = s := by unfold shS; rw [h]
/-- What stands within a block, and its end. -/
def inner (rec : List S54 → List Int) (x : S54) : List Int := rec x.f5 ++ ((if x.f6.length = 0 then [] else 5 :: rec x.f6) ++ [11])
def encX (rec : List S54 → List Int) (x : S54) : List Int := opb x.f0 ++ (body (shS x.f0) x ++ (if shS x.f0 = 2 then inner rec x else []))
def encL (one : S54 → List Int) : List S54 → List Int
  | [] => []
  | x :: l => one x ++ encL one l
/-- Instructions' bytes; k: how deep they may stand in one another. -/
def encD : Nat → List S54 → List Int
  | 0 => fun _ => []
  | k + 1 => encL (encX (encD k))
/-- An instruction whose own numbers may be. -/
def okx (x : S54) : Prop := ∃ s t, instr_Shape.f 40 x.f0 = some (s, 0) ∧ instr_Type.f 5 x.f1 = some t ∧ mayS s x.f0 x.f1 x.f2 x.f3 x.f4 x.f5 x.f6 t = true ∧ -9223372036854775808 ≤ x.f1 ∧ x.f1 < 9223372036854775808
/-- Instructions that may be, so deep. -/
def okD : Nat → List S54 → Prop
  | 0 => fun l => l = []
  | k + 1 => fun l => ∀ x ∈ l, okx x ∧ okD k x.f5 ∧ okD k x.f6 ∧ (k = 0 → blk x.f0 = false)
def cntL (one : S54 → Nat) : List S54 → Nat
  | [] => 0
  | x :: l => one x + cntL one l
/-- How many there are. -/
def cntD : Nat → List S54 → Nat
  | 0 => fun _ => 0
  | k + 1 => cntL fun x => 1 + cntD k x.f5 + cntD k x.f6
theorem blk_iff {op : Int} : blk op = true ↔ 2 ≤ op ∧ op ≤ 4 := by simp [blk]
theorem opb_rng {op s : Int} (h : ShOk op s) : Rng (opb op) := by
  unfold opb
  have := h.range
  split
  · exact Rng.cons (by omega) (Rng.pu _)
  · exact Rng.cons (by omega) Rng.nil
theorem body_rng {x : S54} {s : Int} {t : Int × Int} (hk : ShOk x.f0 s) (ht : instr_Type.f 5 x.f1 = some t) (hm : mayS s x.f0 x.f1 x.f2 x.f3 x.f4 x.f5 x.f6 t = true) : Rng (body s x) := by
  unfold body
  by_cases h6 : s = 6
  · subst h6
    simp [mayS] at hm
    obtain ⟨h1, h2⟩ := ty_ok (t := t.1) (e := t.2) ht hm.1
    simp only [Int.reduceEq, if_false, if_true]
    exact Rng.cons (by omega) (Rng.cons (by omega) Rng.nil)
  · repeat' split
    all_goals first | exact Rng.pu _ | exact Rng.ps _ | exact (Rng.pu _).app (Rng.app (puA_range _) (Rng.pu _)) | exact (Rng.pu _).app (Rng.pu _) | exact (Rng.pu _).app ((Rng.pu _).app (Rng.pu _)) | exact absurd ‹s = 6› h6 | exact Rng.cons (by omega) Rng.nil | exact Rng.nil
theorem encX_eq {rec : List S54 → List Int} {x : S54} {s e : Int} (h : instr_Shape.f 40 x.f0 = some (s, e)) : encX rec x = opb x.f0 ++ (body s x ++ (if s = 2 then inner rec x else [])) := by
  unfold encX; rw [shS_eq h]
theorem opb_pos (op : Int) : 1 ≤ (opb op).length := by unfold opb; split <;> simp
theorem cntD_len (k : Nat) : ∀ l : List S54, l.length ≤ cntD (k + 1) l := by
  intro l
  induction l with
  | nil => simp
  | cons x l ih =>
    have : cntD (k + 1) (x :: l) = 1 + cntD k x.f5 + cntD k x.f6 + cntD (k + 1) l := rfl
    simp only [List.length_cons]; omega
theorem encD_len : ∀ (k : Nat) (l : List S54), okD k l → l.length ≤ (encD k l).length := by
  intro k
  cases k with
  | zero => intro l h; rw [show l = [] from h]; simp
  | succ k =>
    intro l
    induction l with
    | nil => intro _; simp
    | cons x l ih =>
      intro h
      have h1 := ih (fun y hy => h y (by simp [hy]))
      have h2 := opb_pos x.f0
      have : encD (k + 1) (x :: l) = encX (encD k) x ++ encD (k + 1) l := rfl
      rw [this]
      unfold encX
      simp only [List.length_append, List.length_cons]
      omega
theorem encD_rng : ∀ (k : Nat) (l : List S54), okD k l → Rng (encD k l) := by
  intro k
  induction k with
  | zero => intro l _; exact Rng.nil
  | succ k ih =>
    intro l
    induction l with
    | nil => intro _; exact Rng.nil
    | cons x l ihl =>
      intro h
      have h1 := ihl (fun y hy => h y (by simp [hy]))
      obtain ⟨⟨s, t, hs, ht, hm, _, _⟩, hL, hE, _⟩ := h x (by simp)
      have : encD (k + 1) (x :: l) = encX (encD k) x ++ encD (k + 1) l := rfl
      rw [this, encX_eq hs]
      have hk := shp_ok hs
      refine Rng.app (Rng.app (opb_rng hk) (Rng.app (body_rng hk ht hm) ?_)) h1
      split
      · unfold inner
        refine (ih _ hL).app (Rng.app ?_ (Rng.cons (by omega) Rng.nil))
        split
        · exact Rng.nil
        · exact Rng.cons (by omega) (ih _ hE)
      · exact Rng.nil
theorem opc_eq {op s : Int} (h : ShOk op s) : opc op = some (strOfNums (opb op)) := by
  unfold opc opb
  have := h.range
  by_cases h1 : op ≥ 64512
  · rw [if_pos h1, if_pos h1, wrap64_id (by omega) (by omega), PutU_eq _ (by omega) 12 (by omega)]
    simp only [Option.bind_some]
    unfold puZ
    rw [if_neg (by omega), ← strOfNums_append]
    rfl
  · rw [if_neg h1, if_neg h1, show op % 256 = op by omega]
theorem wf64_mk {n : Int} (h0 : -9223372036854775808 ≤ n) (h1 : n < 9223372036854775808) : (Lit.int .i64 n).wf = true := by
  simp [Lit.wf, IntKind.min, IntKind.max, IntKind.bits, IntKind.signed]
  omega
theorem putU_in {a : Int} (h : inx a = true) : leb_PutU.f 12 a = some (strOfNums (pu a.toNat)) := by
  have := inx_iff.mp h
  rw [PutU_eq _ (by omega) 12 (by omega)]
  unfold puZ
  rw [if_neg (by omega)]
theorem or64 (b : Int) (h0 : 0 ≤ b) (h1 : b < 64) : Go.bits .or .i64 b 64 = b + 64 := by
  have h : ∀ y : Fin 64, Go.bits .or .i64 (y.val : Int) 64 = (y.val : Int) + 64 := by decide +kernel
  have := h ⟨b.toNat, by omega⟩
  simp only at this
  rw [show ((b.toNat : Nat) : Int) = b by omega] at this
  exact this
theorem putS_eq {x : S54} {s : Int} {t : Int × Int} (rec : List S54 → Option ByteArray) (hk : ShOk x.f0 s) (ht : instr_Type.f 5 x.f1 = some t) (hm : mayS s x.f0 x.f1 x.f2 x.f3 x.f4 x.f5 x.f6 t = true)
    (h0 : -9223372036854775808 ≤ x.f1) (h1 : x.f1 < 9223372036854775808) (h2 : s ≠ 2) : putS s rec x = some (strOfNums (body s x)) := by
  obtain ⟨op, a, b, m, N, L, E⟩ := x
  simp only at hk ht hm h0 h1 ⊢
  rcases s_cases hk with rfl | rfl | rfl | rfl | rfl | rfl | rfl | rfl | rfl | rfl | rfl
  · simp only [putS, body, Int.reduceEq, if_false]; rfl
  · exact absurd rfl h2
  · simp [mayS] at hm
    simp only [putS, body, Int.reduceEq, if_false, if_true]
    exact putU_in hm.1
  · simp [mayS] at hm
    obtain ⟨⟨⟨ha, hn⟩, hN⟩, rfl, rfl, rfl, rfl⟩ := hm
    simp only [putS, body, two, Int.reduceEq, if_false, if_true]
    have hw : ∀ x ∈ N, (Lit.int .i64 x).wf = true := fun x hx => by
      have := inx_iff.mp (hN x hx)
      exact wf64_mk (by omega) (by omega)
    rw [PutAll_eq N hw (by omega) _ (by omega), putU_in ha]
    simp only [Option.bind_some, ← strOfNums_append, List.append_assoc]
  · simp [mayS] at hm
    simp only [putS, body, two, Int.reduceEq, if_false, if_true]
    rw [putU_in hm.1.1, putU_in hm.1.2]
    simp only [Option.bind_some, ← strOfNums_append]
  · simp [mayS] at hm
    obtain ⟨h1, h2⟩ := ty_ok (t := t.1) (e := t.2) ht hm.1
    simp only [putS, body, Int.reduceEq, if_false, if_true]
    rw [show a % 256 = a by omega, show (⟨#[1]⟩ : ByteArray) = strOfNums [1] by decide +kernel, ← strOfNums_append]
    rfl
  · simp [mayS] at hm
    obtain ⟨⟨⟨⟨ha, hm⟩, hb0⟩, hb1⟩, rfl, rfl, rfl⟩ := hm
    have hb : inx b = true := inx_iff.mpr (by omega)
    have hb2 : inx (b + 64) = true := inx_iff.mpr (by omega)
    simp only [putS, body, two, Int.reduceEq, if_false, if_true]
    split
    · rw [or64 b hb0 hb1, putU_in hb2, putU_in hm, putU_in ha]
      simp only [Option.bind_some, ← strOfNums_append, List.append_assoc]
    · rw [putU_in hb, putU_in ha]
      simp only [Option.bind_some, ← strOfNums_append, List.append_assoc]
  · simp [mayS] at hm
    simp only [putS, body, Int.reduceEq, if_false, if_true]
    exact putU_in hm.1
  · simp [mayS] at hm
    simp only [putS, body, two, Int.reduceEq, if_false, if_true]
    rw [putU_in hm.1.2, putU_in hm.1.1]
    simp only [Option.bind_some, ← strOfNums_append]
  · simp only [putS, body, Int.reduceEq, if_false, if_true]
    exact PutS_eq a h0 h1 12 (by omega)
  · simp only [putS, body, Int.reduceEq, if_false, if_true]
theorem putF_eq : ∀ (k j : Nat) (l : List S54), k < j → okD k l → cntD k l ≤ 8192 → putF j l = some (strOfNums (encD k l)) := by
  intro k
  induction k with
  | zero =>
    intro j l hj hl _
    obtain ⟨j, rfl⟩ : ∃ i, j = i + 1 := ⟨j - 1, by omega⟩
    rw [show l = [] from hl]
    unfold putF
    rw [if_pos (by simp)]
    simp only [putL, encD]
    rfl
  | succ k ih =>
    intro j l hj hl hc
    obtain ⟨j, rfl⟩ : ∃ i, j = i + 1 := ⟨j - 1, by omega⟩
    have hlen := cntD_len k l
    unfold putF
    rw [if_pos (by omega)]
    clear hlen
    induction l with
    | nil => simp only [putL, encD, encL]; rfl
    | cons x l ihl =>
      have hcc : cntD (k + 1) (x :: l) = 1 + cntD k x.f5 + cntD k x.f6 + cntD (k + 1) l := rfl
      obtain ⟨⟨s, t, hs, ht, hm, h0, h1⟩, hL, hE, _⟩ := hl x (by simp)
      have hk := shp_ok hs
      have e : encD (k + 1) (x :: l) = encX (encD k) x ++ encD (k + 1) l := rfl
      have hrest := ihl (fun y hy => hl y (by simp [hy])) (by omega)
      have hone : putOne (putF j) x = some (strOfNums (encX (encD k) x)) := by
        unfold putOne
        rw [opc_eq hk, hs]
        simp only [Option.bind_some]
        rw [encX_eq hs]
        by_cases h2 : s = 2
        · subst h2
          have hbt : body 2 x = ps x.f1 := rfl
          simp only [putS, if_true, hbt]
          rw [PutS_eq _ h0 h1 12 (by omega), ih j x.f5 (by omega) hL (by omega)]
          simp only [Option.bind_some]
          unfold inner
          by_cases h6 : x.f6.length = 0
          · rw [if_pos h6, if_pos h6]
            simp only [Option.bind_some, ← strOfNums_append, List.nil_append]
          · rw [if_neg h6, if_neg h6, ih j x.f6 (by omega) hE (by omega)]
            simp only [Option.bind_some, ← strOfNums_append, List.cons_append, List.nil_append, List.append_assoc]
        · rw [putS_eq (putF j) hk ht hm h0 h1 h2, if_neg h2]
          simp only [Option.bind_some, ← strOfNums_append, List.append_nil]
      rw [e]
      simp only [putL]
      rw [hone, hrest]
      simp only [Option.bind_some, ← strOfNums_append]
/-- An opcode behind its first byte. -/
def opF (x : Int × RS) : Option (Int × RS) := if x.1 = 252 then (rU x.2).bind fun y => some (wrap64 (64512 + y.1), y.2) else some (x.1, x.2)
/-- What an instruction's end makes of the state: one more, and whether there are too many. -/
def fullF (op deep : Int) (q : RS) : Option RS :=
  if q.2.2 = 0 ∧ (wrap64 (q.2.1 + 1) > 8192 ∨ (blk op = true ∧ deep = 32)) then rFail (q.1, wrap64 (q.2.1 + 1), q.2.2) 14 else some (q.1, wrap64 (q.2.1 + 1), q.2.2)
/-- What stands within. -/
def inF (k : Nat) (op deep : Int) (t5 : RS) : Option (List S54 × List S54 × RS) :=
  if t5.2.2 = 0 ∧ blk op = true then
    (listL k t5 (wrap64 (deep + 1)) []).bind fun L =>
      if L.2.1 = 5 then
        (if op = 4 then some L.2.2 else rFail L.2.2 2).bind fun t7 =>
          (listL k t7 (wrap64 (deep + 1)) []).bind fun E =>
            (if E.2.1 = 5 then rFail E.2.2 2 else some E.2.2).bind fun t9 => some (L.1, E.1, t9)
      else some (L.1, [], L.2.2)
  else some ([], [], t5)
theorem listL_err {k : Nat} {s : ByteArray} {n e deep : Int} {acc : List S54} (h : e ≠ 0) : listL (k + 1) (s, n, e) deep acc = some ([], 11, s, n, e) := by
  simp only [listL]
  rw [if_neg h]
theorem listL_end {k : Nat} {c : Int} {l : List Int} {n deep : Int} {acc : List S54} (h : Rng (c :: l)) (hc : c = 11 ∨ c = 5) : listL (k + 1) (strOfNums (c :: l), n, 0) deep acc = some (acc, c, strOfNums l, n, 0) := by
  simp only [listL, if_true]
  rw [rByte_cons h]
  simp only [Option.bind_some]
  rw [if_pos hc]
/-- One instruction, in parts. -/
theorem listL_step {k : Nat} {s : ByteArray} {n deep : Int} {acc : List S54} {c op : Int} {t1 t2 t4 t5 t9 : RS} {a b m : Int} {N : List Int} {L E : List S54}
    (h1 : rByte (s, n, 0) = some (c, t1)) (hc : ¬ (c = 11 ∨ c = 5)) (h2 : opF (c, t1) = some (op, t2)) (h3 : numF t2 op = some (a, b, m, N, t4)) (h4 : fullF op deep t4 = some t5) (h5 : inF k op deep t5 = some (L, E, t9)) (ha : acc.length ≤ 1000000) :
    listL (k + 1) (s, n, 0) deep acc = listL k t9 deep (acc ++ [⟨op, a, b, m, N, L, E⟩]) := by
  simp only [listL, if_true]
  rw [h1]
  simp only [Option.bind_some]
  rw [if_neg hc]
  unfold opF at h2
  simp only at h2
  rw [h2]
  simp only [Option.bind_some]
  rw [h3]
  simp only [Option.bind_some]
  unfold fullF at h4
  rw [h4]
  simp only [Option.bind_some]
  unfold inF at h5
  rw [h5]
  simp only [Option.bind_some]
  rw [if_pos (by omega)]
/-- Where an instruction's numbers have a fault, it is told. -/
theorem listL_fault {k : Nat} {s : ByteArray} {n deep : Int} {acc : List S54} {c op : Int} {t1 t2 : RS} {a b m n4 e : Int} {z : ByteArray} {N : List Int}
    (h1 : rByte (s, n, 0) = some (c, t1)) (hc : ¬ (c = 11 ∨ c = 5)) (h2 : opF (c, t1) = some (op, t2)) (h3 : numF t2 op = some (a, b, m, N, z, n4, e)) (he : e ≠ 0) (ha : acc.length ≤ 1000000) :
    listL (k + 2) (s, n, 0) deep acc = some ([], 11, z, wrap64 (n4 + 1), e) := by
  rw [listL_step h1 hc h2 h3 (t5 := (z, wrap64 (n4 + 1), e)) (t9 := (z, wrap64 (n4 + 1), e)) (L := []) (E := []) (by unfold fullF; rw [if_neg (fun h => he h.1)]) (by unfold inF; rw [if_neg (fun h => he h.1)]) ha]
  exact listL_err he
/-- With a fault in the state nothing is read. -/
theorem num_err {s : ByteArray} {n e : Int} (h : e ≠ 0) (op : Int) : ∃ a b m N, numF (s, n, e) op = some (a, b, m, N, s, n, e) := by
  obtain ⟨sh, e', hs, hk⟩ := shp_any op
  unfold numF
  rw [hs]
  simp only [Option.bind_some]
  rw [rFail_e h]
  simp only [Option.bind_some]
  have e0 : instr_Type.f 5 0 = some (0, 2) := by decide +kernel
  rcases hk with ⟨rfl, hk⟩ | ⟨rfl, _⟩
  · rcases s_cases hk with rfl | rfl | rfl | rfl | rfl | rfl | rfl | rfl | rfl | rfl | rfl
    · exact ⟨_, _, _, _, rfl⟩
    · simp only [Int.reduceEq, if_true, if_false]; rw [rBlock_err h]; exact ⟨_, _, _, _, rfl⟩
    · simp only [Int.reduceEq, if_true, if_false]; rw [rU_err h]; exact ⟨_, _, _, _, rfl⟩
    · simp only [Int.reduceEq, if_true, if_false]; rw [rLab_err h]; simp only [Option.bind_some]; rw [rU_err h]; exact ⟨_, _, _, _, rfl⟩
    · simp only [Int.reduceEq, if_true, if_false]; rw [rU_err h]; simp only [Option.bind_some]; rw [rU_err h]; exact ⟨_, _, _, _, rfl⟩
    · simp only [Int.reduceEq, if_true, if_false]
      rw [rU_err h]
      simp only [Option.bind_some, Int.reduceEq, if_false]
      rw [rFail_e h]
      simp only [Option.bind_some]
      rw [rByte_err h]
      simp only [Option.bind_some]
      rw [e0]
      simp only [Option.bind_some]
      rw [rFail_e h]
      exact ⟨_, _, _, _, rfl⟩
    · simp only [Int.reduceEq, if_true, if_false]
      unfold placeF
      rw [rU_err h]
      simp only [Option.bind_some, Int.reduceLE, if_false, ge_iff_le]
      rw [rU_err h]
      exact ⟨_, _, _, _, rfl⟩
    · simp only [Int.reduceEq, if_true, if_false]; rw [rU_err h]; exact ⟨_, _, _, _, rfl⟩
    · simp only [Int.reduceEq, if_true, if_false]; rw [rU_err h]; simp only [Option.bind_some]; rw [rU_err h]; exact ⟨_, _, _, _, rfl⟩
    · simp only [Int.reduceEq, if_true, if_false]; rw [rS_err h]; exact ⟨_, _, _, _, rfl⟩
    · simp only [Int.reduceEq, if_true, if_false]
      rw [rByte_err h]
      simp only [Option.bind_some]
      rw [e0]
      simp only [Option.bind_some]
      rw [rFail_e h]
      simp only [Option.bind_some, Int.reduceEq, if_false]
      rw [rFail_e h]
      exact ⟨_, _, _, _, rfl⟩
  · exact ⟨_, _, _, _, rfl⟩
theorem listL_nil {k : Nat} {n deep : Int} {acc : List S54} (ha : acc.length ≤ 1000000) : listL (k + 2) (⟨#[]⟩, n, 0) deep acc = some ([], 11, ⟨#[]⟩, wrap64 (n + 1), 2) := by
  obtain ⟨a, b, m, N, h⟩ := @num_err ⟨#[]⟩ n 2 (by decide) 0
  exact listL_fault rByte_nil (by omega) (show opF (0, ⟨#[]⟩, n, 2) = some (0, ⟨#[]⟩, n, 2) from rfl) h (by decide) ha
/-- An opcode's bytes are read. -/
theorem op_fwd {op s n : Int} {more : List Int} (hk : ShOk op s) (hr : Rng more) (hz : Sm (opb op ++ more)) : ∃ c l, rByte (strOfNums (opb op ++ more), n, 0) = some (c, strOfNums l, n, 0) ∧ ¬ (c = 11 ∨ c = 5) ∧ opF (c, strOfNums l, n, 0) = some (op, strOfNums more, n, 0) := by
  have hrng := hk.range
  have h5 := hk.n5
  have h11 := hk.n11
  have h252 := hk.n252
  unfold opb at hz ⊢
  by_cases h : op ≥ 64512
  · rw [if_pos h] at hz ⊢
    rw [List.cons_append] at hz ⊢
    refine ⟨252, _, rByte_cons (Rng.cons (by omega) ((Rng.pu _).app hr)), by omega, ?_⟩
    unfold opF
    rw [if_pos rfl]
    have hz' : Sm (pu (op - 64512).toNat ++ more) := by
      have : (252 :: (pu (op - 64512).toNat ++ more)).length ≤ 140737488351232 := hz
      rw [List.length_cons] at this
      show List.length _ ≤ _
      omega
    simp only
    rw [rU_pu (m := op - 64512) (by omega) hr hz']
    simp only [Option.bind_some]
    rw [wrap64_id (by omega) (by omega), show 64512 + (op - 64512) = op by omega]
  · rw [if_neg h] at hz ⊢
    refine ⟨op, more, rByte_cons (Rng.cons (by omega) hr), by omega, ?_⟩
    unfold opF
    rw [if_neg h252]
theorem full_ok {op deep n : Int} {s : ByteArray} (h0 : 0 ≤ n) (h : n + 1 ≤ 8192) (hb : blk op = true → deep ≠ 32) : fullF op deep (s, n, 0) = some (s, n + 1, 0) := by
  unfold fullF
  simp only
  rw [wrap64_id (by omega) (by omega), if_neg]
  rintro ⟨_, h1 | ⟨h1, h2⟩⟩
  · omega
  · exact hb h1 h2
theorem may_leaf {x : S54} {s : Int} {t : Int × Int} (hk : ShOk x.f0 s) (hm : mayS s x.f0 x.f1 x.f2 x.f3 x.f4 x.f5 x.f6 t = true) (h2 : s ≠ 2) : x.f5 = [] ∧ x.f6 = [] := by
  rcases s_cases hk with rfl | rfl | rfl | rfl | rfl | rfl | rfl | rfl | rfl | rfl | rfl <;> simp [mayS] at hm
  · exact ⟨hm.2.2.2.2.1, hm.2.2.2.2.2⟩
  · exact absurd rfl h2
  · exact ⟨hm.2.2.2.2.1, hm.2.2.2.2.2⟩
  · exact ⟨hm.2.2.2.1, hm.2.2.2.2⟩
  · exact ⟨hm.2.2.2.1, hm.2.2.2.2⟩
  · exact ⟨hm.2.2.2.2.1, hm.2.2.2.2.2⟩
  · exact ⟨hm.2.2.1, hm.2.2.2⟩
  · exact ⟨hm.2.2.2.2.1, hm.2.2.2.2.2⟩
  · exact ⟨hm.2.2.2.1, hm.2.2.2.2⟩
  · exact ⟨hm.2.2.2.2.1, hm.2.2.2.2.2⟩
  · exact ⟨hm.2.2.2.2.1, hm.2.2.2.2.2⟩
theorem may_block {x : S54} {t : Int × Int} (hm : mayS 2 x.f0 x.f1 x.f2 x.f3 x.f4 x.f5 x.f6 t = true) : x.f0 = 4 ∨ x.f6 = [] := by
  simp [mayS] at hm
  exact hm.1.2
theorem s54_eta (x : S54) : (⟨x.f0, x.f1, x.f2, x.f3, x.f4, x.f5, x.f6⟩ : S54) = x := by cases x; rfl
theorem cnt_len (k : Nat) (l : List S54) (h : okD k l) : l.length ≤ cntD k l := by
  cases k with
  | zero => rw [show l = [] from h]; simp
  | succ k => exact cntD_len k l
theorem sm_le {a b : List Int} (h : Sm b) (hl : a.length ≤ b.length) : Sm a := Nat.le_trans hl h
set_option maxHeartbeats 1000000 in
/-- What is laid is read as it was, with whatever behind it. -/
theorem list_fwd : ∀ (k : Nat) (l : List S54), okD k l → ∀ (f : Nat) (n deep : Int) (acc : List S54) (more : List Int), Rng more → Sm (encD k l ++ more) → (encD k l).length + 1 ≤ f → 0 ≤ n → n + cntD k l ≤ 8192 → 0 ≤ deep → deep + k = 33 → acc.length + l.length ≤ 100000 →
    ∃ f', f' + l.length = f ∧ listL f (strOfNums (encD k l ++ more), n, 0) deep acc = listL f' (strOfNums more, n + cntD k l, 0) deep (acc ++ l) := by
  intro k
  induction k with
  | zero =>
    intro l hl f n deep acc more hr hz hf hn hc hd hdk ha
    rw [show l = [] from hl]
    exact ⟨f, by simp, by simp [encD, cntD]⟩
  | succ k ih =>
    intro l
    induction l with
    | nil => intro hl f n deep acc more hr hz hf hn hc hd hdk ha; exact ⟨f, by simp, by simp [encD, encL, cntD, cntL]⟩
    | cons x l ihl =>
      intro hl f n deep acc more hr hz hf hn hc hd hdk ha
      have hcc : cntD (k + 1) (x :: l) = 1 + cntD k x.f5 + cntD k x.f6 + cntD (k + 1) l := rfl
      obtain ⟨⟨s, t, hs, ht, hm, h0, h1⟩, hL, hE, hb⟩ := hl x (by simp)
      have hl' : okD (k + 1) l := fun y hy => hl y (by simp [hy])
      have hk := shp_ok hs
      have e : encD (k + 1) (x :: l) = encX (encD k) x ++ encD (k + 1) l := rfl
      rw [e, encX_eq hs] at hz hf ⊢
      have hp := opb_pos x.f0
      obtain ⟨f, rfl⟩ : ∃ q, f = q + 1 := ⟨f - 1, by omega⟩
      have hrl := encD_rng (k + 1) l hl'
      have hrL := encD_rng k _ hL
      have hrE := encD_rng k _ hE
      have hrin : Rng (if s = 2 then inner (encD k) x else []) := by
        split
        · unfold inner
          refine hrL.app (Rng.app ?_ (Rng.cons (by omega) Rng.nil))
          split
          · exact Rng.nil
          · exact Rng.cons (by omega) hrE
        · exact Rng.nil
      have hrb := body_rng hk ht hm
      rw [hcc] at hc ⊢
      simp only [List.length_cons, List.length_append] at hf ha
      -- the opcode, the numbers
      have a1 : (opb x.f0 ++ (body s x ++ if s = 2 then inner (encD k) x else [])) ++ encD (k + 1) l ++ more = opb x.f0 ++ (body s x ++ ((if s = 2 then inner (encD k) x else []) ++ (encD (k + 1) l ++ more))) := by simp only [List.append_assoc]
      rw [a1] at hz ⊢
      obtain ⟨c, l1, g1, gc, g2⟩ := op_fwd (n := n) hk (hrb.app (hrin.app (hrl.app hr))) hz
      have g3 := num_fwd (n := n) hs ht hm h0 h1 (hrin.app (hrl.app hr)) (sm_app hz)
      have hbd : blk x.f0 = true → deep ≠ 32 := fun h hd32 => by
        have : k = 0 := by omega
        rw [hb this] at h
        cases h
      have g4 := full_ok (s := strOfNums ((if s = 2 then inner (encD k) x else []) ++ (encD (k + 1) l ++ more))) (op := x.f0) (deep := deep) hn (by omega) hbd
      have hx := s54_eta x
      -- what stands within
      have g5 : inF f x.f0 deep (strOfNums ((if s = 2 then inner (encD k) x else []) ++ (encD (k + 1) l ++ more)), n + 1, 0) = some (x.f5, x.f6, strOfNums (encD (k + 1) l ++ more), n + 1 + cntD k x.f5 + cntD k x.f6, 0) := by
        by_cases h2 : s = 2
        · have hbk : blk x.f0 = true := blk_iff.mpr (hk.two.mp h2)
          rw [if_pos h2] at hz hf ⊢
          have hdw : wrap64 (deep + 1) = deep + 1 := wrap64_id (by omega) (by omega)
          have hin : inner (encD k) x ++ (encD (k + 1) l ++ more) = encD k x.f5 ++ (((if x.f6.length = 0 then [] else 5 :: encD k x.f6) ++ [11]) ++ (encD (k + 1) l ++ more)) := by unfold inner; simp only [List.append_assoc]
          unfold inF
          rw [if_pos ⟨rfl, hbk⟩, hin, hdw]
          rw [hin] at hz
          unfold inner at hf
          simp only [List.length_append, List.length_cons, List.length_nil] at hf
          have hlL := encD_len k _ hL
          have hlE := encD_len k _ hE
          have hnL := cnt_len k _ hL
          have hnE := cnt_len k _ hE
          by_cases h6 : x.f6.length = 0
          · have h6' : x.f6 = [] := List.length_eq_zero_iff.mp h6
            rw [if_pos h6] at hz hf ⊢
            simp only [List.nil_append, List.singleton_append] at hz ⊢
            have hrr : Rng (11 :: (encD (k + 1) l ++ more)) := Rng.cons (by omega) (hrl.app hr)
            obtain ⟨f', ef, hq⟩ := ih x.f5 hL f (n + 1) (deep + 1) [] _ hrr (sm_app (sm_app hz)) (by omega) (by omega) (by omega) (by omega) (by omega) (by simp; omega)
            obtain ⟨f', rfl⟩ : ∃ q, f' = q + 1 := ⟨f' - 1, by omega⟩
            rw [hq, listL_end hrr (.inl rfl)]
            simp only [Option.bind_some, Int.reduceEq, if_false, List.nil_append]
            rw [h6']
            have c0 : cntD k ([] : List S54) = 0 := by cases k <;> rfl
            rw [c0]
            simp
          · have h4 : x.f0 = 4 := by
              subst h2
              rcases may_block hm with h | h
              · exact h
              · rw [h] at h6; simp at h6
            rw [if_neg h6] at hz hf ⊢
            simp only [List.cons_append, List.append_assoc, List.nil_append] at hz ⊢
            have hrr2 : Rng (11 :: (encD (k + 1) l ++ more)) := Rng.cons (by omega) (hrl.app hr)
            have hrr : Rng (5 :: (encD k x.f6 ++ 11 :: (encD (k + 1) l ++ more))) := Rng.cons (by omega) (hrE.app hrr2)
            have hzz := sm_app (sm_app hz)
            obtain ⟨f', ef, hq⟩ := ih x.f5 hL f (n + 1) (deep + 1) [] _ hrr hzz (by simp only [List.length_cons] at hf; omega) (by omega) (by omega) (by omega) (by omega) (by simp; omega)
            obtain ⟨f', rfl⟩ : ∃ q, f' = q + 1 := ⟨f' - 1, by simp only [List.length_cons] at hf; omega⟩
            rw [hq, listL_end hrr (.inr rfl)]
            simp only [Option.bind_some, if_true]
            rw [if_pos h4]
            simp only [Option.bind_some]
            have hzE : Sm (encD k x.f6 ++ 11 :: (encD (k + 1) l ++ more)) := sm_le (sm_app hzz) (by simp only [List.length_append, List.length_cons]; omega)
            obtain ⟨f2, ef2, hq2⟩ := ih x.f6 hE f (n + 1 + cntD k x.f5) (deep + 1) [] _ hrr2 hzE (by simp only [List.length_cons] at hf; omega) (by omega) (by omega) (by omega) (by omega) (by simp; omega)
            obtain ⟨f2, rfl⟩ : ∃ q, f2 = q + 1 := ⟨f2 - 1, by simp only [List.length_cons] at hf; omega⟩
            rw [hq2, listL_end hrr2 (.inl rfl)]
            simp
        · have hbk : ¬ blk x.f0 = true := fun h => h2 (hk.two.mpr (blk_iff.mp h))
          obtain ⟨e5, e6⟩ := may_leaf hk hm h2
          unfold inF
          rw [if_neg (fun h => hbk h.2), if_neg h2, e5, e6]
          have c0 : cntD k ([] : List S54) = 0 := by cases k <;> rfl
          rw [c0]
          simp
      rw [listL_step g1 gc g2 g3 g4 g5 (by omega), hx]
      have hzl : Sm (encD (k + 1) l ++ more) := sm_app (sm_app (sm_app hz))
      obtain ⟨f', ef, hq⟩ := ihl hl' f (n + 1 + cntD k x.f5 + cntD k x.f6) deep (acc ++ [x]) more hr hzl (by omega) (by omega) (by omega) hd hdk (by simp only [List.length_append, List.length_singleton]; omega)
      refine ⟨f', by simp only [List.length_cons]; omega, ?_⟩
      rw [hq]
      simp only [List.append_assoc, List.singleton_append]
      congr 3
      omega
end Go.Proofs.Ytckhlbpjehbnlaa.PB
