/- Layer 1: the statements over the printed functions. -/
import Derived.Test.YtmoeibghjejneaaLebR
namespace Go.Proofs.Ytmoeibghjejneaa.LebL
set_option linter.unusedVariables false
set_option linter.unusedSimpArgs false
open Go.RowKit Go.Proofs.Ytmoeibghjejneaa.PA Go.Proofs.YtmoeibghjejneaaW.PrintWords Go.Proofs.YtmoeibghjejneaaW.PrintLast Go.Proofs.YtmoeibghjejneaaW.PrintMore
open Go.Proofs.Ytmoeibghjejneaa.Str Go.Proofs.Ytmoeibghjejneaa.LebS Go.Proofs.Ytmoeibghjejneaa.LebF Go.Proofs.Ytmoeibghjejneaa.LebT Go.Proofs.Ytmoeibghjejneaa.LebR

theorem resU_none : resU none = (0, ⟨#[]⟩, 2) := rfl
theorem resU_some (v : Int) (r : List Int) : resU (some (v, r)) = (v, strOfNums r, 0) := rfl
theorem resS_good (l : List Int) {b : Int} (h : b = 32 ∨ b = 33 ∨ b = 64) : resS l b = resU (takeS l b) := by unfold resS; rw [if_pos h]

theorem puts : scarflaw01_LebPuts.Pure := by
  intro n hn
  obtain ⟨h0, h1⟩ := wf64 hn
  refine ⟨60, ?_⟩
  unfold scarflaw01_LebPuts.f
  rw [PutU_eq n h1 60 (by omega), rPutU_eq n h1 60 (by omega), PutS_eq n h0 h1 60 (by omega), rPutS_eq n h0 h1 60 (by omega), awake_eq 60 (by omega)]
  simp only [Option.bind_some, if_true]

theorem bits : scarflaw01_LebBits.Pure := by
  intro s hs
  refine ⟨60, ?_⟩
  unfold scarflaw01_LebBits.f
  rw [TakeS_eq s hs 32 60 (by omega), TakeS_eq s hs 33 60 (by omega), TakeS_eq s hs 64 60 (by omega), resS_good _ (by omega), resS_good _ (by omega), resS_good _ (by omega)]
  have ha := awake_eq 59 (by omega)
  cases h32 : takeS (bytesOf s) 32 with
  | none =>
    cases h33 : takeS (bytesOf s) 33 with
    | none =>
      simp only [resU, Option.bind_some, Int.reduceEq, if_false]
      rw [scarflaw01_LebBits.j0]
      simp only [Int.reduceEq, if_false, Bool.false_eq_true, ha, Option.bind_some]
    | some p =>
      obtain ⟨v, r⟩ := p
      rw [takeS_up (.inr ⟨rfl, rfl⟩) h33]
      have hf := takeS_wf h33
      unfold fitsS at hf
      have h1 : v ≥ -4294967296 := by omega
      have h2 : v < 4294967296 := by omega
      simp only [resU, Option.bind_some, Int.reduceEq, if_false]
      rw [scarflaw01_LebBits.j0]
      simp only [Int.reduceEq, if_false, if_true, Bool.false_eq_true, ha, Option.bind_some, h1, h2]
  | some p =>
    obtain ⟨v, r⟩ := p
    have h33 := takeS_up (.inl ⟨rfl, rfl⟩) h32
    rw [h33, takeS_up (.inr ⟨rfl, rfl⟩) h33]
    have hf := takeS_wf h32
    unfold fitsS at hf
    have h1 : v ≥ -4294967296 := by omega
    have h2 : v < 4294967296 := by omega
    have h3 : v ≥ -2147483648 := by omega
    have h4 : v < 2147483648 := by omega
    simp only [resU, Option.bind_some, if_true, bne_self_eq_false]
    rw [scarflaw01_LebBits.j0]
    simp only [if_false, if_true, Bool.false_eq_true, ha, Option.bind_some, h1, h2, h3, h4]

theorem takes : scarflaw01_LebTakes.Pure := by
  intro s b hs hb
  refine ⟨60, ?_⟩
  unfold scarflaw01_LebTakes.f
  rw [TakeU_eq s hs 60 (by omega), rTakeU_eq s hs 60 (by omega), TakeS_eq s hs b 60 (by omega), rTakeS_eq s hs b 60 (by omega), awake_eq _ (by omega)]
  simp only [Option.bind_some, if_true]

theorem app_bytes {l : List Int} (hl : ∀ x ∈ l, 0 ≤ x ∧ x < 256) (s : ByteArray) : bytesOf (strOfNums l ++ s) = l ++ bytesOf s := by
  rw [bytes_append, bytes_of hl]

theorem app_size (l : List Int) (s : ByteArray) : (strOfNums l ++ s).size = l.length + s.size := by
  rw [size_bytes, bytes_append, List.length_append, bytesOf_length, bytesOf_length, strOfNums_size]

theorem empty_toList : (⟨#[]⟩ : ByteArray).toList = [] := by decide +kernel
theorem empty_nums : (strOfNums []).toList = [] := by decide +kernel

theorem back_j2 (n : Int) (more : ByteArray) (h1 : n < 9223372036854775808) (hm : more.size ≤ 1000) (k : Nat) (hk : 40 ≤ k) : scarflaw01_LebBack.j2 k n more = some true := by
  obtain ⟨k, rfl⟩ : ∃ m, k = m + 1 := ⟨k - 1, by omega⟩
  have ha := awake_eq k (by omega)
  rw [scarflaw01_LebBack.j2]
  have hl := puZ_len n h1
  by_cases h : n < 0
  · have e : puZ n = [] := by unfold puZ; rw [if_pos h]
    rw [if_pos h, PutU_eq n h1 k (by omega), e]
    simp only [Option.bind_some, empty_nums, if_true, ha]
  · have hz : (strOfNums (puZ n)).size + more.size ≤ 9223372036854775807 := by rw [strOfNums_size]; omega
    have e : puZ n = pu n.toNat := by unfold puZ; rw [if_neg h]
    rw [if_neg h, PutU_eq n h1 k (by omega)]
    simp only [Option.bind_some, hz, if_true]
    rw [TakeU_eq _ (by have := app_size (puZ n) more; omega) k (by omega), app_bytes (puZ_range n), e, takeU_pu]
    by_cases h2 : n ≥ 4294967296
    · rw [if_neg (by omega)]
      simp only [resU, Option.bind_some, if_true, empty_toList, ha, h2]
    · have hn : ((n.toNat : Nat) : Int) = n := by omega
      rw [if_pos (by omega)]
      simp only [resU, Option.bind_some, if_true, if_false, str_of, hn, ha, h2]

theorem back_j1 (n : Int) (more : ByteArray) (h1 : n < 9223372036854775808) (hm : more.size ≤ 1000) (k : Nat) (hk : 41 ≤ k) (b : Bool) (x : Int × ByteArray × Int)
    (h : b = true ∧ x = (0, ⟨#[]⟩, 2) ∨ b = false ∧ x = (n, more, 0)) : scarflaw01_LebBack.j1 k n more x.1 x.2.1 x.2.2 b = some true := by
  obtain ⟨k, rfl⟩ : ∃ m, k = m + 1 := ⟨k - 1, by omega⟩
  have hj := back_j2 n more h1 hm k (by omega)
  rw [scarflaw01_LebBack.j1]
  rcases h with ⟨rfl, rfl⟩ | ⟨rfl, rfl⟩
  · simp only [if_true, empty_toList, hj]
  · simp only [if_true, Bool.false_eq_true, if_false, hj]

theorem back : scarflaw01_LebBack.Pure := by
  intro n more hn hs
  obtain ⟨h0, h1⟩ := wf64 hn
  refine ⟨60, ?_⟩
  unfold scarflaw01_LebBack.f
  by_cases hm : (more.size : Int) > 1000
  · rw [if_pos hm, awake_eq _ (by omega)]; rfl
  · have hr := ps_range _ n (Nat.le_refl _)
    have hl : (ps n).length ≤ 10 := ps_len 9 n (by omega) (by omega)
    have hz : (strOfNums (ps n)).size + more.size ≤ 9223372036854775807 := by rw [strOfNums_size]; omega
    have hb : (strOfNums (ps n) ++ more).size ≤ 140737488351232 := by rw [app_size]; omega
    have t64 := TakeS_eq (strOfNums (ps n) ++ more) hb 64 60 (by omega)
    rw [resS_good _ (by omega), app_bytes hr, takeS_ps n h0 h1] at t64
    have t32 := TakeS_eq (strOfNums (ps n) ++ more) hb 32 59 (by omega)
    rw [resS_good _ (by omega), app_bytes hr, takeS_ps32 n] at t32
    rw [if_neg hm, PutS_eq n h0 h1 60 (by omega)]
    simp only [Option.bind_some, hz, if_true, t64, resU, str_of, bne_self_eq_false]
    rw [scarflaw01_LebBack.j0, PutS_eq n h0 h1 59 (by omega)]
    simp only [Bool.false_eq_true, if_false, Option.bind_some, hz, if_true, t32]
    by_cases h2 : -2147483648 ≤ n ∧ n < 2147483648
    · rw [if_pos h2, if_neg (by omega)]
      refine back_j1 n more h1 (by omega) 59 (by omega) _ _ (.inr ⟨by simp; omega, ?_⟩)
      simp only [resU]
      rw [str_of]
    · rw [if_neg h2]
      by_cases h3 : n < -2147483648
      · rw [if_pos h3]
        exact back_j1 n more h1 (by omega) 59 (by omega) _ _ (.inl ⟨rfl, rfl⟩)
      · rw [if_neg h3]
        exact back_j1 n more h1 (by omega) 59 (by omega) _ _ (.inl ⟨by simp; omega, rfl⟩)

theorem short : scarflaw01_LebShort.Pure := by
  intro s hs
  refine ⟨60, ?_⟩
  unfold scarflaw01_LebShort.f
  have ha := awake_eq 59 (by omega)
  have hj : scarflaw01_LebShort.j0 60 s false = some true := by
    rw [scarflaw01_LebShort.j0, TakeS_eq s hs 64 59 (by omega), resS_good _ (by omega)]
    cases h : takeS (bytesOf s) 64 with
    | none => simp only [resU, Option.bind_some, Int.reduceEq, if_false, Bool.false_eq_true, ha]
    | some p =>
      obtain ⟨v, r⟩ := p
      have hl := takeS_len h
      have hb := takeS_range h
      rw [bytesOf_length] at hl
      have hp := ps_pos v
      have hc : ¬ (((strOfNums (ps v)).size : Int) > wrap64 ((s.size : Int) - ((strOfNums r).size : Int))) := by
        rw [strOfNums_size, strOfNums_size, wrap64_id (by omega) (by omega)]; omega
      simp only [resU, Option.bind_some, if_false, if_true, Bool.false_eq_true, PutS_eq v hb.1 hb.2 59 (by omega), hc, ha]
  rw [TakeU_eq s hs 60 (by omega)]
  cases h : takeU (bytesOf s) with
  | none => simp only [resU, Option.bind_some, Int.reduceEq, if_false, hj]
  | some p =>
    obtain ⟨v, r⟩ := p
    obtain ⟨h0, h1, hl, hl2, _⟩ := takeU_len h
    rw [bytesOf_length] at hl
    have e : puZ v = pu v.toNat := by unfold puZ; rw [if_neg (by omega)]
    have hp := pu_pos v.toNat
    have hc : decide (((strOfNums (pu v.toNat)).size : Int) > wrap64 ((s.size : Int) - ((strOfNums r).size : Int))) = false := by
      rw [strOfNums_size, strOfNums_size, wrap64_id (by omega) (by omega)]; simp; omega
    simp only [resU, Option.bind_some, if_true, PutU_eq v (by omega) 60 (by omega), e, hc, hj]

/-! ### bytes -/
def takeB (l : List Int) : Option (List Int × List Int) :=
  match takeU l with
  | none => none
  | some (n, r) => if n > (r.length : Int) then none else some (r.take n.toNat, r.drop n.toNat)
def resB : Option (List Int × List Int) → ByteArray × ByteArray × Int
  | none => (⟨#[]⟩, ⟨#[]⟩, 2)
  | some (a, b) => (strOfNums a, strOfNums b, 0)

theorem TakeB_any (f : Nat → ByteArray → Option (Int × ByteArray × Int)) (s : ByteArray) (k : Nat) (hf : f k s = some (resU (takeU (bytesOf s)))) :
    ((f k s).bind fun bt200 => (if bt200.2.2 = 0 then (if bt200.1 > (bt200.2.1.size : Int) then (some ((⟨#[]⟩ : ByteArray), (⟨#[]⟩ : ByteArray), (2 : Int))) else (if 0 ≤ bt200.1 then (if bt200.1 ≤ (bt200.2.1.size : Int) then (some (bt200.2.1.extract 0 (bt200.1 : Int).toNat, bt200.2.1.extract (bt200.1 : Int).toNat bt200.2.1.size, 0)) else (none)) else (none))) else (some ((⟨#[]⟩ : ByteArray), (⟨#[]⟩ : ByteArray), 2))))
      = some (resB (takeB (bytesOf s))) := by
  rw [hf, Option.bind_some]
  unfold takeB
  cases h : takeU (bytesOf s) with
  | none =>
    rw [resU_none]
    simp only [Int.reduceEq, if_false, resB]
  | some p =>
    obtain ⟨v, r⟩ := p
    obtain ⟨h0, h1, _, _, n, hn⟩ := takeU_len h
    have hr : ∀ x ∈ r, 0 ≤ x ∧ x < 256 := by
      rw [hn]; intro x hx; exact bytes_range s x (List.mem_of_mem_drop hx)
    rw [resU_some]
    have hs := strOfNums_size r
    by_cases h2 : v > (r.length : Int)
    · have h2' : v > ((strOfNums r).size : Int) := by omega
      simp only [if_true, h2, h2', resB]
    · have h2' : ¬ v > ((strOfNums r).size : Int) := by omega
      have h3 : v ≤ ((strOfNums r).size : Int) := by omega
      simp only [if_true, if_false, h2, h2', h0, h3, resB]
      refine congrArg some (Prod.ext ?_ (Prod.ext ?_ rfl))
      · simp only
        apply bytes_inj
        rw [bytes_head, bytes_of hr, bytes_of (fun x hx => hr x (List.mem_of_mem_take hx))]
      · simp only
        apply bytes_inj
        rw [bytes_rest, bytes_of hr, bytes_of (fun x hx => hr x (List.mem_of_mem_drop hx))]

theorem TakeBytes_eq (s : ByteArray) (hs : s.size ≤ 140737488351232) (k : Nat) (hk : 22 ≤ k) : leb_TakeBytes.f k s = some (resB (takeB (bytesOf s))) :=
  TakeB_any leb_TakeU.f s k (TakeU_eq s hs k hk)
theorem rTakeBytes_eq (s : ByteArray) (hs : s.size ≤ 140737488351232) (k : Nat) (hk : 22 ≤ k) : scarfref01_TakeBytes.f k s = some (resB (takeB (bytesOf s))) :=
  TakeB_any scarfref01_TakeU.f s k (rTakeU_eq s hs k hk)

theorem PutBytes_eq (s : ByteArray) (hs : s.size ≤ 140737488351232) (k : Nat) (hk : 12 ≤ k) : leb_PutBytes.f k s = some (strOfNums (pu s.size) ++ s) := by
  unfold leb_PutBytes.f
  have hl := puZ_len (s.size : Int) (by omega)
  have e : puZ (s.size : Int) = pu s.size := by unfold puZ; rw [if_neg (by omega)]; rfl
  rw [PutU_eq _ (by omega) k hk]
  simp only [Option.bind_some]
  rw [if_pos (by have := strOfNums_size (puZ (s.size : Int)); omega), e]
theorem rPutBytes_eq (s : ByteArray) (hs : s.size ≤ 140737488351232) (k : Nat) (hk : 12 ≤ k) : scarfref01_PutBytes.f k s = some (strOfNums (pu s.size) ++ s) := by
  unfold scarfref01_PutBytes.f
  have hl := puZ_len (s.size : Int) (by omega)
  have e : puZ (s.size : Int) = pu s.size := by unfold puZ; rw [if_neg (by omega)]; rfl
  rw [rPutU_eq _ (by omega) k hk]
  simp only [Option.bind_some]
  rw [if_pos (by have := strOfNums_size (puZ (s.size : Int)); omega), e]

theorem takeB_put (l more : List Int) (h : l.length < 4294967296) : takeB (pu l.length ++ l ++ more) = some (l, more) := by
  unfold takeB
  rw [List.append_assoc, takeU_pu, if_pos h]
  simp only
  rw [if_neg (by rw [List.length_append]; omega), show ((l.length : Int)).toNat = l.length by omega, List.take_left, List.drop_left]

theorem bytes : scarflaw01_LebBytes.Pure := by
  intro s more hs hm
  refine ⟨60, ?_⟩
  unfold scarflaw01_LebBytes.f
  have ha := awake_eq 60 (by omega)
  rw [wrap64_id (by omega) (by omega)]
  by_cases h : (s.size : Int) + (more.size : Int) > 5000
  · rw [if_pos h, ha]; rfl
  · have hl := pu_len 8 s.size (by omega)
    have hz : (strOfNums (pu s.size) ++ s).size = (pu s.size).length + s.size := app_size _ _
    have hz2 : (strOfNums (pu s.size) ++ s).size + more.size ≤ 9223372036854775807 := by omega
    have hz3 : (strOfNums (pu s.size) ++ s ++ more).size ≤ 140737488351232 := by
      rw [size_bytes, bytes_append, List.length_append, bytesOf_length, bytesOf_length]; omega
    have ht : takeB (pu s.size ++ bytesOf s ++ bytesOf more) = some (bytesOf s, bytesOf more) := by
      have := takeB_put (bytesOf s) (bytesOf more) (by rw [bytesOf_length]; omega)
      rwa [bytesOf_length] at this
    have h3 := TakeBytes_eq (strOfNums (pu s.size) ++ s ++ more) hz3 60 (by omega)
    rw [bytes_append, app_bytes (pu_range _), ht] at h3
    rw [if_neg h, TakeBytes_eq more hm 60 (by omega), rTakeBytes_eq more hm 60 (by omega), PutBytes_eq s hs 60 (by omega), rPutBytes_eq s hs 60 (by omega)]
    simp only [Option.bind_some, hz2, if_true, h3, resB, str_of, ha]

/-! ### rows -/
def takeN : Nat → List Int → Option (List Int × List Int)
  | 0, l => some ([], l)
  | n + 1, l => match takeU l with
    | none => none
    | some (v, r) => match takeN n r with
      | none => none
      | some (a, b) => some (v :: a, b)
def takeA (l : List Int) (most : Int) : List Int × ByteArray × Int :=
  match takeU l with
  | none => ([], ⟨#[]⟩, 2)
  | some (n, r) => if n > most then ([], ⟨#[]⟩, 14) else match takeN n.toNat r with
    | none => ([], ⟨#[]⟩, 2)
    | some (a, b) => (a, strOfNums b, 0)
def resN (acc : List Int) : Option (List Int × List Int) → List Int × ByteArray × Int
  | none => ([], ⟨#[]⟩, 2)
  | some (a, b) => (acc ++ a, strOfNums b, 0)

theorem TakeAll_l0 : ∀ (m : Nat) (s : ByteArray) (acc : List Int) (n i k : Nat), s.size ≤ m → i ≤ n → n < 4294967296 → s.size ≤ 140737488351232 → acc.length + m ≤ 10000000 → m + 40 ≤ k →
    leb_TakeAll.l0 k s acc (n : Int) (i : Int) = some (resN acc (takeN (n - i) (bytesOf s))) := by
  intro m
  induction m with
  | zero =>
    intro s acc n i k hm hi hn hs ha hk
    obtain ⟨k, rfl⟩ : ∃ m, k = m + 1 := ⟨k - 1, by omega⟩
    have hb : bytesOf s = [] := bytes_nil_iff.2 (by omega)
    rw [leb_TakeAll.l0]
    by_cases h : i < n
    · obtain ⟨j, hj⟩ : ∃ j, n - i = j + 1 := ⟨n - i - 1, by omega⟩
      have ht : takeU [] = none := by simp [takeU, len]
      rw [if_pos (by omega), TakeU_eq s hs k (by omega), hj, hb, ht, resU_none]
      simp only [Option.bind_some, takeN, ht, Int.reduceEq, if_false, resN]
    · rw [if_neg (by omega), show n - i = 0 by omega]
      simp only [takeN, resN, List.append_nil, str_of]
  | succ m ih =>
    intro s acc n i k hm hi hn hs ha hk
    obtain ⟨k, rfl⟩ : ∃ m, k = m + 1 := ⟨k - 1, by omega⟩
    rw [leb_TakeAll.l0]
    by_cases h : i < n
    · obtain ⟨j, hj⟩ : ∃ j, n - i = j + 1 := ⟨n - i - 1, by omega⟩
      have hnj : n - (i + 1) = j := by omega
      rw [if_pos (by omega), TakeU_eq s hs k (by omega), hj]
      cases ht : takeU (bytesOf s) with
      | none =>
        rw [resU_none]
        simp only [Option.bind_some, takeN, ht, Int.reduceEq, if_false, resN]
      | some p =>
        obtain ⟨v, r⟩ := p
        obtain ⟨h0, h1, _, hlt, d, hd⟩ := takeU_len ht
        rw [bytesOf_length] at hlt
        have hr : ∀ x ∈ r, 0 ≤ x ∧ x < 256 := by
          rw [hd]; intro x hx; exact bytes_range s x (List.mem_of_mem_drop hx)
        rw [resU_some]
        have hi1 : wrap64 ((i : Int) + 1) = ((i + 1 : Nat) : Int) := by rw [wrap64_id (by omega) (by omega)]; omega
        have ha2 : acc.length < 17592186044416 := by omega
        simp only [Option.bind_some, takeN, ht, if_true, ha2]
        rw [hi1, ih (strOfNums r) (acc ++ [v]) n (i + 1) k (by have := strOfNums_size r; omega) h hn (by have := strOfNums_size r; omega) (by rw [List.length_append, List.length_singleton]; omega) (by omega),
          bytes_of hr, hnj]
        cases takeN j r with
        | none => rfl
        | some q => obtain ⟨a, b⟩ := q; simp [resN]
    · rw [if_neg (by omega), show n - i = 0 by omega]
      simp only [takeN, resN, List.append_nil, str_of]

theorem rTakeAll_l0 : ∀ (m : Nat) (s : ByteArray) (acc : List Int) (n i k : Nat), s.size ≤ m → i ≤ n → n < 4294967296 → s.size ≤ 140737488351232 → acc.length + m ≤ 10000000 → m + 40 ≤ k →
    scarfref01_TakeAll.l0 k (n : Int) s acc (i : Int) = some (resN acc (takeN (n - i) (bytesOf s))) := by
  intro m
  induction m with
  | zero =>
    intro s acc n i k hm hi hn hs ha hk
    obtain ⟨k, rfl⟩ : ∃ m, k = m + 1 := ⟨k - 1, by omega⟩
    have hb : bytesOf s = [] := bytes_nil_iff.2 (by omega)
    rw [scarfref01_TakeAll.l0]
    by_cases h : i < n
    · obtain ⟨j, hj⟩ : ∃ j, n - i = j + 1 := ⟨n - i - 1, by omega⟩
      have ht : takeU [] = none := by simp [takeU, len]
      rw [if_pos (by omega), rTakeU_eq s hs k (by omega), hj, hb, ht, resU_none]
      simp only [Option.bind_some, takeN, ht, Int.reduceEq, if_false, resN]
    · rw [if_neg (by omega), show n - i = 0 by omega]
      simp only [takeN, resN, List.append_nil, str_of]
  | succ m ih =>
    intro s acc n i k hm hi hn hs ha hk
    obtain ⟨k, rfl⟩ : ∃ m, k = m + 1 := ⟨k - 1, by omega⟩
    rw [scarfref01_TakeAll.l0]
    by_cases h : i < n
    · obtain ⟨j, hj⟩ : ∃ j, n - i = j + 1 := ⟨n - i - 1, by omega⟩
      have hnj : n - (i + 1) = j := by omega
      rw [if_pos (by omega), rTakeU_eq s hs k (by omega), hj]
      cases ht : takeU (bytesOf s) with
      | none =>
        rw [resU_none]
        simp only [Option.bind_some, takeN, ht, Int.reduceEq, if_false, resN]
      | some p =>
        obtain ⟨v, r⟩ := p
        obtain ⟨h0, h1, _, hlt, d, hd⟩ := takeU_len ht
        rw [bytesOf_length] at hlt
        have hr : ∀ x ∈ r, 0 ≤ x ∧ x < 256 := by
          rw [hd]; intro x hx; exact bytes_range s x (List.mem_of_mem_drop hx)
        rw [resU_some]
        have hi1 : wrap64 ((i : Int) + 1) = ((i + 1 : Nat) : Int) := by rw [wrap64_id (by omega) (by omega)]; omega
        have ha2 : acc.length < 17592186044416 := by omega
        simp only [Option.bind_some, takeN, ht, if_true, ha2]
        rw [hi1, ih (strOfNums r) (acc ++ [v]) n (i + 1) k (by have := strOfNums_size r; omega) h hn (by have := strOfNums_size r; omega) (by rw [List.length_append, List.length_singleton]; omega) (by omega),
          bytes_of hr, hnj]
        cases takeN j r with
        | none => rfl
        | some q => obtain ⟨a, b⟩ := q; simp [resN]
    · rw [if_neg (by omega), show n - i = 0 by omega]
      simp only [takeN, resN, List.append_nil, str_of]

theorem TakeAll_eq (s : ByteArray) (most : Int) (hs : s.size ≤ 1000000) (k : Nat) (hk : s.size + 60 ≤ k) : leb_TakeAll.f k s most = some (takeA (bytesOf s) most) := by
  unfold leb_TakeAll.f takeA
  rw [TakeU_eq s (by omega) k (by omega)]
  cases ht : takeU (bytesOf s) with
  | none =>
    rw [resU_none]
    simp only [Option.bind_some, Int.reduceEq, if_false]
  | some p =>
    obtain ⟨v, r⟩ := p
    obtain ⟨h0, h1, _, hlt, d, hd⟩ := takeU_len ht
    rw [bytesOf_length] at hlt
    have hr : ∀ x ∈ r, 0 ≤ x ∧ x < 256 := by
      rw [hd]; intro x hx; exact bytes_range s x (List.mem_of_mem_drop hx)
    rw [resU_some]
    simp only [Option.bind_some, if_true]
    by_cases hm : v > most
    · rw [if_pos hm, if_pos hm]
    · rw [if_neg hm, if_neg hm]
      have := TakeAll_l0 r.length (strOfNums r) [] v.toNat 0 k (by have := strOfNums_size r; omega) (by omega) (by omega) (by have := strOfNums_size r; omega) (by simp; omega) (by omega)
      rw [show ((v.toNat : Nat) : Int) = v by omega, bytes_of hr, Nat.sub_zero] at this
      rw [show ((0 : Nat) : Int) = 0 from rfl] at this
      rw [this]
      cases takeN v.toNat r with
      | none => rfl
      | some q => obtain ⟨a, b⟩ := q; simp [resN]

theorem rTakeAll_eq (s : ByteArray) (most : Int) (hs : s.size ≤ 1000000) (k : Nat) (hk : s.size + 60 ≤ k) : scarfref01_TakeAll.f k s most = some (takeA (bytesOf s) most) := by
  unfold scarfref01_TakeAll.f takeA
  rw [rTakeU_eq s (by omega) k (by omega)]
  cases ht : takeU (bytesOf s) with
  | none =>
    rw [resU_none]
    simp only [Option.bind_some, Int.reduceEq, if_false]
  | some p =>
    obtain ⟨v, r⟩ := p
    obtain ⟨h0, h1, _, hlt, d, hd⟩ := takeU_len ht
    rw [bytesOf_length] at hlt
    have hr : ∀ x ∈ r, 0 ≤ x ∧ x < 256 := by
      rw [hd]; intro x hx; exact bytes_range s x (List.mem_of_mem_drop hx)
    rw [resU_some]
    simp only [Option.bind_some, if_true]
    by_cases hm : v > most
    · rw [if_pos hm, if_pos hm]
    · rw [if_neg hm, if_neg hm]
      have := rTakeAll_l0 r.length (strOfNums r) [] v.toNat 0 k (by have := strOfNums_size r; omega) (by omega) (by omega) (by have := strOfNums_size r; omega) (by simp; omega) (by omega)
      rw [show ((v.toNat : Nat) : Int) = v by omega, bytes_of hr, Nat.sub_zero] at this
      rw [show ((0 : Nat) : Int) = 0 from rfl] at this
      rw [this]
      cases takeN v.toNat r with
      | none => rfl
      | some q => obtain ⟨a, b⟩ := q; simp [resN]

/-- Numbers laid one behind the other. -/
def putL : List Int → List Int
  | [] => []
  | x :: l => puZ x ++ putL l

theorem putL_range (l : List Int) : ∀ x ∈ putL l, 0 ≤ x ∧ x < 256 := by
  induction l with
  | nil => intro x hx; cases hx
  | cons a l ih =>
    intro x hx
    rcases List.mem_append.1 hx with h | h
    · exact puZ_range a x h
    · exact ih x h

theorem putL_len (l : List Int) (hl : ∀ x ∈ l, (Lit.int .i64 x).wf = true) : (putL l).length ≤ 9 * l.length := by
  induction l with
  | nil => simp [putL]
  | cons a l ih =>
    have := puZ_len a (wf64 (hl a (by simp))).2
    have := ih (fun x hx => hl x (by simp [hx]))
    simp only [putL, List.length_append, List.length_cons]
    omega

theorem PutAll_l0 (l : List Int) (hl : ∀ x ∈ l, (Lit.int .i64 x).wf = true) (hn : l.length ≤ 1000000) :
    ∀ (m i : Nat) (acc : List Int) (k : Nat), i + m = l.length → acc.length + 9 * m ≤ 100000000 → m + 20 ≤ k →
      leb_PutAll.l0 k (strOfNums acc) l (l.length : Int) (i : Int) = some (strOfNums (acc ++ putL (l.drop i))) := by
  intro m
  induction m with
  | zero =>
    intro i acc k hi ha hk
    obtain ⟨k, rfl⟩ : ∃ m, k = m + 1 := ⟨k - 1, by omega⟩
    rw [leb_PutAll.l0, if_neg (by omega), List.drop_eq_nil_of_le (by omega), putL, List.append_nil]
  | succ m ih =>
    intro i acc k hi ha hk
    obtain ⟨k, rfl⟩ : ∃ m, k = m + 1 := ⟨k - 1, by omega⟩
    have hlt : i < l.length := by omega
    have hw := wf64 (hl _ (getD_mem hlt))
    have hz := puZ_len (l.getD i 0) hw.2
    have e : rd l (i : Int) = l.getD i 0 := by simp [rd]
    have hi1 : wrap64 ((i : Int) + 1) = ((i + 1 : Nat) : Int) := by rw [wrap64_id (by omega) (by omega)]; omega
    rw [leb_PutAll.l0, if_pos (by omega), if_pos (by omega), if_pos (by omega), e, PutU_eq _ hw.2 k (by omega)]
    simp only [Option.bind_some]
    rw [if_pos (by rw [strOfNums_size, strOfNums_size]; omega), ← strOfNums_append, hi1, ih (i + 1) _ k (by omega) (by rw [List.length_append]; omega) (by omega), drop_cons hlt, putL, List.append_assoc]

theorem rPutAll_l0 (l : List Int) (hl : ∀ x ∈ l, (Lit.int .i64 x).wf = true) (hn : l.length ≤ 1000000) :
    ∀ (m i : Nat) (acc : List Int) (k : Nat), i + m = l.length → acc.length + 9 * m ≤ 100000000 → m + 20 ≤ k →
      scarfref01_PutAll.l0 k l (strOfNums acc) (i : Int) = some (strOfNums (acc ++ putL (l.drop i))) := by
  intro m
  induction m with
  | zero =>
    intro i acc k hi ha hk
    obtain ⟨k, rfl⟩ : ∃ m, k = m + 1 := ⟨k - 1, by omega⟩
    rw [scarfref01_PutAll.l0, if_neg (by omega), List.drop_eq_nil_of_le (by omega), putL, List.append_nil]
  | succ m ih =>
    intro i acc k hi ha hk
    obtain ⟨k, rfl⟩ : ∃ m, k = m + 1 := ⟨k - 1, by omega⟩
    have hlt : i < l.length := by omega
    have hw := wf64 (hl _ (getD_mem hlt))
    have hz := puZ_len (l.getD i 0) hw.2
    have e : rd l (i : Int) = l.getD i 0 := by simp [rd]
    have hi1 : wrap64 ((i : Int) + 1) = ((i + 1 : Nat) : Int) := by rw [wrap64_id (by omega) (by omega)]; omega
    rw [scarfref01_PutAll.l0, if_pos (by omega), if_pos (by omega), e, rPutU_eq _ hw.2 k (by omega)]
    simp only [Option.bind_some]
    rw [if_pos (by rw [strOfNums_size, strOfNums_size]; omega), ← strOfNums_append, hi1, ih (i + 1) _ k (by omega) (by rw [List.length_append]; omega) (by omega), drop_cons hlt, putL, List.append_assoc]

theorem PutAll_eq (l : List Int) (hl : ∀ x ∈ l, (Lit.int .i64 x).wf = true) (hn : l.length ≤ 1000000) (k : Nat) (hk : l.length + 20 ≤ k) :
    leb_PutAll.f k l = some (strOfNums (pu l.length ++ putL l)) := by
  unfold leb_PutAll.f
  have e : puZ (l.length : Int) = pu l.length := by unfold puZ; rw [if_neg (by omega)]; rfl
  have hz := puZ_len (l.length : Int) (by omega)
  rw [PutU_eq _ (by omega) k (by omega)]
  simp only [Option.bind_some]
  have := PutAll_l0 l hl hn l.length 0 (puZ (l.length : Int)) k (by omega) (by omega) (by omega)
  rw [show ((0 : Nat) : Int) = 0 from rfl] at this
  rw [this, e, List.drop_zero]

theorem rPutAll_eq (l : List Int) (hl : ∀ x ∈ l, (Lit.int .i64 x).wf = true) (hn : l.length ≤ 1000000) (k : Nat) (hk : l.length + 20 ≤ k) :
    scarfref01_PutAll.f k l = some (strOfNums (pu l.length ++ putL l)) := by
  unfold scarfref01_PutAll.f
  have e : puZ (l.length : Int) = pu l.length := by unfold puZ; rw [if_neg (by omega)]; rfl
  have hz := puZ_len (l.length : Int) (by omega)
  rw [rPutU_eq _ (by omega) k (by omega)]
  simp only [Option.bind_some]
  have := rPutAll_l0 l hl hn l.length 0 (puZ (l.length : Int)) k (by omega) (by omega) (by omega)
  rw [show ((0 : Nat) : Int) = 0 from rfl] at this
  rw [this, e, List.drop_zero]

theorem Same_l0 (l : List Int) (hn : l.length ≤ 4611686018427387904) : ∀ (m i k : Nat), i + m = l.length → m + 1 ≤ k → scarfref01_Same.l0 k l l (i : Int) = some true := by
  intro m
  induction m with
  | zero =>
    intro i k hi hk
    obtain ⟨k, rfl⟩ : ∃ m, k = m + 1 := ⟨k - 1, by omega⟩
    rw [scarfref01_Same.l0, if_neg (by omega)]
  | succ m ih =>
    intro i k hi hk
    obtain ⟨k, rfl⟩ : ∃ m, k = m + 1 := ⟨k - 1, by omega⟩
    have hi1 : wrap64 ((i : Int) + 1) = ((i + 1 : Nat) : Int) := by rw [wrap64_id (by omega) (by omega)]; omega
    rw [scarfref01_Same.l0, if_pos (by omega), if_pos (by omega), if_pos (by omega), if_pos rfl, hi1, ih (i + 1) k (by omega) (by omega)]

theorem Same_eq (l : List Int) (hn : l.length ≤ 4611686018427387904) (k : Nat) (hk : l.length + 1 ≤ k) : scarfref01_Same.f k l l = some true := by
  unfold scarfref01_Same.f
  rw [if_pos rfl]
  have := Same_l0 l hn l.length 0 k (by omega) (by omega)
  rwa [show ((0 : Nat) : Int) = 0 from rfl] at this

theorem takeN_len : ∀ (n : Nat) (l a b : List Int), takeN n l = some (a, b) → a.length + b.length ≤ l.length := by
  intro n
  induction n with
  | zero => intro l a b h; simp only [takeN, Option.some.injEq, Prod.mk.injEq] at h; obtain ⟨rfl, rfl⟩ := h; simp
  | succ n ih =>
    intro l a b h
    simp only [takeN] at h
    cases ht : takeU l with
    | none => rw [ht] at h; cases h
    | some p =>
      obtain ⟨v, r⟩ := p
      rw [ht] at h
      simp only at h
      cases hn : takeN n r with
      | none => rw [hn] at h; cases h
      | some q =>
        obtain ⟨a', b'⟩ := q
        rw [hn] at h
        simp only [Option.some.injEq, Prod.mk.injEq] at h
        obtain ⟨rfl, rfl⟩ := h
        have := ih r a' b' hn
        have := takeU_len ht
        simp only [List.length_cons]
        omega

theorem takeA_len (l : List Int) (most : Int) : (takeA l most).1.length ≤ l.length := by
  unfold takeA
  cases ht : takeU l with
  | none => simp
  | some p =>
    obtain ⟨v, r⟩ := p
    have := takeU_len ht
    simp only
    split
    · simp
    · cases hn : takeN v.toNat r with
      | none => simp
      | some q =>
        obtain ⟨a, b⟩ := q
        have := takeN_len _ _ _ _ hn
        simp only
        omega

theorem rows_j0 (l : List Int) (hl : ∀ x ∈ l, (Lit.int .i64 x).wf = true) (s : ByteArray) (most : Int) (hn : l.length ≤ 300) (hs : s.size ≤ 3000) (k : Nat) (hk : 4000 ≤ k) : scarflaw01_LebRows.j0 (k + 1) l s most false = some true := by
  have hA := takeA_len (bytesOf s) most
  rw [bytesOf_length] at hA
  have hS := Same_eq (takeA (bytesOf s) most).1 (by omega) k (by omega)
  have ha := awake_eq k (by omega)
  rw [scarflaw01_LebRows.j0, TakeAll_eq s most (by omega) k (by omega), rTakeAll_eq s most (by omega) k (by omega), PutAll_eq l hl (by omega) k (by omega), rPutAll_eq l hl (by omega) k (by omega)]
  simp only [Bool.false_eq_true, if_false, Option.bind_some, if_true, hS, ha]

theorem rows : scarflaw01_LebRows.Pure := by
  intro l s most _ _ hl hs hm
  suffices h : ∀ k, 4000 ≤ k → scarflaw01_LebRows.f (k + 1) l s most = some true from ⟨_, h 4000 (Nat.le_refl _)⟩
  intro k hk
  unfold scarflaw01_LebRows.f
  have hj : scarflaw01_LebRows.j0 (k + 1) l s most true = some true := by
    rw [scarflaw01_LebRows.j0]
    simp only [if_true, awake_eq k (by omega), Option.bind_some]
  by_cases h : (l.length : Int) > 300
  · rw [if_pos h, hj]
  · rw [if_neg h]
    by_cases h2 : (s.size : Int) > 3000
    · rw [show decide ((s.size : Int) > 3000) = true from decide_eq_true h2, hj]
    · rw [show decide ((s.size : Int) > 3000) = false from decide_eq_false h2]
      exact rows_j0 l hl s most (by omega) (by omega) k hk
end Go.Proofs.Ytmoeibghjejneaa.LebL
