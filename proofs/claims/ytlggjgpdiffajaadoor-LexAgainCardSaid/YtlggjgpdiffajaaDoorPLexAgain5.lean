/- Several texts, laid into one for a claim: LexT, PAx50, LexC, LexA, LexA2, PureLexAgain. -/
import Derived.Test.YtlggjgpdiffajaaDoorPLexAgain4
import Derived.Test.YtlggjgpdiffajaaDoorPLexAgain2
import Derived.Test.YtlggjgpdiffajaaDoorPLexAgain1
import Derived.Test.YtlggjgpdiffajaaDoorPLexAgain3
namespace Go.Proofs.YtlggjgpdiffajaaDoor.LexT
set_option linter.unusedVariables false
set_option linter.unusedSimpArgs false
open Go.RowKit Go.Proofs.YtlggjgpdiffajaaDoor.PA Go.Proofs.YtlggjgpdiffajaaDoorW.PrintWords Go.Proofs.YtlggjgpdiffajaaDoorW.PrintLast Go.Proofs.YtlggjgpdiffajaaDoorW.PrintMore
open Go.Proofs.YtlggjgpdiffajaaDoor.Str Go.Proofs.YtlggjgpdiffajaaDoor.Ev Go.Proofs.YtlggjgpdiffajaaDoor.LexM Go.Proofs.YtlggjgpdiffajaaDoor.LexB Go.Proofs.YtlggjgpdiffajaaDoor.LexK
theorem take_while (q : Int → Bool) (l : List Int) : l.take (l.takeWhile q).length = l.takeWhile q := by
  induction l with
  | nil => rfl
  | cons c l ih =>
    rw [List.takeWhile_cons]
    by_cases h : q c = true
    · rw [if_pos h, List.length_cons, List.take_succ_cons, ih]
    · rw [if_neg h]; rfl
theorem tw_le (q : Int → Bool) (l : List Int) : (l.takeWhile q).length ≤ l.length := by
  have := congrArg List.length (take_while q l)
  rw [List.length_take] at this; omega
/-- A piece of a text. -/
theorem cut_str (x : ByteArray) (a n : Nat) : x.extract a (a + n) = strOfNums (((bytesOf x).drop a).take n) := by
  rw [← str_of (x.extract a (a + n)), bytes_extract, List.drop_take, Nat.add_sub_cancel_left]
theorem cut_bytes (x : ByteArray) (a n : Nat) : bytesOf (x.extract a (a + n)) = ((bytesOf x).drop a).take n := by
  rw [bytes_extract, List.drop_take, Nat.add_sub_cancel_left]
theorem row_l0 (may : Int → Bool) (x : ByteArray) (hx : x.size ≤ 4611686018427387904) : ∀ (m i k : Nat), x.size ≤ i + m → i ≤ x.size → m + 1 ≤ k → lex_row.l0 may k x (i : Int) = some (((i + (((bytesOf x).drop i).takeWhile may).length : Nat)) : Int) := by
  intro m
  induction m with
  | zero =>
    intro i k hm hi hk
    obtain ⟨k, rfl⟩ : ∃ q, k = q + 1 := ⟨k - 1, by omega⟩
    rw [List.drop_of_length_le (by rw [bytesOf_length]; omega), lex_row.l0, if_neg (by omega)]
    rfl
  | succ m ih =>
    intro i k hm hi hk
    obtain ⟨k, rfl⟩ : ∃ q, k = q + 1 := ⟨k - 1, by omega⟩
    by_cases hi' : i = x.size
    · rw [List.drop_of_length_le (by rw [bytesOf_length]; omega), lex_row.l0, if_neg (by omega)]
      rfl
    · rw [drop_cons (by rw [bytesOf_length]; omega), lex_row.l0, if_pos (by omega), if_pos (by omega), bt_nat, List.takeWhile_cons]
      by_cases h : may ((bytesOf x).getD i 0) = true
      · rw [if_pos h, if_pos h, wrap_add1 i (by omega), ih (i + 1) k (by omega) (by omega) (by omega), List.length_cons]
        congr 2; omega
      · rw [if_neg h, if_neg h]; rfl
theorem row_name (x : ByteArray) (hx : x.size ≤ 4611686018427387904) : lex_row.f x 33 = some ((((bytesOf x).takeWhile lxName).length : Nat) : Int) := by
  have := row_l0 lxName x hx x.size 0 (x.size + 1) (by omega) (by omega) (by omega)
  rw [List.drop_zero, Nat.zero_add] at this
  rw [lex_row.f, if_pos rfl]; exact this
theorem row_num (x : ByteArray) (hx : x.size ≤ 4611686018427387904) : lex_row.f x 37 = some ((((bytesOf x).takeWhile lxNum).length : Nat) : Int) := by
  have := row_l0 lxNum x hx x.size 0 (x.size + 1) (by omega) (by omega) (by omega)
  rw [List.drop_zero, Nat.zero_add] at this
  rw [lex_row.f, if_neg (by decide), if_pos rfl]; exact this
/-- The signs. -/
def signs : List Int := [58, 59, 44, 46, 47, 123, 125, 40, 41, 60, 62, 61, 64, 95]
def isSign (c : Int) : Bool := signs.contains c
/-- The token at the beginning: its kind, its text, how long it is there. -/
def tokL : List Int → Option (Int × List Int × Nat)
  | [] => none
  | c :: r =>
    if c = 37 then (if nameOk (r.takeWhile lxName) = true then some (2, r.takeWhile lxName, (r.takeWhile lxName).length + 1) else none)
    else if (lxLo c || lxUp c) = true then (if nameOk ((c :: r).takeWhile lxName) = true then some (1, (c :: r).takeWhile lxName, ((c :: r).takeWhile lxName).length) else none)
    else if lxDi c = true then (if verS ((c :: r).takeWhile lxNum) = true then some (3, (c :: r).takeWhile lxNum, ((c :: r).takeWhile lxNum).length) else none)
    else if pre2 (c :: r) 45 62 = true then some (4, [45, 62], 2)
    else if isSign c = true then some (4, [c], 1) else none
/-- What the program, and what the reference, tells of it. -/
def oneV : Option (Int × List Int × Nat) → Int × ByteArray × Int × Int
  | some (kd, s, n) => (kd, strOfNums s, 0, (n : Int))
  | none => (0, (⟨#[]⟩ : ByteArray), 0, 0)
theorem sign_index (c : Int) (h0 : 0 ≤ c) (h1 : c < 256) : ∃ r, strings_IndexByte.f (⟨#[58, 59, 44, 46, 47, 123, 125, 40, 41, 60, 62, 61, 64, 95]⟩ : ByteArray) c = some r ∧ (isSign c = true ↔ r ≥ 0) := by
  have key : ∀ n : Nat, n < 256 → (isSign (n : Int) = true ↔ Go.Lib.indexByte [58, 59, 44, 46, 47, 123, 125, 40, 41, 60, 62, 61, 64, 95] n.toUInt8 ≥ 0) := by decide +kernel
  have := key c.toNat (by omega)
  rw [show ((c.toNat : Nat) : Int) = c by omega] at this
  exact ⟨_, rfl, this⟩
theorem lex_one_at (x : ByteArray) (hx : x.size ≤ 140737488355328) (h0 : 0 < x.size) : Evr (fun k => lex_one.f k x) (oneV (tokL (bytesOf x))) := by
  have hlen := bytesOf_length x
  obtain ⟨c, r, hd⟩ : ∃ c r, bytesOf x = c :: r := by
    cases h : bytesOf x with
    | nil => rw [h] at hlen; simp at hlen; omega
    | cons c r => exact ⟨c, r, rfl⟩
  have hb : bt x 0 = c := by rw [show (0 : Int) = ((0 : Nat) : Int) from rfl, bt_nat, hd]; rfl
  have hrange := bytes_range x c (by rw [hd]; exact List.mem_cons_self)
  have hl : r.length + 1 = x.size := by rw [← hlen, hd]; rfl
  rw [hd, tokL]
  by_cases h37 : c = 37
  · rw [if_pos h37]
    have hrest : bytesOf (x.extract 1 x.size) = r := by rw [bytes_rest, hd]; rfl
    have hrs : (x.extract 1 x.size).size = r.length := by rw [size_bytes, hrest]
    have hrow := row_name (x.extract 1 x.size) (by omega)
    rw [hrest] at hrow
    have hn := tw_le lxName r
    have hcut := cut_str x 1 (r.takeWhile lxName).length
    have hcb := cut_bytes x 1 (r.takeWhile lxName).length
    rw [hd, List.drop_succ_cons, List.drop_zero, take_while] at hcut hcb
    have hw : wrap64 (1 + (((r.takeWhile lxName).length : Nat) : Int)) = ((1 + (r.takeWhile lxName).length : Nat) : Int) := wrap_add 1 _ (by omega)
    have hN : lex_Name.f (x.extract 1 (((1 + (r.takeWhile lxName).length : Nat) : Int)).toNat) = some (nameOk (r.takeWhile lxName)) := by
      rw [show (((1 + (r.takeWhile lxName).length : Nat) : Int)).toNat = 1 + (r.takeWhile lxName).length from rfl, Name_eq, hcb]
    refine Evr.eqs ?_ (fun k => by rw [lex_one.f, if_pos (by omega), hb, if_pos h37, if_pos (by omega), hrow, Option.bind_some, hw, if_pos (by omega), if_pos (by omega), hN, Option.bind_some])
    by_cases hk : nameOk (r.takeWhile lxName) = true
    · rw [if_pos hk]
      refine Evr.const ?_
      rw [if_pos hk, show (((1 + (r.takeWhile lxName).length : Nat) : Int)).toNat = 1 + (r.takeWhile lxName).length from rfl, hcut, oneV, Nat.add_comm 1]
    · rw [if_neg hk]
      exact Evr.const (by rw [if_neg hk]; rfl)
  · rw [if_neg h37]
    have j0 : ∀ b, b = (lxLo c || lxUp c) → Evr (fun k => lex_one.j0 k x c b) (oneV (if (lxLo c || lxUp c) = true then (if nameOk ((c :: r).takeWhile lxName) = true then some (1, (c :: r).takeWhile lxName, ((c :: r).takeWhile lxName).length) else none)
    else if lxDi c = true then (if verS ((c :: r).takeWhile lxNum) = true then some (3, (c :: r).takeWhile lxNum, ((c :: r).takeWhile lxNum).length) else none)
    else if pre2 (c :: r) 45 62 = true then some (4, [45, 62], 2)
    else if isSign c = true then some (4, [c], 1) else none)) := by
      rintro b rfl
      by_cases h1 : (lxLo c || lxUp c) = true
      · rw [h1, if_pos rfl]
        have hrow := row_name x (by omega)
        rw [hd] at hrow
        have hn := tw_le lxName (c :: r)
        rw [List.length_cons] at hn
        have hcut := cut_str x 0 ((c :: r).takeWhile lxName).length
        have hcb := cut_bytes x 0 ((c :: r).takeWhile lxName).length
        rw [hd, List.drop_zero, take_while, Nat.zero_add] at hcut hcb
        have hN : lex_Name.f (x.extract 0 ((((c :: r).takeWhile lxName).length : Nat) : Int).toNat) = some (nameOk ((c :: r).takeWhile lxName)) := by
          rw [show ((((c :: r).takeWhile lxName).length : Nat) : Int).toNat = ((c :: r).takeWhile lxName).length from rfl, Name_eq, hcb]
        refine Evr.step ?_ (fun k => by rw [lex_one.j0, if_pos rfl, hrow, Option.bind_some, if_pos (by omega), if_pos (by omega), hN, Option.bind_some])
        by_cases hk : nameOk ((c :: r).takeWhile lxName) = true
        · rw [if_pos hk]
          refine Evr.const ?_
          rw [if_pos hk, show ((((c :: r).takeWhile lxName).length : Nat) : Int).toNat = ((c :: r).takeWhile lxName).length from rfl, hcut, oneV]
        · rw [if_neg hk]
          exact Evr.const (by rw [if_neg hk]; rfl)
      · rw [show (lxLo c || lxUp c) = false by simpa using h1, if_neg (by decide)]
        by_cases h2 : lxDi c = true
        · rw [if_pos h2]
          have hrow := row_num x (by omega)
          rw [hd] at hrow
          have hn := tw_le lxNum (c :: r)
          rw [List.length_cons] at hn
          have hcut := cut_str x 0 ((c :: r).takeWhile lxNum).length
          have hcb := cut_bytes x 0 ((c :: r).takeWhile lxNum).length
          rw [hd, List.drop_zero, take_while, Nat.zero_add] at hcut hcb
          have hV : lex_Version.f (x.extract 0 ((((c :: r).takeWhile lxNum).length : Nat) : Int).toNat) = some (verS ((c :: r).takeWhile lxNum)) := by
            rw [show ((((c :: r).takeWhile lxNum).length : Nat) : Int).toNat = ((c :: r).takeWhile lxNum).length from rfl, Version_eq _ (by rw [size_bytes, hcb]; omega), hcb]
          refine Evr.step ?_ (fun k => by rw [lex_one.j0, if_neg (by decide), digit_at, Option.bind_some, if_pos h2, hrow, Option.bind_some, if_pos (by omega), if_pos (by omega), hV, Option.bind_some])
          by_cases hk : verS ((c :: r).takeWhile lxNum) = true
          · rw [if_pos hk]
            refine Evr.const ?_
            rw [if_pos hk, show ((((c :: r).takeWhile lxNum).length : Nat) : Int).toNat = ((c :: r).takeWhile lxNum).length from rfl, hcut, oneV]
          · rw [if_neg hk]
            exact Evr.const (by rw [if_neg hk]; rfl)
        · rw [if_neg h2]
          have hp := HasPrefix_two x 45 62 (by omega)
          rw [hd] at hp
          refine Evr.step ?_ (fun k => by rw [lex_one.j0, if_neg (by decide), digit_at, Option.bind_some, if_neg h2, hp, Option.bind_some])
          by_cases h3 : pre2 (c :: r) 45 62 = true
          · rw [if_pos h3]
            exact Evr.const (by rw [show pre2 (c :: r) ((45 : UInt8).toNat : Int) ((62 : UInt8).toNat : Int) = true from h3, if_pos rfl]; rfl)
          · rw [if_neg h3]
            obtain ⟨q, hq, hs⟩ := sign_index c hrange.1 hrange.2
            refine Evr.eqs ?_ (fun k => by rw [show pre2 (c :: r) ((45 : UInt8).toNat : Int) ((62 : UInt8).toNat : Int) = false by simpa using h3, if_neg (by decide), hq, Option.bind_some])
            by_cases h4 : isSign c = true
            · rw [if_pos h4]
              have hcut := cut_str x 0 1
              rw [hd] at hcut
              exact Evr.const (by rw [if_pos (hs.1 h4), if_pos (by decide), if_pos (by omega), hcut]; rfl)
            · rw [if_neg h4]
              exact Evr.const (by rw [if_neg (fun z => h4 (hs.2 z))]; rfl)
    by_cases hl1 : lxLo c = true
    · refine Evr.eqs (j0 true (by rw [hl1]; rfl)) (fun k => by rw [lex_one.f, if_pos (by omega), hb, if_neg h37, lower_at, Option.bind_some, if_pos hl1])
    · have hl2 : lxLo c = false := by simpa using hl1
      refine Evr.eqs (j0 (lxUp c) (by rw [hl2]; rfl)) (fun k => by rw [lex_one.f, if_pos (by omega), hb, if_neg h37, lower_at, Option.bind_some, if_neg hl1, upper_at, Option.bind_some])
theorem tok_pos {l : List Int} {kd : Int} {s : List Int} {n : Nat} (h : tokL l = some (kd, s, n)) : 0 < n ∧ n ≤ l.length := by
  cases l with
  | nil => cases h
  | cons c r =>
    rw [tokL] at h
    have h1 := tw_le lxName r
    have h2 := tw_le lxName (c :: r)
    have h3 := tw_le lxNum (c :: r)
    split at h
    · split at h
      · injection h with h; injection h with _ h; injection h with _ h; rw [List.length_cons]; omega
      · cases h
    · split at h
      · split at h
        · rename_i hk
          injection h with h; injection h with _ h; injection h with _ h
          unfold nameOk at hk
          simp only [Bool.and_eq_true, decide_eq_true_eq] at hk
          omega
        · cases h
      · split at h
        · split at h
          · rename_i hdi hv
            injection h with h; injection h with _ h; injection h with _ h
            have : (c :: r).takeWhile lxNum = c :: r.takeWhile lxNum := by rw [List.takeWhile_cons, if_pos (by unfold lxNum; rw [hdi]; rfl)]
            rw [this] at h
            rw [this] at h3
            rw [List.length_cons] at h
            rw [List.length_cons] at h3
            omega
          · cases h
        · split at h
          · rename_i hp
            injection h with h; injection h with _ h; injection h with _ h
            unfold pre2 at hp
            simp only [Bool.and_eq_true, decide_eq_true_eq] at hp
            omega
          · split at h
            · injection h with h; injection h with _ h; injection h with _ h
              rw [List.length_cons]; omega
            · cases h
/-- The tokens of a text from a place on. -/
def cutL : Nat → List S33 → Nat → List Int → List S33 × Int × Int
  | 0, acc, p, _ => (acc, 0, 0)
  | k + 1, acc, p, l => match blL 0 l with
    | none => ([], (p : Int), 2)
    | some n => if l.length ≤ n then (acc, 0, 0) else match tokL (l.drop n) with
      | none => ([], ((p + n : Nat) : Int), 2)
      | some (kd, s, m) => cutL k (acc ++ [⟨kd, strOfNums s, ((p + n : Nat) : Int)⟩]) (p + n + m) (l.drop (n + m))
theorem lex_cut (x : ByteArray) (hx : x.size ≤ 8192) : ∀ (m i : Nat) (acc : List S33), x.size < i + m → i ≤ x.size → acc.length ≤ i → Evr (fun k => lex_Cut.l0 k x acc (i : Int)) (cutL m acc i ((bytesOf x).drop i)) := by
  intro m
  induction m with
  | zero => intro i acc hm hi; omega
  | succ m ih =>
    intro i acc hm hi ha
    have hlen := bytesOf_length x
    have hrest : bytesOf (x.extract i x.size) = (bytesOf x).drop i := bytes_rest x i
    have hrs : (x.extract i x.size).size + i = x.size := by rw [size_bytes, hrest, List.length_drop]; omega
    have hbl := lex_blank_at (x.extract i x.size) (by omega)
    rw [hrest] at hbl
    rw [cutL]
    refine Evr.step ?_ (fun k => by rw [lex_Cut.l0, if_pos (by omega), if_pos (by omega), show ((i : Nat) : Int).toNat = i from rfl])
    refine Evr.bind hbl ?_
    cases hq : blL 0 ((bytesOf x).drop i) with
    | none => exact Evr.const rfl
    | some n =>
      have hn := bl_le _ _ 0 n (Nat.le_refl _) hq
      rw [List.length_drop, hlen] at hn
      generalize hv : blV 0 (some n) = v
      have hv1 : v.1 = ((0 + n : Nat) : Int) := by rw [← hv]; rfl
      have hv2 : v.2 = true := by rw [← hv]; rfl
      have hw : wrap64 ((i : Int) + v.1) = ((i + n : Nat) : Int) := by rw [hv1, wrap_add i (0 + n) (by omega), Nat.zero_add]
      dsimp only
      rw [List.length_drop, hlen, List.drop_drop]
      by_cases he : x.size - i ≤ n
      · rw [if_pos he]
        exact Evr.eqs Evr.ret (fun k => by rw [if_pos hv2, hw, if_pos (by omega)])
      · rw [if_neg he]
        have hrest2 : bytesOf (x.extract (i + n) x.size) = (bytesOf x).drop (i + n) := bytes_rest x (i + n)
        have hrs2 : (x.extract (i + n) x.size).size + (i + n) = x.size := by rw [size_bytes, hrest2, List.length_drop]; omega
        have hone := lex_one_at (x.extract (i + n) x.size) (by omega) (by omega)
        rw [hrest2] at hone
        refine Evr.eqs ?_ (fun k => by rw [if_pos hv2, hw, if_neg (by omega), if_pos (by omega), if_pos (by omega), show ((i + n : Nat) : Int).toNat = i + n from rfl])
        refine Evr.bind hone ?_
        cases ht : tokL ((bytesOf x).drop (i + n)) with
        | none => exact Evr.const rfl
        | some t =>
          obtain ⟨kd, s, j⟩ := t
          obtain ⟨hj0, hj1⟩ := tok_pos ht
          rw [List.length_drop, hlen] at hj1
          generalize hu : oneV (some (kd, s, j)) = u
          have hu1 : u.1 = kd := by rw [← hu]; rfl
          have hu2 : u.2.1 = strOfNums s := by rw [← hu]; rfl
          have hu4 : u.2.2.2 = (j : Int) := by rw [← hu]; rfl
          have hr1 : x.size < i + n + j + m := by clear ih hw hv1; omega
          have hr2 : i + n + j ≤ x.size := by clear ih hw hv1; omega
          have hr3 : (acc ++ [(⟨kd, strOfNums s, ((i + n : Nat) : Int)⟩ : S33)]).length ≤ i + n + j := by
            rw [List.length_append, List.length_singleton]
            exact Nat.add_le_add (Nat.le_trans ha (Nat.le_add_right i n)) hj0
          have hw2 : wrap64 (((i + n : Nat) : Int) + ((j : Nat) : Int)) = ((i + n + j : Nat) : Int) := wrap_add (i + n) j (by omega)
          have hr := ih (i + n + j) (acc ++ [⟨kd, strOfNums s, ((i + n : Nat) : Int)⟩]) hr1 hr2 hr3
          dsimp only
          rw [List.drop_drop, ← Nat.add_assoc]
          have hj2 : ¬ ((j : Nat) : Int) = 0 := by clear hw hw2 hv1 hr ih hu4; omega
          have ha2 : acc.length < 4398046511104 := by clear hw hw2 hv1 hr ih hu4; omega
          exact Evr.eqs hr (fun k => by rw [hu4, if_neg hj2, if_pos ha2, hw2, hu1, hu2])
/-- The tokens of a text. -/
def cutOf (l : List Int) : List S33 × Int × Int := if 8192 < l.length then ([], 0, 14) else cutL (l.length + 1) [] 0 l
theorem Cut_lex (x : ByteArray) : Evr (fun k => lex_Cut.f k x) (cutOf (bytesOf x)) := by
  unfold cutOf
  rw [bytesOf_length]
  by_cases h : 8192 < x.size
  · rw [if_pos h]
    exact Evr.eqs Evr.ret (fun k => by rw [lex_Cut.f, if_pos (by omega)])
  · rw [if_neg h]
    exact Evr.eqs (lex_cut x (by omega) (x.size + 1) 0 [] (by omega) (by omega) (Nat.le_refl _)) (fun k => by rw [lex_Cut.f, if_neg (by omega)]; rfl)
end Go.Proofs.YtlggjgpdiffajaaDoor.LexT
namespace Go.Proofs.YtlggjgpdiffajaaDoor.PA
open Go.RowKit Go.Proofs.YtlggjgpdiffajaaDoorW.PrintWords Go.Proofs.YtlggjgpdiffajaaDoorW.PrintLast Go.Proofs.YtlggjgpdiffajaaDoorW.PrintMore
attribute [local go_sem] max2_int min2_int max_two min_two max_three min_three max_four min_four   -- for this text's walks alone
set_option linter.unusedVariables false
set_option linter.unusedSimpArgs false
end Go.Proofs.YtlggjgpdiffajaaDoor.PA
namespace Go.Proofs.YtlggjgpdiffajaaDoor.LexC
set_option linter.unusedVariables false
set_option linter.unusedSimpArgs false
open Go.RowKit Go.Proofs.YtlggjgpdiffajaaDoor.PA Go.Proofs.YtlggjgpdiffajaaDoorW.PrintWords Go.Proofs.YtlggjgpdiffajaaDoorW.PrintLast Go.Proofs.YtlggjgpdiffajaaDoorW.PrintMore
open Go.Proofs.YtlggjgpdiffajaaDoor.Str Go.Proofs.YtlggjgpdiffajaaDoor.Ev Go.Proofs.YtlggjgpdiffajaaDoor.LexM Go.Proofs.YtlggjgpdiffajaaDoor.LexT
theorem cut_len : ∀ (m p : Nat) (acc : List S33) (l : List Int), (cutL m acc p l).1.length ≤ acc.length + m := by
  intro m
  induction m with
  | zero => intro p acc l; exact Nat.le_refl _
  | succ m ih =>
    intro p acc l
    rw [cutL]
    split
    · exact Nat.zero_le _
    · split
      · exact Nat.le_add_right _ _
      · split
        · exact Nat.zero_le _
        · refine Nat.le_trans (ih _ _ _) ?_
          rw [List.length_append, List.length_singleton]; omega
theorem cutOf_len (l : List Int) : (cutOf l).1.length ≤ 8193 := by
  unfold cutOf
  split
  · exact Nat.zero_le _
  · refine Nat.le_trans (cut_len _ _ _ _) ?_
    rw [List.length_nil]; omega
end Go.Proofs.YtlggjgpdiffajaaDoor.LexC
namespace Go.Proofs.YtlggjgpdiffajaaDoor.LexA
set_option linter.unusedVariables false
set_option linter.unusedSimpArgs false
open Go.RowKit Go.Proofs.YtlggjgpdiffajaaDoor.PA Go.Proofs.YtlggjgpdiffajaaDoorW.PrintWords Go.Proofs.YtlggjgpdiffajaaDoorW.PrintLast Go.Proofs.YtlggjgpdiffajaaDoorW.PrintMore
open Go.Proofs.YtlggjgpdiffajaaDoor.Str Go.Proofs.YtlggjgpdiffajaaDoor.Ev Go.Proofs.YtlggjgpdiffajaaDoor.LexM Go.Proofs.YtlggjgpdiffajaaDoor.LexB Go.Proofs.YtlggjgpdiffajaaDoor.LexT Go.Proofs.YtlggjgpdiffajaaDoor.LexC
/-- What a token's text is. -/
def txtL (kd : Int) (s : List Int) : List Int := if kd = 2 then 37 :: s else s
theorem tw_all (q : Int → Bool) (l : List Int) : ∀ c ∈ l.takeWhile q, q c = true := by
  intro c hc
  exact List.all_eq_true.1 List.all_takeWhile c hc
theorem tw_stop (q : Int → Bool) (w : List Int) (hw : ∀ c ∈ w, q c = true) (b : Int) (hb : q b = false) (r : List Int) : (w ++ b :: r).takeWhile q = w := by
  induction w with
  | nil => rw [List.nil_append, List.takeWhile_cons, hb]; rfl
  | cons c w ih =>
    rw [List.cons_append, List.takeWhile_cons, if_pos (hw c List.mem_cons_self), ih (fun d hd => hw d (List.mem_cons_of_mem _ hd))]
theorem tw_pre (q : Int → Bool) (l : List Int) : l.take (l.takeWhile q).length = l.takeWhile q := take_while q l
/-- Every letter of a token is one of a byte. -/
def inB (l : List Int) : Prop := ∀ c ∈ l, 0 ≤ c ∧ c < 256
theorem tok_text {l : List Int} {kd : Int} {s : List Int} {n : Nat} (h : tokL l = some (kd, s, n)) : l.take n = txtL kd s ∧ (txtL kd s).length = n ∧ (∀ (r : List Int), tokL (txtL kd s ++ 32 :: r) = some (kd, s, n) ∧ blL 0 (txtL kd s ++ 32 :: r) = some 0) := by
  cases l with
  | nil => cases h
  | cons c r =>
    have hN32 : lxName 32 = false := rfl
    have hM32 : lxNum 32 = false := rfl
    have notB : ∀ (d : Int) (t : List Int), isB d = false → (∀ e t', t = e :: t' → ¬ (d = 47 ∧ e = 47) ∧ ¬ (d = 47 ∧ e = 42)) → blL 0 (d :: t) = some 0 := by
      intro d t hd ht
      cases t with
      | nil => show some (if isB d = true then 1 else 0) = some 0; rw [hd]; rfl
      | cons e t' => obtain ⟨h1, h2⟩ := ht e t' rfl; exact bl_other d e t' hd h1 h2
    have hisB : ∀ d : Int, ¬ (d = 32 ∨ d = 9 ∨ d = 10 ∨ d = 13) → isB d = false := by
      intro d hd
      rw [← isB_cases] at hd
      simpa using hd
    rw [tokL] at h
    by_cases h37 : c = 37
    · rw [if_pos h37] at h
      split at h
      · rename_i hk
        injection h with h; injection h with h1 h; injection h with h2 h3
        have hall := tw_all lxName r
        have hpre := tw_pre lxName r
        rw [h2] at hall hpre h3
        subst h1
        have ht : txtL 2 s = 37 :: s := rfl
        rw [ht]
        refine ⟨?_, by rw [List.length_cons]; omega, fun q => ⟨?_, ?_⟩⟩
        · rw [← h3, List.take_succ_cons, hpre, h37]
        · rw [List.cons_append, tokL, if_pos rfl, tw_stop lxName s hall 32 hN32 q, if_pos (h2 ▸ hk), h3]
        · rw [List.cons_append]
          exact notB 37 _ rfl (fun e t' _ => by omega)
      · cases h
    · rw [if_neg h37] at h
      by_cases h1 : (lxLo c || lxUp c) = true
      · rw [if_pos h1] at h
        split at h
        · rename_i hk
          injection h with h; injection h with h1' h; injection h with h2 h3
          have hall := tw_all lxName (c :: r)
          have hpre := tw_pre lxName (c :: r)
          have hc : lxName c = true := by unfold lxName; rw [h1]; rfl
          have hcons : (c :: r).takeWhile lxName = c :: r.takeWhile lxName := by rw [List.takeWhile_cons, if_pos hc]
          rw [h2] at hall hpre h3 hk
          rw [h2] at hcons
          subst h1'
          have ht : txtL 1 s = s := rfl
          rw [ht]
          have hb : 97 ≤ c ∧ c ≤ 122 ∨ 65 ≤ c ∧ c ≤ 90 := by
            rw [Bool.or_eq_true, lo_def, up_def] at h1; exact h1
          refine ⟨by rw [← h3]; exact hpre, h3, fun q => ⟨?_, ?_⟩⟩
          · have e : s ++ 32 :: q = c :: (r.takeWhile lxName ++ 32 :: q) := by rw [hcons]; rfl
            rw [e, tokL, if_neg h37, if_pos h1, ← e, tw_stop lxName s hall 32 hN32 q, if_pos hk, h3]
          · rw [hcons, List.cons_append]
            exact notB c _ (hisB c (by omega)) (fun e t' _ => by omega)
        · cases h
      · rw [if_neg h1] at h
        by_cases h2 : lxDi c = true
        · rw [if_pos h2] at h
          split at h
          · rename_i hk
            injection h with h; injection h with h1' h; injection h with h2' h3
            have hall := tw_all lxNum (c :: r)
            have hpre := tw_pre lxNum (c :: r)
            have hc : lxNum c = true := by unfold lxNum; rw [h2]; rfl
            have hcons : (c :: r).takeWhile lxNum = c :: r.takeWhile lxNum := by rw [List.takeWhile_cons, if_pos hc]
            rw [h2'] at hall hpre h3 hk hcons
            subst h1'
            have ht : txtL 3 s = s := rfl
            rw [ht]
            have hb := (di_def c).1 h2
            refine ⟨by rw [← h3]; exact hpre, h3, fun q => ⟨?_, ?_⟩⟩
            · have e : s ++ 32 :: q = c :: (r.takeWhile lxNum ++ 32 :: q) := by rw [hcons]; rfl
              rw [e, tokL, if_neg h37, if_neg h1, if_pos h2, ← e, tw_stop lxNum s hall 32 hM32 q, if_pos hk, h3]
            · rw [hcons, List.cons_append]
              exact notB c _ (hisB c (by omega)) (fun e t' _ => by omega)
          · cases h
        · rw [if_neg h2] at h
          by_cases h3 : pre2 (c :: r) 45 62 = true
          · rw [if_pos h3] at h
            injection h with h; injection h with h1' h; injection h with h2' h3'
            subst h1'; subst h2'; subst h3'
            have hp : c = 45 ∧ ∃ t, r = 62 :: t := by
              unfold pre2 at h3
              simp only [Bool.and_eq_true, decide_eq_true_eq, beq_iff_eq] at h3
              cases r with
              | nil => simp at h3
              | cons d t => exact ⟨h3.1.1, t, by rw [show d = 62 from h3.1.2]⟩
            obtain ⟨rfl, t, rfl⟩ := hp
            refine ⟨rfl, rfl, fun q => ⟨?_, ?_⟩⟩
            · show tokL (45 :: 62 :: 32 :: q) = _
              rw [tokL, if_neg (by decide), if_neg (by decide), if_neg (by decide), if_pos (pre2_t _ rfl)]
            · exact bl_other 45 62 _ rfl (by decide) (by decide)
          · rw [if_neg h3] at h
            split at h
            · rename_i hs
              injection h with h; injection h with h1' h; injection h with h2' h3'
              subst h1'; subst h2'; subst h3'
              refine ⟨rfl, rfl, fun q => ⟨?_, ?_⟩⟩
              · show tokL (c :: 32 :: q) = _
                rw [tokL, if_neg h37, if_neg h1, if_neg h2, if_neg, if_pos hs]
                rw [pre2_f _ rfl (by omega)]; decide
              · refine notB c _ ?_ (fun e t' he => ?_)
                · refine hisB c (fun hc => ?_)
                  unfold isSign signs at hs
                  rcases hc with rfl | rfl | rfl | rfl <;> simp at hs
                · injection he with he _
                  omega
            · cases h
/-- What stands between the tokens. -/
def gapOk (g : List Int) : Prop := (∃ g', g = 32 :: g') ∧ ∀ l, blL 0 (g ++ l) = (blL 0 l).map (· + g.length)
theorem gap_short : gapOk [32] := ⟨⟨[], rfl⟩, fun l => by rw [List.singleton_append, bl_blank 32 l rfl]; rfl⟩
theorem gap_long : gapOk [32, 47, 42, 32, 97, 32, 47, 42, 32, 98, 32, 42, 47, 32, 42, 47, 32] := by
  refine ⟨⟨_, rfl⟩, fun l => ?_⟩
  have e : [32, 47, 42, 32, 97, 32, 47, 42, 32, 98, 32, 42, 47, 32, 42, 47, 32] ++ l = (32 :: 47 :: 42 :: 32 :: 97 :: 32 :: 47 :: 42 :: 32 :: 98 :: 32 :: 42 :: 47 :: 32 :: 42 :: 47 :: 32 :: l : List Int) := rfl
  rw [e, bl_blank 32 _ rfl, bl_star]
  have hr : remL 0 (32 :: 97 :: 32 :: 47 :: 42 :: 32 :: 98 :: 32 :: 42 :: 47 :: 32 :: 42 :: 47 :: 32 :: l : List Int) = some 13 := by
    simp [remL]
  rw [hr, Option.bind_some, show List.drop 13 (32 :: 97 :: 32 :: 47 :: 42 :: 32 :: 98 :: 32 :: 42 :: 47 :: 32 :: 42 :: 47 :: 32 :: l : List Int) = 32 :: l from rfl, bl_blank 32 _ rfl]
  cases blL 0 l <;> rfl
/-- The tokens, as kinds and texts. -/
def isTok (kd : Int) (s : List Int) : Prop := ∃ l n, tokL l = some (kd, s, n)
/-- The tokens, written. -/
def joinL (g : List Int) : List (Int × List Int) → List Int
  | [] => []
  | (kd, s) :: ts => txtL kd s ++ g ++ joinL g ts
/-- The same kinds and texts. -/
def sameKS : List S33 → List (Int × List Int) → Prop
  | [], [] => True
  | x :: xs, (kd, s) :: ts => x.f0 = kd ∧ x.f1 = strOfNums s ∧ sameKS xs ts
  | _, _ => False
theorem sameKS_app : ∀ (xs : List S33) (ts : List (Int × List Int)) (x : S33) (kd : Int) (s : List Int), sameKS xs ts → x.f0 = kd → x.f1 = strOfNums s → sameKS (xs ++ [x]) (ts ++ [(kd, s)]) := by
  intro xs
  induction xs with
  | nil =>
    intro ts x kd s h h1 h2
    cases ts with
    | nil => exact ⟨h1, h2, trivial⟩
    | cons t ts => exact absurd h (by simp [sameKS])
  | cons y xs ih =>
    intro ts x kd s h h1 h2
    cases ts with
    | nil => exact absurd h (by simp [sameKS])
    | cons t ts =>
      obtain ⟨k', s'⟩ := t
      exact ⟨h.1, h.2.1, ih ts x kd s h.2.2 h1 h2⟩
theorem tok_len {kd : Int} {s : List Int} (h : isTok kd s) : 0 < (txtL kd s).length := by
  obtain ⟨l, n, hl⟩ := h
  rw [(tok_text hl).2.1]
  exact (tok_pos hl).1
/-- What is written so is cut so. -/
theorem cut_join (g : List Int) (hg : gapOk g) : ∀ (ts : List (Int × List Int)), (∀ t ∈ ts, isTok t.1 t.2) → ∀ (k p : Nat) (acc : List S33) (us : List (Int × List Int)) (pre : List Int), (pre = [] ∨ pre = g) → sameKS acc us → (pre ++ joinL g ts).length < k → ∃ L, cutL k acc p (pre ++ joinL g ts) = (L, 0, 0) ∧ sameKS L (us ++ ts) := by
  intro ts
  induction ts with
  | nil =>
    intro _ k p acc us pre hp hs hk
    obtain ⟨k, rfl⟩ : ∃ q, k = q + 1 := ⟨k - 1, by omega⟩
    refine ⟨acc, ?_, by rw [List.append_nil]; exact hs⟩
    have hb : blL 0 (pre ++ joinL g []) = some (pre ++ joinL g []).length := by
      rcases hp with rfl | rfl
      · rfl
      · rw [joinL, List.append_nil]
        have := hg.2 []
        rw [List.append_nil] at this
        rw [this]; simp [blL]
    rw [cutL, hb]
    dsimp only
    rw [if_pos (Nat.le_refl _)]
  | cons t ts ih =>
    intro ht k p acc us pre hp hs hk
    obtain ⟨kd, s⟩ := t
    obtain ⟨k, rfl⟩ : ∃ q, k = q + 1 := ⟨k - 1, by omega⟩
    have h1 := ht (kd, s) List.mem_cons_self
    have hpos := tok_len h1
    obtain ⟨l0, n, hl0⟩ := h1
    obtain ⟨_, hlen, htok⟩ := tok_text hl0
    obtain ⟨g', hg'⟩ := hg.1
    have e : joinL g ((kd, s) :: ts) = txtL kd s ++ 32 :: (g' ++ joinL g ts) := by rw [joinL, hg']; simp
    obtain ⟨q1, q2⟩ := htok (g' ++ joinL g ts)
    rw [← e] at q1 q2
    have hb : blL 0 (pre ++ joinL g ((kd, s) :: ts)) = some pre.length := by
      rcases hp with rfl | rfl
      · exact q2
      · rw [hg.2, q2]; simp
    have hd : List.drop pre.length (pre ++ joinL g ((kd, s) :: ts)) = joinL g ((kd, s) :: ts) := List.drop_left
    have hd2 : List.drop (pre.length + n) (pre ++ joinL g ((kd, s) :: ts)) = g ++ joinL g ts := by
      rw [← List.drop_drop, hd, joinL, List.append_assoc, ← hlen, List.drop_left]
    have hjl : (joinL g ((kd, s) :: ts)).length = n + (g ++ joinL g ts).length := by rw [joinL, List.append_assoc, List.length_append, hlen]
    obtain ⟨L, hL1, hL2⟩ := ih (fun t h => ht t (List.mem_cons_of_mem _ h)) k (p + pre.length + n) (acc ++ [⟨kd, strOfNums s, ((p + pre.length : Nat) : Int)⟩]) (us ++ [(kd, s)]) g (.inr rfl) (sameKS_app _ _ _ _ _ hs rfl rfl) (by rw [List.length_append, hjl] at hk; omega)
    refine ⟨L, ?_, by rw [List.append_assoc] at hL2; exact hL2⟩
    rw [cutL, hb]
    dsimp only
    rw [if_neg (by rw [List.length_append, hjl]; omega), hd, q1]
    dsimp only
    rw [hd2]
    exact hL1
/-- Each token stands at its place. -/
def Stands (l : List Int) (x : S33) : Prop := ∃ kd s p, isTok kd s ∧ x.f0 = kd ∧ x.f1 = strOfNums s ∧ x.f2 = ((p : Nat) : Int) ∧ inB s ∧ p + (txtL kd s).length ≤ l.length ∧ (l.drop p).take (txtL kd s).length = txtL kd s
theorem inB_take {l : List Int} (h : inB l) (n : Nat) : inB (l.take n) := fun c hc => h c (List.mem_of_mem_take hc)
theorem inB_drop {l : List Int} (h : inB l) (n : Nat) : inB (l.drop n) := fun c hc => h c (List.mem_of_mem_drop hc)
theorem cut_stands (l : List Int) (hl : inB l) : ∀ (k p : Nat) (acc : List S33) (L : List S33) (at_ e : Int), (∀ x ∈ acc, Stands l x) → l.length < p + k → p ≤ l.length → cutL k acc p (l.drop p) = (L, at_, e) → (e = 0 ∧ at_ = 0 ∧ ∀ x ∈ L, Stands l x) ∨ (e = 2 ∧ L = [] ∧ ∃ q : Nat, at_ = (q : Int) ∧ q ≤ l.length) := by
  intro k
  induction k with
  | zero => intro p acc L at_ e _ hk hp; omega
  | succ k ih =>
    intro p acc L at_ e ha hk hp h
    rw [cutL] at h
    cases hb : blL 0 (l.drop p) with
    | none =>
      rw [hb] at h
      dsimp only at h
      injection h with h1 h2
      injection h2 with h2 h3
      exact .inr ⟨h3.symm, h1.symm, p, h2.symm, hp⟩
    | some n =>
      have hn := bl_le _ _ 0 n (Nat.le_refl _) hb
      rw [List.length_drop] at hn
      rw [hb] at h
      dsimp only at h
      rw [List.length_drop, List.drop_drop] at h
      by_cases he : l.length - p ≤ n
      · rw [if_pos he] at h
        injection h with h1 h2
        injection h2 with h2 h3
        exact .inl ⟨h3.symm, h2.symm, h1 ▸ ha⟩
      · rw [if_neg he] at h
        cases ht : tokL (l.drop (p + n)) with
        | none =>
          rw [ht] at h
          dsimp only at h
          injection h with h1 h2
          injection h2 with h2 h3
          exact .inr ⟨h3.symm, h1.symm, p + n, h2.symm, by omega⟩
        | some t =>
          obtain ⟨kd, s, m⟩ := t
          obtain ⟨hm0, hm1⟩ := tok_pos ht
          obtain ⟨t1, t2, _⟩ := tok_text ht
          rw [List.length_drop] at hm1
          rw [ht] at h
          dsimp only at h
          rw [List.drop_drop, ← Nat.add_assoc] at h
          refine ih (p + n + m) _ L at_ e ?_ (by omega) (by omega) h
          intro x hx
          rcases List.mem_append.1 hx with hx | hx
          · exact ha x hx
          · rw [List.mem_singleton] at hx
            subst hx
            refine ⟨kd, s, p + n, ⟨_, _, ht⟩, rfl, rfl, rfl, ?_, by omega, by rw [t2]; exact t1⟩
            have h3 : inB (txtL kd s) := t1 ▸ inB_take (inB_drop hl _) _
            unfold txtL at h3
            split at h3
            · exact fun c hc => h3 c (List.mem_cons_of_mem _ hc)
            · exact h3
theorem wrap_sub (a b : Nat) (h : b ≤ a) (h2 : a ≤ 4611686018427387904) : wrap64 ((a : Int) - (b : Int)) = ((a - b : Nat) : Int) := by
  rw [wrap64_id (by omega) (by omega)]; omega
theorem joinL_app (g : List Int) : ∀ (a b : List (Int × List Int)), joinL g (a ++ b) = joinL g a ++ joinL g b := by
  intro a
  induction a with
  | nil => intro b; rfl
  | cons t a ih =>
    intro b
    obtain ⟨kd, s⟩ := t
    rw [List.cons_append, joinL, joinL, ih, List.append_assoc, List.append_assoc]
    simp
theorem sameKS_len : ∀ (L : List S33) (ts : List (Int × List Int)), sameKS L ts → L.length = ts.length := by
  intro L
  induction L with
  | nil => intro ts h; cases ts with
    | nil => rfl
    | cons t ts => exact absurd h (by simp [sameKS])
  | cons x L ih => intro ts h; cases ts with
    | nil => exact absurd h (by simp [sameKS])
    | cons t ts =>
      obtain ⟨kd, s⟩ := t
      rw [List.length_cons, List.length_cons, ih ts h.2.2]
theorem sameKS_get : ∀ (L M : List S33) (ts : List (Int × List Int)), sameKS L ts → sameKS M ts → ∀ i : Nat, (L.getD i z33).f0 = (M.getD i z33).f0 ∧ (L.getD i z33).f1 = (M.getD i z33).f1 := by
  intro L
  induction L with
  | nil => intro M ts h h' i; cases ts with
    | nil => cases M with
      | nil => exact ⟨rfl, rfl⟩
      | cons y M => exact absurd h' (by simp [sameKS])
    | cons t ts => exact absurd h (by simp [sameKS])
  | cons x L ih => intro M ts h h' i; cases ts with
    | nil => exact absurd h (by simp [sameKS])
    | cons t ts => cases M with
      | nil => exact absurd h' (by simp [sameKS])
      | cons y M =>
        obtain ⟨kd, s⟩ := t
        cases i with
        | zero => exact ⟨h.1.trans h'.1.symm, h.2.1.trans h'.2.1.symm⟩
        | succ i => exact ih M ts h.2.2 h'.2.2 i
/-- What stands at place i of the tokens. -/
def AtTok (l : List Int) (x : S33) (t : Int × List Int) : Prop := ∃ p : Nat, isTok t.1 t.2 ∧ x.f0 = t.1 ∧ x.f1 = strOfNums t.2 ∧ x.f2 = (p : Int) ∧ inB t.2 ∧ p + (txtL t.1 t.2).length ≤ l.length ∧ (l.drop p).take (txtL t.1 t.2).length = txtL t.1 t.2
theorem pick (l : List Int) : ∀ (L : List S33), (∀ x ∈ L, Stands l x) → ∃ ts, sameKS L ts ∧ (∀ t ∈ ts, isTok t.1 t.2) ∧ ∀ i, i < L.length → AtTok l (L.getD i z33) (ts.getD i (0, [])) := by
  intro L
  induction L with
  | nil => intro _; exact ⟨[], trivial, ⟨fun t h => by simp at h, fun i hi => absurd hi (Nat.not_lt_zero i)⟩⟩
  | cons x L ih =>
    intro h
    obtain ⟨ts, h1, h2, h3⟩ := ih (fun y hy => h y (List.mem_cons_of_mem _ hy))
    obtain ⟨kd, s, p, a1, a2, a3, a4, a5, a6, a7⟩ := h x List.mem_cons_self
    refine ⟨(kd, s) :: ts, ⟨a2, a3, h1⟩, fun t ht => ?_, fun i hi => ?_⟩
    · rcases List.mem_cons.1 ht with rfl | ht
      · exact a1
      · exact h2 t ht
    · cases i with
      | zero => exact ⟨p, a1, a2, a3, a4, a5, a6, a7⟩
      | succ i => exact h3 i (by rw [List.length_cons] at hi; omega)
theorem inB_txt {kd : Int} {s : List Int} (h : inB s) : inB (txtL kd s) := by
  unfold txtL
  split
  · intro c hc
    rcases List.mem_cons.1 hc with rfl | hc
    · omega
    · exact h c hc
  · exact h
theorem text_at {kd : Int} {s : List Int} {x : S33} (h0 : x.f0 = kd) (h1 : x.f1 = strOfNums s) (hb : inB s) (hs : s.length ≤ 8192) : scarflaw10_text.f x.f0 x.f1 x.f2 = some (strOfNums (txtL kd s)) := by
  unfold scarflaw10_text.f txtL
  rw [h0, h1]
  have hsz : (strOfNums s).size = s.length := by rw [size_bytes, bytes_of hb]
  split
  · rw [if_pos (by omega), show (⟨#[37]⟩ : ByteArray) = strOfNums [37] from rfl, ← strOfNums_append]; rfl
  · rfl
theorem take_succ_getD (ts : List (Int × List Int)) (i : Nat) (h : i < ts.length) : ts.take (i + 1) = ts.take i ++ [ts.getD i (0, [])] := by
  rw [List.take_add_one, List.getElem?_eq_getElem h]
  simp [List.getD, List.getElem?_eq_getElem h]
theorem again_l1 (L M : List S33) (ts : List (Int × List Int)) (h1 : sameKS L ts) (h2 : sameKS M ts) (hn : L.length ≤ 4611686018427387904) : ∀ (m i : Nat), i + m = L.length → Evr (fun k => scarflaw10_LexAgain.l1 k L M (i : Int)) true := by
  have hl : M.length = L.length := by rw [sameKS_len L ts h1, sameKS_len M ts h2]
  intro m
  induction m with
  | zero =>
    intro i hi
    refine Evr.step ?_ (fun k => by rw [scarflaw10_LexAgain.l1, if_neg (by omega)])
    exact Evr.bind awake_ev Evr.ret
  | succ m ih =>
    intro i hi
    obtain ⟨e0, e1⟩ := sameKS_get L M ts h1 h2 i
    have e0' : (rd_T33 L (i : Int)).f0 = (rd_T33 M (i : Int)).f0 := e0
    have e1' : (rd_T33 L (i : Int)).f1.toList = (rd_T33 M (i : Int)).f1.toList := congrArg ByteArray.toList e1
    have hw := wrap_add1 i (by omega)
    exact Evr.step (ih (i + 1) (by omega)) (fun k => by rw [scarflaw10_LexAgain.l1, if_pos (by omega), if_pos (by omega), if_pos (by omega), if_pos e0', if_pos e1', hw])
theorem again_l0 (x : ByteArray) (hx : x.size ≤ 8192) (gb : ByteArray) (hg : gapOk (bytesOf gb)) (hgl : (bytesOf gb).length ≤ 17) (L : List S33) (ts : List (Int × List Int)) (hL : L.length ≤ 8193) (h1 : sameKS L ts) (h2 : ∀ t ∈ ts, isTok t.1 t.2) (h3 : ∀ i, i < L.length → AtTok (bytesOf x) (L.getD i z33) (ts.getD i (0, []))) : ∀ (m i : Nat) (y : ByteArray), i + m = L.length → bytesOf y = joinL (bytesOf gb) (ts.take i) → y.size ≤ i * 10000 → Evr (fun k => scarflaw10_LexAgain.l0 k x L gb y (i : Int)) true := by
  have hlen := sameKS_len L ts h1
  have hxl := bytesOf_length x
  intro m
  induction m with
  | zero =>
    intro i y hi hy hys
    rw [List.take_of_length_le (by omega)] at hy
    refine Evr.step ?_ (fun k => by rw [scarflaw10_LexAgain.l0, if_neg (by omega)])
    by_cases hbig : y.size > 8192
    · exact Evr.eqs (Evr.bind awake_ev Evr.ret) (fun k => by rw [if_pos (by omega)])
    · refine Evr.eqs ?_ (fun k => by rw [if_neg (by omega)])
      refine Evr.bind (Cut_lex y) ?_
      have hyl : (bytesOf y).length ≤ 8192 := by rw [bytesOf_length]; omega
      obtain ⟨M, hM1, hM2⟩ := cut_join (bytesOf gb) hg ts h2 ((bytesOf y).length + 1) 0 [] [] [] (.inl rfl) trivial (by rw [List.nil_append, ← hy]; omega)
      rw [List.nil_append, ← hy] at hM1
      rw [List.nil_append] at hM2
      have hc : cutOf (bytesOf y) = (M, 0, 0) := by unfold cutOf; rw [if_neg (by omega)]; exact hM1
      rw [hc]
      have hMl : M.length = L.length := by rw [hlen, sameKS_len M ts hM2]
      have hr := again_l1 L M ts h1 hM2 (by omega) L.length 0 (by omega)
      have hj : Evr (fun k => scarflaw10_LexAgain.j2 k L M ((M.length : Int) != (L.length : Int))) true :=
        Evr.step hr (fun k => by rw [scarflaw10_LexAgain.j2, hMl, if_neg (by simp)]; rfl)
      exact Evr.eqs hj (fun k => by rw [if_pos rfl])
  | succ m ih =>
    intro i y hi hy hys
    obtain ⟨p, b1, b2, b3, b4, b5, b6, b7⟩ := h3 i (by omega)
    have htake := take_succ_getD ts i (by omega)
    generalize ht : ts.getD i (0, []) = t at b1 b2 b3 b5 b6 b7 htake
    obtain ⟨kd, s⟩ := t
    dsimp only at b1 b2 b3 b5 b6 b7
    have hsl : s.length ≤ 8192 := by
      have : s.length ≤ (txtL kd s).length := by unfold txtL; split <;> simp
      omega
    have htx := text_at b2 b3 b5 hsl
    have hr0 : rd_T33 L (i : Int) = L.getD i z33 := rfl
    rw [← hr0] at htx b4
    generalize hT : strOfNums (txtL kd s) = T at htx
    have hTb : bytesOf T = txtL kd s := by rw [← hT]; exact bytes_of (inB_txt b5)
    have hTs : T.size = (txtL kd s).length := by rw [size_bytes, hTb]
    have hgs : gb.size ≤ 17 := by rw [size_bytes]; exact hgl
    have hy1 : (y ++ T).size = y.size + T.size := ByteArray.size_append
    have hy2 : ((y ++ T) ++ gb).size = y.size + T.size + gb.size := by rw [ByteArray.size_append, hy1]
    have hcut : (x.extract p (p + T.size)).toList = T.toList := by
      rw [cut_str, hTs, b7, hT]
    have hbound : i * 10000 ≤ 81930000 := by omega
    have hys2 : ((y ++ T) ++ gb).size ≤ (i + 1) * 10000 := by rw [hy2]; omega
    have hyb : bytesOf ((y ++ T) ++ gb) = joinL (bytesOf gb) (ts.take (i + 1)) := by
      rw [bytes_append, bytes_append, hy, hTb, htake, joinL_app, List.append_assoc]
      congr 1
      rw [joinL, joinL, List.append_nil]
    have c1 : ¬ ((p : Nat) : Int) > ((x.size - T.size : Nat) : Int) := by clear ih; omega
    have c2 : (p : Int) ≤ ((p + T.size : Nat) : Int) := by clear ih; omega
    have c3 : ((p + T.size : Nat) : Int) ≤ (x.size : Int) := by clear ih; omega
    have c4 : y.size + T.size ≤ 9223372036854775807 := by clear ih; omega
    have c5 : (y ++ T).size + gb.size ≤ 9223372036854775807 := by rw [hy1]; clear ih; omega
    have c6 : (i : Int) < (L.length : Int) := by clear ih; omega
    have c7 : i + 1 + m = L.length := by clear ih; omega
    have c8 : T.size ≤ x.size := by clear ih; omega
    have c9 : p + T.size ≤ 4611686018427387904 := by clear ih; omega
    have c10 : i ≤ 4611686018427387910 := by clear ih; omega
    have hw1 : wrap64 ((p : Int) + (T.size : Int)) = ((p + T.size : Nat) : Int) := wrap_add p T.size c9
    have hw2 : wrap64 ((x.size : Int) - (T.size : Int)) = ((x.size - T.size : Nat) : Int) := wrap_sub x.size T.size c8 (Nat.le_trans hx (by decide))
    have hw3 := wrap_add1 i c10
    have hr := ih (i + 1) ((y ++ T) ++ gb) c7 hyb hys2
    exact Evr.step hr (fun k => by
      rw [scarflaw10_LexAgain.l0, if_pos c6, if_pos (Int.natCast_nonneg i), htx, Option.bind_some, b4, if_neg (Int.not_lt.2 (Int.natCast_nonneg p)), hw2, if_neg c1, if_pos (Int.natCast_nonneg p), hw1, if_pos c2, if_pos c3,
        show ((p : Nat) : Int).toNat = p from rfl, show ((p + T.size : Nat) : Int).toNat = p + T.size from rfl, if_pos hcut, if_pos c4, if_pos c5, hw3])
theorem lexAgain : scarflaw10_LexAgain.Pure := by
  intro x long hx
  have hxl := bytesOf_length x
  refine Evr.out (v := true) ?_
  refine Evr.eqs ?_ (fun k => by rw [scarflaw10_LexAgain.f])
  refine Evr.bind (Cut_lex x) ?_
  have aw : Evr (fun k => (scarflaw10_awake.f k).bind fun t213 => some t213) true := Evr.bind awake_ev Evr.ret
  by_cases hbig : 8192 < (bytesOf x).length
  · have hc : cutOf (bytesOf x) = ([], 0, 14) := by unfold cutOf; rw [if_pos hbig]
    rw [hc]
    exact Evr.eqs aw (fun k => (if_neg (show ¬ (14 : Int) = 0 by decide)).trans ((if_pos (show ((([] : List S33).length : Nat) : Int) = 0 from rfl)).trans ((if_pos (show (0 : Int) ≥ 0 by decide)).trans (if_pos (show (0 : Int) ≤ (x.size : Int) from Int.natCast_nonneg _)))))
  · have hlen := cutOf_len (bytesOf x)
    have hc : cutOf (bytesOf x) = cutL ((bytesOf x).length + 1) [] 0 (bytesOf x) := by unfold cutOf; rw [if_neg hbig]
    generalize hr : cutOf (bytesOf x) = r at hc hlen
    obtain ⟨L, at_, e⟩ := r
    have hs := cut_stands (bytesOf x) (bytes_range x) ((bytesOf x).length + 1) 0 [] L at_ e (fun x h => by cases h) (by omega) (by omega) (by rw [List.drop_zero]; exact hc.symm)
    rcases hs with ⟨rfl, rfl, hst⟩ | ⟨rfl, rfl, q, rfl, hq⟩
    · obtain ⟨ts, h1, h2, h3⟩ := pick (bytesOf x) L hst
      have go : ∀ gb : ByteArray, gapOk (bytesOf gb) → (bytesOf gb).length ≤ 17 → Evr (fun k => scarflaw10_LexAgain.j0 k x L gb) true := by
        intro gb hg hgl
        exact Evr.step (again_l0 x (by omega) gb hg hgl L ts hlen h1 h2 h3 L.length 0 ⟨#[]⟩ (by omega) rfl (Nat.le_refl _)) (fun k => by rw [scarflaw10_LexAgain.j0]; rfl)
      cases long with
      | true => exact Evr.eqs (go (⟨#[32, 47, 42, 32, 97, 32, 47, 42, 32, 98, 32, 42, 47, 32, 42, 47, 32]⟩ : ByteArray) gap_long (by decide)) (fun k => by rw [if_pos rfl, if_pos rfl])
      | false => exact Evr.eqs (go (⟨#[32]⟩ : ByteArray) gap_short (by decide)) (fun k => by rw [if_pos rfl, if_neg (by decide)])
    · exact Evr.eqs aw (fun k => (if_neg (show ¬ (2 : Int) = 0 by decide)).trans ((if_pos (show ((([] : List S33).length : Nat) : Int) = 0 from rfl)).trans ((if_pos (show ((q : Nat) : Int) ≥ 0 from Int.natCast_nonneg _)).trans (if_pos (show ((q : Nat) : Int) ≤ (x.size : Int) by omega)))))
end Go.Proofs.YtlggjgpdiffajaaDoor.LexA
namespace Go.Proofs.YtlggjgpdiffajaaDoor.Pure
open Go.RowKit Go.Proofs.YtlggjgpdiffajaaDoor.PA Go.Proofs.YtlggjgpdiffajaaDoorW.PrintWords Go.Proofs.YtlggjgpdiffajaaDoorW.PrintLast
theorem LexAgain : scarflaw10_LexAgain.Pure :=
  Go.Proofs.YtlggjgpdiffajaaDoor.LexA.lexAgain
end Go.Proofs.YtlggjgpdiffajaaDoor.Pure
