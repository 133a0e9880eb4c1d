/- Several texts, laid into one for a claim: LexB, PAx41, PAx42, PAx43, LexK, LexAw, PAx44, PAx45, PAx46, PAx47, LexT, PAx50, LexC, PAx51, PAx52, LexA, LexV, PureLexVersions. -/
import Derived.Test.YtlggjgpdiffajaaDoorPLexVersions4
import Derived.Test.YtlggjgpdiffajaaDoorPLexVersions2
import Derived.Test.YtlggjgpdiffajaaDoorPLexVersions1
import Derived.Test.YtlggjgpdiffajaaDoorPLexVersions3
namespace Go.Proofs.YtlggjgpdiffajaaDoor.LexB
set_option linter.unusedVariables false
set_option linter.unusedSimpArgs false
open Go.RowKit Go.Proofs.YtlggjgpdiffajaaDoor.PA Go.Proofs.YtlggjgpdiffajaaDoorW.PrintWords Go.Proofs.YtlggjgpdiffajaaDoorW.PrintLast Go.Proofs.YtlggjgpdiffajaaDoorW.PrintMore
open Go.Proofs.YtlggjgpdiffajaaDoor.Str Go.Proofs.YtlggjgpdiffajaaDoor.Ev Go.Proofs.YtlggjgpdiffajaaDoor.LexM
/-- A blank letter. -/
def isB (c : Int) : Bool := c == 32 || c == 9 || c == 10 || c == 13
/-- How long a remark is from here on, d remarks around it. -/
def remL : Nat → List Int → Option Nat
  | _, [] => none
  | _, [_] => none
  | d, c :: e :: r => if c = 47 ∧ e = 42 then (remL (d + 1) r).map (· + 2) else if c = 42 ∧ e = 47 then (if d = 0 then some 2 else (remL (d - 1) r).map (· + 2)) else (remL d (e :: r)).map (· + 1)
/-- Blanks and remarks: 0 between, 1 in a remark of one line, d + 2 in a remark with d around it. -/
def blL : Nat → List Int → Option Nat
  | 0, [] => some 0
  | 1, [] => some 0
  | _ + 2, [] => none
  | 0, [c] => some (if isB c = true then 1 else 0)
  | 1, [_] => some 1
  | _ + 2, [_] => none
  | 0, c :: e :: r => if isB c = true then (blL 0 (e :: r)).map (· + 1) else if c = 47 ∧ e = 47 then (blL 1 r).map (· + 2) else if c = 47 ∧ e = 42 then (blL 2 r).map (· + 2) else some 0
  | 1, c :: e :: r => (blL (if c = 10 then 0 else 1) (e :: r)).map (· + 1)
  | d + 2, c :: e :: r => if c = 47 ∧ e = 42 then (blL (d + 3) r).map (· + 2) else if c = 42 ∧ e = 47 then (blL (if d = 0 then 0 else d + 1) r).map (· + 2) else (blL (d + 2) (e :: r)).map (· + 1)
theorem bl_one (c : Int) (l : List Int) : blL 1 (c :: l) = (blL (if c = 10 then 0 else 1) l).map (· + 1) := by
  cases l with
  | nil => rw [blL]; split <;> rfl
  | cons e r => rw [blL]
theorem bl_blank (c : Int) (l : List Int) (h : isB c = true) : blL 0 (c :: l) = (blL 0 l).map (· + 1) := by
  cases l with
  | nil => show some (if isB c = true then 1 else 0) = _; rw [if_pos h]; rfl
  | cons e r => rw [blL, if_pos h]
theorem bl_line (l : List Int) (h : (10 : Int) ∉ l) : blL 1 l = some l.length := by
  induction l with
  | nil => rfl
  | cons c l ih =>
    rw [List.mem_cons, not_or] at h
    rw [bl_one, if_neg (fun e => h.1 e.symm), ih h.2]; rfl
theorem bl_line_end (p q : List Int) (h : (10 : Int) ∉ p) : blL 1 (p ++ 10 :: q) = (blL 0 q).map (· + (p.length + 1)) := by
  induction p with
  | nil => rw [List.nil_append, bl_one, if_pos rfl]; rfl
  | cons c p ih =>
    rw [List.mem_cons, not_or] at h
    rw [List.cons_append, bl_one, if_neg (fun e => h.1 e.symm), ih h.2, Option.map_map]
    congr 1
theorem bl_slashes (r : List Int) : blL 0 (47 :: 47 :: r) = blL 1 (47 :: 47 :: r) := by
  rw [blL, if_neg (by decide), if_pos ⟨rfl, rfl⟩, bl_one, if_neg (by decide), bl_one, if_neg (by decide), Option.map_map]
  rfl
theorem bl_rem : ∀ (n : Nat) (l : List Int) (d : Nat), l.length ≤ n → blL (d + 2) l = (remL d l).bind fun n => (blL 0 (l.drop n)).map (· + n) := by
  intro n
  induction n with
  | zero =>
    intro l d hl
    obtain rfl : l = [] := List.length_eq_zero_iff.1 (by omega)
    rfl
  | succ n ih =>
    intro l d hl
    match l with
    | [] => rfl
    | [c] => rfl
    | c :: e :: r =>
      simp only [List.length_cons] at hl
      rw [blL, remL]
      by_cases h1 : c = 47 ∧ e = 42
      · rw [if_pos h1, if_pos h1, show d + 3 = (d + 1) + 2 by omega, ih r (d + 1) (by omega)]
        cases remL (d + 1) r with
        | none => rfl
        | some m => simp [Option.map_map, Function.comp_def, Nat.add_assoc]
      · rw [if_neg h1, if_neg h1]
        by_cases h2 : c = 42 ∧ e = 47
        · rw [if_pos h2, if_pos h2]
          by_cases h3 : d = 0
          · rw [if_pos h3, if_pos h3]; rfl
          · rw [if_neg h3, if_neg h3, show d + 1 = (d - 1) + 2 by omega, ih r (d - 1) (by omega)]
            cases remL (d - 1) r with
            | none => rfl
            | some m => simp [Option.map_map, Function.comp_def, Nat.add_assoc]
        · rw [if_neg h2, if_neg h2, ih (e :: r) d (by simp only [List.length_cons]; omega)]
          cases remL d (e :: r) with
          | none => rfl
          | some m => simp [Option.map_map, Function.comp_def, Nat.add_assoc]
theorem bl_star (r : List Int) : blL 0 (47 :: 42 :: r) = (remL 0 r).bind fun n => (blL 0 (r.drop n)).map (· + (n + 2)) := by
  rw [blL, if_neg (by decide), if_neg (by decide), if_pos ⟨rfl, rfl⟩, bl_rem r.length r 0 (Nat.le_refl _)]
  cases remL 0 r with
  | none => rfl
  | some m => simp [Option.map_map, Function.comp_def, Nat.add_assoc]
theorem bl_other (c e : Int) (r : List Int) (h0 : isB c = false) (h1 : ¬ (c = 47 ∧ e = 47)) (h2 : ¬ (c = 47 ∧ e = 42)) : blL 0 (c :: e :: r) = some 0 := by
  rw [blL, if_neg (by rw [h0]; decide), if_neg h1, if_neg h2]
theorem rem_le : ∀ (n : Nat) (l : List Int) (d m : Nat), l.length ≤ n → remL d l = some m → m ≤ l.length ∧ 2 ≤ m := by
  intro n
  induction n with
  | zero =>
    intro l d m hl h
    obtain rfl : l = [] := List.length_eq_zero_iff.1 (by omega)
    cases h
  | succ n ih =>
    intro l d m hl h
    match l with
    | [] => cases h
    | [c] => cases h
    | c :: e :: r =>
      simp only [List.length_cons] at hl ⊢
      rw [remL] at h
      by_cases h1 : c = 47 ∧ e = 42
      · rw [if_pos h1, Option.map_eq_some_iff] at h
        obtain ⟨q, hq, rfl⟩ := h
        have := ih r (d + 1) q (by omega) hq
        omega
      · rw [if_neg h1] at h
        by_cases h2 : c = 42 ∧ e = 47
        · rw [if_pos h2] at h
          by_cases h3 : d = 0
          · rw [if_pos h3] at h; injection h with h; omega
          · rw [if_neg h3, Option.map_eq_some_iff] at h
            obtain ⟨q, hq, rfl⟩ := h
            have := ih r (d - 1) q (by omega) hq
            omega
        · rw [if_neg h2, Option.map_eq_some_iff] at h
          obtain ⟨q, hq, rfl⟩ := h
          have := ih (e :: r) d q (by simp only [List.length_cons]; omega) hq
          simp only [List.length_cons] at this
          omega
theorem bl_le : ∀ (n : Nat) (l : List Int) (s m : Nat), l.length ≤ n → blL s l = some m → m ≤ l.length := by
  intro n
  induction n with
  | zero =>
    intro l s m hl h
    obtain rfl : l = [] := List.length_eq_zero_iff.1 (by omega)
    match s with
    | 0 => injection h with h; simp; omega
    | 1 => injection h with h; simp; omega
    | s + 2 => cases h
  | succ n ih =>
    intro l s m hl h
    match s, l with
    | 0, [] => injection h with h; simp; omega
    | 1, [] => injection h with h; simp; omega
    | s + 2, [] => cases h
    | 0, [c] => rw [blL] at h; injection h with h; simp; split at h <;> omega
    | 1, [c] => injection h with h; simp; omega
    | s + 2, [c] => cases h
    | 0, c :: e :: r =>
      simp only [List.length_cons] at hl ⊢
      rw [blL] at h
      split at h
      · rw [Option.map_eq_some_iff] at h
        obtain ⟨q, hq, rfl⟩ := h
        have := ih (e :: r) 0 q (by simp only [List.length_cons]; omega) hq
        simp only [List.length_cons] at this; omega
      · split at h
        · rw [Option.map_eq_some_iff] at h
          obtain ⟨q, hq, rfl⟩ := h
          have := ih r 1 q (by omega) hq
          omega
        · split at h
          · rw [Option.map_eq_some_iff] at h
            obtain ⟨q, hq, rfl⟩ := h
            have := ih r 2 q (by omega) hq
            omega
          · injection h with h; omega
    | 1, c :: e :: r =>
      simp only [List.length_cons] at hl ⊢
      rw [blL, Option.map_eq_some_iff] at h
      obtain ⟨q, hq, rfl⟩ := h
      have := ih (e :: r) _ q (by simp only [List.length_cons]; omega) hq
      simp only [List.length_cons] at this; omega
    | s + 2, c :: e :: r =>
      simp only [List.length_cons] at hl ⊢
      rw [blL] at h
      split at h
      · rw [Option.map_eq_some_iff] at h
        obtain ⟨q, hq, rfl⟩ := h
        have := ih r _ q (by omega) hq
        omega
      · split at h
        · rw [Option.map_eq_some_iff] at h
          obtain ⟨q, hq, rfl⟩ := h
          have := ih r _ q (by omega) hq
          omega
        · rw [Option.map_eq_some_iff] at h
          obtain ⟨q, hq, rfl⟩ := h
          have := ih (e :: r) _ q (by simp only [List.length_cons]; omega) hq
          simp only [List.length_cons] at this; omega
/-- Two letters at a place. -/
theorem two_at {l : List Int} {i : Nat} (h : i + 1 < l.length) : l.drop i = l.getD i 0 :: l.getD (i + 1) 0 :: l.drop (i + 2) := by
  rw [drop_cons (by omega), drop_cons (i := i + 1) h]
theorem toList_two (s : ByteArray) (a b : UInt8) : s.toList = ([a, b] : List UInt8) ↔ bytesOf s = [(a.toNat : Int), (b.toNat : Int)] := by
  have ht : (⟨#[a, b]⟩ : ByteArray).toList = [a, b] := ByteArray.toList_eq _
  have hb : bytesOf (⟨#[a, b]⟩ : ByteArray) = [(a.toNat : Int), (b.toNat : Int)] := rfl
  rw [← ht, ← hb, toList_iff]
  exact ⟨fun h => by rw [h], bytes_inj⟩
theorem extract_two (x : ByteArray) (i : Nat) (h : i + 1 < x.size) : bytesOf (x.extract i (i + 2)) = [(bytesOf x).getD i 0, (bytesOf x).getD (i + 1) 0] := by
  have hl : i + 1 < (bytesOf x).length := by rw [bytesOf_length]; exact h
  rw [bytes_extract, List.drop_take, show i + 2 - i = 2 by omega, two_at hl]
  rfl
/-- Does it begin with these two letters? -/
def pre2 (l : List Int) (a b : Int) : Bool := l.getD 0 0 == a && l.getD 1 0 == b && decide (2 ≤ l.length)
theorem pre2_t {l : List Int} {a b : Int} (r : List Int) (h : l = a :: b :: r) : pre2 l a b = true := by subst h; simp [pre2]
theorem pre2_f {l : List Int} {c e a b : Int} (r : List Int) (h : l = c :: e :: r) (hn : ¬ (c = a ∧ e = b)) : pre2 l a b = false := by
  subst h
  unfold pre2
  by_cases h1 : c = a
  · have h2 : ¬ e = b := fun h => hn ⟨h1, h⟩
    simp [h2]
  · simp [h1]
theorem pre2_s {l : List Int} (a b : Int) (h : l.length < 2) : pre2 l a b = false := by
  unfold pre2; rw [decide_eq_false (by omega), Bool.and_false]
theorem HasPrefix_two (x : ByteArray) (a b : UInt8) (hx : x.size ≤ 4611686018427387904) : strings_HasPrefix.f x (⟨#[a, b]⟩ : ByteArray) = some (pre2 (bytesOf x) (a.toNat : Int) (b.toNat : Int)) := by
  have hs : (⟨#[a, b]⟩ : ByteArray).size = 2 := rfl
  have ht : (⟨#[a, b]⟩ : ByteArray).toList = [a, b] := ByteArray.toList_eq _
  have hlen := bytesOf_length x
  unfold strings_HasPrefix.f stringslite_HasPrefix.f
  rw [hs]
  by_cases h : 2 ≤ x.size
  · have e := extract_two x 0 (by omega)
    have d := two_at (l := bytesOf x) (i := 0) (by omega)
    rw [List.drop_zero] at d
    rw [if_pos (by omega), if_pos (by omega), if_pos (by omega), ht, Option.bind_some]
    congr 1
    show ((x.extract 0 2).toList == [a, b]) = _
    by_cases hq : (x.extract 0 2).toList = [a, b]
    · have := (toList_two _ a b).1 hq
      rw [e] at this
      injection this with h1 h2
      injection h2 with h2 _
      rw [h1, h2] at d
      rw [hq, pre2_t _ d]; simp
    · rw [pre2_f _ d (fun ⟨h1, h2⟩ => hq ((toList_two _ a b).2 (by rw [e, h1, h2])))]
      simp [hq]
  · rw [if_neg (by omega), Option.bind_some, pre2_s _ _ (by omega)]
/-- What the program tells of a remark. -/
def remV (i : Nat) : Option Nat → Int
  | some n => ((i + n : Nat) : Int)
  | none => 0
theorem lex_rem (x : ByteArray) (hx : x.size ≤ 4611686018427387904) : ∀ (m i d : Nat), x.size - i ≤ m → i ≤ x.size → d < i → Evr (fun k => lex_remark.l0 k x ((d + 1 : Nat) : Int) (i : Int)) (remV i (remL d ((bytesOf x).drop i))) := by
  intro m
  induction m using Nat.strongRecOn with
  | ind m ih =>
  intro i d hm hi hd
  have hlen := bytesOf_length x
  have hw1 : wrap64 ((i : Int) + 1) = ((i + 1 : Nat) : Int) := wrap_add1 i (by omega)
  have hw2 : wrap64 ((i : Int) + 2) = ((i + 2 : Nat) : Int) := wrap_add2 i (by omega)
  have hwd : wrap64 (((d + 1 : Nat) : Int) + 1) = ((d + 1 + 1 : Nat) : Int) := by rw [wrap64_id (by omega) (by omega)]; omega
  have hwe : wrap64 (((d + 1 : Nat) : Int) - 1) = ((d : Nat) : Int) := by rw [wrap64_id (by omega) (by omega)]; omega
  by_cases h : i + 1 < x.size
  · have e2 := extract_two x i h
    have d2 := two_at (l := bytesOf x) (i := i) (by omega)
    rw [d2]
    generalize hc : (bytesOf x).getD i 0 = c at e2 ⊢
    generalize he : (bytesOf x).getD (i + 1) 0 = e at e2 ⊢
    have q1 : (x.extract (i : Int).toNat (((i + 2 : Nat) : Int)).toNat).toList = ([47, 42] : List UInt8) ↔ (c = 47 ∧ e = 42) := by
      show (x.extract i (i + 2)).toList = _ ↔ _
      rw [toList_two, e2]
      simp only [List.cons.injEq, and_true]
      exact Iff.rfl
    have q2 : (x.extract (i : Int).toNat (((i + 2 : Nat) : Int)).toNat).toList = ([42, 47] : List UInt8) ↔ (c = 42 ∧ e = 47) := by
      show (x.extract i (i + 2)).toList = _ ↔ _
      rw [toList_two, e2]
      simp only [List.cons.injEq, and_true]
      exact Iff.rfl
    rw [remL]
    by_cases h1 : c = 47 ∧ e = 42
    · rw [if_pos h1]
      have hr := ih (m - 2) (by omega) (i + 2) (d + 1) (by omega) (by omega) (by omega)
      refine Evr.step ?_ (fun k => by rw [lex_remark.l0, hw1, if_pos (by omega), if_pos (by omega), hw2, if_pos (by omega), if_pos (by omega), if_pos (q1.2 h1), hwd, if_neg (by omega)])
      have e3 : remV i (Option.map (· + 2) (remL (d + 1) ((bytesOf x).drop (i + 2)))) = remV (i + 2) (remL (d + 1) ((bytesOf x).drop (i + 2))) := by
        cases remL (d + 1) ((bytesOf x).drop (i + 2)) with
        | none => rfl
        | some n => simp only [remV, Option.map_some]; omega
      rw [e3]; exact hr
    · rw [if_neg h1]
      by_cases h2 : c = 42 ∧ e = 47
      · rw [if_pos h2]
        by_cases h3 : d = 0
        · rw [if_pos h3]
          subst h3
          exact Evr.step Evr.ret (fun k => by rw [lex_remark.l0, hw1, if_pos (by omega), if_pos (by omega), hw2, if_pos (by omega), if_pos (by omega), if_neg (fun z => h1 (q1.1 z)), if_pos (q2.2 h2), hwe, if_pos (show ((0 : Nat) : Int) = 0 from rfl)]; rfl)
        · rw [if_neg h3]
          have hr := ih (m - 2) (by omega) (i + 2) (d - 1) (by omega) (by omega) (by omega)
          refine Evr.step ?_ (fun k => by rw [lex_remark.l0, hw1, if_pos (by omega), if_pos (by omega), hw2, if_pos (by omega), if_pos (by omega), if_neg (fun z => h1 (q1.1 z)), if_pos (q2.2 h2), hwe, if_neg (by omega), show ((d : Nat) : Int) = ((d - 1 + 1 : Nat) : Int) by omega])
          have e3 : remV i (Option.map (· + 2) (remL (d - 1) ((bytesOf x).drop (i + 2)))) = remV (i + 2) (remL (d - 1) ((bytesOf x).drop (i + 2))) := by
            cases remL (d - 1) ((bytesOf x).drop (i + 2)) with
            | none => rfl
            | some n => simp only [remV, Option.map_some]; omega
          rw [e3]; exact hr
      · rw [if_neg h2]
        have hr := ih (m - 1) (by omega) (i + 1) d (by omega) (by omega) (by omega)
        refine Evr.step ?_ (fun k => by rw [lex_remark.l0, hw1, if_pos (by omega), if_pos (by omega), hw2, if_pos (by omega), if_pos (by omega), if_neg (fun z => h1 (q1.1 z)), if_neg (fun z => h2 (q2.1 z)), if_neg (by omega)])
        have hd : (bytesOf x).drop (i + 1) = e :: (bytesOf x).drop (i + 2) := by rw [drop_cons (by omega), he]
        rw [hd] at hr
        have e3 : remV i (Option.map (· + 1) (remL d (e :: (bytesOf x).drop (i + 2)))) = remV (i + 1) (remL d (e :: (bytesOf x).drop (i + 2))) := by
          cases remL d (e :: (bytesOf x).drop (i + 2)) with
          | none => rfl
          | some n => simp only [remV, Option.map_some]; omega
        rw [e3]; exact hr
  · have hn : remL d ((bytesOf x).drop i) = none := by
      have hl : ((bytesOf x).drop i).length ≤ 1 := by rw [List.length_drop]; omega
      match hm : (bytesOf x).drop i with
      | [] => rfl
      | [_] => rfl
      | _ :: _ :: _ => rw [hm] at hl; simp only [List.length_cons] at hl; omega
    rw [hn]
    exact Evr.step Evr.ret (fun k => by rw [lex_remark.l0, hw1, if_neg (by omega)]; rfl)
theorem lex_remark_at (x : ByteArray) (hx : x.size ≤ 4611686018427387904) (r : List Int) (h : bytesOf x = 47 :: 42 :: r) : Evr (fun k => lex_remark.f k x) (remV 2 (remL 0 r)) := by
  have hlen := bytesOf_length x
  have hs : 2 ≤ x.size := by rw [← hlen, h]; simp
  have e2 := extract_two x 0 (by omega)
  have q1 : (x.extract (0 : Int).toNat (2 : Int).toNat).toList = ([47, 42] : List UInt8) := by
    show (x.extract 0 2).toList = _
    rw [toList_two, e2, h]; rfl
  have hr := lex_rem x hx x.size 2 0 (by omega) hs (by omega)
  rw [h] at hr
  refine Evr.eqs (h := fun k => lex_remark.l0 k x 0 0) ?_ (fun k => rfl)
  refine Evr.step hr (fun k => ?_)
  rw [lex_remark.l0, show wrap64 ((0 : Int) + 1) = 1 from wrap64_id (by omega) (by omega), if_pos (by omega), if_pos (by omega), show wrap64 ((0 : Int) + 2) = 2 from wrap64_id (by omega) (by omega), if_pos (by omega), if_pos (by omega), if_pos q1, if_neg (by decide)]
  rfl
/-- What the program tells of blanks. -/
def blV (i : Nat) : Option Nat → Int × Bool
  | some n => (((i + n : Nat) : Int), true)
  | none => (0, false)
theorem blV_add (i n : Nat) (o : Option Nat) : blV i (o.map (· + n)) = blV (i + n) o := by
  cases o with
  | none => rfl
  | some m => simp only [blV, Option.map_some]; congr 2; omega
theorem isB_cases (c : Int) : isB c = true ↔ c = 32 ∨ c = 9 ∨ c = 10 ∨ c = 13 := by
  unfold isB
  simp [or_assoc]
theorem lex_bl (x : ByteArray) (hx : x.size ≤ 140737488355328) : ∀ (m i : Nat), x.size ≤ i + m → i ≤ x.size → Evr (fun k => lex_blank.l0 k x (i : Int)) (blV i (blL 0 ((bytesOf x).drop i))) := by
  intro m
  induction m using Nat.strongRecOn with
  | ind m ih =>
  intro i hm hi
  have hlen := bytesOf_length x
  have hw1 : wrap64 ((i : Int) + 1) = ((i + 1 : Nat) : Int) := wrap_add1 i (by omega)
  by_cases hi' : i = x.size
  · rw [List.drop_of_length_le (by omega)]
    exact Evr.step Evr.ret (fun k => by rw [lex_blank.l0, if_neg (by omega)]; rfl)
  · obtain ⟨m, rfl⟩ : ∃ q, m = q + 1 := ⟨m - 1, by omega⟩
    generalize hy : x.extract i x.size = y
    have hyb : bytesOf y = (bytesOf x).drop i := by rw [← hy]; exact bytes_rest x i
    have hys : y.size + i = x.size := by rw [size_bytes, hyb, List.length_drop]; omega
    have d1 : (bytesOf x).drop i = (bytesOf x).getD i 0 :: (bytesOf x).drop (i + 1) := drop_cons (by omega)
    generalize hc : (bytesOf x).getD i 0 = c at d1
    have hb0 : bt y 0 = c := by rw [show (0 : Int) = ((0 : Nat) : Int) from rfl, bt_nat, hyb, d1]; rfl
    have hj : Evr (fun k => lex_blank.j1 k x (i : Int) y (isB c)) (blV i (blL 0 ((bytesOf x).drop i))) := by
      cases hB : isB c with
      | true =>
        rw [d1, bl_blank c _ hB, blV_add]
        exact Evr.step (ih m (Nat.lt_succ_self m) (i + 1) (by omega) (by omega)) (fun k => by rw [lex_blank.j1, if_pos rfl, hw1])
      | false =>
        have p1 := HasPrefix_two y 47 47 (by omega)
        have p2 := HasPrefix_two y 47 42 (by omega)
        have other : ∀ r, (bytesOf x).drop i = r → (strings_HasPrefix.f y (⟨#[47, 47]⟩ : ByteArray) = some false) → (strings_HasPrefix.f y (⟨#[47, 42]⟩ : ByteArray) = some false) → blL 0 r = some 0 → Evr (fun k => lex_blank.j1 k x (i : Int) y false) (blV i (blL 0 r)) := by
          intro r hr f1 f2 hz
          rw [hz]
          exact Evr.step Evr.ret (fun k => by rw [lex_blank.j1, if_neg (by decide), f1, Option.bind_some, if_neg (by decide), f2, Option.bind_some, if_neg (by decide)]; rfl)
        match hd : (bytesOf x).drop i with
        | [] => rw [hd] at d1; cases d1
        | [e] =>
          rw [hd] at d1
          injection d1 with d1 _
          subst d1
          rw [pre2_s _ _ (by rw [hyb, hd]; simp)] at p1 p2
          refine other _ hd p1 p2 ?_
          show some (if isB e = true then 1 else 0) = some 0
          rw [hB]; rfl
        | e :: f :: r =>
          have hyx := hyb.trans hd
          rw [hd] at d1
          injection d1 with d1 d1'
          subst d1
          have d3 : (bytesOf x).drop (i + 2) = r := by
            rw [show i + 2 = (i + 1) + 1 by omega, ← List.drop_drop, ← d1']; rfl
          by_cases h1 : e = 47 ∧ f = 47
          · obtain ⟨rfl, rfl⟩ := h1
            have p1 : strings_HasPrefix.f y (⟨#[47, 47]⟩ : ByteArray) = some true := p1.trans (congrArg some (pre2_t r hyx))
            rw [bl_slashes]
            obtain ⟨s1, s2⟩ := index_split y 10
            have ht := indexByte_lt' y 10
            by_cases hn : Go.Lib.indexByte y.data.toList 10 < 0
            · have h10 := s1 hn
              rw [hyx] at h10
              rw [bl_line _ h10]
              have hl : (47 :: 47 :: r).length = y.size := by rw [← hyx, bytesOf_length]
              refine Evr.step Evr.ret (fun k => ?_)
              rw [lex_blank.j1, if_neg (by decide), p1, Option.bind_some, if_pos rfl, strings_IndexByte.f, Option.bind_some]
              rw [show Go.Lib.indexByte y.data.toList (10 : Int).toNat.toUInt8 = Go.Lib.indexByte y.data.toList 10 from rfl, if_pos hn, hl]
              simp only [blV]
              congr 2; omega
            · obtain ⟨s3, s4⟩ := s2 hn
              generalize ht' : (Go.Lib.indexByte y.data.toList 10).toNat = t at s3 s4
              have hti : Go.Lib.indexByte y.data.toList 10 = (t : Int) := by omega
              rw [hti] at ht
              have hb : i + (t + 1) ≤ x.size := by clear hw1 ih s1 s2 s3 s4 hx hm hti ht'; omega
              have hb2 : x.size ≤ i + (t + 1) + m := by clear hw1 ih s1 s2 s3 s4 hx ht hti ht'; omega
              have hlt : ((bytesOf y).take t).length = t := by rw [List.length_take, bytesOf_length]; omega
              have hdt : (bytesOf y).drop (t + 1) = (bytesOf x).drop (i + (t + 1)) := by rw [hyb, List.drop_drop]
              have e3 : blL 1 (47 :: 47 :: r) = (blL 0 ((bytesOf x).drop (i + (t + 1)))).map (· + (t + 1)) := by
                rw [← hyx, s3, show ((10 : UInt8).toNat : Int) = 10 from rfl, bl_line_end _ _ s4, hlt, hdt]
              rw [e3, blV_add]
              have hwt : wrap64 ((t : Int) + 1) = ((t + 1 : Nat) : Int) := wrap_add1 t (Nat.le_trans (by clear hw1 ih s1 s2 s3 s4 hx hm hti ht' ht hb2 hlt; omega) (Nat.le_trans (Nat.le_trans hb hx) (by decide)))
              have hwi : wrap64 ((i : Int) + ((t + 1 : Nat) : Int)) = ((i + (t + 1) : Nat) : Int) := wrap_add i (t + 1) (Nat.le_trans hb (Nat.le_trans hx (by decide)))
              refine Evr.step (ih m (Nat.lt_succ_self m) (i + (t + 1)) hb2 hb) (fun k => ?_)
              rw [lex_blank.j1, if_neg (by decide), p1, Option.bind_some, if_pos rfl, strings_IndexByte.f, Option.bind_some]
              rw [show Go.Lib.indexByte y.data.toList (10 : Int).toNat.toUInt8 = Go.Lib.indexByte y.data.toList 10 from rfl, hti, if_neg (Int.not_lt.2 (Int.natCast_nonneg t)), hwt, hwi]
          · have p1 : strings_HasPrefix.f y (⟨#[47, 47]⟩ : ByteArray) = some false := p1.trans (congrArg some (pre2_f r hyx h1))
            by_cases h2 : e = 47 ∧ f = 42
            · obtain ⟨rfl, rfl⟩ := h2
              have p2 : strings_HasPrefix.f y (⟨#[47, 42]⟩ : ByteArray) = some true := p2.trans (congrArg some (pre2_t r hyx))
              rw [bl_star]
              have hr := lex_remark_at y (by omega) r hyx
              refine Evr.step ?_ (fun k => by rw [lex_blank.j1, if_neg (by decide), p1, Option.bind_some, if_neg (by decide), p2, Option.bind_some, if_pos rfl])
              refine Evr.bind hr ?_
              cases hq : remL 0 r with
              | none => exact Evr.eqs Evr.ret (fun k => by rw [remV, if_pos rfl]; rfl)
              | some n =>
                have hn := rem_le r.length r 0 n (Nat.le_refl _) hq
                have hl : r.length + 1 + 1 = y.size := by rw [← bytesOf_length y, hyx]; rfl
                have hwi : wrap64 ((i : Int) + ((2 + n : Nat) : Int)) = ((i + (n + 2) : Nat) : Int) := (wrap_add i (2 + n) (by omega)).trans (by rw [Nat.add_comm 2 n])
                rw [Option.bind_some, ← d3, List.drop_drop, blV_add, show i + 2 + n = i + (n + 2) by omega]
                exact Evr.eqs (ih m (Nat.lt_succ_self m) (i + (n + 2)) (by omega) (by omega)) (fun k => by rw [remV, if_neg (by omega), hwi])
            · have p2 : strings_HasPrefix.f y (⟨#[47, 42]⟩ : ByteArray) = some false := p2.trans (congrArg some (pre2_f r hyx h2))
              exact other _ hd p1 p2 (bl_other e f r hB h1 h2)
    refine Evr.step hj (fun k => ?_)
    rw [lex_blank.l0, if_pos (by omega), if_pos (by omega), if_pos (by omega), show (i : Int).toNat = i from rfl, hy, if_pos (by omega), hb0]
    by_cases c1 : c = 32
    · rw [if_pos c1, show isB c = true by rw [isB_cases]; exact .inl c1]
    · rw [if_neg c1]
      by_cases c2 : c = 9
      · rw [if_pos c2, show isB c = true by rw [isB_cases]; exact .inr (.inl c2)]
      · rw [if_neg c2]
        by_cases c3 : c = 10
        · rw [if_pos c3, show isB c = true by rw [isB_cases]; exact .inr (.inr (.inl c3))]
        · rw [if_neg c3]
          have : isB c = (c == 13) := by unfold isB; simp [c1, c2, c3]
          rw [this]
theorem lex_blank_at (x : ByteArray) (hx : x.size ≤ 140737488355328) : Evr (fun k => lex_blank.f k x) (blV 0 (blL 0 (bytesOf x))) := by
  have := lex_bl x hx x.size 0 (by omega) (by omega)
  rw [List.drop_zero] at this
  exact this
end Go.Proofs.YtlggjgpdiffajaaDoor.LexB
namespace Go.Proofs.YtlggjgpdiffajaaDoor.PA
open Go.RowKit Go.Proofs.YtlggjgpdiffajaaDoorW.PrintWords Go.Proofs.YtlggjgpdiffajaaDoorW.PrintLast Go.Proofs.YtlggjgpdiffajaaDoorW.PrintMore
attribute [local go_sem] max2_int min2_int max_two min_two max_three min_three max_four min_four   -- for this text's walks alone
set_option linter.unusedVariables false
set_option linter.unusedSimpArgs false
end Go.Proofs.YtlggjgpdiffajaaDoor.PA
namespace Go.Proofs.YtlggjgpdiffajaaDoor.LexK
set_option linter.unusedVariables false
set_option linter.unusedSimpArgs false
open Go.RowKit Go.Proofs.YtlggjgpdiffajaaDoor.PA Go.Proofs.YtlggjgpdiffajaaDoorW.PrintWords Go.Proofs.YtlggjgpdiffajaaDoorW.PrintLast Go.Proofs.YtlggjgpdiffajaaDoorW.PrintMore
open Go.Proofs.YtlggjgpdiffajaaDoor.Str Go.Proofs.YtlggjgpdiffajaaDoor.Ev Go.Proofs.YtlggjgpdiffajaaDoor.LexM
end Go.Proofs.YtlggjgpdiffajaaDoor.LexK
namespace Go.Proofs.YtlggjgpdiffajaaDoor.PA
set_option maxRecDepth 100000
open Go.Proofs.YtlggjgpdiffajaaDoorW.PrintWords Go.Proofs.YtlggjgpdiffajaaDoor.Ev
theorem awake_at : scarflaw10_awake.f 60 = some true := by decide +kernel
theorem awake_ev : Evr (fun k => scarflaw10_awake.f k) true := ⟨60, fun _ hk => at_rounds scarflaw10_awake.mono hk awake_at⟩
open Go.RowKit Go.Proofs.YtlggjgpdiffajaaDoorW.PrintWords Go.Proofs.YtlggjgpdiffajaaDoorW.PrintLast Go.Proofs.YtlggjgpdiffajaaDoorW.PrintMore
attribute [local go_sem] max2_int min2_int max_two min_two max_three min_three max_four min_four   -- for this text's walks alone
set_option linter.unusedVariables false
set_option linter.unusedSimpArgs false
end Go.Proofs.YtlggjgpdiffajaaDoor.PA
namespace Go.Proofs.YtlggjgpdiffajaaDoor.LexT
set_option linter.unusedVariables false
set_option linter.unusedSimpArgs false
open Go.RowKit Go.Proofs.YtlggjgpdiffajaaDoor.PA Go.Proofs.YtlggjgpdiffajaaDoorW.PrintWords Go.Proofs.YtlggjgpdiffajaaDoorW.PrintLast Go.Proofs.YtlggjgpdiffajaaDoorW.PrintMore
open Go.Proofs.YtlggjgpdiffajaaDoor.Str Go.Proofs.YtlggjgpdiffajaaDoor.Ev Go.Proofs.YtlggjgpdiffajaaDoor.LexM Go.Proofs.YtlggjgpdiffajaaDoor.LexB Go.Proofs.YtlggjgpdiffajaaDoor.LexK
theorem take_while (q : Int → Bool) (l : List Int) : l.take (l.takeWhile q).length = l.takeWhile q := by
  induction l with
  | nil => rfl
  | cons c l ih =>
    rw [List.takeWhile_cons]
    by_cases h : q c = true
    · rw [if_pos h, List.length_cons, List.take_succ_cons, ih]
    · rw [if_neg h]; rfl
theorem tw_le (q : Int → Bool) (l : List Int) : (l.takeWhile q).length ≤ l.length := by
  have := congrArg List.length (take_while q l)
  rw [List.length_take] at this; omega
/-- A piece of a text. -/
theorem cut_str (x : ByteArray) (a n : Nat) : x.extract a (a + n) = strOfNums (((bytesOf x).drop a).take n) := by
  rw [← str_of (x.extract a (a + n)), bytes_extract, List.drop_take, Nat.add_sub_cancel_left]
theorem cut_bytes (x : ByteArray) (a n : Nat) : bytesOf (x.extract a (a + n)) = ((bytesOf x).drop a).take n := by
  rw [bytes_extract, List.drop_take, Nat.add_sub_cancel_left]
theorem row_l0 (may : Int → Bool) (x : ByteArray) (hx : x.size ≤ 4611686018427387904) : ∀ (m i k : Nat), x.size ≤ i + m → i ≤ x.size → m + 1 ≤ k → lex_row.l0 may k x (i : Int) = some (((i + (((bytesOf x).drop i).takeWhile may).length : Nat)) : Int) := by
  intro m
  induction m with
  | zero =>
    intro i k hm hi hk
    obtain ⟨k, rfl⟩ : ∃ q, k = q + 1 := ⟨k - 1, by omega⟩
    rw [List.drop_of_length_le (by rw [bytesOf_length]; omega), lex_row.l0, if_neg (by omega)]
    rfl
  | succ m ih =>
    intro i k hm hi hk
    obtain ⟨k, rfl⟩ : ∃ q, k = q + 1 := ⟨k - 1, by omega⟩
    by_cases hi' : i = x.size
    · rw [List.drop_of_length_le (by rw [bytesOf_length]; omega), lex_row.l0, if_neg (by omega)]
      rfl
    · rw [drop_cons (by rw [bytesOf_length]; omega), lex_row.l0, if_pos (by omega), if_pos (by omega), bt_nat, List.takeWhile_cons]
      by_cases h : may ((bytesOf x).getD i 0) = true
      · rw [if_pos h, if_pos h, wrap_add1 i (by omega), ih (i + 1) k (by omega) (by omega) (by omega), List.length_cons]
        congr 2; omega
      · rw [if_neg h, if_neg h]; rfl
theorem row_name (x : ByteArray) (hx : x.size ≤ 4611686018427387904) : lex_row.f x 33 = some ((((bytesOf x).takeWhile lxName).length : Nat) : Int) := by
  have := row_l0 lxName x hx x.size 0 (x.size + 1) (by omega) (by omega) (by omega)
  rw [List.drop_zero, Nat.zero_add] at this
  rw [lex_row.f, if_pos rfl]; exact this
theorem row_num (x : ByteArray) (hx : x.size ≤ 4611686018427387904) : lex_row.f x 37 = some ((((bytesOf x).takeWhile lxNum).length : Nat) : Int) := by
  have := row_l0 lxNum x hx x.size 0 (x.size + 1) (by omega) (by omega) (by omega)
  rw [List.drop_zero, Nat.zero_add] at this
  rw [lex_row.f, if_neg (by decide), if_pos rfl]; exact this
/-- The signs. -/
def signs : List Int := [58, 59, 44, 46, 47, 123, 125, 40, 41, 60, 62, 61, 64, 95]
def isSign (c : Int) : Bool := signs.contains c
/-- The token at the beginning: its kind, its text, how long it is there. -/
def tokL : List Int → Option (Int × List Int × Nat)
  | [] => none
  | c :: r =>
    if c = 37 then (if nameOk (r.takeWhile lxName) = true then some (2, r.takeWhile lxName, (r.takeWhile lxName).length + 1) else none)
    else if (lxLo c || lxUp c) = true then (if nameOk ((c :: r).takeWhile lxName) = true then some (1, (c :: r).takeWhile lxName, ((c :: r).takeWhile lxName).length) else none)
    else if lxDi c = true then (if verS ((c :: r).takeWhile lxNum) = true then some (3, (c :: r).takeWhile lxNum, ((c :: r).takeWhile lxNum).length) else none)
    else if pre2 (c :: r) 45 62 = true then some (4, [45, 62], 2)
    else if isSign c = true then some (4, [c], 1) else none
/-- What the program, and what the reference, tells of it. -/
def oneV : Option (Int × List Int × Nat) → Int × ByteArray × Int × Int
  | some (kd, s, n) => (kd, strOfNums s, 0, (n : Int))
  | none => (0, (⟨#[]⟩ : ByteArray), 0, 0)
theorem sign_index (c : Int) (h0 : 0 ≤ c) (h1 : c < 256) : ∃ r, strings_IndexByte.f (⟨#[58, 59, 44, 46, 47, 123, 125, 40, 41, 60, 62, 61, 64, 95]⟩ : ByteArray) c = some r ∧ (isSign c = true ↔ r ≥ 0) := by
  have key : ∀ n : Nat, n < 256 → (isSign (n : Int) = true ↔ Go.Lib.indexByte [58, 59, 44, 46, 47, 123, 125, 40, 41, 60, 62, 61, 64, 95] n.toUInt8 ≥ 0) := by decide +kernel
  have := key c.toNat (by omega)
  rw [show ((c.toNat : Nat) : Int) = c by omega] at this
  exact ⟨_, rfl, this⟩
theorem lex_one_at (x : ByteArray) (hx : x.size ≤ 140737488355328) (h0 : 0 < x.size) : Evr (fun k => lex_one.f k x) (oneV (tokL (bytesOf x))) := by
  have hlen := bytesOf_length x
  obtain ⟨c, r, hd⟩ : ∃ c r, bytesOf x = c :: r := by
    cases h : bytesOf x with
    | nil => rw [h] at hlen; simp at hlen; omega
    | cons c r => exact ⟨c, r, rfl⟩
  have hb : bt x 0 = c := by rw [show (0 : Int) = ((0 : Nat) : Int) from rfl, bt_nat, hd]; rfl
  have hrange := bytes_range x c (by rw [hd]; exact List.mem_cons_self)
  have hl : r.length + 1 = x.size := by rw [← hlen, hd]; rfl
  rw [hd, tokL]
  by_cases h37 : c = 37
  · rw [if_pos h37]
    have hrest : bytesOf (x.extract 1 x.size) = r := by rw [bytes_rest, hd]; rfl
    have hrs : (x.extract 1 x.size).size = r.length := by rw [size_bytes, hrest]
    have hrow := row_name (x.extract 1 x.size) (by omega)
    rw [hrest] at hrow
    have hn := tw_le lxName r
    have hcut := cut_str x 1 (r.takeWhile lxName).length
    have hcb := cut_bytes x 1 (r.takeWhile lxName).length
    rw [hd, List.drop_succ_cons, List.drop_zero, take_while] at hcut hcb
    have hw : wrap64 (1 + (((r.takeWhile lxName).length : Nat) : Int)) = ((1 + (r.takeWhile lxName).length : Nat) : Int) := wrap_add 1 _ (by omega)
    have hN : lex_Name.f (x.extract 1 (((1 + (r.takeWhile lxName).length : Nat) : Int)).toNat) = some (nameOk (r.takeWhile lxName)) := by
      rw [show (((1 + (r.takeWhile lxName).length : Nat) : Int)).toNat = 1 + (r.takeWhile lxName).length from rfl, Name_eq, hcb]
    refine Evr.eqs ?_ (fun k => by rw [lex_one.f, if_pos (by omega), hb, if_pos h37, if_pos (by omega), hrow, Option.bind_some, hw, if_pos (by omega), if_pos (by omega), hN, Option.bind_some])
    by_cases hk : nameOk (r.takeWhile lxName) = true
    · rw [if_pos hk]
      refine Evr.const ?_
      rw [if_pos hk, show (((1 + (r.takeWhile lxName).length : Nat) : Int)).toNat = 1 + (r.takeWhile lxName).length from rfl, hcut, oneV, Nat.add_comm 1]
    · rw [if_neg hk]
      exact Evr.const (by rw [if_neg hk]; rfl)
  · rw [if_neg h37]
    have j0 : ∀ b, b = (lxLo c || lxUp c) → Evr (fun k => lex_one.j0 k x c b) (oneV (if (lxLo c || lxUp c) = true then (if nameOk ((c :: r).takeWhile lxName) = true then some (1, (c :: r).takeWhile lxName, ((c :: r).takeWhile lxName).length) else none)
    else if lxDi c = true then (if verS ((c :: r).takeWhile lxNum) = true then some (3, (c :: r).takeWhile lxNum, ((c :: r).takeWhile lxNum).length) else none)
    else if pre2 (c :: r) 45 62 = true then some (4, [45, 62], 2)
    else if isSign c = true then some (4, [c], 1) else none)) := by
      rintro b rfl
      by_cases h1 : (lxLo c || lxUp c) = true
      · rw [h1, if_pos rfl]
        have hrow := row_name x (by omega)
        rw [hd] at hrow
        have hn := tw_le lxName (c :: r)
        rw [List.length_cons] at hn
        have hcut := cut_str x 0 ((c :: r).takeWhile lxName).length
        have hcb := cut_bytes x 0 ((c :: r).takeWhile lxName).length
        rw [hd, List.drop_zero, take_while, Nat.zero_add] at hcut hcb
        have hN : lex_Name.f (x.extract 0 ((((c :: r).takeWhile lxName).length : Nat) : Int).toNat) = some (nameOk ((c :: r).takeWhile lxName)) := by
          rw [show ((((c :: r).takeWhile lxName).length : Nat) : Int).toNat = ((c :: r).takeWhile lxName).length from rfl, Name_eq, hcb]
        refine Evr.step ?_ (fun k => by rw [lex_one.j0, if_pos rfl, hrow, Option.bind_some, if_pos (by omega), if_pos (by omega), hN, Option.bind_some])
        by_cases hk : nameOk ((c :: r).takeWhile lxName) = true
        · rw [if_pos hk]
          refine Evr.const ?_
          rw [if_pos hk, show ((((c :: r).takeWhile lxName).length : Nat) : Int).toNat = ((c :: r).takeWhile lxName).length from rfl, hcut, oneV]
        · rw [if_neg hk]
          exact Evr.const (by rw [if_neg hk]; rfl)
      · rw [show (lxLo c || lxUp c) = false by simpa using h1, if_neg (by decide)]
        by_cases h2 : lxDi c = true
        · rw [if_pos h2]
          have hrow := row_num x (by omega)
          rw [hd] at hrow
          have hn := tw_le lxNum (c :: r)
          rw [List.length_cons] at hn
          have hcut := cut_str x 0 ((c :: r).takeWhile lxNum).length
          have hcb := cut_bytes x 0 ((c :: r).takeWhile lxNum).length
          rw [hd, List.drop_zero, take_while, Nat.zero_add] at hcut hcb
          have hV : lex_Version.f (x.extract 0 ((((c :: r).takeWhile lxNum).length : Nat) : Int).toNat) = some (verS ((c :: r).takeWhile lxNum)) := by
            rw [show ((((c :: r).takeWhile lxNum).length : Nat) : Int).toNat = ((c :: r).takeWhile lxNum).length from rfl, Version_eq _ (by rw [size_bytes, hcb]; omega), hcb]
          refine Evr.step ?_ (fun k => by rw [lex_one.j0, if_neg (by decide), digit_at, Option.bind_some, if_pos h2, hrow, Option.bind_some, if_pos (by omega), if_pos (by omega), hV, Option.bind_some])
          by_cases hk : verS ((c :: r).takeWhile lxNum) = true
          · rw [if_pos hk]
            refine Evr.const ?_
            rw [if_pos hk, show ((((c :: r).takeWhile lxNum).length : Nat) : Int).toNat = ((c :: r).takeWhile lxNum).length from rfl, hcut, oneV]
          · rw [if_neg hk]
            exact Evr.const (by rw [if_neg hk]; rfl)
        · rw [if_neg h2]
          have hp := HasPrefix_two x 45 62 (by omega)
          rw [hd] at hp
          refine Evr.step ?_ (fun k => by rw [lex_one.j0, if_neg (by decide), digit_at, Option.bind_some, if_neg h2, hp, Option.bind_some])
          by_cases h3 : pre2 (c :: r) 45 62 = true
          · rw [if_pos h3]
            exact Evr.const (by rw [show pre2 (c :: r) ((45 : UInt8).toNat : Int) ((62 : UInt8).toNat : Int) = true from h3, if_pos rfl]; rfl)
          · rw [if_neg h3]
            obtain ⟨q, hq, hs⟩ := sign_index c hrange.1 hrange.2
            refine Evr.eqs ?_ (fun k => by rw [show pre2 (c :: r) ((45 : UInt8).toNat : Int) ((62 : UInt8).toNat : Int) = false by simpa using h3, if_neg (by decide), hq, Option.bind_some])
            by_cases h4 : isSign c = true
            · rw [if_pos h4]
              have hcut := cut_str x 0 1
              rw [hd] at hcut
              exact Evr.const (by rw [if_pos (hs.1 h4), if_pos (by decide), if_pos (by omega), hcut]; rfl)
            · rw [if_neg h4]
              exact Evr.const (by rw [if_neg (fun z => h4 (hs.2 z))]; rfl)
    by_cases hl1 : lxLo c = true
    · refine Evr.eqs (j0 true (by rw [hl1]; rfl)) (fun k => by rw [lex_one.f, if_pos (by omega), hb, if_neg h37, lower_at, Option.bind_some, if_pos hl1])
    · have hl2 : lxLo c = false := by simpa using hl1
      refine Evr.eqs (j0 (lxUp c) (by rw [hl2]; rfl)) (fun k => by rw [lex_one.f, if_pos (by omega), hb, if_neg h37, lower_at, Option.bind_some, if_neg hl1, upper_at, Option.bind_some])
theorem tok_pos {l : List Int} {kd : Int} {s : List Int} {n : Nat} (h : tokL l = some (kd, s, n)) : 0 < n ∧ n ≤ l.length := by
  cases l with
  | nil => cases h
  | cons c r =>
    rw [tokL] at h
    have h1 := tw_le lxName r
    have h2 := tw_le lxName (c :: r)
    have h3 := tw_le lxNum (c :: r)
    split at h
    · split at h
      · injection h with h; injection h with _ h; injection h with _ h; rw [List.length_cons]; omega
      · cases h
    · split at h
      · split at h
        · rename_i hk
          injection h with h; injection h with _ h; injection h with _ h
          unfold nameOk at hk
          simp only [Bool.and_eq_true, decide_eq_true_eq] at hk
          omega
        · cases h
      · split at h
        · split at h
          · rename_i hdi hv
            injection h with h; injection h with _ h; injection h with _ h
            have : (c :: r).takeWhile lxNum = c :: r.takeWhile lxNum := by rw [List.takeWhile_cons, if_pos (by unfold lxNum; rw [hdi]; rfl)]
            rw [this] at h
            rw [this] at h3
            rw [List.length_cons] at h
            rw [List.length_cons] at h3
            omega
          · cases h
        · split at h
          · rename_i hp
            injection h with h; injection h with _ h; injection h with _ h
            unfold pre2 at hp
            simp only [Bool.and_eq_true, decide_eq_true_eq] at hp
            omega
          · split at h
            · injection h with h; injection h with _ h; injection h with _ h
              rw [List.length_cons]; omega
            · cases h
/-- The tokens of a text from a place on. -/
def cutL : Nat → List S33 → Nat → List Int → List S33 × Int × Int
  | 0, acc, p, _ => (acc, 0, 0)
  | k + 1, acc, p, l => match blL 0 l with
    | none => ([], (p : Int), 2)
    | some n => if l.length ≤ n then (acc, 0, 0) else match tokL (l.drop n) with
      | none => ([], ((p + n : Nat) : Int), 2)
      | some (kd, s, m) => cutL k (acc ++ [⟨kd, strOfNums s, ((p + n : Nat) : Int)⟩]) (p + n + m) (l.drop (n + m))
theorem lex_cut (x : ByteArray) (hx : x.size ≤ 8192) : ∀ (m i : Nat) (acc : List S33), x.size < i + m → i ≤ x.size → acc.length ≤ i → Evr (fun k => lex_Cut.l0 k x acc (i : Int)) (cutL m acc i ((bytesOf x).drop i)) := by
  intro m
  induction m with
  | zero => intro i acc hm hi; omega
  | succ m ih =>
    intro i acc hm hi ha
    have hlen := bytesOf_length x
    have hrest : bytesOf (x.extract i x.size) = (bytesOf x).drop i := bytes_rest x i
    have hrs : (x.extract i x.size).size + i = x.size := by rw [size_bytes, hrest, List.length_drop]; omega
    have hbl := lex_blank_at (x.extract i x.size) (by omega)
    rw [hrest] at hbl
    rw [cutL]
    refine Evr.step ?_ (fun k => by rw [lex_Cut.l0, if_pos (by omega), if_pos (by omega), show ((i : Nat) : Int).toNat = i from rfl])
    refine Evr.bind hbl ?_
    cases hq : blL 0 ((bytesOf x).drop i) with
    | none => exact Evr.const rfl
    | some n =>
      have hn := bl_le _ _ 0 n (Nat.le_refl _) hq
      rw [List.length_drop, hlen] at hn
      generalize hv : blV 0 (some n) = v
      have hv1 : v.1 = ((0 + n : Nat) : Int) := by rw [← hv]; rfl
      have hv2 : v.2 = true := by rw [← hv]; rfl
      have hw : wrap64 ((i : Int) + v.1) = ((i + n : Nat) : Int) := by rw [hv1, wrap_add i (0 + n) (by omega), Nat.zero_add]
      dsimp only
      rw [List.length_drop, hlen, List.drop_drop]
      by_cases he : x.size - i ≤ n
      · rw [if_pos he]
        exact Evr.eqs Evr.ret (fun k => by rw [if_pos hv2, hw, if_pos (by omega)])
      · rw [if_neg he]
        have hrest2 : bytesOf (x.extract (i + n) x.size) = (bytesOf x).drop (i + n) := bytes_rest x (i + n)
        have hrs2 : (x.extract (i + n) x.size).size + (i + n) = x.size := by rw [size_bytes, hrest2, List.length_drop]; omega
        have hone := lex_one_at (x.extract (i + n) x.size) (by omega) (by omega)
        rw [hrest2] at hone
        refine Evr.eqs ?_ (fun k => by rw [if_pos hv2, hw, if_neg (by omega), if_pos (by omega), if_pos (by omega), show ((i + n : Nat) : Int).toNat = i + n from rfl])
        refine Evr.bind hone ?_
        cases ht : tokL ((bytesOf x).drop (i + n)) with
        | none => exact Evr.const rfl
        | some t =>
          obtain ⟨kd, s, j⟩ := t
          obtain ⟨hj0, hj1⟩ := tok_pos ht
          rw [List.length_drop, hlen] at hj1
          generalize hu : oneV (some (kd, s, j)) = u
          have hu1 : u.1 = kd := by rw [← hu]; rfl
          have hu2 : u.2.1 = strOfNums s := by rw [← hu]; rfl
          have hu4 : u.2.2.2 = (j : Int) := by rw [← hu]; rfl
          have hr1 : x.size < i + n + j + m := by clear ih hw hv1; omega
          have hr2 : i + n + j ≤ x.size := by clear ih hw hv1; omega
          have hr3 : (acc ++ [(⟨kd, strOfNums s, ((i + n : Nat) : Int)⟩ : S33)]).length ≤ i + n + j := by
            rw [List.length_append, List.length_singleton]
            exact Nat.add_le_add (Nat.le_trans ha (Nat.le_add_right i n)) hj0
          have hw2 : wrap64 (((i + n : Nat) : Int) + ((j : Nat) : Int)) = ((i + n + j : Nat) : Int) := wrap_add (i + n) j (by omega)
          have hr := ih (i + n + j) (acc ++ [⟨kd, strOfNums s, ((i + n : Nat) : Int)⟩]) hr1 hr2 hr3
          dsimp only
          rw [List.drop_drop, ← Nat.add_assoc]
          have hj2 : ¬ ((j : Nat) : Int) = 0 := by clear hw hw2 hv1 hr ih hu4; omega
          have ha2 : acc.length < 4398046511104 := by clear hw hw2 hv1 hr ih hu4; omega
          exact Evr.eqs hr (fun k => by rw [hu4, if_neg hj2, if_pos ha2, hw2, hu1, hu2])
/-- The tokens of a text. -/
def cutOf (l : List Int) : List S33 × Int × Int := if 8192 < l.length then ([], 0, 14) else cutL (l.length + 1) [] 0 l
theorem Cut_lex (x : ByteArray) : Evr (fun k => lex_Cut.f k x) (cutOf (bytesOf x)) := by
  unfold cutOf
  rw [bytesOf_length]
  by_cases h : 8192 < x.size
  · rw [if_pos h]
    exact Evr.eqs Evr.ret (fun k => by rw [lex_Cut.f, if_pos (by omega)])
  · rw [if_neg h]
    exact Evr.eqs (lex_cut x (by omega) (x.size + 1) 0 [] (by omega) (by omega) (Nat.le_refl _)) (fun k => by rw [lex_Cut.f, if_neg (by omega)]; rfl)
end Go.Proofs.YtlggjgpdiffajaaDoor.LexT
namespace Go.Proofs.YtlggjgpdiffajaaDoor.PA
open Go.RowKit Go.Proofs.YtlggjgpdiffajaaDoorW.PrintWords Go.Proofs.YtlggjgpdiffajaaDoorW.PrintLast Go.Proofs.YtlggjgpdiffajaaDoorW.PrintMore
attribute [local go_sem] max2_int min2_int max_two min_two max_three min_three max_four min_four   -- for this text's walks alone
set_option linter.unusedVariables false
set_option linter.unusedSimpArgs false
end Go.Proofs.YtlggjgpdiffajaaDoor.PA
namespace Go.Proofs.YtlggjgpdiffajaaDoor.LexC
set_option linter.unusedVariables false
set_option linter.unusedSimpArgs false
open Go.RowKit Go.Proofs.YtlggjgpdiffajaaDoor.PA Go.Proofs.YtlggjgpdiffajaaDoorW.PrintWords Go.Proofs.YtlggjgpdiffajaaDoorW.PrintLast Go.Proofs.YtlggjgpdiffajaaDoorW.PrintMore
open Go.Proofs.YtlggjgpdiffajaaDoor.Str Go.Proofs.YtlggjgpdiffajaaDoor.Ev Go.Proofs.YtlggjgpdiffajaaDoor.LexM Go.Proofs.YtlggjgpdiffajaaDoor.LexT
end Go.Proofs.YtlggjgpdiffajaaDoor.LexC
namespace Go.Proofs.YtlggjgpdiffajaaDoor.PA
open Go.RowKit Go.Proofs.YtlggjgpdiffajaaDoorW.PrintWords Go.Proofs.YtlggjgpdiffajaaDoorW.PrintLast Go.Proofs.YtlggjgpdiffajaaDoorW.PrintMore
attribute [local go_sem] max2_int min2_int max_two min_two max_three min_three max_four min_four   -- for this text's walks alone
set_option linter.unusedVariables false
set_option linter.unusedSimpArgs false
end Go.Proofs.YtlggjgpdiffajaaDoor.PA
namespace Go.Proofs.YtlggjgpdiffajaaDoor.LexA
set_option linter.unusedVariables false
set_option linter.unusedSimpArgs false
open Go.RowKit Go.Proofs.YtlggjgpdiffajaaDoor.PA Go.Proofs.YtlggjgpdiffajaaDoorW.PrintWords Go.Proofs.YtlggjgpdiffajaaDoorW.PrintLast Go.Proofs.YtlggjgpdiffajaaDoorW.PrintMore
open Go.Proofs.YtlggjgpdiffajaaDoor.Str Go.Proofs.YtlggjgpdiffajaaDoor.Ev Go.Proofs.YtlggjgpdiffajaaDoor.LexM Go.Proofs.YtlggjgpdiffajaaDoor.LexB Go.Proofs.YtlggjgpdiffajaaDoor.LexT Go.Proofs.YtlggjgpdiffajaaDoor.LexC
theorem tw_stop (q : Int → Bool) (w : List Int) (hw : ∀ c ∈ w, q c = true) (b : Int) (hb : q b = false) (r : List Int) : (w ++ b :: r).takeWhile q = w := by
  induction w with
  | nil => rw [List.nil_append, List.takeWhile_cons, hb]; rfl
  | cons c w ih =>
    rw [List.cons_append, List.takeWhile_cons, if_pos (hw c List.mem_cons_self), ih (fun d hd => hw d (List.mem_cons_of_mem _ hd))]
end Go.Proofs.YtlggjgpdiffajaaDoor.LexA
namespace Go.Proofs.YtlggjgpdiffajaaDoor.LexV
set_option linter.unusedVariables false
set_option linter.unusedSimpArgs false
set_option maxRecDepth 100000
open Go.RowKit Go.Proofs.YtlggjgpdiffajaaDoor.PA Go.Proofs.YtlggjgpdiffajaaDoorW.PrintWords Go.Proofs.YtlggjgpdiffajaaDoorW.PrintLast Go.Proofs.YtlggjgpdiffajaaDoorW.PrintMore
open Go.Proofs.YtlggjgpdiffajaaDoor.Str Go.Proofs.YtlggjgpdiffajaaDoor.Ev Go.Proofs.YtlggjgpdiffajaaDoor.LexM Go.Proofs.YtlggjgpdiffajaaDoor.LexB Go.Proofs.YtlggjgpdiffajaaDoor.LexT Go.Proofs.YtlggjgpdiffajaaDoor.LexA
theorem and1023 (n : Int) : Go.bits .and .i64 n 1023 = n % 1024 := by
  have h127 : (BitVec.ofInt 64 1023).toNat = 2 ^ 10 - 1 := by decide
  have key : (BitVec.ofInt 64 n &&& BitVec.ofInt 64 1023).toNat = (n % ((2 ^ 64 : Nat) : Int)).toNat % 2 ^ 10 := by
    rw [BitVec.toNat_and, BitVec.toNat_ofInt, h127, Nat.and_two_pow_sub_one_eq_mod]
  show IntKind.i64.wrap ((BitVec.ofInt 64 n &&& BitVec.ofInt 64 1023).toNat : Nat) = n % 1024
  rw [key, IntKind.wrap_i64]
  omega
/-- The digits of a small number. -/
theorem digits_at (n : Int) (h0 : 0 ≤ n) (h1 : n < 1024) : ∃ s, Evr (fun k => scarflaw10_digits.f k n) s ∧ numOk (bytesOf s) = true := by
  have key : ∀ m : Nat, m < 1024 → (match scarflaw10_digits.f 6 (m : Int) with | some s => numOk (bytesOf s) | none => false) = true := by decide +kernel
  have hk := key n.toNat (by omega)
  rw [show ((n.toNat : Nat) : Int) = n by omega] at hk
  cases hs : scarflaw10_digits.f 6 n with
  | none => rw [hs] at hk; cases hk
  | some s =>
    rw [hs] at hk
    exact ⟨s, ⟨6, fun k hk => at_rounds (scarflaw10_digits.mono n) hk hs⟩, hk⟩
theorem num_all {x : List Int} (h : numOk x = true) : (∀ c ∈ x, lxDi c = true) ∧ 0 < x.length ∧ x.length ≤ 9 := by
  unfold numOk at h
  simp only [Bool.and_eq_true, decide_eq_true_eq] at h
  exact ⟨List.all_eq_true.1 h.1.1.2, h.1.1.1, h.2⟩
theorem num_no46 {x : List Int} (h : numOk x = true) : (46 : Int) ∉ x := by
  intro hm
  have := (num_all h).1 46 hm
  revert this; decide
theorem split3 {a b c : List Int} (ha : (46 : Int) ∉ a) (hb : (46 : Int) ∉ b) (hc : (46 : Int) ∉ c) : splitL 46 (a ++ 46 :: (b ++ 46 :: c)) = [a, b, c] := by
  rw [splitL_app, splitL_app, splitL_one _ _ ha, splitL_one _ _ hb, splitL_one _ _ hc]; rfl
theorem ver3 {a b c : List Int} (ha : numOk a = true) (hb : numOk b = true) (hc : numOk c = true) : verS (a ++ 46 :: (b ++ 46 :: c)) = true := by
  unfold verS
  rw [split3 (num_no46 ha) (num_no46 hb) (num_no46 hc)]
  simp [ha, hb, hc]
theorem ver0 {a b c : List Int} (ha : numOk a = true) (hb : numOk b = true) (hc : numOk c = true) : verS ((48 :: a) ++ 46 :: (b ++ 46 :: c)) = false := by
  unfold verS
  have h0 : (46 : Int) ∉ 48 :: a := by
    rw [List.mem_cons, not_or]; exact ⟨by decide, num_no46 ha⟩
  rw [split3 h0 (num_no46 hb) (num_no46 hc)]
  have hz : numOk (48 :: a) = false := by
    have := (num_all ha).2.1
    unfold numOk
    rw [show decide (1 < (48 :: a).length) = true from decide_eq_true (by rw [List.length_cons]; omega)]
    simp
  simp [hz]
theorem ver4 {a b c d : List Int} (ha : numOk a = true) (hb : numOk b = true) (hc : numOk c = true) (hd : numOk d = true) : verS ((a ++ 46 :: (b ++ 46 :: c)) ++ 46 :: d) = false := by
  unfold verS
  rw [splitL_app, split3 (num_no46 ha) (num_no46 hb) (num_no46 hc), splitL_one _ _ (num_no46 hd)]
  simp
theorem ver2 {a b : List Int} (ha : numOk a = true) (hb : numOk b = true) : verS (a ++ 46 :: b) = false := by
  unfold verS
  rw [splitL_app, splitL_one _ _ (num_no46 ha), splitL_one _ _ (num_no46 hb)]
  simp
theorem cut_version (S : List Int) (hv : verS S = true) (hn : ∀ c ∈ S, lxNum c = true) (c : Int) (r : List Int) (hS : S = c :: r) (hd : lxDi c = true) (hl : S.length ≤ 100) : ∃ p q : Int, ∃ t : ByteArray, cutOf (64 :: (S ++ [59])) = ([⟨4, strOfNums [64], 0⟩, ⟨3, strOfNums S, p⟩, ⟨4, t, q⟩], 0, 0) := by
  have hdc := (di_def c).1 hd
  have hlen : (64 :: (S ++ [59]) : List Int).length = S.length + 2 := by rw [List.length_cons, List.length_append]; rfl
  unfold cutOf
  rw [if_neg (by rw [hlen]; omega), hlen]
  have hisB : isB c = false := by
    have h := isB_cases c
    cases hb : isB c with
    | false => rfl
    | true => have := h.1 hb; omega
  have b1 : blL 0 (64 :: (S ++ [59])) = some 0 := by
    rw [hS]; exact bl_other 64 c _ rfl (by omega) (by omega)
  have t1 : tokL (64 :: (S ++ [59])) = some (4, [64], 1) := by
    rw [tokL, if_neg (by decide), if_neg (by decide), if_neg (by decide), if_neg, if_pos (by decide)]
    rw [hS, List.cons_append, pre2_f _ rfl (by omega)]; decide
  have e2 : S ++ [59] = c :: (r ++ [59]) := by rw [hS]; rfl
  have b2 : blL 0 (S ++ [59]) = some 0 := by
    rw [e2]
    cases hr : r ++ [59] with
    | nil => simp at hr
    | cons d q => exact bl_other c d q hisB (by omega) (by omega)
  have hw : (S ++ [59]).takeWhile lxNum = S := tw_stop lxNum S hn 59 rfl []
  have t2 : tokL (S ++ [59]) = some (3, S, S.length) := by
    rw [e2, tokL, if_neg (by omega), if_neg, if_pos hd, ← e2, hw, if_pos hv]
    rw [Bool.or_eq_true, lo_def, up_def]; omega
  have b3 : blL 0 [59] = some 0 := rfl
  have t3 : tokL [59] = some (4, [59], 1) := by
    rw [tokL, if_neg (by decide), if_neg (by decide), if_neg (by decide), if_neg (by decide), if_pos (by decide)]
  have b4 : blL 0 [] = some 0 := rfl
  obtain ⟨k, hk⟩ : ∃ k, S.length = k + 1 := ⟨r.length, by rw [hS]; rfl⟩
  refine ⟨((0 + 0 + 1 + 0 : Nat) : Int), ((0 + 0 + 1 + 0 + S.length + 0 : Nat) : Int), strOfNums [59], ?_⟩
  rw [show S.length + 2 + 1 = (k + 3) + 1 by omega, cutL, b1]
  dsimp only
  rw [if_neg (by rw [hlen]; omega), List.drop_zero, t1]
  dsimp only
  rw [show List.drop (0 + 1) (64 :: (S ++ [59])) = S ++ [59] from rfl, cutL, b2]
  dsimp only
  rw [if_neg (by rw [List.length_append]; simp), List.drop_zero, t2]
  dsimp only
  rw [Nat.zero_add S.length, List.drop_left, cutL, b3]
  dsimp only
  rw [if_neg (by simp), List.drop_zero, t3]
  dsimp only
  rw [show List.drop (0 + 1) ([59] : List Int) = [] from rfl]
  rw [cutL, b4]
  dsimp only
  rw [if_pos (by simp)]
  rfl
theorem lexVersions : scarflaw10_LexVersions.Pure := by
  intro a0 a1 a2 w0 w1 w2
  obtain ⟨da, ea, na⟩ := digits_at (a0 % 1024) (by omega) (by omega)
  obtain ⟨db, eb, nb⟩ := digits_at (a1 % 1024) (by omega) (by omega)
  obtain ⟨dc, ec, nc⟩ := digits_at (a2 % 1024) (by omega) (by omega)
  have la := num_all na
  have lb := num_all nb
  have lc := num_all nc
  rw [bytesOf_length] at la lb lc
  have s46 : (⟨#[46]⟩ : ByteArray).size = 1 := rfl
  have s64 : (⟨#[64]⟩ : ByteArray).size = 1 := rfl
  have b46 : bytesOf (⟨#[46]⟩ : ByteArray) = [46] := rfl
  have b64 : bytesOf (⟨#[64]⟩ : ByteArray) = [64] := rfl
  have b59 : bytesOf (⟨#[59]⟩ : ByteArray) = [59] := rfl
  have b48 : bytesOf (⟨#[48]⟩ : ByteArray) = [48] := rfl
  have b461 : bytesOf (⟨#[46, 49]⟩ : ByteArray) = [46, 49] := rfl
  generalize hs1 : da ++ (⟨#[46]⟩ : ByteArray) = s1
  have z1 : s1.size = da.size + 1 := by rw [← hs1, ByteArray.size_append, s46]
  generalize hs2 : s1 ++ db = s2
  have z2 : s2.size = da.size + 1 + db.size := by rw [← hs2, ByteArray.size_append, z1]
  generalize hs3 : s2 ++ (⟨#[46]⟩ : ByteArray) = s3
  have z3 : s3.size = da.size + 1 + db.size + 1 := by rw [← hs3, ByteArray.size_append, z2, s46]
  generalize hs : s3 ++ dc = s
  have z : s.size = da.size + 1 + db.size + 1 + dc.size := by rw [← hs, ByteArray.size_append, z3]
  have hsb : bytesOf s = bytesOf da ++ 46 :: (bytesOf db ++ 46 :: bytesOf dc) := by
    rw [← hs, ← hs3, ← hs2, ← hs1, bytes_append, bytes_append, bytes_append, bytes_append, b46]; simp
  have hs2b : bytesOf s2 = bytesOf da ++ 46 :: bytesOf db := by
    rw [← hs2, ← hs1, bytes_append, bytes_append, b46]; simp
  have zs : s.size ≤ 100 := by omega
  have v1 : lex_Version.f s = some true := by rw [Version_eq s (by omega), hsb, ver3 na nb nc]
  have v2 : lex_Version.f ((⟨#[48]⟩ : ByteArray) ++ s) = some false := by
    rw [Version_eq _ (by rw [ByteArray.size_append, show (⟨#[48]⟩ : ByteArray).size = 1 from rfl]; omega), bytes_append, b48, hsb]
    exact congrArg some (ver0 na nb nc)
  have v3 : lex_Version.f (s ++ (⟨#[46, 49]⟩ : ByteArray)) = some false := by
    rw [Version_eq _ (by rw [ByteArray.size_append, show (⟨#[46, 49]⟩ : ByteArray).size = 2 from rfl]; omega), bytes_append, b461, hsb]
    exact congrArg some (ver4 na nb nc (d := [49]) rfl)
  have v4 : lex_Version.f s2 = some false := by rw [Version_eq s2 (by omega), hs2b, ver2 na nb]
  generalize hu : (⟨#[64]⟩ : ByteArray) ++ s = u
  have zu : u.size = 1 + s.size := by rw [← hu, ByteArray.size_append, s64]
  generalize hv : u ++ (⟨#[59]⟩ : ByteArray) = v
  have hvb : bytesOf v = 64 :: (bytesOf s ++ [59]) := by rw [← hv, ← hu, bytes_append, bytes_append, b64, b59]; simp
  have hcv := Cut_lex v
  have hnum : ∀ c ∈ bytesOf s, lxNum c = true := by
    intro c hc
    rw [hsb] at hc
    have dig : ∀ d, lxDi d = true → lxNum d = true := fun d h => by unfold lxNum; rw [h]; rfl
    rcases List.mem_append.1 hc with h | h
    · exact dig c (la.1 c h)
    · rcases List.mem_cons.1 h with rfl | h
      · rfl
      · rcases List.mem_append.1 h with h | h
        · exact dig c (lb.1 c h)
        · rcases List.mem_cons.1 h with rfl | h
          · rfl
          · exact dig c (lc.1 c h)
  obtain ⟨c, r, hcr⟩ : ∃ c r, bytesOf da = c :: r := by
    cases h : bytesOf da with
    | nil => have := bytesOf_length da; rw [h] at this; simp at this; omega
    | cons c r => exact ⟨c, r, rfl⟩
  obtain ⟨p, q, t, hcut⟩ := cut_version (bytesOf s) (by rw [hsb]; exact ver3 na nb nc) hnum c (r ++ 46 :: (bytesOf db ++ 46 :: bytesOf dc)) (by rw [hsb, hcr]; rfl) (la.1 c (by rw [hcr]; exact List.mem_cons_self)) (by rw [bytesOf_length]; exact zs)
  rw [hvb, hcut, str_of] at hcv
  refine Evr.out (v := true) ?_
  refine Evr.eqs ?_ (fun k => by rw [scarflaw10_LexVersions.f, and1023, and1023, and1023])
  refine Evr.bind ea ?_
  refine Evr.eqs ?_ (fun k => by rw [hs1, if_pos (show da.size + 1 ≤ 9223372036854775807 by omega)])
  refine Evr.bind eb ?_
  refine Evr.eqs ?_ (fun k => by rw [hs2, if_pos (show s1.size + db.size ≤ 9223372036854775807 by omega), if_pos (show s2.size + 1 ≤ 9223372036854775807 by omega), hs3])
  refine Evr.bind ec ?_
  refine Evr.eqs ?_ (fun k => by rw [hs, if_pos (show s3.size + dc.size ≤ 9223372036854775807 by omega), if_pos (show 1 + s.size ≤ 9223372036854775807 by omega), hu, if_pos (show u.size + 1 ≤ 9223372036854775807 by omega), hv])
  refine Evr.bind hcv ?_
  refine Evr.eqs ?_ (fun k => by rw [v1, Option.bind_some, if_pos rfl, v2, Option.bind_some, if_neg (show ¬ false = true by decide), if_pos (show s.size + 2 ≤ 9223372036854775807 by omega), v3, Option.bind_some, if_neg (show ¬ false = true by decide)])
  refine Evr.bind ea ?_
  refine Evr.eqs ?_ (fun k => by rw [hs1, if_pos (show da.size + 1 ≤ 9223372036854775807 by omega)])
  refine Evr.bind eb ?_
  refine Evr.eqs ?_ (fun k => by rw [hs2, if_pos (show s1.size + db.size ≤ 9223372036854775807 by omega), v4, Option.bind_some, if_neg (show ¬ false = true by decide)])
  have aw : Evr (fun k => (scarflaw10_awake.f k).bind fun t213 => some t213) true := Evr.bind awake_ev Evr.ret
  exact Evr.eqs aw (fun k => (if_pos (show (0 : Int) = 0 from rfl)).trans ((if_pos (show ((3 : Nat) : Int) = 3 from rfl)).trans ((if_pos (show (1 : Int) < ((3 : Nat) : Int) by decide)).trans ((if_pos (show (3 : Int) = 3 from rfl)).trans (if_pos (show s.toList = s.toList from rfl))))))
end Go.Proofs.YtlggjgpdiffajaaDoor.LexV
namespace Go.Proofs.YtlggjgpdiffajaaDoor.Pure
open Go.RowKit Go.Proofs.YtlggjgpdiffajaaDoor.PA Go.Proofs.YtlggjgpdiffajaaDoorW.PrintWords Go.Proofs.YtlggjgpdiffajaaDoorW.PrintLast
theorem LexVersions : scarflaw10_LexVersions.Pure :=
  Go.Proofs.YtlggjgpdiffajaaDoor.LexV.lexVersions
end Go.Proofs.YtlggjgpdiffajaaDoor.Pure
