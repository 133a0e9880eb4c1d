/- Several texts, laid into one for a claim: LexM, Ev, LexB, LexK, LexAw, LexT, LexC, PureLexCuts. -/
import Derived.Test.YtlggjgpdiffajaaDoorPLexCuts5
import Derived.Test.YtlggjgpdiffajaaDoorPLexCuts2
import Derived.Test.YtlggjgpdiffajaaDoorPLexCuts1
import Derived.Test.YtlggjgpdiffajaaDoorPLexCuts3
import Derived.Test.YtlggjgpdiffajaaDoorPLexCuts4
namespace Go.Proofs.YtlggjgpdiffajaaDoor.LexM
set_option linter.unusedVariables false
set_option linter.unusedSimpArgs false
open Go.RowKit Go.Proofs.YtlggjgpdiffajaaDoor.PA Go.Proofs.YtlggjgpdiffajaaDoorW.PrintWords Go.Proofs.YtlggjgpdiffajaaDoorW.PrintLast Go.Proofs.YtlggjgpdiffajaaDoorW.PrintMore
open Go.Proofs.YtlggjgpdiffajaaDoor.Str
theorem wrap_add (a b : Nat) (h : a + b ≤ 4611686018427387904) : wrap64 ((a : Int) + (b : Int)) = ((a + b : Nat) : Int) := by
  rw [wrap64_id (by omega) (by omega)]; omega
theorem wrap_add1 (a : Nat) (h : a ≤ 4611686018427387910) : wrap64 ((a : Int) + 1) = ((a + 1 : Nat) : Int) := by
  rw [wrap64_id (by omega) (by omega)]; omega
theorem wrap_add2 (a : Nat) (h : a ≤ 4611686018427387910) : wrap64 ((a : Int) + 2) = ((a + 2 : Nat) : Int) := by
  rw [wrap64_id (by omega) (by omega)]; omega
/-- The pieces of a text between letters c. -/
def splitL (c : Int) : List Int → List (List Int)
  | [] => [[]]
  | b :: l => if b = c then [] :: splitL c l else match splitL c l with
    | [] => [[b]]
    | p :: ps => (b :: p) :: ps
theorem splitL_ne (c : Int) (l : List Int) : ∃ p ps, splitL c l = p :: ps := by
  cases l with
  | nil => exact ⟨_, _, rfl⟩
  | cons b l =>
    unfold splitL
    split
    · exact ⟨_, _, rfl⟩
    · split
      · exact ⟨_, _, rfl⟩
      · exact ⟨_, _, rfl⟩
theorem splitL_one (c : Int) (p : List Int) (h : c ∉ p) : splitL c p = [p] := by
  induction p with
  | nil => rfl
  | cons b p ih =>
    rw [List.mem_cons, not_or] at h
    rw [splitL, if_neg (fun e => h.1 e.symm), ih h.2]
theorem splitL_app (c : Int) (a b : List Int) : splitL c (a ++ c :: b) = splitL c a ++ splitL c b := by
  induction a with
  | nil => simp [splitL]
  | cons x a ih =>
    rw [List.cons_append, splitL]
    by_cases h : x = c
    · rw [if_pos h, ih]
      conv => rhs; rw [splitL, if_pos h]
      rfl
    · obtain ⟨p, ps, e⟩ := splitL_ne c a
      rw [if_neg h, ih, e]
      conv => rhs; rw [splitL, if_neg h, e]
      rfl
theorem indexByte_mem (l : List UInt8) (c : UInt8) : (Go.Lib.indexByte l c < 0 → c ∉ l) ∧ (¬ Go.Lib.indexByte l c < 0 → l = l.take (Go.Lib.indexByte l c).toNat ++ c :: l.drop ((Go.Lib.indexByte l c).toNat + 1) ∧ c ∉ l.take (Go.Lib.indexByte l c).toNat) := by
  induction l with
  | nil => exact ⟨fun _ => by simp, fun h => absurd (show Go.Lib.indexByte [] c < 0 by simp [Go.Lib.indexByte]) h⟩
  | cons b l ih =>
    have hg := Go.Lib.indexByte_ge l c
    rw [Go.Lib.indexByte]
    by_cases hb : (b == c) = true
    · rw [if_pos hb]
      have hbc : b = c := by simpa using hb
      refine ⟨fun h => absurd h (by omega), fun _ => ?_⟩
      simp [hbc]
    · have hbc : ¬ b = c := by simpa using hb
      rw [if_neg hb]
      by_cases hm : (Go.Lib.indexByte l c == -1) = true
      · rw [if_pos hm]
        have hm' : Go.Lib.indexByte l c = -1 := by simpa using hm
        refine ⟨fun _ => ?_, fun h => absurd (show (-1 : Int) < 0 by omega) h⟩
        rw [List.mem_cons, not_or]
        exact ⟨fun e => hbc e.symm, ih.1 (by omega)⟩
      · rw [if_neg hm]
        have hm' : ¬ Go.Lib.indexByte l c = -1 := by simpa using hm
        refine ⟨fun h => absurd h (by omega), fun _ => ?_⟩
        obtain ⟨h1, h2⟩ := ih.2 (by omega)
        have ht : (Go.Lib.indexByte l c + 1).toNat = (Go.Lib.indexByte l c).toNat + 1 := by omega
        rw [ht, List.take_succ_cons, List.drop_succ_cons]
        refine ⟨?_, ?_⟩
        · rw [List.cons_append, ← h1]
        · rw [List.mem_cons, not_or]
          exact ⟨fun e => hbc e.symm, h2⟩
theorem mem_bytes (l : List UInt8) (c : UInt8) : (c.toNat : Int) ∈ l.map (fun b => (b.toNat : Int)) ↔ c ∈ l := by
  rw [List.mem_map]
  constructor
  · rintro ⟨b, hb, e⟩
    have : b = c := UInt8.toNat_inj.1 (by omega)
    exact this ▸ hb
  · intro h; exact ⟨c, h, rfl⟩
theorem index_split (s : ByteArray) (c : UInt8) : (Go.Lib.indexByte s.data.toList c < 0 → (c.toNat : Int) ∉ bytesOf s) ∧ (¬ Go.Lib.indexByte s.data.toList c < 0 → bytesOf s = (bytesOf s).take (Go.Lib.indexByte s.data.toList c).toNat ++ (c.toNat : Int) :: (bytesOf s).drop ((Go.Lib.indexByte s.data.toList c).toNat + 1) ∧ (c.toNat : Int) ∉ (bytesOf s).take (Go.Lib.indexByte s.data.toList c).toNat) := by
  obtain ⟨h1, h2⟩ := indexByte_mem s.data.toList c
  refine ⟨fun h => ?_, fun h => ?_⟩
  · rw [bytesOf, mem_bytes]; exact h1 h
  · obtain ⟨e, m⟩ := h2 h
    refine ⟨?_, ?_⟩
    · conv => lhs; rw [bytesOf, e]
      rw [List.map_append, List.map_cons, List.map_take, List.map_drop]
      rfl
    · rw [bytesOf, ← List.map_take, mem_bytes]; exact m
theorem pieces_split (c : UInt8) : ∀ (n : Nat) (s : ByteArray), s.size ≤ n → (piecesF c s.size s).map bytesOf = splitL (c.toNat : Int) (bytesOf s) := by
  intro n
  induction n with
  | zero =>
    intro s hn
    have hi := indexByte_lt' s c
    have h : Go.Lib.indexByte s.data.toList c < 0 := by omega
    rw [pieces_end c s h, splitL_one _ _ ((index_split s c).1 h)]; rfl
  | succ n ih =>
    intro s hn
    by_cases h : Go.Lib.indexByte s.data.toList c < 0
    · rw [pieces_end c s h, splitL_one _ _ ((index_split s c).1 h)]; rfl
    · obtain ⟨e, m⟩ := (index_split s c).2 h
      have hi := indexByte_lt' s c
      have hz := ByteArray.size_extract (a := s) (b := (Go.Lib.indexByte s.data.toList c).toNat + 1) (e := s.size)
      rw [pieces_more c s h, List.map_cons, ih _ (by omega), bytes_head, bytes_rest]
      conv => rhs; rw [e, splitL_app, splitL_one _ _ m]
      rfl
/-- A part of a name. -/
def partL : List Int → Bool
  | [] => false
  | c :: l => (lxLo c || lxUp c) && (c :: l).all (lxOk (lxLo c))
theorem partAll_eq (t : Bool) (s : ByteArray) : ∀ m i, i + m = s.size → partAll t s m i = ((bytesOf s).drop i).all (lxOk t) := by
  intro m
  induction m with
  | zero => intro i h; rw [List.drop_of_length_le (by rw [bytesOf_length]; omega)]; rfl
  | succ m ih => intro i h; rw [partAll, ih (i + 1) (by omega), bt_nat]; conv => rhs; rw [drop_cons (by rw [bytesOf_length]; omega), List.all_cons]
theorem partB_eq (s : ByteArray) : partB s = partL (bytesOf s) := by
  unfold partB
  rw [partAll_eq _ s s.size 0 (by omega), List.drop_zero, show (0 : Int) = ((0 : Nat) : Int) from rfl, bt_nat, size_bytes]
  cases bytesOf s with
  | nil => rfl
  | cons c l => simp [partL]
/-- A name, without its bounds. -/
def nameS (l : List Int) : Bool := (splitL 45 l).all partL
theorem all_parts (s : ByteArray) : (piecesF 45 s.size s).all partB = nameS (bytesOf s) := by
  have h := pieces_split 45 s.size s (Nat.le_refl _)
  rw [nameS, show (45 : Int) = ((45 : UInt8).toNat : Int) from rfl, ← h, List.all_map]
  congr 1
  funext x
  exact partB_eq x
/-- A name. -/
def nameOk (l : List Int) : Bool := decide (0 < l.length) && decide (l.length ≤ 100) && nameS l
theorem Name_eq (s : ByteArray) : lex_Name.f s = some (nameOk (bytesOf s)) := by
  unfold lex_Name.f nameOk
  rw [all_parts, size_bytes]
  congr 1
  by_cases h0 : (bytesOf s).length = 0
  · rw [if_pos h0]; simp [h0]
  · rw [if_neg h0]
    by_cases h1 : 100 < (bytesOf s).length
    · rw [if_pos h1]; simp; intro _ _; omega
    · rw [if_neg h1, show decide (0 < (bytesOf s).length) = true by simp; omega, show decide ((bytesOf s).length ≤ 100) = true by simp; omega]; simp
/-- The same, as a machine: 0 a part begins, 1 in a small one, 2 in a great one. -/
def nameL : Nat → List Int → Bool
  | 0, [] => false
  | _ + 1, [] => true
  | 0, c :: l => if lxLo c = true then nameL 1 l else if lxUp c = true then nameL 2 l else false
  | s + 1, c :: l => if c = 45 then nameL 0 l else if (lxDi c || (if s = 0 then lxLo c else lxUp c)) = true then nameL (s + 1) l else false
theorem lo_def (a : Int) : lxLo a = true ↔ 97 ≤ a ∧ a ≤ 122 := by simp [lxLo]
theorem up_def (a : Int) : lxUp a = true ↔ 65 ≤ a ∧ a ≤ 90 := by simp [lxUp]
theorem di_def (a : Int) : lxDi a = true ↔ 48 ≤ a ∧ a ≤ 57 := by simp [lxDi]
theorem lo_f (a : Int) : lxLo a = false ↔ ¬ (97 ≤ a ∧ a ≤ 122) := by rw [← lo_def]; simp
theorem up_f (a : Int) : lxUp a = false ↔ ¬ (65 ≤ a ∧ a ≤ 90) := by rw [← up_def]; simp
theorem di_f (a : Int) : lxDi a = false ↔ ¬ (48 ≤ a ∧ a ≤ 57) := by rw [← di_def]; simp
theorem nameL_split (l : List Int) : ∀ p ps, splitL 45 l = p :: ps → nameL 0 l = (partL p && ps.all partL) ∧ nameL 1 l = (p.all (lxOk true) && ps.all partL) ∧ nameL 2 l = (p.all (lxOk false) && ps.all partL) := by
  induction l with
  | nil =>
    intro p ps h
    rw [splitL] at h
    injection h with h1 h2
    subst h1; subst h2
    exact ⟨rfl, rfl, rfl⟩
  | cons c l ih =>
    intro p ps h
    obtain ⟨q, qs, e⟩ := splitL_ne 45 l
    obtain ⟨i0, i1, i2⟩ := ih q qs e
    rw [splitL] at h
    by_cases hc : c = 45
    · rw [if_pos hc] at h
      injection h with h1 h2
      subst h1; subst h2
      have hl : ¬ lxLo c = true := by rw [lo_def]; omega
      have hu : ¬ lxUp c = true := by rw [up_def]; omega
      rw [e, nameL, nameL, nameL, if_neg hl, if_neg hu, if_pos hc, if_pos hc, i0]
      exact ⟨rfl, by simp, by simp⟩
    · rw [if_neg hc, e] at h
      injection h with h1 h2
      subst h1; subst h2
      have ht : lxOk true c = (lxDi c || lxLo c) := by unfold lxOk; cases hl : lxLo c <;> cases hu : lxUp c <;> simp
      have hf : lxOk false c = (lxDi c || lxUp c) := by
        unfold lxOk
        cases hl : lxLo c
        · simp
        · have hu : lxUp c = false := by rw [up_f]; rw [lo_def] at hl; omega
          simp [hu]
      refine ⟨?_, ?_, ?_⟩
      · rw [nameL, partL, List.all_cons]
        by_cases hl : lxLo c = true
        · rw [if_pos hl, i1, hl, ht, hl]; simp
        · rw [if_neg hl]
          have hl' : lxLo c = false := by simpa using hl
          by_cases hu : lxUp c = true
          · rw [if_pos hu, i2, hu, hl', hf, hu]; simp
          · have hu' : lxUp c = false := by simpa using hu
            rw [if_neg hu, hu', hl']; simp
      · rw [show nameL 1 (c :: l) = (if c = 45 then nameL 0 l else if (lxDi c || (if 0 = 0 then lxLo c else lxUp c)) = true then nameL 1 l else false) from rfl, if_neg hc, if_pos rfl, List.all_cons, ht, i1]
        cases (lxDi c || lxLo c) <;> simp
      · rw [show nameL 2 (c :: l) = (if c = 45 then nameL 0 l else if (lxDi c || (if 1 = 0 then lxLo c else lxUp c)) = true then nameL 2 l else false) from rfl, if_neg hc, if_neg (show ¬ (1 : Nat) = 0 by omega), List.all_cons, hf, i2]
        cases (lxDi c || lxUp c) <;> simp
theorem nameL_eq (l : List Int) : nameL 0 l = nameS l := by
  obtain ⟨p, ps, e⟩ := splitL_ne 45 l
  rw [(nameL_split l p ps e).1, nameS, e, List.all_cons]
/-- A number of a version. -/
def numOk (x : List Int) : Bool := decide (0 < x.length) && x.all lxDi && !(decide (1 < x.length) && x.headD 0 == 48) && decide (x.length ≤ 9)
/-- A version. -/
def verS (l : List Int) : Bool := (splitL 46 l).all numOk && (splitL 46 l).length == 3
theorem dw_nil {α : Type} (q : α → Bool) (l : List α) : List.dropWhile q l = [] ↔ ∀ b ∈ l, q b = true := by
  induction l with
  | nil => simp
  | cons a l ih =>
    rw [List.dropWhile_cons]
    by_cases h : q a = true
    · rw [if_pos h, ih]; simp [h]
    · rw [if_neg h]; simp [h]
theorem trim_nil (l : List UInt8) (cs : List UInt8) : Go.Lib.trimS l cs = [] ↔ ∀ b ∈ l, cs.contains b = true := by
  unfold Go.Lib.trimS Go.Lib.trimLeftS Go.Lib.trimRightS
  constructor
  · intro h b hb
    rw [dw_nil] at h
    by_cases hc : cs.contains b = true
    · exact hc
    · exfalso
      apply hc
      have hs := List.takeWhile_append_dropWhile (p := fun x => cs.contains x) (l := l.reverse)
      have hb' : b ∈ l.reverse := List.mem_reverse.2 hb
      rw [← hs, List.mem_append] at hb'
      rcases hb' with hb' | hb'
      · have := List.all_eq_true.1 (List.all_takeWhile (p := fun x => cs.contains x) (l := l.reverse)) b hb'
        exact this
      · exact h b (List.mem_reverse.2 hb')
  · intro h
    have : List.dropWhile (fun x => cs.contains x) l.reverse = [] := by
      rw [dw_nil]
      intro b hb
      exact h b (List.mem_reverse.1 hb)
    rw [this]; rfl
theorem digit_set (b : UInt8) : ([48, 49, 50, 51, 52, 53, 54, 55, 56, 57] : List UInt8).contains b = lxDi (b.toNat : Int) := by
  have h0 : ∀ n : Nat, n < 256 → ([48, 49, 50, 51, 52, 53, 54, 55, 56, 57] : List UInt8).contains (UInt8.ofNat n) = (decide (48 ≤ n) && decide (n ≤ 57)) := by decide +kernel
  have h1 := h0 b.toNat b.toNat_lt
  rw [UInt8.ofNat_toNat] at h1
  rw [h1]
  unfold lxDi
  rw [show decide ((48 : Int) ≤ (b.toNat : Int)) = decide (48 ≤ b.toNat) by congr 1; apply propext; omega, show decide ((b.toNat : Int) ≤ 57) = decide (b.toNat ≤ 57) by congr 1; apply propext; omega]
theorem verBad_eq (x : ByteArray) : (!verBad x) = numOk (bytesOf x) := by
  have h0 : (x.toList == []) = !decide (0 < (bytesOf x).length) := by
    rw [bytesOf_length]
    by_cases h : x.size = 0
    · rw [(str_empty x).2 h]; simp [h]
    · have hn : ¬ x.toList = [] := fun e => h ((str_empty x).1 e)
      rw [show (x.toList == []) = false by simp [hn]]
      simp; omega
  have h1 : ((Go.Proofs.YtlggjgpdiffajaaDoor.PA.trimmed x).toList != []) = !((bytesOf x).all lxDi) := by
    have e : (Go.Proofs.YtlggjgpdiffajaaDoor.PA.trimmed x).toList = Go.Lib.trimS x.data.toList [48, 49, 50, 51, 52, 53, 54, 55, 56, 57] := by
      rw [ByteArray.toList_eq]; unfold Go.Proofs.YtlggjgpdiffajaaDoor.PA.trimmed; simp
    rw [e]
    by_cases h : Go.Lib.trimS x.data.toList [48, 49, 50, 51, 52, 53, 54, 55, 56, 57] = []
    · rw [h]
      have := (trim_nil _ _).1 h
      rw [show (bytesOf x).all lxDi = true from by
        rw [List.all_eq_true]
        intro n hn
        rw [bytesOf, List.mem_map] at hn
        obtain ⟨b, hb, rfl⟩ := hn
        rw [← digit_set]; exact this b hb]
      rfl
    · rw [show (Go.Lib.trimS x.data.toList [48, 49, 50, 51, 52, 53, 54, 55, 56, 57] != []) = true by simp [h]]
      have hn : ¬ (bytesOf x).all lxDi = true := by
        intro ha
        apply h
        rw [trim_nil]
        intro b hb
        rw [digit_set]
        exact List.all_eq_true.1 ha _ (by rw [bytesOf, List.mem_map]; exact ⟨b, hb, rfl⟩)
      simp only [Bool.not_eq_true] at hn
      rw [hn]; rfl
  have h2 : (bt x 0 == 48) = ((bytesOf x).headD 0 == 48) := by
    rw [show (0 : Int) = ((0 : Nat) : Int) from rfl, bt_nat]
    cases bytesOf x <;> rfl
  have h3 : decide ((x.size : Int) > 1) = decide (1 < (bytesOf x).length) := by
    rw [bytesOf_length]; congr 1; apply propext; omega
  have h4 : decide ((x.size : Int) > 9) = !decide ((bytesOf x).length ≤ 9) := by
    rw [bytesOf_length]
    by_cases h : x.size ≤ 9
    · simp [h]; omega
    · simp [h]; omega
  unfold verBad numOk
  rw [h0, h1, h2, h3, h4]
  cases decide (0 < (bytesOf x).length) <;> cases (bytesOf x).all lxDi <;> cases decide (1 < (bytesOf x).length) <;> cases ((bytesOf x).headD 0 == 48) <;> cases decide ((bytesOf x).length ≤ 9) <;> rfl
theorem Version_eq (s : ByteArray) (hs : s.size ≤ 140737488355328) : lex_Version.f s = some (verS (bytesOf s)) := by
  unfold lex_Version.f verS
  rw [if_pos hs]
  have h := pieces_split 46 s.size s (Nat.le_refl _)
  rw [show (46 : Int) = ((46 : UInt8).toNat : Int) from rfl, ← h, List.all_map, List.length_map]
  have : (fun x => !verBad x) = (numOk ∘ bytesOf) := by funext x; exact verBad_eq x
  rw [this]
end Go.Proofs.YtlggjgpdiffajaaDoor.LexM
namespace Go.Proofs.YtlggjgpdiffajaaDoor.Ev
universe u v
/-- From some number of rounds on it tells v. -/
def Evr {α : Type u} (g : Nat → Option α) (v : α) : Prop := ∃ K, ∀ k, K ≤ k → g k = some v
theorem Evr.const {α : Type u} {o : Option α} {v : α} (h : o = some v) : Evr (fun _ => o) v := ⟨0, fun _ _ => h⟩
theorem Evr.ret {α : Type u} {v : α} : Evr (fun _ => some v) v := ⟨0, fun _ _ => rfl⟩
theorem Evr.step {α : Type u} {g h : Nat → Option α} {v : α} (hh : Evr h v) (hs : ∀ k, g (k + 1) = h k) : Evr g v := by
  obtain ⟨K, hK⟩ := hh
  refine ⟨K + 1, fun k hk => ?_⟩
  obtain ⟨k, rfl⟩ : ∃ m, k = m + 1 := ⟨k - 1, by omega⟩
  rw [hs]; exact hK k (by omega)
theorem Evr.eqs {α : Type u} {g h : Nat → Option α} {v : α} (hh : Evr h v) (hs : ∀ k, g k = h k) : Evr g v := by
  obtain ⟨K, hK⟩ := hh
  exact ⟨K, fun k hk => by rw [hs]; exact hK k hk⟩
theorem Evr.bind {α : Type u} {β : Type v} {f : Nat → Option α} {g : Nat → α → Option β} {a : α} {b : β} (hf : Evr f a) (hg : Evr (fun k => g k a) b) : Evr (fun k => (f k).bind (g k)) b := by
  obtain ⟨K, hK⟩ := hf
  obtain ⟨L, hL⟩ := hg
  exact ⟨K + L, fun k hk => by show (f k).bind (g k) = some b; rw [hK k (by omega)]; exact hL k (by omega)⟩
theorem Evr.out {α : Type u} {g : Nat → Option α} {v : α} (h : Evr g v) : ∃ k, g k = some v := by
  obtain ⟨K, hK⟩ := h
  exact ⟨K, hK K (Nat.le_refl K)⟩
end Go.Proofs.YtlggjgpdiffajaaDoor.Ev
namespace Go.Proofs.YtlggjgpdiffajaaDoor.LexB
set_option linter.unusedVariables false
set_option linter.unusedSimpArgs false
open Go.RowKit Go.Proofs.YtlggjgpdiffajaaDoor.PA Go.Proofs.YtlggjgpdiffajaaDoorW.PrintWords Go.Proofs.YtlggjgpdiffajaaDoorW.PrintLast Go.Proofs.YtlggjgpdiffajaaDoorW.PrintMore
open Go.Proofs.YtlggjgpdiffajaaDoor.Str Go.Proofs.YtlggjgpdiffajaaDoor.Ev Go.Proofs.YtlggjgpdiffajaaDoor.LexM
/-- A blank letter. -/
def isB (c : Int) : Bool := c == 32 || c == 9 || c == 10 || c == 13
/-- How long a remark is from here on, d remarks around it. -/
def remL : Nat → List Int → Option Nat
  | _, [] => none
  | _, [_] => none
  | d, c :: e :: r => if c = 47 ∧ e = 42 then (remL (d + 1) r).map (· + 2) else if c = 42 ∧ e = 47 then (if d = 0 then some 2 else (remL (d - 1) r).map (· + 2)) else (remL d (e :: r)).map (· + 1)
/-- Blanks and remarks: 0 between, 1 in a remark of one line, d + 2 in a remark with d around it. -/
def blL : Nat → List Int → Option Nat
  | 0, [] => some 0
  | 1, [] => some 0
  | _ + 2, [] => none
  | 0, [c] => some (if isB c = true then 1 else 0)
  | 1, [_] => some 1
  | _ + 2, [_] => none
  | 0, c :: e :: r => if isB c = true then (blL 0 (e :: r)).map (· + 1) else if c = 47 ∧ e = 47 then (blL 1 r).map (· + 2) else if c = 47 ∧ e = 42 then (blL 2 r).map (· + 2) else some 0
  | 1, c :: e :: r => (blL (if c = 10 then 0 else 1) (e :: r)).map (· + 1)
  | d + 2, c :: e :: r => if c = 47 ∧ e = 42 then (blL (d + 3) r).map (· + 2) else if c = 42 ∧ e = 47 then (blL (if d = 0 then 0 else d + 1) r).map (· + 2) else (blL (d + 2) (e :: r)).map (· + 1)
theorem bl_one (c : Int) (l : List Int) : blL 1 (c :: l) = (blL (if c = 10 then 0 else 1) l).map (· + 1) := by
  cases l with
  | nil => rw [blL]; split <;> rfl
  | cons e r => rw [blL]
theorem bl_blank (c : Int) (l : List Int) (h : isB c = true) : blL 0 (c :: l) = (blL 0 l).map (· + 1) := by
  cases l with
  | nil => show some (if isB c = true then 1 else 0) = _; rw [if_pos h]; rfl
  | cons e r => rw [blL, if_pos h]
theorem bl_line (l : List Int) (h : (10 : Int) ∉ l) : blL 1 l = some l.length := by
  induction l with
  | nil => rfl
  | cons c l ih =>
    rw [List.mem_cons, not_or] at h
    rw [bl_one, if_neg (fun e => h.1 e.symm), ih h.2]; rfl
theorem bl_line_end (p q : List Int) (h : (10 : Int) ∉ p) : blL 1 (p ++ 10 :: q) = (blL 0 q).map (· + (p.length + 1)) := by
  induction p with
  | nil => rw [List.nil_append, bl_one, if_pos rfl]; rfl
  | cons c p ih =>
    rw [List.mem_cons, not_or] at h
    rw [List.cons_append, bl_one, if_neg (fun e => h.1 e.symm), ih h.2, Option.map_map]
    congr 1
theorem bl_slashes (r : List Int) : blL 0 (47 :: 47 :: r) = blL 1 (47 :: 47 :: r) := by
  rw [blL, if_neg (by decide), if_pos ⟨rfl, rfl⟩, bl_one, if_neg (by decide), bl_one, if_neg (by decide), Option.map_map]
  rfl
theorem bl_rem : ∀ (n : Nat) (l : List Int) (d : Nat), l.length ≤ n → blL (d + 2) l = (remL d l).bind fun n => (blL 0 (l.drop n)).map (· + n) := by
  intro n
  induction n with
  | zero =>
    intro l d hl
    obtain rfl : l = [] := List.length_eq_zero_iff.1 (by omega)
    rfl
  | succ n ih =>
    intro l d hl
    match l with
    | [] => rfl
    | [c] => rfl
    | c :: e :: r =>
      simp only [List.length_cons] at hl
      rw [blL, remL]
      by_cases h1 : c = 47 ∧ e = 42
      · rw [if_pos h1, if_pos h1, show d + 3 = (d + 1) + 2 by omega, ih r (d + 1) (by omega)]
        cases remL (d + 1) r with
        | none => rfl
        | some m => simp [Option.map_map, Function.comp_def, Nat.add_assoc]
      · rw [if_neg h1, if_neg h1]
        by_cases h2 : c = 42 ∧ e = 47
        · rw [if_pos h2, if_pos h2]
          by_cases h3 : d = 0
          · rw [if_pos h3, if_pos h3]; rfl
          · rw [if_neg h3, if_neg h3, show d + 1 = (d - 1) + 2 by omega, ih r (d - 1) (by omega)]
            cases remL (d - 1) r with
            | none => rfl
            | some m => simp [Option.map_map, Function.comp_def, Nat.add_assoc]
        · rw [if_neg h2, if_neg h2, ih (e :: r) d (by simp only [List.length_cons]; omega)]
          cases remL d (e :: r) with
          | none => rfl
          | some m => simp [Option.map_map, Function.comp_def, Nat.add_assoc]
theorem bl_star (r : List Int) : blL 0 (47 :: 42 :: r) = (remL 0 r).bind fun n => (blL 0 (r.drop n)).map (· + (n + 2)) := by
  rw [blL, if_neg (by decide), if_neg (by decide), if_pos ⟨rfl, rfl⟩, bl_rem r.length r 0 (Nat.le_refl _)]
  cases remL 0 r with
  | none => rfl
  | some m => simp [Option.map_map, Function.comp_def, Nat.add_assoc]
theorem bl_other (c e : Int) (r : List Int) (h0 : isB c = false) (h1 : ¬ (c = 47 ∧ e = 47)) (h2 : ¬ (c = 47 ∧ e = 42)) : blL 0 (c :: e :: r) = some 0 := by
  rw [blL, if_neg (by rw [h0]; decide), if_neg h1, if_neg h2]
theorem rem_add : ∀ (n : Nat) (l : List Int) (e d : Nat), l.length ≤ n → remL (e + d + 1) l = (remL e l).bind fun n => (remL d (l.drop n)).map (· + n) := by
  intro n
  induction n with
  | zero =>
    intro l e d hl
    obtain rfl : l = [] := List.length_eq_zero_iff.1 (by omega)
    rfl
  | succ n ih =>
    intro l e d hl
    match l with
    | [] => rfl
    | [c] => rfl
    | c :: f :: r =>
      simp only [List.length_cons] at hl
      rw [remL, remL]
      by_cases h1 : c = 47 ∧ f = 42
      · rw [if_pos h1, if_pos h1, show e + d + 1 + 1 = (e + 1) + d + 1 by omega, ih r (e + 1) d (by omega)]
        cases remL (e + 1) r with
        | none => rfl
        | some m => simp [Option.map_map, Function.comp_def, Nat.add_assoc]
      · rw [if_neg h1, if_neg h1]
        by_cases h2 : c = 42 ∧ f = 47
        · rw [if_pos h2, if_pos h2, if_neg (show ¬ e + d + 1 = 0 by omega)]
          by_cases h3 : e = 0
          · subst h3; rw [if_pos rfl, show 0 + d + 1 - 1 = d by omega]; rfl
          · rw [if_neg h3, show e + d + 1 - 1 = (e - 1) + d + 1 by omega, ih r (e - 1) d (by omega)]
            cases remL (e - 1) r with
            | none => rfl
            | some m => simp [Option.map_map, Function.comp_def, Nat.add_assoc]
        · rw [if_neg h2, if_neg h2, ih (f :: r) e d (by simp only [List.length_cons]; omega)]
          cases remL e (f :: r) with
          | none => rfl
          | some m => simp [Option.map_map, Function.comp_def, Nat.add_assoc]
theorem rem_le : ∀ (n : Nat) (l : List Int) (d m : Nat), l.length ≤ n → remL d l = some m → m ≤ l.length ∧ 2 ≤ m := by
  intro n
  induction n with
  | zero =>
    intro l d m hl h
    obtain rfl : l = [] := List.length_eq_zero_iff.1 (by omega)
    cases h
  | succ n ih =>
    intro l d m hl h
    match l with
    | [] => cases h
    | [c] => cases h
    | c :: e :: r =>
      simp only [List.length_cons] at hl ⊢
      rw [remL] at h
      by_cases h1 : c = 47 ∧ e = 42
      · rw [if_pos h1, Option.map_eq_some_iff] at h
        obtain ⟨q, hq, rfl⟩ := h
        have := ih r (d + 1) q (by omega) hq
        omega
      · rw [if_neg h1] at h
        by_cases h2 : c = 42 ∧ e = 47
        · rw [if_pos h2] at h
          by_cases h3 : d = 0
          · rw [if_pos h3] at h; injection h with h; omega
          · rw [if_neg h3, Option.map_eq_some_iff] at h
            obtain ⟨q, hq, rfl⟩ := h
            have := ih r (d - 1) q (by omega) hq
            omega
        · rw [if_neg h2, Option.map_eq_some_iff] at h
          obtain ⟨q, hq, rfl⟩ := h
          have := ih (e :: r) d q (by simp only [List.length_cons]; omega) hq
          simp only [List.length_cons] at this
          omega
theorem bl_le : ∀ (n : Nat) (l : List Int) (s m : Nat), l.length ≤ n → blL s l = some m → m ≤ l.length := by
  intro n
  induction n with
  | zero =>
    intro l s m hl h
    obtain rfl : l = [] := List.length_eq_zero_iff.1 (by omega)
    match s with
    | 0 => injection h with h; simp; omega
    | 1 => injection h with h; simp; omega
    | s + 2 => cases h
  | succ n ih =>
    intro l s m hl h
    match s, l with
    | 0, [] => injection h with h; simp; omega
    | 1, [] => injection h with h; simp; omega
    | s + 2, [] => cases h
    | 0, [c] => rw [blL] at h; injection h with h; simp; split at h <;> omega
    | 1, [c] => injection h with h; simp; omega
    | s + 2, [c] => cases h
    | 0, c :: e :: r =>
      simp only [List.length_cons] at hl ⊢
      rw [blL] at h
      split at h
      · rw [Option.map_eq_some_iff] at h
        obtain ⟨q, hq, rfl⟩ := h
        have := ih (e :: r) 0 q (by simp only [List.length_cons]; omega) hq
        simp only [List.length_cons] at this; omega
      · split at h
        · rw [Option.map_eq_some_iff] at h
          obtain ⟨q, hq, rfl⟩ := h
          have := ih r 1 q (by omega) hq
          omega
        · split at h
          · rw [Option.map_eq_some_iff] at h
            obtain ⟨q, hq, rfl⟩ := h
            have := ih r 2 q (by omega) hq
            omega
          · injection h with h; omega
    | 1, c :: e :: r =>
      simp only [List.length_cons] at hl ⊢
      rw [blL, Option.map_eq_some_iff] at h
      obtain ⟨q, hq, rfl⟩ := h
      have := ih (e :: r) _ q (by simp only [List.length_cons]; omega) hq
      simp only [List.length_cons] at this; omega
    | s + 2, c :: e :: r =>
      simp only [List.length_cons] at hl ⊢
      rw [blL] at h
      split at h
      · rw [Option.map_eq_some_iff] at h
        obtain ⟨q, hq, rfl⟩ := h
        have := ih r _ q (by omega) hq
        omega
      · split at h
        · rw [Option.map_eq_some_iff] at h
          obtain ⟨q, hq, rfl⟩ := h
          have := ih r _ q (by omega) hq
          omega
        · rw [Option.map_eq_some_iff] at h
          obtain ⟨q, hq, rfl⟩ := h
          have := ih (e :: r) _ q (by simp only [List.length_cons]; omega) hq
          simp only [List.length_cons] at this; omega
/-- Two letters at a place. -/
theorem two_at {l : List Int} {i : Nat} (h : i + 1 < l.length) : l.drop i = l.getD i 0 :: l.getD (i + 1) 0 :: l.drop (i + 2) := by
  rw [drop_cons (by omega), drop_cons (i := i + 1) h]
theorem toList_two (s : ByteArray) (a b : UInt8) : s.toList = ([a, b] : List UInt8) ↔ bytesOf s = [(a.toNat : Int), (b.toNat : Int)] := by
  have ht : (⟨#[a, b]⟩ : ByteArray).toList = [a, b] := ByteArray.toList_eq _
  have hb : bytesOf (⟨#[a, b]⟩ : ByteArray) = [(a.toNat : Int), (b.toNat : Int)] := rfl
  rw [← ht, ← hb, toList_iff]
  exact ⟨fun h => by rw [h], bytes_inj⟩
theorem extract_two (x : ByteArray) (i : Nat) (h : i + 1 < x.size) : bytesOf (x.extract i (i + 2)) = [(bytesOf x).getD i 0, (bytesOf x).getD (i + 1) 0] := by
  have hl : i + 1 < (bytesOf x).length := by rw [bytesOf_length]; exact h
  rw [bytes_extract, List.drop_take, show i + 2 - i = 2 by omega, two_at hl]
  rfl
/-- Does it begin with these two letters? -/
def pre2 (l : List Int) (a b : Int) : Bool := l.getD 0 0 == a && l.getD 1 0 == b && decide (2 ≤ l.length)
theorem pre2_t {l : List Int} {a b : Int} (r : List Int) (h : l = a :: b :: r) : pre2 l a b = true := by subst h; simp [pre2]
theorem pre2_f {l : List Int} {c e a b : Int} (r : List Int) (h : l = c :: e :: r) (hn : ¬ (c = a ∧ e = b)) : pre2 l a b = false := by
  subst h
  unfold pre2
  by_cases h1 : c = a
  · have h2 : ¬ e = b := fun h => hn ⟨h1, h⟩
    simp [h2]
  · simp [h1]
theorem pre2_s {l : List Int} (a b : Int) (h : l.length < 2) : pre2 l a b = false := by
  unfold pre2; rw [decide_eq_false (by omega), Bool.and_false]
theorem HasPrefix_two (x : ByteArray) (a b : UInt8) (hx : x.size ≤ 4611686018427387904) : strings_HasPrefix.f x (⟨#[a, b]⟩ : ByteArray) = some (pre2 (bytesOf x) (a.toNat : Int) (b.toNat : Int)) := by
  have hs : (⟨#[a, b]⟩ : ByteArray).size = 2 := rfl
  have ht : (⟨#[a, b]⟩ : ByteArray).toList = [a, b] := ByteArray.toList_eq _
  have hlen := bytesOf_length x
  unfold strings_HasPrefix.f stringslite_HasPrefix.f
  rw [hs]
  by_cases h : 2 ≤ x.size
  · have e := extract_two x 0 (by omega)
    have d := two_at (l := bytesOf x) (i := 0) (by omega)
    rw [List.drop_zero] at d
    rw [if_pos (by omega), if_pos (by omega), if_pos (by omega), ht, Option.bind_some]
    congr 1
    show ((x.extract 0 2).toList == [a, b]) = _
    by_cases hq : (x.extract 0 2).toList = [a, b]
    · have := (toList_two _ a b).1 hq
      rw [e] at this
      injection this with h1 h2
      injection h2 with h2 _
      rw [h1, h2] at d
      rw [hq, pre2_t _ d]; simp
    · rw [pre2_f _ d (fun ⟨h1, h2⟩ => hq ((toList_two _ a b).2 (by rw [e, h1, h2])))]
      simp [hq]
  · rw [if_neg (by omega), Option.bind_some, pre2_s _ _ (by omega)]
/-- What the program tells of a remark. -/
def remV (i : Nat) : Option Nat → Int
  | some n => ((i + n : Nat) : Int)
  | none => 0
theorem lex_rem (x : ByteArray) (hx : x.size ≤ 4611686018427387904) : ∀ (m i d : Nat), x.size - i ≤ m → i ≤ x.size → d < i → Evr (fun k => lex_remark.l0 k x ((d + 1 : Nat) : Int) (i : Int)) (remV i (remL d ((bytesOf x).drop i))) := by
  intro m
  induction m using Nat.strongRecOn with
  | ind m ih =>
  intro i d hm hi hd
  have hlen := bytesOf_length x
  have hw1 : wrap64 ((i : Int) + 1) = ((i + 1 : Nat) : Int) := wrap_add1 i (by omega)
  have hw2 : wrap64 ((i : Int) + 2) = ((i + 2 : Nat) : Int) := wrap_add2 i (by omega)
  have hwd : wrap64 (((d + 1 : Nat) : Int) + 1) = ((d + 1 + 1 : Nat) : Int) := by rw [wrap64_id (by omega) (by omega)]; omega
  have hwe : wrap64 (((d + 1 : Nat) : Int) - 1) = ((d : Nat) : Int) := by rw [wrap64_id (by omega) (by omega)]; omega
  by_cases h : i + 1 < x.size
  · have e2 := extract_two x i h
    have d2 := two_at (l := bytesOf x) (i := i) (by omega)
    rw [d2]
    generalize hc : (bytesOf x).getD i 0 = c at e2 ⊢
    generalize he : (bytesOf x).getD (i + 1) 0 = e at e2 ⊢
    have q1 : (x.extract (i : Int).toNat (((i + 2 : Nat) : Int)).toNat).toList = ([47, 42] : List UInt8) ↔ (c = 47 ∧ e = 42) := by
      show (x.extract i (i + 2)).toList = _ ↔ _
      rw [toList_two, e2]
      simp only [List.cons.injEq, and_true]
      exact Iff.rfl
    have q2 : (x.extract (i : Int).toNat (((i + 2 : Nat) : Int)).toNat).toList = ([42, 47] : List UInt8) ↔ (c = 42 ∧ e = 47) := by
      show (x.extract i (i + 2)).toList = _ ↔ _
      rw [toList_two, e2]
      simp only [List.cons.injEq, and_true]
      exact Iff.rfl
    rw [remL]
    by_cases h1 : c = 47 ∧ e = 42
    · rw [if_pos h1]
      have hr := ih (m - 2) (by omega) (i + 2) (d + 1) (by omega) (by omega) (by omega)
      refine Evr.step ?_ (fun k => by rw [lex_remark.l0, hw1, if_pos (by omega), if_pos (by omega), hw2, if_pos (by omega), if_pos (by omega), if_pos (q1.2 h1), hwd, if_neg (by omega)])
      have e3 : remV i (Option.map (· + 2) (remL (d + 1) ((bytesOf x).drop (i + 2)))) = remV (i + 2) (remL (d + 1) ((bytesOf x).drop (i + 2))) := by
        cases remL (d + 1) ((bytesOf x).drop (i + 2)) with
        | none => rfl
        | some n => simp only [remV, Option.map_some]; omega
      rw [e3]; exact hr
    · rw [if_neg h1]
      by_cases h2 : c = 42 ∧ e = 47
      · rw [if_pos h2]
        by_cases h3 : d = 0
        · rw [if_pos h3]
          subst h3
          exact Evr.step Evr.ret (fun k => by rw [lex_remark.l0, hw1, if_pos (by omega), if_pos (by omega), hw2, if_pos (by omega), if_pos (by omega), if_neg (fun z => h1 (q1.1 z)), if_pos (q2.2 h2), hwe, if_pos (show ((0 : Nat) : Int) = 0 from rfl)]; rfl)
        · rw [if_neg h3]
          have hr := ih (m - 2) (by omega) (i + 2) (d - 1) (by omega) (by omega) (by omega)
          refine Evr.step ?_ (fun k => by rw [lex_remark.l0, hw1, if_pos (by omega), if_pos (by omega), hw2, if_pos (by omega), if_pos (by omega), if_neg (fun z => h1 (q1.1 z)), if_pos (q2.2 h2), hwe, if_neg (by omega), show ((d : Nat) : Int) = ((d - 1 + 1 : Nat) : Int) by omega])
          have e3 : remV i (Option.map (· + 2) (remL (d - 1) ((bytesOf x).drop (i + 2)))) = remV (i + 2) (remL (d - 1) ((bytesOf x).drop (i + 2))) := by
            cases remL (d - 1) ((bytesOf x).drop (i + 2)) with
            | none => rfl
            | some n => simp only [remV, Option.map_some]; omega
          rw [e3]; exact hr
      · rw [if_neg h2]
        have hr := ih (m - 1) (by omega) (i + 1) d (by omega) (by omega) (by omega)
        refine Evr.step ?_ (fun k => by rw [lex_remark.l0, hw1, if_pos (by omega), if_pos (by omega), hw2, if_pos (by omega), if_pos (by omega), if_neg (fun z => h1 (q1.1 z)), if_neg (fun z => h2 (q2.1 z)), if_neg (by omega)])
        have hd : (bytesOf x).drop (i + 1) = e :: (bytesOf x).drop (i + 2) := by rw [drop_cons (by omega), he]
        rw [hd] at hr
        have e3 : remV i (Option.map (· + 1) (remL d (e :: (bytesOf x).drop (i + 2)))) = remV (i + 1) (remL d (e :: (bytesOf x).drop (i + 2))) := by
          cases remL d (e :: (bytesOf x).drop (i + 2)) with
          | none => rfl
          | some n => simp only [remV, Option.map_some]; omega
        rw [e3]; exact hr
  · have hn : remL d ((bytesOf x).drop i) = none := by
      have hl : ((bytesOf x).drop i).length ≤ 1 := by rw [List.length_drop]; omega
      match hm : (bytesOf x).drop i with
      | [] => rfl
      | [_] => rfl
      | _ :: _ :: _ => rw [hm] at hl; simp only [List.length_cons] at hl; omega
    rw [hn]
    exact Evr.step Evr.ret (fun k => by rw [lex_remark.l0, hw1, if_neg (by omega)]; rfl)
theorem lex_remark_at (x : ByteArray) (hx : x.size ≤ 4611686018427387904) (r : List Int) (h : bytesOf x = 47 :: 42 :: r) : Evr (fun k => lex_remark.f k x) (remV 2 (remL 0 r)) := by
  have hlen := bytesOf_length x
  have hs : 2 ≤ x.size := by rw [← hlen, h]; simp
  have e2 := extract_two x 0 (by omega)
  have q1 : (x.extract (0 : Int).toNat (2 : Int).toNat).toList = ([47, 42] : List UInt8) := by
    show (x.extract 0 2).toList = _
    rw [toList_two, e2, h]; rfl
  have hr := lex_rem x hx x.size 2 0 (by omega) hs (by omega)
  rw [h] at hr
  refine Evr.eqs (h := fun k => lex_remark.l0 k x 0 0) ?_ (fun k => rfl)
  refine Evr.step hr (fun k => ?_)
  rw [lex_remark.l0, show wrap64 ((0 : Int) + 1) = 1 from wrap64_id (by omega) (by omega), if_pos (by omega), if_pos (by omega), show wrap64 ((0 : Int) + 2) = 2 from wrap64_id (by omega) (by omega), if_pos (by omega), if_pos (by omega), if_pos q1, if_neg (by decide)]
  rfl
/-- What the program tells of blanks. -/
def blV (i : Nat) : Option Nat → Int × Bool
  | some n => (((i + n : Nat) : Int), true)
  | none => (0, false)
theorem blV_add (i n : Nat) (o : Option Nat) : blV i (o.map (· + n)) = blV (i + n) o := by
  cases o with
  | none => rfl
  | some m => simp only [blV, Option.map_some]; congr 2; omega
theorem isB_cases (c : Int) : isB c = true ↔ c = 32 ∨ c = 9 ∨ c = 10 ∨ c = 13 := by
  unfold isB
  simp [or_assoc]
theorem lex_bl (x : ByteArray) (hx : x.size ≤ 140737488355328) : ∀ (m i : Nat), x.size ≤ i + m → i ≤ x.size → Evr (fun k => lex_blank.l0 k x (i : Int)) (blV i (blL 0 ((bytesOf x).drop i))) := by
  intro m
  induction m using Nat.strongRecOn with
  | ind m ih =>
  intro i hm hi
  have hlen := bytesOf_length x
  have hw1 : wrap64 ((i : Int) + 1) = ((i + 1 : Nat) : Int) := wrap_add1 i (by omega)
  by_cases hi' : i = x.size
  · rw [List.drop_of_length_le (by omega)]
    exact Evr.step Evr.ret (fun k => by rw [lex_blank.l0, if_neg (by omega)]; rfl)
  · obtain ⟨m, rfl⟩ : ∃ q, m = q + 1 := ⟨m - 1, by omega⟩
    generalize hy : x.extract i x.size = y
    have hyb : bytesOf y = (bytesOf x).drop i := by rw [← hy]; exact bytes_rest x i
    have hys : y.size + i = x.size := by rw [size_bytes, hyb, List.length_drop]; omega
    have d1 : (bytesOf x).drop i = (bytesOf x).getD i 0 :: (bytesOf x).drop (i + 1) := drop_cons (by omega)
    generalize hc : (bytesOf x).getD i 0 = c at d1
    have hb0 : bt y 0 = c := by rw [show (0 : Int) = ((0 : Nat) : Int) from rfl, bt_nat, hyb, d1]; rfl
    have hj : Evr (fun k => lex_blank.j1 k x (i : Int) y (isB c)) (blV i (blL 0 ((bytesOf x).drop i))) := by
      cases hB : isB c with
      | true =>
        rw [d1, bl_blank c _ hB, blV_add]
        exact Evr.step (ih m (Nat.lt_succ_self m) (i + 1) (by omega) (by omega)) (fun k => by rw [lex_blank.j1, if_pos rfl, hw1])
      | false =>
        have p1 := HasPrefix_two y 47 47 (by omega)
        have p2 := HasPrefix_two y 47 42 (by omega)
        have other : ∀ r, (bytesOf x).drop i = r → (strings_HasPrefix.f y (⟨#[47, 47]⟩ : ByteArray) = some false) → (strings_HasPrefix.f y (⟨#[47, 42]⟩ : ByteArray) = some false) → blL 0 r = some 0 → Evr (fun k => lex_blank.j1 k x (i : Int) y false) (blV i (blL 0 r)) := by
          intro r hr f1 f2 hz
          rw [hz]
          exact Evr.step Evr.ret (fun k => by rw [lex_blank.j1, if_neg (by decide), f1, Option.bind_some, if_neg (by decide), f2, Option.bind_some, if_neg (by decide)]; rfl)
        match hd : (bytesOf x).drop i with
        | [] => rw [hd] at d1; cases d1
        | [e] =>
          rw [hd] at d1
          injection d1 with d1 _
          subst d1
          rw [pre2_s _ _ (by rw [hyb, hd]; simp)] at p1 p2
          refine other _ hd p1 p2 ?_
          show some (if isB e = true then 1 else 0) = some 0
          rw [hB]; rfl
        | e :: f :: r =>
          have hyx := hyb.trans hd
          rw [hd] at d1
          injection d1 with d1 d1'
          subst d1
          have d3 : (bytesOf x).drop (i + 2) = r := by
            rw [show i + 2 = (i + 1) + 1 by omega, ← List.drop_drop, ← d1']; rfl
          by_cases h1 : e = 47 ∧ f = 47
          · obtain ⟨rfl, rfl⟩ := h1
            have p1 : strings_HasPrefix.f y (⟨#[47, 47]⟩ : ByteArray) = some true := p1.trans (congrArg some (pre2_t r hyx))
            rw [bl_slashes]
            obtain ⟨s1, s2⟩ := index_split y 10
            have ht := indexByte_lt' y 10
            by_cases hn : Go.Lib.indexByte y.data.toList 10 < 0
            · have h10 := s1 hn
              rw [hyx] at h10
              rw [bl_line _ h10]
              have hl : (47 :: 47 :: r).length = y.size := by rw [← hyx, bytesOf_length]
              refine Evr.step Evr.ret (fun k => ?_)
              rw [lex_blank.j1, if_neg (by decide), p1, Option.bind_some, if_pos rfl, strings_IndexByte.f, Option.bind_some]
              rw [show Go.Lib.indexByte y.data.toList (10 : Int).toNat.toUInt8 = Go.Lib.indexByte y.data.toList 10 from rfl, if_pos hn, hl]
              simp only [blV]
              congr 2; omega
            · obtain ⟨s3, s4⟩ := s2 hn
              generalize ht' : (Go.Lib.indexByte y.data.toList 10).toNat = t at s3 s4
              have hti : Go.Lib.indexByte y.data.toList 10 = (t : Int) := by omega
              rw [hti] at ht
              have hb : i + (t + 1) ≤ x.size := by clear hw1 ih s1 s2 s3 s4 hx hm hti ht'; omega
              have hb2 : x.size ≤ i + (t + 1) + m := by clear hw1 ih s1 s2 s3 s4 hx ht hti ht'; omega
              have hlt : ((bytesOf y).take t).length = t := by rw [List.length_take, bytesOf_length]; omega
              have hdt : (bytesOf y).drop (t + 1) = (bytesOf x).drop (i + (t + 1)) := by rw [hyb, List.drop_drop]
              have e3 : blL 1 (47 :: 47 :: r) = (blL 0 ((bytesOf x).drop (i + (t + 1)))).map (· + (t + 1)) := by
                rw [← hyx, s3, show ((10 : UInt8).toNat : Int) = 10 from rfl, bl_line_end _ _ s4, hlt, hdt]
              rw [e3, blV_add]
              have hwt : wrap64 ((t : Int) + 1) = ((t + 1 : Nat) : Int) := wrap_add1 t (Nat.le_trans (by clear hw1 ih s1 s2 s3 s4 hx hm hti ht' ht hb2 hlt; omega) (Nat.le_trans (Nat.le_trans hb hx) (by decide)))
              have hwi : wrap64 ((i : Int) + ((t + 1 : Nat) : Int)) = ((i + (t + 1) : Nat) : Int) := wrap_add i (t + 1) (Nat.le_trans hb (Nat.le_trans hx (by decide)))
              refine Evr.step (ih m (Nat.lt_succ_self m) (i + (t + 1)) hb2 hb) (fun k => ?_)
              rw [lex_blank.j1, if_neg (by decide), p1, Option.bind_some, if_pos rfl, strings_IndexByte.f, Option.bind_some]
              rw [show Go.Lib.indexByte y.data.toList (10 : Int).toNat.toUInt8 = Go.Lib.indexByte y.data.toList 10 from rfl, hti, if_neg (Int.not_lt.2 (Int.natCast_nonneg t)), hwt, hwi]
          · have p1 : strings_HasPrefix.f y (⟨#[47, 47]⟩ : ByteArray) = some false := p1.trans (congrArg some (pre2_f r hyx h1))
            by_cases h2 : e = 47 ∧ f = 42
            · obtain ⟨rfl, rfl⟩ := h2
              have p2 : strings_HasPrefix.f y (⟨#[47, 42]⟩ : ByteArray) = some true := p2.trans (congrArg some (pre2_t r hyx))
              rw [bl_star]
              have hr := lex_remark_at y (by omega) r hyx
              refine Evr.step ?_ (fun k => by rw [lex_blank.j1, if_neg (by decide), p1, Option.bind_some, if_neg (by decide), p2, Option.bind_some, if_pos rfl])
              refine Evr.bind hr ?_
              cases hq : remL 0 r with
              | none => exact Evr.eqs Evr.ret (fun k => by rw [remV, if_pos rfl]; rfl)
              | some n =>
                have hn := rem_le r.length r 0 n (Nat.le_refl _) hq
                have hl : r.length + 1 + 1 = y.size := by rw [← bytesOf_length y, hyx]; rfl
                have hwi : wrap64 ((i : Int) + ((2 + n : Nat) : Int)) = ((i + (n + 2) : Nat) : Int) := (wrap_add i (2 + n) (by omega)).trans (by rw [Nat.add_comm 2 n])
                rw [Option.bind_some, ← d3, List.drop_drop, blV_add, show i + 2 + n = i + (n + 2) by omega]
                exact Evr.eqs (ih m (Nat.lt_succ_self m) (i + (n + 2)) (by omega) (by omega)) (fun k => by rw [remV, if_neg (by omega), hwi])
            · have p2 : strings_HasPrefix.f y (⟨#[47, 42]⟩ : ByteArray) = some false := p2.trans (congrArg some (pre2_f r hyx h2))
              exact other _ hd p1 p2 (bl_other e f r hB h1 h2)
    refine Evr.step hj (fun k => ?_)
    rw [lex_blank.l0, if_pos (by omega), if_pos (by omega), if_pos (by omega), show (i : Int).toNat = i from rfl, hy, if_pos (by omega), hb0]
    by_cases c1 : c = 32
    · rw [if_pos c1, show isB c = true by rw [isB_cases]; exact .inl c1]
    · rw [if_neg c1]
      by_cases c2 : c = 9
      · rw [if_pos c2, show isB c = true by rw [isB_cases]; exact .inr (.inl c2)]
      · rw [if_neg c2]
        by_cases c3 : c = 10
        · rw [if_pos c3, show isB c = true by rw [isB_cases]; exact .inr (.inr (.inl c3))]
        · rw [if_neg c3]
          have : isB c = (c == 13) := by unfold isB; simp [c1, c2, c3]
          rw [this]
theorem lex_blank_at (x : ByteArray) (hx : x.size ≤ 140737488355328) : Evr (fun k => lex_blank.f k x) (blV 0 (blL 0 (bytesOf x))) := by
  have := lex_bl x hx x.size 0 (by omega) (by omega)
  rw [List.drop_zero] at this
  exact this
/-- What the reference tells of a remark, and of blanks. -/
def refV (i : Nat) : Option Nat → Int
  | some n => ((i + n : Nat) : Int)
  | none => -1
theorem refV_add (i n : Nat) (o : Option Nat) : refV i (o.map (· + n)) = refV (i + n) o := by
  cases o with
  | none => rfl
  | some m => simp only [refV, Option.map_some]; omega
theorem ref_rem (x : ByteArray) (hx : x.size ≤ 4611686018427387904) : ∀ (m i : Nat), x.size - i ≤ m → i ≤ x.size → Evr (fun k => scarfref10_remark.l0 k x (i : Int)) (refV i (remL 0 ((bytesOf x).drop i))) := by
  intro m
  induction m using Nat.strongRecOn with
  | ind m ih =>
  intro i hm hi
  have hlen := bytesOf_length x
  have hw1 : wrap64 ((i : Int) + 1) = ((i + 1 : Nat) : Int) := wrap_add1 i (by omega)
  have hw2 : wrap64 ((i : Int) + 2) = ((i + 2 : Nat) : Int) := wrap_add2 i (by omega)
  by_cases h : i + 1 < x.size
  · have d2 := two_at (l := bytesOf x) (i := i) (by omega)
    have d1 : (bytesOf x).drop (i + 1) = (bytesOf x).getD (i + 1) 0 :: (bytesOf x).drop (i + 2) := drop_cons (by omega)
    rw [d2, remL]
    have b1 : bt x (i : Int) = (bytesOf x).getD i 0 := bt_nat x i
    have b2 : bt x ((i + 1 : Nat) : Int) = (bytesOf x).getD (i + 1) 0 := bt_nat x (i + 1)
    generalize (bytesOf x).getD i 0 = c at b1 ⊢
    generalize (bytesOf x).getD (i + 1) 0 = e at b2 d1 ⊢
    have next : Evr (fun k => scarfref10_remark.j2 k x (i : Int) false) (refV i ((remL 0 (e :: (bytesOf x).drop (i + 2))).map (· + 1))) := by
      rw [refV_add, ← d1]
      exact Evr.step (ih (m - 1) (by omega) (i + 1) (by omega) (by omega)) (fun k => by rw [scarfref10_remark.j2, if_neg (by decide), hw1])
    have j1 : Evr (fun k => scarfref10_remark.j1 k x (i : Int) (decide (c = 42 ∧ e = 47))) (refV i (if c = 47 ∧ e = 42 then (remL (0 + 1) ((bytesOf x).drop (i + 2))).map (· + 2) else if c = 42 ∧ e = 47 then (if 0 = 0 then some 2 else (remL (0 - 1) ((bytesOf x).drop (i + 2))).map (· + 2)) else (remL 0 (e :: (bytesOf x).drop (i + 2))).map (· + 1))) := by
      by_cases h2 : c = 42 ∧ e = 47
      · rw [decide_eq_true h2, if_neg (show ¬ (c = 47 ∧ e = 42) by omega), if_pos h2, if_pos rfl]
        exact Evr.step Evr.ret (fun k => by rw [scarfref10_remark.j1, if_pos rfl, hw2]; rfl)
      · rw [decide_eq_false h2, if_neg h2]
        by_cases h1 : c = 47 ∧ e = 42
        · rw [if_pos h1]
          have j2 : Evr (fun k => scarfref10_remark.j2 k x (i : Int) true) (refV i ((remL (0 + 1) ((bytesOf x).drop (i + 2))).map (· + 2))) := by
            refine Evr.step ?_ (fun k => by rw [scarfref10_remark.j2, if_pos rfl, hw2])
            have hr : Evr (fun k => scarfref10_remark.f k x ((i + 2 : Nat) : Int)) (refV (i + 2) (remL 0 ((bytesOf x).drop (i + 2)))) := Evr.step (ih (m - 2) (by omega) (i + 2) (by omega) (by omega)) (fun k => by rw [scarfref10_remark.f])
            refine Evr.bind hr ?_
            rw [refV_add, show (0 + 1 : Nat) = 0 + 0 + 1 from rfl, rem_add _ _ 0 0 (Nat.le_refl _)]
            cases hq : remL 0 ((bytesOf x).drop (i + 2)) with
            | none => exact Evr.eqs Evr.ret (fun k => by rw [refV, if_pos (by decide)]; rfl)
            | some n =>
              have hn := rem_le _ _ 0 n (Nat.le_refl _) hq
              rw [List.length_drop] at hn
              rw [Option.bind_some, List.drop_drop, refV_add]
              exact Evr.eqs (ih (m - 2) (by omega) (i + 2 + n) (by omega) (by omega)) (fun k => by rw [refV, if_neg (by omega)])
          refine Evr.step j2 (fun k => ?_)
          rw [scarfref10_remark.j1, if_neg (by decide), if_pos (by omega), if_pos (by omega), b1, if_pos h1.1, hw1, if_pos (by omega), if_pos (by omega), b2, h1.2]
          rfl
        · rw [if_neg h1]
          refine Evr.step next (fun k => ?_)
          rw [scarfref10_remark.j1, if_neg (by decide), if_pos (by omega), if_pos (by omega), b1]
          by_cases h3 : c = 47
          · rw [if_pos h3, hw1, if_pos (by omega), if_pos (by omega), b2, show (e == 42) = false by simpa using fun h => h1 ⟨h3, h⟩]
          · rw [if_neg h3]
    refine Evr.step j1 (fun k => ?_)
    rw [scarfref10_remark.l0, hw1, if_pos (by omega), if_pos (by omega), if_pos (by omega), b1]
    by_cases h3 : c = 42
    · rw [if_pos h3, if_pos (by omega), b2]
      congr 1
      by_cases he : e = 47 <;> simp [h3, he]
    · rw [if_neg h3, decide_eq_false (fun h => h3 h.1)]
  · have hn : remL 0 ((bytesOf x).drop i) = none := by
      have hl : ((bytesOf x).drop i).length ≤ 1 := by rw [List.length_drop]; omega
      match hm : (bytesOf x).drop i with
      | [] => rfl
      | [_] => rfl
      | _ :: _ :: _ => rw [hm] at hl; simp only [List.length_cons] at hl; omega
    rw [hn]
    exact Evr.step Evr.ret (fun k => by rw [scarfref10_remark.l0, hw1, if_neg (by omega)]; rfl)
theorem ref_line (x : ByteArray) (hx : x.size ≤ 4611686018427387904) : ∀ (m i : Nat), x.size - i ≤ m → i ≤ x.size → (∀ j, i ≤ j → j ≤ x.size → Evr (fun k => scarfref10_blank.l0 k x (j : Int)) (refV j (blL 0 ((bytesOf x).drop j)))) → Evr (fun k => scarfref10_blank.l1 k x (i : Int)) (refV i (blL 1 ((bytesOf x).drop i))) := by
  intro m
  induction m with
  | zero =>
    intro i hm hi H
    have h0 := H i (Nat.le_refl _) hi
    rw [List.drop_of_length_le (by rw [bytesOf_length]; omega)] at h0 ⊢
    exact Evr.step h0 (fun k => by rw [scarfref10_blank.l1, if_neg (by omega)])
  | succ m ih =>
    intro i hm hi H
    have hlen := bytesOf_length x
    have hw1 : wrap64 ((i : Int) + 1) = ((i + 1 : Nat) : Int) := wrap_add1 i (by omega)
    by_cases hi' : i = x.size
    · have h0 := H i (Nat.le_refl _) hi
      rw [List.drop_of_length_le (by omega)] at h0 ⊢
      exact Evr.step h0 (fun k => by rw [scarfref10_blank.l1, if_neg (by omega)])
    · have d1 : (bytesOf x).drop i = (bytesOf x).getD i 0 :: (bytesOf x).drop (i + 1) := drop_cons (by omega)
      have b1 : bt x (i : Int) = (bytesOf x).getD i 0 := bt_nat x i
      have h0 := H i (Nat.le_refl _) hi
      rw [d1] at h0 ⊢
      generalize (bytesOf x).getD i 0 = c at b1 h0 ⊢
      rw [bl_one]
      by_cases hc : c = 10
      · rw [if_pos hc]
        rw [bl_blank c _ (by rw [hc]; rfl)] at h0
        exact Evr.step h0 (fun k => by rw [scarfref10_blank.l1, if_pos (by omega), if_pos (by omega), b1, if_pos hc])
      · rw [if_neg hc, refV_add]
        exact Evr.step (ih (i + 1) (by omega) (by omega) (fun j h1 h2 => H j (by omega) h2)) (fun k => by rw [scarfref10_blank.l1, if_pos (by omega), if_pos (by omega), b1, if_neg hc, hw1])
theorem ref_bl (x : ByteArray) (hx : x.size ≤ 4611686018427387904) : ∀ (m i : Nat), x.size - i ≤ m → i ≤ x.size → Evr (fun k => scarfref10_blank.l0 k x (i : Int)) (refV i (blL 0 ((bytesOf x).drop i))) := by
  intro m
  induction m using Nat.strongRecOn with
  | ind m ih =>
  intro i hm hi
  have hlen := bytesOf_length x
  have hw1 : wrap64 ((i : Int) + 1) = ((i + 1 : Nat) : Int) := wrap_add1 i (by omega)
  have hw2 : wrap64 ((i : Int) + 2) = ((i + 2 : Nat) : Int) := wrap_add2 i (by omega)
  by_cases hi' : i = x.size
  · rw [List.drop_of_length_le (by omega)]
    exact Evr.step Evr.ret (fun k => by rw [scarfref10_blank.l0, if_neg (by omega)]; rfl)
  · have d1 : (bytesOf x).drop i = (bytesOf x).getD i 0 :: (bytesOf x).drop (i + 1) := drop_cons (by omega)
    have b1 : bt x (i : Int) = (bytesOf x).getD i 0 := bt_nat x i
    generalize hc : (bytesOf x).getD i 0 = c at b1 d1
    have hj : Evr (fun k => scarfref10_blank.j1 k x (i : Int) (isB c)) (refV i (blL 0 ((bytesOf x).drop i))) := by
      cases hB : isB c with
      | true =>
        rw [d1, bl_blank c _ hB, refV_add]
        exact Evr.step (ih (m - 1) (by omega) (i + 1) (by omega) (by omega)) (fun k => by rw [scarfref10_blank.j1, if_pos rfl, hw1])
      | false =>
        by_cases h : i + 1 < x.size
        · have d2 : (bytesOf x).drop (i + 1) = (bytesOf x).getD (i + 1) 0 :: (bytesOf x).drop (i + 2) := drop_cons (by omega)
          have b2 : bt x ((i + 1 : Nat) : Int) = (bytesOf x).getD (i + 1) 0 := bt_nat x (i + 1)
          generalize he : (bytesOf x).getD (i + 1) 0 = e at b2 d2
          rw [d2] at d1
          by_cases h1 : c = 47 ∧ e = 47
          · have hl := ref_line x hx x.size i (by omega) hi
            have j2 : Evr (fun k => scarfref10_blank.j2 k x (i : Int) true) (refV i (blL 0 ((bytesOf x).drop i))) := by
              refine Evr.step ?_ (fun k => by rw [scarfref10_blank.j2, if_pos rfl])
              have hn := ref_line x hx x.size (i + 1) (by omega) (by omega) (fun j h1 h2 => ih (m - 1) (by omega) j (by omega) h2)
              rw [d1, h1.1, h1.2, bl_slashes, bl_one, if_neg (by decide), refV_add, ← h1.2, ← d2]
              exact Evr.step hn (fun k => by rw [scarfref10_blank.l1, if_pos (by omega), if_pos (by omega), b1, h1.1, if_neg (by decide), hw1])
            refine Evr.step j2 (fun k => ?_)
            rw [scarfref10_blank.j1, if_neg (by decide), hw1, if_pos (by omega), if_pos (by omega), if_pos (by omega), b1, if_pos h1.1, if_pos (by omega), b2, h1.2]
            rfl
          · have j2 : Evr (fun k => scarfref10_blank.j2 k x (i : Int) false) (refV i (blL 0 ((bytesOf x).drop i))) := by
              by_cases h2 : c = 47 ∧ e = 42
              · have j4 : Evr (fun k => scarfref10_blank.j4 k x (i : Int) true) (refV i (blL 0 ((bytesOf x).drop i))) := by
                  refine Evr.step ?_ (fun k => by rw [scarfref10_blank.j4, if_pos rfl, hw2])
                  have hr : Evr (fun k => scarfref10_remark.f k x ((i + 2 : Nat) : Int)) (refV (i + 2) (remL 0 ((bytesOf x).drop (i + 2)))) := Evr.step (ref_rem x hx x.size (i + 2) (by omega) (by omega)) (fun k => by rw [scarfref10_remark.f])
                  refine Evr.bind hr ?_
                  rw [d1, h2.1, h2.2, bl_star]
                  cases hq : remL 0 ((bytesOf x).drop (i + 2)) with
                  | none => exact Evr.eqs Evr.ret (fun k => by rw [refV, if_pos (by decide)]; rfl)
                  | some n =>
                    have hn := rem_le _ _ 0 n (Nat.le_refl _) hq
                    rw [List.length_drop] at hn
                    rw [Option.bind_some, List.drop_drop, refV_add, show i + 2 + n = i + (n + 2) by omega]
                    exact Evr.eqs (ih (m - 2) (by omega) (i + (n + 2)) (by omega) (by omega)) (fun k => by rw [refV, if_neg (by omega), show i + 2 + n = i + (n + 2) by omega])
                refine Evr.step j4 (fun k => ?_)
                rw [scarfref10_blank.j2, if_neg (by decide), hw1, if_pos (by omega), if_pos (by omega), if_pos (by omega), b1, if_pos h2.1, if_pos (by omega), b2, h2.2]
                rfl
              · have j4 : Evr (fun k => scarfref10_blank.j4 k x (i : Int) false) (refV i (blL 0 ((bytesOf x).drop i))) := by
                  rw [d1, bl_other c e _ hB h1 h2]
                  exact Evr.step Evr.ret (fun k => by rw [scarfref10_blank.j4, if_neg (by decide)]; rfl)
                refine Evr.step j4 (fun k => ?_)
                rw [scarfref10_blank.j2, if_neg (by decide), hw1, if_pos (by omega), if_pos (by omega), if_pos (by omega), b1]
                by_cases h3 : c = 47
                · rw [if_pos h3, if_pos (by omega), b2, show (e == 42) = false by simpa using fun h => h2 ⟨h3, h⟩]
                · rw [if_neg h3]
            refine Evr.step j2 (fun k => ?_)
            rw [scarfref10_blank.j1, if_neg (by decide), hw1, if_pos (by omega), if_pos (by omega), if_pos (by omega), b1]
            by_cases h3 : c = 47
            · rw [if_pos h3, if_pos (by omega), b2, show (e == 47) = false by simpa using fun h => h1 ⟨h3, h⟩]
            · rw [if_neg h3]
        · have hz : blL 0 ((bytesOf x).drop i) = some 0 := by
            rw [d1, List.drop_of_length_le (by omega)]
            show some (if isB c = true then 1 else 0) = some 0
            rw [hB]; rfl
          rw [hz]
          have j4 : Evr (fun k => scarfref10_blank.j4 k x (i : Int) false) (refV i (some 0)) := Evr.step Evr.ret (fun k => by rw [scarfref10_blank.j4, if_neg (by decide)]; rfl)
          have j2 : Evr (fun k => scarfref10_blank.j2 k x (i : Int) false) (refV i (some 0)) := Evr.step j4 (fun k => by rw [scarfref10_blank.j2, if_neg (by decide), hw1, if_neg (by omega)])
          exact Evr.step j2 (fun k => by rw [scarfref10_blank.j1, if_neg (by decide), hw1, if_neg (by omega)])
    refine Evr.step hj (fun k => ?_)
    rw [scarfref10_blank.l0, if_pos (by omega), if_pos (by omega), b1]
    by_cases c1 : c = 32
    · rw [if_pos c1, show isB c = true by rw [isB_cases]; exact .inl c1]
    · rw [if_neg c1]
      by_cases c2 : c = 9
      · rw [if_pos c2, show isB c = true by rw [isB_cases]; exact .inr (.inl c2)]
      · rw [if_neg c2]
        by_cases c3 : c = 10
        · rw [if_pos c3, show isB c = true by rw [isB_cases]; exact .inr (.inr (.inl c3))]
        · rw [if_neg c3]
          have : isB c = (c == 13) := by unfold isB; simp [c1, c2, c3]
          rw [this]
end Go.Proofs.YtlggjgpdiffajaaDoor.LexB
namespace Go.Proofs.YtlggjgpdiffajaaDoor.LexK
set_option linter.unusedVariables false
set_option linter.unusedSimpArgs false
open Go.RowKit Go.Proofs.YtlggjgpdiffajaaDoor.PA Go.Proofs.YtlggjgpdiffajaaDoorW.PrintWords Go.Proofs.YtlggjgpdiffajaaDoorW.PrintLast Go.Proofs.YtlggjgpdiffajaaDoorW.PrintMore
open Go.Proofs.YtlggjgpdiffajaaDoor.Str Go.Proofs.YtlggjgpdiffajaaDoor.Ev Go.Proofs.YtlggjgpdiffajaaDoor.LexM
/-- The kind of a letter. -/
def kindL (c : Int) : Int := if lxLo c = true then 1 else if lxUp c = true then 2 else if lxDi c = true then 3 else if c = 45 then 4 else if c = 46 then 5 else 0
theorem kind_at (c : Int) (k : Nat) (hk : 3 ≤ k) : scarfref10_kind.f k c = some (kindL c) := by
  obtain ⟨k, rfl⟩ : ∃ m, k = m + 3 := ⟨k - 3, by omega⟩
  unfold scarfref10_kind.f kindL
  have h2 : ∀ b : Bool, scarfref10_kind.j2 (k + 1) c b = some (if b = true then 3 else if c = 45 then 4 else if c = 46 then 5 else 0) := by
    intro b
    rw [scarfref10_kind.j2]
    cases b
    · simp only [Bool.false_eq_true, if_false]
      split
      · rfl
      · split <;> rfl
    · rfl
  have h1 : ∀ b : Bool, scarfref10_kind.j1 (k + 2) c b = some (if b = true then 2 else if lxDi c = true then 3 else if c = 45 then 4 else if c = 46 then 5 else 0) := by
    intro b
    rw [scarfref10_kind.j1]
    cases b
    · simp only [Bool.false_eq_true, if_false]
      by_cases h : c ≥ 48
      · rw [if_pos h, h2]
        have : lxDi c = decide (c ≤ 57) := by unfold lxDi; simp [show (48 : Int) ≤ c from h]
        rw [this]
      · rw [if_neg h, h2]
        have : lxDi c = false := by rw [di_f]; omega
        rw [this]
    · rfl
  have h0 : ∀ b : Bool, scarfref10_kind.j0 (k + 3) c b = some (if b = true then 1 else if lxUp c = true then 2 else if lxDi c = true then 3 else if c = 45 then 4 else if c = 46 then 5 else 0) := by
    intro b
    rw [scarfref10_kind.j0]
    cases b
    · simp only [Bool.false_eq_true, if_false]
      by_cases h : c ≥ 65
      · rw [if_pos h, h1]
        have : lxUp c = decide (c ≤ 90) := by unfold lxUp; simp [show (65 : Int) ≤ c from h]
        rw [this]
      · rw [if_neg h, h1]
        have : lxUp c = false := by rw [up_f]; omega
        rw [this]
    · rfl
  by_cases h : c ≥ 97
  · rw [if_pos h, h0]
    have : lxLo c = decide (c ≤ 122) := by unfold lxLo; simp [show (97 : Int) ≤ c from h]
    rw [this]
  · rw [if_neg h, h0]
    have : lxLo c = false := by rw [lo_f]; omega
    rw [this]
theorem kind_ev (c : Int) : Evr (fun k => scarfref10_kind.f k c) (kindL c) := ⟨3, fun k hk => kind_at c k hk⟩
theorem kind_cases (c : Int) : (kindL c = 1 ∧ lxLo c = true) ∨ (kindL c = 2 ∧ lxLo c = false ∧ lxUp c = true) ∨ (kindL c = 3 ∧ lxLo c = false ∧ lxUp c = false ∧ lxDi c = true) ∨ (kindL c = 4 ∧ c = 45) ∨ (kindL c = 5 ∧ c = 46) ∨ (kindL c = 0 ∧ lxLo c = false ∧ lxUp c = false ∧ lxDi c = false ∧ c ≠ 45 ∧ c ≠ 46) := by
  unfold kindL
  by_cases h1 : lxLo c = true
  · exact .inl ⟨if_pos h1, h1⟩
  · rw [if_neg h1]
    have h1' : lxLo c = false := by simpa using h1
    by_cases h2 : lxUp c = true
    · exact .inr (.inl ⟨if_pos h2, h1', h2⟩)
    · rw [if_neg h2]
      have h2' : lxUp c = false := by simpa using h2
      by_cases h3 : lxDi c = true
      · exact .inr (.inr (.inl ⟨if_pos h3, h1', h2', h3⟩))
      · rw [if_neg h3]
        have h3' : lxDi c = false := by simpa using h3
        by_cases h4 : c = 45
        · exact .inr (.inr (.inr (.inl ⟨if_pos h4, h4⟩)))
        · rw [if_neg h4]
          by_cases h5 : c = 46
          · exact .inr (.inr (.inr (.inr (.inl ⟨if_pos h5, h5⟩))))
          · exact .inr (.inr (.inr (.inr (.inr ⟨if_neg h5, h1', h2', h3', h4, h5⟩))))
theorem kind_num (c : Int) : (kindL c = 1 ↔ lxLo c = true) ∧ (kindL c = 2 ↔ lxUp c = true) ∧ (kindL c = 3 ↔ lxDi c = true) ∧ (kindL c = 4 ↔ c = 45) ∧ (kindL c = 5 ↔ c = 46) := by
  have H := kind_cases c
  have hl := lo_def c
  have hu := up_def c
  have hd := di_def c
  have hl' := lo_f c
  have hu' := up_f c
  have hd' := di_f c
  refine ⟨⟨fun h => ?_, fun h => ?_⟩, ⟨fun h => ?_, fun h => ?_⟩, ⟨fun h => ?_, fun h => ?_⟩, ⟨fun h => ?_, fun h => ?_⟩, ⟨fun h => ?_, fun h => ?_⟩⟩ <;>
    (rcases H with ⟨e, H1⟩ | ⟨e, H1, H2⟩ | ⟨e, H1, H2, H3⟩ | ⟨e, H1⟩ | ⟨e, H1⟩ | ⟨e, H1, H2, H3, H4⟩) <;>
    simp_all <;> omega
theorem kind_lo (c : Int) : kindL c = 1 ↔ lxLo c = true := (kind_num c).1
theorem kind_up (c : Int) : kindL c = 2 ↔ lxUp c = true := (kind_num c).2.1
theorem kind_di (c : Int) : kindL c = 3 ↔ lxDi c = true := (kind_num c).2.2.1
theorem kind_45 (c : Int) : kindL c = 4 ↔ c = 45 := (kind_num c).2.2.2.1
theorem kind_46 (c : Int) : kindL c = 5 ↔ c = 46 := (kind_num c).2.2.2.2
/-- What the reference's loop holds of the letters before. -/
def St (l : List Int) (i : Nat) (size : Int) (s : Nat) : Prop :=
  ((i = 0 ∨ l.getD (i - 1) 0 = 45) ∧ s = 0) ∨ (0 < i ∧ l.getD (i - 1) 0 ≠ 45 ∧ (size = 1 ∧ s = 1 ∨ size = 2 ∧ s = 2))
theorem name_l0 (x : ByteArray) (hx : x.size ≤ 4611686018427387904) (h0 : 0 < x.size) : ∀ m i size s, i + m = x.size → St (bytesOf x) i size s → Evr (fun k => scarfref10_Name.l0 k x size (i : Int)) (nameL s ((bytesOf x).drop i)) := by
  intro m
  induction m with
  | zero =>
    intro i size s hi hst
    have hw : wrap64 ((x.size : Int) - 1) = ((x.size - 1 : Nat) : Int) := by rw [wrap64_id (by omega) (by omega)]; omega
    refine Evr.step ?_ (fun k => by rw [scarfref10_Name.l0, if_neg (by omega), if_pos (by rw [hw]; omega), if_pos (by rw [hw]; omega), hw, bt_nat])
    refine Evr.const ?_
    rw [List.drop_of_length_le (by rw [bytesOf_length]; omega)]
    have hi' : i - 1 = x.size - 1 := by omega
    rcases hst with ⟨h, rfl⟩ | ⟨_, hne, h⟩
    · rcases h with h | h
      · omega
      · rw [hi'] at h; rw [h]; rfl
    · rw [hi'] at hne
      have : nameL s [] = true := by rcases h with ⟨_, rfl⟩ | ⟨_, rfl⟩ <;> rfl
      rw [this]; simpa using hne
  | succ m ih =>
    intro i size s hi hst
    have hl : i < (bytesOf x).length := by rw [bytesOf_length]; omega
    have hw : wrap64 ((i : Int) + 1) = ((i + 1 : Nat) : Int) := by rw [wrap64_id (by omega) (by omega)]; omega
    rw [drop_cons hl]
    generalize hc : (bytesOf x).getD i 0 = c
    have hn : ∀ size' s', (c = 45 ∧ s' = 0 ∨ c ≠ 45 ∧ (size' = 1 ∧ s' = 1 ∨ size' = 2 ∧ s' = 2)) → Evr (fun k => scarfref10_Name.l0 k x size' (wrap64 ((i : Int) + 1))) (nameL s' ((bytesOf x).drop (i + 1))) := by
      intro size' s' h
      rw [hw]
      refine ih (i + 1) size' s' (by omega) ?_
      unfold St
      rw [show i + 1 - 1 = i by omega, hc]
      rcases h with ⟨h1, h2⟩ | ⟨h1, h2⟩
      · exact .inl ⟨.inr h1, h2⟩
      · exact .inr ⟨by omega, h1, h2⟩
    have hj1 : s = 0 → Evr (fun k => scarfref10_Name.j2 k x size (i : Int) (kindL c) true) (nameL s (c :: (bytesOf x).drop (i + 1))) := by
      rintro rfl
      rw [nameL]
      by_cases hl : lxLo c = true
      · have hk := (kind_lo c).2 hl
        rw [if_pos hl]
        refine Evr.step (hn 1 1 (.inr ⟨by rw [lo_def] at hl; omega, .inl ⟨rfl, rfl⟩⟩)) (fun k => by rw [scarfref10_Name.j2, if_pos rfl, if_pos hk, hk])
      · rw [if_neg hl]
        have hk1 : ¬ kindL c = 1 := fun h => hl ((kind_lo c).1 h)
        by_cases hu : lxUp c = true
        · have hk := (kind_up c).2 hu
          rw [if_pos hu]
          refine Evr.step (hn 2 2 (.inr ⟨by rw [up_def] at hu; omega, .inr ⟨rfl, rfl⟩⟩)) (fun k => by rw [scarfref10_Name.j2, if_pos rfl, if_neg hk1, if_pos hk, hk])
        · rw [if_neg hu]
          have hk2 : ¬ kindL c = 2 := fun h => hu ((kind_up c).1 h)
          refine Evr.step Evr.ret (fun k => by rw [scarfref10_Name.j2, if_pos rfl, if_neg hk1, if_neg hk2])
    have hj2 : (size = 1 ∧ s = 1 ∨ size = 2 ∧ s = 2) → Evr (fun k => scarfref10_Name.j2 k x size (i : Int) (kindL c) false) (nameL s (c :: (bytesOf x).drop (i + 1))) := by
      intro hs
      have e : nameL s (c :: (bytesOf x).drop (i + 1)) = (if c = 45 then nameL 0 ((bytesOf x).drop (i + 1)) else if (lxDi c || kindL c == size) = true then nameL s ((bytesOf x).drop (i + 1)) else false) := by
        rcases hs with ⟨rfl, rfl⟩ | ⟨rfl, rfl⟩
        · rw [nameL, if_pos rfl]
          have : (kindL c == 1) = lxLo c := by have := kind_lo c; cases h : lxLo c <;> simp [h] at this ⊢ <;> exact this
          rw [this]
        · rw [nameL, if_neg (show ¬ (1 : Nat) = 0 by omega)]
          have : (kindL c == 2) = lxUp c := by have := kind_up c; cases h : lxUp c <;> simp [h] at this ⊢ <;> exact this
          rw [this]
      rw [e]
      by_cases h45 : c = 45
      · have hk := (kind_45 c).2 h45
        rw [if_pos h45]
        refine Evr.step (hn size 0 (.inl ⟨h45, rfl⟩)) (fun k => by rw [scarfref10_Name.j2, if_neg (by decide), if_neg (by rw [hk]; omega), if_neg (by rw [hk]; omega), if_pos hk])
      · rw [if_neg h45]
        have h4 : ¬ kindL c = 4 := fun h => h45 ((kind_45 c).1 h)
        by_cases hs1 : kindL c = size
        · rw [if_pos (by simp [hs1])]
          exact Evr.step (hn size s (.inr ⟨h45, hs⟩)) (fun k => by rw [scarfref10_Name.j2, if_neg (by decide), if_pos hs1])
        · by_cases hd : lxDi c = true
          · rw [if_pos (by simp [hd])]
            exact Evr.step (hn size s (.inr ⟨h45, hs⟩)) (fun k => by rw [scarfref10_Name.j2, if_neg (by decide), if_neg hs1, if_pos ((kind_di c).2 hd)])
          · rw [if_neg (by simp [hd, hs1])]
            exact Evr.step Evr.ret (fun k => by rw [scarfref10_Name.j2, if_neg (by decide), if_neg hs1, if_neg (fun h => hd ((kind_di c).1 h)), if_neg h4])
    by_cases hz : i = 0
    · subst hz
      have hs0 : s = 0 := by rcases hst with ⟨_, h⟩ | ⟨h, _⟩
                             · exact h
                             · omega
      refine Evr.step ?_ (fun k => by rw [scarfref10_Name.l0, if_pos (by omega), if_pos (by omega), bt_nat, hc])
      refine Evr.bind (kind_ev c) ?_
      exact Evr.eqs (hj1 hs0) (fun k => by rw [if_pos (show ((0 : Nat) : Int) = 0 from rfl)])
    · have hw1 : wrap64 ((i : Int) - 1) = ((i - 1 : Nat) : Int) := by rw [wrap64_id (by omega) (by omega)]; omega
      refine Evr.step ?_ (fun k => by rw [scarfref10_Name.l0, if_pos (by omega), if_pos (by omega), bt_nat, hc])
      refine Evr.bind (kind_ev c) ?_
      rcases hst with ⟨h, hs0⟩ | ⟨_, hne, h⟩
      · rcases h with h | h
        · exact absurd h hz
        · exact Evr.eqs (hj1 hs0) (fun k => by rw [if_neg (by omega), if_pos (by rw [hw1]; omega), if_pos (by rw [hw1]; omega), hw1, bt_nat, h]; rfl)
      · exact Evr.eqs (hj2 h) (fun k => by rw [if_neg (by omega), if_pos (by rw [hw1]; omega), if_pos (by rw [hw1]; omega), hw1, bt_nat, show ((bytesOf x).getD (i - 1) 0 == 45) = false by simpa using hne])
theorem Name_ref (x : ByteArray) (hx : x.size ≤ 4611686018427387904) : Evr (fun k => scarfref10_Name.f k x) (nameOk (bytesOf x)) := by
  have hlen := bytesOf_length x
  by_cases h0 : x.size = 0
  · refine Evr.eqs (h := fun k => scarfref10_Name.j0 k x true) ?_ (fun k => by rw [scarfref10_Name.f, if_pos (by omega)])
    refine Evr.step ?_ (fun k => by rw [scarfref10_Name.j0, if_pos rfl])
    refine Evr.const ?_
    unfold nameOk
    rw [show decide (0 < (bytesOf x).length) = false from decide_eq_false (by omega)]; rfl
  · by_cases h1 : x.size > 100
    · refine Evr.eqs (h := fun k => scarfref10_Name.j0 k x true) ?_ (fun k => by rw [scarfref10_Name.f, if_neg (by omega), show decide ((x.size : Int) > 100) = true by simp; omega])
      refine Evr.step ?_ (fun k => by rw [scarfref10_Name.j0, if_pos rfl])
      refine Evr.const ?_
      unfold nameOk
      rw [show decide ((bytesOf x).length ≤ 100) = false by simp; omega]; simp
    · refine Evr.eqs (h := fun k => scarfref10_Name.j0 k x false) ?_ (fun k => by rw [scarfref10_Name.f, if_neg (by omega), show decide ((x.size : Int) > 100) = false by simp; omega])
      refine Evr.step ?_ (fun k => by rw [scarfref10_Name.j0, if_neg (by decide)])
      have := name_l0 x hx (by omega) x.size 0 0 0 (by omega) (.inl ⟨.inl rfl, rfl⟩)
      rw [List.drop_zero, nameL_eq] at this
      unfold nameOk
      rw [show decide (0 < (bytesOf x).length) = true by simp; omega, show decide ((bytesOf x).length ≤ 100) = true by simp; omega]
      exact this
/-- What is left of a number whose first d digits were, beginning with a 0 (z). -/
def goodFrom (d : Nat) (z : Bool) (x : List Int) : Bool := x.all lxDi && decide (d + x.length ≤ 9) && decide (0 < d + x.length) && !((if d = 0 then x.headD 0 == 48 else z) && decide (1 < d + x.length))
theorem goodFrom_zero (z : Bool) (x : List Int) : goodFrom 0 z x = numOk x := by
  unfold goodFrom numOk
  rw [if_pos rfl, Nat.zero_add]
  cases x.all lxDi <;> cases decide (x.length ≤ 9) <;> cases decide (0 < x.length) <;> cases (x.headD 0 == 48) <;> cases decide (1 < x.length) <;> rfl
/-- The reference's machine. -/
def verL : Nat → Nat → Bool → List Int → Bool
  | p, d, _, [] => decide (p = 2) && decide (0 < d)
  | p, d, z, c :: l => if c = 46 then (if d = 0 then false else verL (p + 1) 0 false l) else if lxDi c = false then false else if d = 9 then false else if d = 1 ∧ z = true then false else verL p (d + 1) (if d = 0 then c == 48 else z) l
theorem verL_split (l : List Int) : ∀ (p d : Nat) (z : Bool) (x : List Int) (xs : List (List Int)), splitL 46 l = x :: xs → d ≤ 9 → ¬ (1 < d ∧ z = true) → verL p d z l = (goodFrom d z x && xs.all numOk && decide (p + xs.length = 2)) := by
  induction l with
  | nil =>
    intro p d z x xs h hd hz
    rw [splitL] at h
    injection h with h1 h2
    subst h1; subst h2
    rw [verL]
    unfold goodFrom
    simp only [List.all_nil, List.length_nil, Nat.add_zero, Bool.true_and, Bool.and_true]
    by_cases h2 : p = 2
    · by_cases h0 : 0 < d
      · simp only [h2, h0, decide_true, Bool.and_true, Bool.true_and, hd]
        rw [if_neg (by omega)]
        cases z with
        | false => simp
        | true =>
          have : ¬ 1 < d := fun h => hz ⟨h, rfl⟩
          simp [this]
      · simp [h0, h2]
    · simp [h2]
  | cons c l ih =>
    intro p d z x xs h hd hz
    obtain ⟨q, qs, e⟩ := splitL_ne 46 l
    rw [splitL] at h
    rw [verL]
    by_cases hc : c = 46
    · rw [if_pos hc] at h ⊢
      injection h with h1 h2
      subst h1; subst h2
      by_cases h0 : d = 0
      · rw [if_pos h0]; simp [goodFrom, h0]
      · rw [if_neg h0, ih (p + 1) 0 false q qs e (by omega) (by omega), goodFrom_zero, e]
        have hg : goodFrom d z [] = true := by
          unfold goodFrom
          rw [if_neg h0]
          simp only [List.all_nil, List.length_nil, Nat.add_zero, Bool.true_and, hd, decide_true, show 0 < d by omega]
          cases z with
          | false => simp
          | true =>
            have : ¬ 1 < d := fun h => hz ⟨h, rfl⟩
            simp [this]
        rw [hg, Bool.true_and, List.all_cons, List.length_cons, show p + 1 + qs.length = p + (qs.length + 1) by omega]
    · rw [if_neg hc] at h ⊢
      rw [e] at h
      injection h with h1 h2
      subst h1; subst h2
      by_cases hdi : lxDi c = false
      · rw [if_pos hdi]; simp [goodFrom, hdi]
      · rw [if_neg hdi]
        have hdi' : lxDi c = true := by simpa using hdi
        by_cases h9 : d = 9
        · rw [if_pos h9]
          have : decide (d + (c :: q).length ≤ 9) = false := by simp; omega
          unfold goodFrom; rw [this]; simp
        · rw [if_neg h9]
          by_cases h1 : d = 1 ∧ z = true
          · rw [if_pos h1]
            unfold goodFrom
            rw [if_neg (by omega), h1.2, show decide (1 < d + (c :: q).length) = true by simp; omega]; simp
          · rw [if_neg h1, ih p (d + 1) (if d = 0 then c == 48 else z) q qs e (by omega) (by
              rintro ⟨h2, h3⟩
              by_cases h0 : d = 0
              · omega
              · rw [if_neg h0] at h3
                exact (if h4 : d = 1 then h1 ⟨h4, h3⟩ else hz ⟨by omega, h3⟩))]
            congr 2
            unfold goodFrom
            rw [List.all_cons, hdi', Bool.true_and, List.length_cons, show d + 1 + q.length = d + (q.length + 1) by omega, if_neg (show ¬ d + 1 = 0 by omega)]
            by_cases h0 : d = 0
            · rw [if_pos h0, if_pos h0]; rfl
            · rw [if_neg h0, if_neg h0]
theorem verL_eq (l : List Int) : verL 0 0 false l = verS l := by
  obtain ⟨p, ps, e⟩ := splitL_ne 46 l
  rw [verL_split l 0 0 false p ps e (by omega) (by omega), goodFrom_zero, verS, e, List.all_cons, List.length_cons]
  congr 1
  rw [show (ps.length + 1 == 3) = decide (ps.length + 1 = 3) from rfl]
  congr 1
  apply propext
  omega
theorem ver_l0 (x : ByteArray) (hx : x.size ≤ 4611686018427387904) : ∀ m (i p d : Nat) (z : Bool), i + m = x.size → p ≤ i → d ≤ i → (0 < d → z = ((bytesOf x).getD (i - d) 0 == 48)) → Evr (fun k => scarfref10_Version.l0 k x (p : Int) (d : Int) (i : Int)) (verL p d z ((bytesOf x).drop i)) := by
  intro m
  induction m with
  | zero =>
    intro i p d z hi hp hd hz
    rw [List.drop_of_length_le (by rw [bytesOf_length]; omega), verL]
    by_cases h2 : p = 2
    · refine Evr.step ?_ (fun k => by rw [scarfref10_Version.l0, if_neg (by omega), if_pos (by omega)])
      refine Evr.const ?_
      subst h2
      simp
    · refine Evr.step ?_ (fun k => by rw [scarfref10_Version.l0, if_neg (by omega), if_neg (by omega)])
      refine Evr.const ?_
      simp [h2]
  | succ m ih =>
    intro i p d z hi hp hd hz
    have hl : i < (bytesOf x).length := by rw [bytesOf_length]; omega
    have hw : wrap64 ((i : Int) + 1) = ((i + 1 : Nat) : Int) := by rw [wrap64_id (by omega) (by omega)]; omega
    have hwp : wrap64 ((p : Int) + 1) = ((p + 1 : Nat) : Int) := by rw [wrap64_id (by omega) (by omega)]; omega
    have hwd : wrap64 ((d : Int) + 1) = ((d + 1 : Nat) : Int) := by rw [wrap64_id (by omega) (by omega)]; omega
    rw [drop_cons hl, verL]
    generalize hc : (bytesOf x).getD i 0 = c
    by_cases h46 : c = 46
    · rw [if_pos h46]
      by_cases h0 : d = 0
      · rw [if_pos h0]
        exact Evr.step Evr.ret (fun k => by rw [scarfref10_Version.l0, if_pos (by omega), if_pos (by omega), bt_nat, hc, if_pos h46, if_pos (by omega)])
      · rw [if_neg h0]
        have := ih (i + 1) (p + 1) 0 false (by omega) (by omega) (by omega) (by omega)
        exact Evr.step this (fun k => by rw [scarfref10_Version.l0, if_pos (by omega), if_pos (by omega), bt_nat, hc, if_pos h46, if_neg (by omega), hw, hwp]; rfl)
    · rw [if_neg h46]
      refine Evr.step ?_ (fun k => by rw [scarfref10_Version.l0, if_pos (by omega), if_pos (by omega), bt_nat, hc, if_neg h46])
      refine Evr.bind (kind_ev c) ?_
      by_cases hdi : lxDi c = false
      · rw [if_pos hdi]
        refine Evr.eqs Evr.ret (fun k => by rw [if_neg (by rw [kind_di, hdi]; decide)])
      · rw [if_neg hdi]
        have hdi' : lxDi c = true := by simpa using hdi
        refine Evr.eqs ?_ (fun k => by rw [if_pos ((kind_di c).2 hdi')])
        by_cases h9 : d = 9
        · rw [if_pos h9]
          exact Evr.eqs Evr.ret (fun k => by rw [if_pos (by omega)])
        · rw [if_neg h9]
          by_cases h1 : d = 1
          · have hw1 : wrap64 ((i : Int) - 1) = ((i - 1 : Nat) : Int) := by rw [wrap64_id (by omega) (by omega)]; omega
            have hz1 := hz (by omega)
            rw [h1] at hz1
            by_cases h48 : (bytesOf x).getD (i - 1) 0 = 48
            · rw [if_pos ⟨h1, by rw [hz1]; simpa using h48⟩]
              exact Evr.eqs Evr.ret (fun k => by rw [if_neg (by omega), if_pos (by omega), if_pos (by rw [hw1]; omega), if_pos (by rw [hw1]; omega), hw1, bt_nat, if_pos h48])
            · rw [if_neg (by rintro ⟨_, h⟩; rw [hz1] at h; exact h48 (by simpa using h)), if_neg (by omega)]
              have := ih (i + 1) p (d + 1) z (by omega) (by omega) (by omega) (fun _ => by rw [hz (by omega)]; congr 2; omega)
              exact Evr.eqs this (fun k => by rw [if_neg (by omega), if_pos (by omega), if_pos (by rw [hw1]; omega), if_pos (by rw [hw1]; omega), hw1, bt_nat, if_neg h48, hw, hwd])
          · rw [if_neg (fun h => h1 h.1)]
            have := ih (i + 1) p (d + 1) (if d = 0 then c == 48 else z) (by omega) (by omega) (by omega) (fun _ => by
              by_cases h0 : d = 0
              · rw [if_pos h0, h0, show i + 1 - (0 + 1) = i by omega, hc]
              · rw [if_neg h0, hz (by omega)]; congr 2; omega)
            exact Evr.eqs this (fun k => by rw [if_neg (by omega), if_neg (by omega), hw, hwd])
theorem Version_ref (x : ByteArray) (hx : x.size ≤ 4611686018427387904) : Evr (fun k => scarfref10_Version.f k x) (verS (bytesOf x)) := by
  have := ver_l0 x hx x.size 0 0 0 false (by omega) (by omega) (by omega) (by omega)
  rw [List.drop_zero, verL_eq] at this
  exact this
end Go.Proofs.YtlggjgpdiffajaaDoor.LexK
namespace Go.Proofs.YtlggjgpdiffajaaDoor.PA
set_option maxRecDepth 100000
open Go.Proofs.YtlggjgpdiffajaaDoorW.PrintWords Go.Proofs.YtlggjgpdiffajaaDoor.Ev
theorem awake_at : scarflaw10_awake.f 60 = some true := by decide +kernel
theorem awake_ev : Evr (fun k => scarflaw10_awake.f k) true := ⟨60, fun _ hk => at_rounds scarflaw10_awake.mono hk awake_at⟩
end Go.Proofs.YtlggjgpdiffajaaDoor.PA
namespace Go.Proofs.YtlggjgpdiffajaaDoor.LexT
set_option linter.unusedVariables false
set_option linter.unusedSimpArgs false
open Go.RowKit Go.Proofs.YtlggjgpdiffajaaDoor.PA Go.Proofs.YtlggjgpdiffajaaDoorW.PrintWords Go.Proofs.YtlggjgpdiffajaaDoorW.PrintLast Go.Proofs.YtlggjgpdiffajaaDoorW.PrintMore
open Go.Proofs.YtlggjgpdiffajaaDoor.Str Go.Proofs.YtlggjgpdiffajaaDoor.Ev Go.Proofs.YtlggjgpdiffajaaDoor.LexM Go.Proofs.YtlggjgpdiffajaaDoor.LexB Go.Proofs.YtlggjgpdiffajaaDoor.LexK
theorem take_while (q : Int → Bool) (l : List Int) : l.take (l.takeWhile q).length = l.takeWhile q := by
  induction l with
  | nil => rfl
  | cons c l ih =>
    rw [List.takeWhile_cons]
    by_cases h : q c = true
    · rw [if_pos h, List.length_cons, List.take_succ_cons, ih]
    · rw [if_neg h]; rfl
theorem tw_le (q : Int → Bool) (l : List Int) : (l.takeWhile q).length ≤ l.length := by
  have := congrArg List.length (take_while q l)
  rw [List.length_take] at this; omega
/-- A piece of a text. -/
theorem cut_str (x : ByteArray) (a n : Nat) : x.extract a (a + n) = strOfNums (((bytesOf x).drop a).take n) := by
  rw [← str_of (x.extract a (a + n)), bytes_extract, List.drop_take, Nat.add_sub_cancel_left]
theorem cut_bytes (x : ByteArray) (a n : Nat) : bytesOf (x.extract a (a + n)) = ((bytesOf x).drop a).take n := by
  rw [bytes_extract, List.drop_take, Nat.add_sub_cancel_left]
theorem row_l0 (may : Int → Bool) (x : ByteArray) (hx : x.size ≤ 4611686018427387904) : ∀ (m i k : Nat), x.size ≤ i + m → i ≤ x.size → m + 1 ≤ k → lex_row.l0 may k x (i : Int) = some (((i + (((bytesOf x).drop i).takeWhile may).length : Nat)) : Int) := by
  intro m
  induction m with
  | zero =>
    intro i k hm hi hk
    obtain ⟨k, rfl⟩ : ∃ q, k = q + 1 := ⟨k - 1, by omega⟩
    rw [List.drop_of_length_le (by rw [bytesOf_length]; omega), lex_row.l0, if_neg (by omega)]
    rfl
  | succ m ih =>
    intro i k hm hi hk
    obtain ⟨k, rfl⟩ : ∃ q, k = q + 1 := ⟨k - 1, by omega⟩
    by_cases hi' : i = x.size
    · rw [List.drop_of_length_le (by rw [bytesOf_length]; omega), lex_row.l0, if_neg (by omega)]
      rfl
    · rw [drop_cons (by rw [bytesOf_length]; omega), lex_row.l0, if_pos (by omega), if_pos (by omega), bt_nat, List.takeWhile_cons]
      by_cases h : may ((bytesOf x).getD i 0) = true
      · rw [if_pos h, if_pos h, wrap_add1 i (by omega), ih (i + 1) k (by omega) (by omega) (by omega), List.length_cons]
        congr 2; omega
      · rw [if_neg h, if_neg h]; rfl
theorem row_name (x : ByteArray) (hx : x.size ≤ 4611686018427387904) : lex_row.f x 33 = some ((((bytesOf x).takeWhile lxName).length : Nat) : Int) := by
  have := row_l0 lxName x hx x.size 0 (x.size + 1) (by omega) (by omega) (by omega)
  rw [List.drop_zero, Nat.zero_add] at this
  rw [lex_row.f, if_pos rfl]; exact this
theorem row_num (x : ByteArray) (hx : x.size ≤ 4611686018427387904) : lex_row.f x 37 = some ((((bytesOf x).takeWhile lxNum).length : Nat) : Int) := by
  have := row_l0 lxNum x hx x.size 0 (x.size + 1) (by omega) (by omega) (by omega)
  rw [List.drop_zero, Nat.zero_add] at this
  rw [lex_row.f, if_neg (by decide), if_pos rfl]; exact this
theorem lxName_kind (c : Int) : lxName c = true ↔ ¬ (kindL c = 0 ∨ kindL c = 5) := by
  have H := kind_cases c
  unfold lxName
  rcases H with ⟨e, H1⟩ | ⟨e, H1, H2⟩ | ⟨e, H1, H2, H3⟩ | ⟨e, H1⟩ | ⟨e, H1⟩ | ⟨e, H1, H2, H3, H4, H5⟩
  · simp [e, H1]
  · simp [e, H1, H2]
  · simp [e, H1, H2, H3]
  · rw [e]; simp [H1]
  · rw [e]; subst H1; decide
  · simp [e, H1, H2, H3, H4]
theorem lxNum_kind (c : Int) : lxNum c = true ↔ (kindL c = 3 ∨ kindL c = 5) := by
  unfold lxNum
  rw [kind_di, kind_46]
  simp
theorem ref_row (x : ByteArray) (hx : x.size ≤ 4611686018427387904) (num : Bool) : ∀ (m i : Nat), x.size ≤ i + m → i ≤ x.size → Evr (fun k => scarfref10_row.l0 k x (i : Int) num) ((((i + (((bytesOf x).drop i).takeWhile (if num = true then lxNum else lxName)).length : Nat)) : Int)) := by
  intro m
  induction m with
  | zero =>
    intro i hm hi
    rw [List.drop_of_length_le (by rw [bytesOf_length]; omega)]
    exact Evr.step Evr.ret (fun k => by rw [scarfref10_row.l0, if_neg (by omega)]; rfl)
  | succ m ih =>
    intro i hm hi
    by_cases hi' : i = x.size
    · rw [List.drop_of_length_le (by rw [bytesOf_length]; omega)]
      exact Evr.step Evr.ret (fun k => by rw [scarfref10_row.l0, if_neg (by omega)]; rfl)
    · have hw := wrap_add1 i (by omega)
      have hr := ih (i + 1) (by omega) (by omega)
      rw [drop_cons (by rw [bytesOf_length]; omega), List.takeWhile_cons]
      have hb := bt_nat x i
      generalize (bytesOf x).getD i 0 = c at hb ⊢
      refine Evr.step ?_ (fun k => by rw [scarfref10_row.l0, if_pos (by omega), if_pos (by omega), hb])
      refine Evr.bind (kind_ev c) ?_
      cases num with
      | true =>
        simp only [if_true] at hr ⊢
        by_cases h : lxNum c = true
        · rw [if_pos h, List.length_cons, show i + ((((bytesOf x).drop (i + 1)).takeWhile lxNum).length + 1) = i + 1 + (((bytesOf x).drop (i + 1)).takeWhile lxNum).length by omega]
          refine Evr.eqs hr (fun k => ?_)
          by_cases h3 : kindL c = 3
          · rw [if_pos h3, hw]
          · have h5 : kindL c = 5 := by have := (lxNum_kind c).1 h; omega
            rw [if_neg h3, if_pos h5, hw]
        · rw [if_neg h]
          have hn := mt (lxNum_kind c).2 h
          exact Evr.eqs Evr.ret (fun k => by rw [if_neg (fun z => hn (.inl z)), if_neg (fun z => hn (.inr z))]; rfl)
      | false =>
        simp only [Bool.false_eq_true, if_false] at hr ⊢
        by_cases h : lxName c = true
        · rw [if_pos h, List.length_cons, show i + ((((bytesOf x).drop (i + 1)).takeWhile lxName).length + 1) = i + 1 + (((bytesOf x).drop (i + 1)).takeWhile lxName).length by omega]
          have hn := (lxName_kind c).1 h
          exact Evr.eqs hr (fun k => by rw [if_neg (fun z => hn (.inl z)), if_neg (fun z => hn (.inr z)), hw])
        · rw [if_neg h]
          have hn : kindL c = 0 ∨ kindL c = 5 := by
            by_cases h0 : kindL c = 0 ∨ kindL c = 5
            · exact h0
            · exact absurd ((lxName_kind c).2 h0) h
          refine Evr.eqs Evr.ret (fun k => ?_)
          by_cases h0 : kindL c = 0
          · rw [if_pos h0]; rfl
          · rw [if_neg h0, if_pos (by omega)]; rfl
/-- The signs. -/
def signs : List Int := [58, 59, 44, 46, 47, 123, 125, 40, 41, 60, 62, 61, 64, 95]
def isSign (c : Int) : Bool := signs.contains c
/-- The token at the beginning: its kind, its text, how long it is there. -/
def tokL : List Int → Option (Int × List Int × Nat)
  | [] => none
  | c :: r =>
    if c = 37 then (if nameOk (r.takeWhile lxName) = true then some (2, r.takeWhile lxName, (r.takeWhile lxName).length + 1) else none)
    else if (lxLo c || lxUp c) = true then (if nameOk ((c :: r).takeWhile lxName) = true then some (1, (c :: r).takeWhile lxName, ((c :: r).takeWhile lxName).length) else none)
    else if lxDi c = true then (if verS ((c :: r).takeWhile lxNum) = true then some (3, (c :: r).takeWhile lxNum, ((c :: r).takeWhile lxNum).length) else none)
    else if pre2 (c :: r) 45 62 = true then some (4, [45, 62], 2)
    else if isSign c = true then some (4, [c], 1) else none
/-- What the program, and what the reference, tells of it. -/
def oneV : Option (Int × List Int × Nat) → Int × ByteArray × Int × Int
  | some (kd, s, n) => (kd, strOfNums s, 0, (n : Int))
  | none => (0, (⟨#[]⟩ : ByteArray), 0, 0)
def tokV (i : Nat) : Option (Int × List Int × Nat) → Int × ByteArray × Int × Int
  | some (kd, s, n) => (kd, strOfNums s, (i : Int), ((i + n : Nat) : Int))
  | none => (0, (⟨#[]⟩ : ByteArray), 0, (-1))
theorem sign_index (c : Int) (h0 : 0 ≤ c) (h1 : c < 256) : ∃ r, strings_IndexByte.f (⟨#[58, 59, 44, 46, 47, 123, 125, 40, 41, 60, 62, 61, 64, 95]⟩ : ByteArray) c = some r ∧ (isSign c = true ↔ r ≥ 0) := by
  have key : ∀ n : Nat, n < 256 → (isSign (n : Int) = true ↔ Go.Lib.indexByte [58, 59, 44, 46, 47, 123, 125, 40, 41, 60, 62, 61, 64, 95] n.toUInt8 ≥ 0) := by decide +kernel
  have := key c.toNat (by omega)
  rw [show ((c.toNat : Nat) : Int) = c by omega] at this
  exact ⟨_, rfl, this⟩
theorem lex_one_at (x : ByteArray) (hx : x.size ≤ 140737488355328) (h0 : 0 < x.size) : Evr (fun k => lex_one.f k x) (oneV (tokL (bytesOf x))) := by
  have hlen := bytesOf_length x
  obtain ⟨c, r, hd⟩ : ∃ c r, bytesOf x = c :: r := by
    cases h : bytesOf x with
    | nil => rw [h] at hlen; simp at hlen; omega
    | cons c r => exact ⟨c, r, rfl⟩
  have hb : bt x 0 = c := by rw [show (0 : Int) = ((0 : Nat) : Int) from rfl, bt_nat, hd]; rfl
  have hrange := bytes_range x c (by rw [hd]; exact List.mem_cons_self)
  have hl : r.length + 1 = x.size := by rw [← hlen, hd]; rfl
  rw [hd, tokL]
  by_cases h37 : c = 37
  · rw [if_pos h37]
    have hrest : bytesOf (x.extract 1 x.size) = r := by rw [bytes_rest, hd]; rfl
    have hrs : (x.extract 1 x.size).size = r.length := by rw [size_bytes, hrest]
    have hrow := row_name (x.extract 1 x.size) (by omega)
    rw [hrest] at hrow
    have hn := tw_le lxName r
    have hcut := cut_str x 1 (r.takeWhile lxName).length
    have hcb := cut_bytes x 1 (r.takeWhile lxName).length
    rw [hd, List.drop_succ_cons, List.drop_zero, take_while] at hcut hcb
    have hw : wrap64 (1 + (((r.takeWhile lxName).length : Nat) : Int)) = ((1 + (r.takeWhile lxName).length : Nat) : Int) := wrap_add 1 _ (by omega)
    have hN : lex_Name.f (x.extract 1 (((1 + (r.takeWhile lxName).length : Nat) : Int)).toNat) = some (nameOk (r.takeWhile lxName)) := by
      rw [show (((1 + (r.takeWhile lxName).length : Nat) : Int)).toNat = 1 + (r.takeWhile lxName).length from rfl, Name_eq, hcb]
    refine Evr.eqs ?_ (fun k => by rw [lex_one.f, if_pos (by omega), hb, if_pos h37, if_pos (by omega), hrow, Option.bind_some, hw, if_pos (by omega), if_pos (by omega), hN, Option.bind_some])
    by_cases hk : nameOk (r.takeWhile lxName) = true
    · rw [if_pos hk]
      refine Evr.const ?_
      rw [if_pos hk, show (((1 + (r.takeWhile lxName).length : Nat) : Int)).toNat = 1 + (r.takeWhile lxName).length from rfl, hcut, oneV, Nat.add_comm 1]
    · rw [if_neg hk]
      exact Evr.const (by rw [if_neg hk]; rfl)
  · rw [if_neg h37]
    have j0 : ∀ b, b = (lxLo c || lxUp c) → Evr (fun k => lex_one.j0 k x c b) (oneV (if (lxLo c || lxUp c) = true then (if nameOk ((c :: r).takeWhile lxName) = true then some (1, (c :: r).takeWhile lxName, ((c :: r).takeWhile lxName).length) else none)
    else if lxDi c = true then (if verS ((c :: r).takeWhile lxNum) = true then some (3, (c :: r).takeWhile lxNum, ((c :: r).takeWhile lxNum).length) else none)
    else if pre2 (c :: r) 45 62 = true then some (4, [45, 62], 2)
    else if isSign c = true then some (4, [c], 1) else none)) := by
      rintro b rfl
      by_cases h1 : (lxLo c || lxUp c) = true
      · rw [h1, if_pos rfl]
        have hrow := row_name x (by omega)
        rw [hd] at hrow
        have hn := tw_le lxName (c :: r)
        rw [List.length_cons] at hn
        have hcut := cut_str x 0 ((c :: r).takeWhile lxName).length
        have hcb := cut_bytes x 0 ((c :: r).takeWhile lxName).length
        rw [hd, List.drop_zero, take_while, Nat.zero_add] at hcut hcb
        have hN : lex_Name.f (x.extract 0 ((((c :: r).takeWhile lxName).length : Nat) : Int).toNat) = some (nameOk ((c :: r).takeWhile lxName)) := by
          rw [show ((((c :: r).takeWhile lxName).length : Nat) : Int).toNat = ((c :: r).takeWhile lxName).length from rfl, Name_eq, hcb]
        refine Evr.step ?_ (fun k => by rw [lex_one.j0, if_pos rfl, hrow, Option.bind_some, if_pos (by omega), if_pos (by omega), hN, Option.bind_some])
        by_cases hk : nameOk ((c :: r).takeWhile lxName) = true
        · rw [if_pos hk]
          refine Evr.const ?_
          rw [if_pos hk, show ((((c :: r).takeWhile lxName).length : Nat) : Int).toNat = ((c :: r).takeWhile lxName).length from rfl, hcut, oneV]
        · rw [if_neg hk]
          exact Evr.const (by rw [if_neg hk]; rfl)
      · rw [show (lxLo c || lxUp c) = false by simpa using h1, if_neg (by decide)]
        by_cases h2 : lxDi c = true
        · rw [if_pos h2]
          have hrow := row_num x (by omega)
          rw [hd] at hrow
          have hn := tw_le lxNum (c :: r)
          rw [List.length_cons] at hn
          have hcut := cut_str x 0 ((c :: r).takeWhile lxNum).length
          have hcb := cut_bytes x 0 ((c :: r).takeWhile lxNum).length
          rw [hd, List.drop_zero, take_while, Nat.zero_add] at hcut hcb
          have hV : lex_Version.f (x.extract 0 ((((c :: r).takeWhile lxNum).length : Nat) : Int).toNat) = some (verS ((c :: r).takeWhile lxNum)) := by
            rw [show ((((c :: r).takeWhile lxNum).length : Nat) : Int).toNat = ((c :: r).takeWhile lxNum).length from rfl, Version_eq _ (by rw [size_bytes, hcb]; omega), hcb]
          refine Evr.step ?_ (fun k => by rw [lex_one.j0, if_neg (by decide), digit_at, Option.bind_some, if_pos h2, hrow, Option.bind_some, if_pos (by omega), if_pos (by omega), hV, Option.bind_some])
          by_cases hk : verS ((c :: r).takeWhile lxNum) = true
          · rw [if_pos hk]
            refine Evr.const ?_
            rw [if_pos hk, show ((((c :: r).takeWhile lxNum).length : Nat) : Int).toNat = ((c :: r).takeWhile lxNum).length from rfl, hcut, oneV]
          · rw [if_neg hk]
            exact Evr.const (by rw [if_neg hk]; rfl)
        · rw [if_neg h2]
          have hp := HasPrefix_two x 45 62 (by omega)
          rw [hd] at hp
          refine Evr.step ?_ (fun k => by rw [lex_one.j0, if_neg (by decide), digit_at, Option.bind_some, if_neg h2, hp, Option.bind_some])
          by_cases h3 : pre2 (c :: r) 45 62 = true
          · rw [if_pos h3]
            exact Evr.const (by rw [show pre2 (c :: r) ((45 : UInt8).toNat : Int) ((62 : UInt8).toNat : Int) = true from h3, if_pos rfl]; rfl)
          · rw [if_neg h3]
            obtain ⟨q, hq, hs⟩ := sign_index c hrange.1 hrange.2
            refine Evr.eqs ?_ (fun k => by rw [show pre2 (c :: r) ((45 : UInt8).toNat : Int) ((62 : UInt8).toNat : Int) = false by simpa using h3, if_neg (by decide), hq, Option.bind_some])
            by_cases h4 : isSign c = true
            · rw [if_pos h4]
              have hcut := cut_str x 0 1
              rw [hd] at hcut
              exact Evr.const (by rw [if_pos (hs.1 h4), if_pos (by decide), if_pos (by omega), hcut]; rfl)
            · rw [if_neg h4]
              exact Evr.const (by rw [if_neg (fun z => h4 (hs.2 z))]; rfl)
    by_cases hl1 : lxLo c = true
    · refine Evr.eqs (j0 true (by rw [hl1]; rfl)) (fun k => by rw [lex_one.f, if_pos (by omega), hb, if_neg h37, lower_at, Option.bind_some, if_pos hl1])
    · have hl2 : lxLo c = false := by simpa using hl1
      refine Evr.eqs (j0 (lxUp c) (by rw [hl2]; rfl)) (fun k => by rw [lex_one.f, if_pos (by omega), hb, if_neg h37, lower_at, Option.bind_some, if_neg hl1, upper_at, Option.bind_some])
theorem sign_ref (c : Int) : Evr (fun k => scarfref10_sign.f k c) (isSign c) := by
  have hz : (⟨#[58, 59, 44, 46, 47, 123, 125, 40, 41, 60, 62, 61, 64, 95]⟩ : ByteArray).size = 14 := rfl
  have hbs : bytesOf (⟨#[58, 59, 44, 46, 47, 123, 125, 40, 41, 60, 62, 61, 64, 95]⟩ : ByteArray) = signs := rfl
  have key : ∀ (m i : Nat), i + m = 14 → Evr (fun k => scarfref10_sign.l0 k c (⟨#[58, 59, 44, 46, 47, 123, 125, 40, 41, 60, 62, 61, 64, 95]⟩ : ByteArray) (i : Int)) ((signs.drop i).contains c) := by
    intro m
    induction m with
    | zero =>
      intro i hi
      rw [List.drop_of_length_le (show signs.length ≤ i by rw [show signs.length = 14 from rfl]; omega)]
      exact Evr.step Evr.ret (fun k => by rw [scarfref10_sign.l0, hz, if_neg (by omega)]; rfl)
    | succ m ih =>
      intro i hi
      have hw := wrap_add1 i (by omega)
      have hb := bt_nat (⟨#[58, 59, 44, 46, 47, 123, 125, 40, 41, 60, 62, 61, 64, 95]⟩ : ByteArray) i
      rw [hbs] at hb
      rw [drop_cons (show i < signs.length by rw [show signs.length = 14 from rfl]; omega)]
      by_cases h : signs.getD i 0 = c
      · rw [show (signs.getD i 0 :: signs.drop (i + 1)).contains c = true by rw [h]; simp]
        exact Evr.step Evr.ret (fun k => by rw [scarfref10_sign.l0, hz, if_pos (by omega), if_pos (by omega), hb, if_pos h])
      · rw [show (signs.getD i 0 :: signs.drop (i + 1)).contains c = (signs.drop (i + 1)).contains c by
          rw [List.contains_cons, show (c == signs.getD i 0) = false by simpa using fun z : c = signs.getD i 0 => h z.symm, Bool.false_or]]
        exact Evr.step (ih (i + 1) (by omega)) (fun k => by rw [scarfref10_sign.l0, hz, if_pos (by omega), if_pos (by omega), hb, if_neg h, hw])
  exact key 14 0 rfl
theorem ref_token (x : ByteArray) (hx : x.size ≤ 140737488355328) (i : Nat) (hi : i < x.size) : Evr (fun k => scarfref10_token.f k x (i : Int)) (tokV i (tokL ((bytesOf x).drop i))) := by
  have hlen := bytesOf_length x
  have hw1 := wrap_add1 i (by omega)
  have hw2 := wrap_add2 i (by omega)
  have hd : (bytesOf x).drop i = (bytesOf x).getD i 0 :: (bytesOf x).drop (i + 1) := drop_cons (by omega)
  have hb := bt_nat x i
  generalize hc : (bytesOf x).getD i 0 = c at hb hd
  generalize hr : (bytesOf x).drop (i + 1) = r at hd
  have hl : r.length + 1 + i = x.size := by rw [← hr, List.length_drop]; omega
  rw [hd, tokL]
  refine Evr.eqs ?_ (fun k => by rw [scarfref10_token.f, if_pos (by omega), if_pos (by omega), hb])
  refine Evr.bind (kind_ev c) ?_
  by_cases h37 : c = 37
  · rw [if_pos h37]
    have hrow := ref_row x (by omega) false x.size (i + 1) (by omega) (by omega)
    rw [hr, if_neg (by decide)] at hrow
    have hn := tw_le lxName r
    have hcut := cut_str x (i + 1) (r.takeWhile lxName).length
    have hcb := cut_bytes x (i + 1) (r.takeWhile lxName).length
    rw [hr, take_while] at hcut hcb
    refine Evr.eqs ?_ (fun k => by rw [if_pos h37, hw1])
    refine Evr.bind hrow ?_
    refine Evr.eqs ?_ (fun k => by rw [if_pos (by omega), if_pos (by omega), if_pos (by omega), show ((i + 1 : Nat) : Int).toNat = i + 1 from rfl, show ((i + 1 + (r.takeWhile lxName).length : Nat) : Int).toNat = i + 1 + (r.takeWhile lxName).length from rfl])
    refine Evr.bind (Name_ref _ (by rw [size_bytes, hcb]; omega)) ?_
    rw [hcb, hcut]
    by_cases hk : nameOk (r.takeWhile lxName) = true
    · rw [if_pos hk, if_pos hk]
      refine Evr.const ?_
      rw [tokV, show i + ((r.takeWhile lxName).length + 1) = i + 1 + (r.takeWhile lxName).length by omega]
    · rw [if_neg hk, if_neg hk]
      exact Evr.const rfl
  · rw [if_neg h37]
    have j0 : ∀ b, b = (lxLo c || lxUp c) → Evr (fun k => scarfref10_token.j0 k x (i : Int) (kindL c) b) (tokV i (if (lxLo c || lxUp c) = true then (if nameOk ((c :: r).takeWhile lxName) = true then some (1, (c :: r).takeWhile lxName, ((c :: r).takeWhile lxName).length) else none)
    else if lxDi c = true then (if verS ((c :: r).takeWhile lxNum) = true then some (3, (c :: r).takeWhile lxNum, ((c :: r).takeWhile lxNum).length) else none)
    else if pre2 (c :: r) 45 62 = true then some (4, [45, 62], 2)
    else if isSign c = true then some (4, [c], 1) else none)) := by
      rintro b rfl
      by_cases h1 : (lxLo c || lxUp c) = true
      · rw [h1, if_pos rfl]
        have hrow := ref_row x (by omega) false x.size i (by omega) (by omega)
        rw [hd, if_neg (by decide)] at hrow
        have hn := tw_le lxName (c :: r)
        rw [List.length_cons] at hn
        have hcut := cut_str x i ((c :: r).takeWhile lxName).length
        have hcb := cut_bytes x i ((c :: r).takeWhile lxName).length
        rw [hd, take_while] at hcut hcb
        refine Evr.step ?_ (fun k => by rw [scarfref10_token.j0, if_pos rfl])
        refine Evr.bind hrow ?_
        refine Evr.eqs ?_ (fun k => by rw [if_pos (by omega), if_pos (by omega), if_pos (by omega), show ((i : Nat) : Int).toNat = i from rfl, show ((i + ((c :: r).takeWhile lxName).length : Nat) : Int).toNat = i + ((c :: r).takeWhile lxName).length from rfl])
        refine Evr.bind (Name_ref _ (by rw [size_bytes, hcb]; omega)) ?_
        rw [hcb, hcut]
        by_cases hk : nameOk ((c :: r).takeWhile lxName) = true
        · rw [if_pos hk, if_pos hk]
          exact Evr.const rfl
        · rw [if_neg hk, if_neg hk]
          exact Evr.const rfl
      · rw [show (lxLo c || lxUp c) = false by simpa using h1, if_neg (by decide)]
        by_cases h2 : lxDi c = true
        · rw [if_pos h2]
          have hrow := ref_row x (by omega) true x.size i (by omega) (by omega)
          rw [hd, if_pos rfl] at hrow
          have hn := tw_le lxNum (c :: r)
          rw [List.length_cons] at hn
          have hcut := cut_str x i ((c :: r).takeWhile lxNum).length
          have hcb := cut_bytes x i ((c :: r).takeWhile lxNum).length
          rw [hd, take_while] at hcut hcb
          refine Evr.step ?_ (fun k => by rw [scarfref10_token.j0, if_neg (by decide), if_pos ((kind_di c).2 h2)])
          refine Evr.bind hrow ?_
          refine Evr.eqs ?_ (fun k => by rw [if_pos (by omega), if_pos (by omega), if_pos (by omega), show ((i : Nat) : Int).toNat = i from rfl, show ((i + ((c :: r).takeWhile lxNum).length : Nat) : Int).toNat = i + ((c :: r).takeWhile lxNum).length from rfl])
          refine Evr.bind (Version_ref _ (by rw [size_bytes, hcb]; omega)) ?_
          rw [hcb, hcut]
          by_cases hk : verS ((c :: r).takeWhile lxNum) = true
          · rw [if_pos hk, if_pos hk]
            exact Evr.const rfl
          · rw [if_neg hk, if_neg hk]
            exact Evr.const rfl
        · rw [if_neg h2]
          have hk3 : ¬ kindL c = 3 := fun z => h2 ((kind_di c).1 z)
          have j1 : Evr (fun k => scarfref10_token.j1 k x (i : Int) (pre2 (c :: r) 45 62)) (tokV i (if pre2 (c :: r) 45 62 = true then some (4, [45, 62], 2) else if isSign c = true then some (4, [c], 1) else none)) := by
            cases h3 : pre2 (c :: r) 45 62 with
            | true =>
              rw [if_pos rfl]
              exact Evr.step Evr.ret (fun k => by rw [scarfref10_token.j1, if_pos rfl, hw2]; rfl)
            | false =>
              rw [if_neg (by decide)]
              refine Evr.step ?_ (fun k => by rw [scarfref10_token.j1, if_neg (by decide), if_pos (by omega), if_pos (by omega), hb])
              refine Evr.bind (sign_ref c) ?_
              by_cases h4 : isSign c = true
              · rw [if_pos h4]
                have hcut := cut_str x i 1
                rw [hd] at hcut
                exact Evr.const (by rw [if_pos h4, hw1, if_pos (by omega), if_pos (by omega), show ((i : Nat) : Int).toNat = i from rfl, show ((i + 1 : Nat) : Int).toNat = i + 1 from rfl, hcut]; rfl)
              · rw [if_neg h4]
                exact Evr.const (by rw [if_neg h4]; rfl)
          refine Evr.step j1 (fun k => ?_)
          rw [scarfref10_token.j0, if_neg (by decide), if_neg hk3, hw1]
          by_cases h5 : i + 1 < x.size
          · rw [if_pos (by omega), if_pos (by omega), if_pos (by omega), hb]
            have hr1 : (bytesOf x).drop (i + 1) = (bytesOf x).getD (i + 1) 0 :: (bytesOf x).drop (i + 2) := drop_cons (by omega)
            rw [hr] at hr1
            by_cases h6 : c = 45
            · rw [if_pos h6, if_pos (by omega), bt_nat]
              congr 1
              rw [hr1]
              by_cases h7 : (bytesOf x).getD (i + 1) 0 = 62
              · rw [pre2_t _ (by rw [h6, h7])]; simp only [h7]; rfl
              · rw [pre2_f _ rfl (fun z => h7 z.2)]; simpa using h7
            · rw [if_neg h6, hr1, pre2_f _ rfl (fun z => h6 z.1)]
          · rw [if_neg (by omega), pre2_s _ _ (by rw [List.length_cons]; omega)]
    by_cases hl1 : lxLo c = true
    · exact Evr.eqs (j0 true (by rw [hl1]; rfl)) (fun k => by rw [if_neg h37, if_pos ((kind_lo c).2 hl1)])
    · have hl2 : lxLo c = false := by simpa using hl1
      have hk : (kindL c == 2) = lxUp c := by have := kind_up c; cases h : lxUp c <;> simp [h] at this ⊢ <;> exact this
      exact Evr.eqs (j0 (lxUp c) (by rw [hl2]; rfl)) (fun k => by rw [if_neg h37, if_neg (fun z => hl1 ((kind_lo c).1 z)), hk])
theorem tok_pos {l : List Int} {kd : Int} {s : List Int} {n : Nat} (h : tokL l = some (kd, s, n)) : 0 < n ∧ n ≤ l.length := by
  cases l with
  | nil => cases h
  | cons c r =>
    rw [tokL] at h
    have h1 := tw_le lxName r
    have h2 := tw_le lxName (c :: r)
    have h3 := tw_le lxNum (c :: r)
    split at h
    · split at h
      · injection h with h; injection h with _ h; injection h with _ h; rw [List.length_cons]; omega
      · cases h
    · split at h
      · split at h
        · rename_i hk
          injection h with h; injection h with _ h; injection h with _ h
          unfold nameOk at hk
          simp only [Bool.and_eq_true, decide_eq_true_eq] at hk
          omega
        · cases h
      · split at h
        · split at h
          · rename_i hdi hv
            injection h with h; injection h with _ h; injection h with _ h
            have : (c :: r).takeWhile lxNum = c :: r.takeWhile lxNum := by rw [List.takeWhile_cons, if_pos (by unfold lxNum; rw [hdi]; rfl)]
            rw [this] at h
            rw [this] at h3
            rw [List.length_cons] at h
            rw [List.length_cons] at h3
            omega
          · cases h
        · split at h
          · rename_i hp
            injection h with h; injection h with _ h; injection h with _ h
            unfold pre2 at hp
            simp only [Bool.and_eq_true, decide_eq_true_eq] at hp
            omega
          · split at h
            · injection h with h; injection h with _ h; injection h with _ h
              rw [List.length_cons]; omega
            · cases h
/-- The tokens of a text from a place on. -/
def cutL : Nat → List S33 → Nat → List Int → List S33 × Int × Int
  | 0, acc, p, _ => (acc, 0, 0)
  | k + 1, acc, p, l => match blL 0 l with
    | none => ([], (p : Int), 2)
    | some n => if l.length ≤ n then (acc, 0, 0) else match tokL (l.drop n) with
      | none => ([], ((p + n : Nat) : Int), 2)
      | some (kd, s, m) => cutL k (acc ++ [⟨kd, strOfNums s, ((p + n : Nat) : Int)⟩]) (p + n + m) (l.drop (n + m))
theorem lex_cut (x : ByteArray) (hx : x.size ≤ 8192) : ∀ (m i : Nat) (acc : List S33), x.size < i + m → i ≤ x.size → acc.length ≤ i → Evr (fun k => lex_Cut.l0 k x acc (i : Int)) (cutL m acc i ((bytesOf x).drop i)) := by
  intro m
  induction m with
  | zero => intro i acc hm hi; omega
  | succ m ih =>
    intro i acc hm hi ha
    have hlen := bytesOf_length x
    have hrest : bytesOf (x.extract i x.size) = (bytesOf x).drop i := bytes_rest x i
    have hrs : (x.extract i x.size).size + i = x.size := by rw [size_bytes, hrest, List.length_drop]; omega
    have hbl := lex_blank_at (x.extract i x.size) (by omega)
    rw [hrest] at hbl
    rw [cutL]
    refine Evr.step ?_ (fun k => by rw [lex_Cut.l0, if_pos (by omega), if_pos (by omega), show ((i : Nat) : Int).toNat = i from rfl])
    refine Evr.bind hbl ?_
    cases hq : blL 0 ((bytesOf x).drop i) with
    | none => exact Evr.const rfl
    | some n =>
      have hn := bl_le _ _ 0 n (Nat.le_refl _) hq
      rw [List.length_drop, hlen] at hn
      generalize hv : blV 0 (some n) = v
      have hv1 : v.1 = ((0 + n : Nat) : Int) := by rw [← hv]; rfl
      have hv2 : v.2 = true := by rw [← hv]; rfl
      have hw : wrap64 ((i : Int) + v.1) = ((i + n : Nat) : Int) := by rw [hv1, wrap_add i (0 + n) (by omega), Nat.zero_add]
      dsimp only
      rw [List.length_drop, hlen, List.drop_drop]
      by_cases he : x.size - i ≤ n
      · rw [if_pos he]
        exact Evr.eqs Evr.ret (fun k => by rw [if_pos hv2, hw, if_pos (by omega)])
      · rw [if_neg he]
        have hrest2 : bytesOf (x.extract (i + n) x.size) = (bytesOf x).drop (i + n) := bytes_rest x (i + n)
        have hrs2 : (x.extract (i + n) x.size).size + (i + n) = x.size := by rw [size_bytes, hrest2, List.length_drop]; omega
        have hone := lex_one_at (x.extract (i + n) x.size) (by omega) (by omega)
        rw [hrest2] at hone
        refine Evr.eqs ?_ (fun k => by rw [if_pos hv2, hw, if_neg (by omega), if_pos (by omega), if_pos (by omega), show ((i + n : Nat) : Int).toNat = i + n from rfl])
        refine Evr.bind hone ?_
        cases ht : tokL ((bytesOf x).drop (i + n)) with
        | none => exact Evr.const rfl
        | some t =>
          obtain ⟨kd, s, j⟩ := t
          obtain ⟨hj0, hj1⟩ := tok_pos ht
          rw [List.length_drop, hlen] at hj1
          generalize hu : oneV (some (kd, s, j)) = u
          have hu1 : u.1 = kd := by rw [← hu]; rfl
          have hu2 : u.2.1 = strOfNums s := by rw [← hu]; rfl
          have hu4 : u.2.2.2 = (j : Int) := by rw [← hu]; rfl
          have hr1 : x.size < i + n + j + m := by clear ih hw hv1; omega
          have hr2 : i + n + j ≤ x.size := by clear ih hw hv1; omega
          have hr3 : (acc ++ [(⟨kd, strOfNums s, ((i + n : Nat) : Int)⟩ : S33)]).length ≤ i + n + j := by
            rw [List.length_append, List.length_singleton]
            exact Nat.add_le_add (Nat.le_trans ha (Nat.le_add_right i n)) hj0
          have hw2 : wrap64 (((i + n : Nat) : Int) + ((j : Nat) : Int)) = ((i + n + j : Nat) : Int) := wrap_add (i + n) j (by omega)
          have hr := ih (i + n + j) (acc ++ [⟨kd, strOfNums s, ((i + n : Nat) : Int)⟩]) hr1 hr2 hr3
          dsimp only
          rw [List.drop_drop, ← Nat.add_assoc]
          have hj2 : ¬ ((j : Nat) : Int) = 0 := by clear hw hw2 hv1 hr ih hu4; omega
          have ha2 : acc.length < 4398046511104 := by clear hw hw2 hv1 hr ih hu4; omega
          exact Evr.eqs hr (fun k => by rw [hu4, if_neg hj2, if_pos ha2, hw2, hu1, hu2])
theorem ref_cut (x : ByteArray) (hx : x.size ≤ 8192) : ∀ (m i : Nat) (acc : List S33), x.size < i + m → i ≤ x.size → acc.length ≤ i → Evr (fun k => scarfref10_Cut.l0 k x acc (i : Int)) (cutL m acc i ((bytesOf x).drop i)) := by
  intro m
  induction m with
  | zero => intro i acc hm hi; omega
  | succ m ih =>
    intro i acc hm hi ha
    have hlen := bytesOf_length x
    have hbl : Evr (fun k => scarfref10_blank.f k x (i : Int)) _ := ref_bl x (by omega) x.size i (by omega) hi
    rw [cutL]
    refine Evr.step ?_ (fun k => by rw [scarfref10_Cut.l0])
    refine Evr.bind hbl ?_
    cases hq : blL 0 ((bytesOf x).drop i) with
    | none => exact Evr.const rfl
    | some n =>
      have hn := bl_le _ _ 0 n (Nat.le_refl _) hq
      rw [List.length_drop, hlen] at hn
      generalize hv : refV i (some n) = v
      have hv1 : v = ((i + n : Nat) : Int) := by rw [← hv]; rfl
      subst hv1
      dsimp only
      rw [List.length_drop, hlen, List.drop_drop]
      by_cases he : x.size - i ≤ n
      · rw [if_pos he]
        exact Evr.eqs Evr.ret (fun k => by rw [if_neg (by omega), if_pos (by omega)])
      · rw [if_neg he]
        refine Evr.eqs ?_ (fun k => by rw [if_neg (by omega), if_neg (by omega)])
        refine Evr.bind (ref_token x (by omega) (i + n) (by omega)) ?_
        cases ht : tokL ((bytesOf x).drop (i + n)) with
        | none => exact Evr.const rfl
        | some t =>
          obtain ⟨kd, s, j⟩ := t
          obtain ⟨hj0, hj1⟩ := tok_pos ht
          rw [List.length_drop, hlen] at hj1
          have hr1 : x.size < i + n + j + m := by clear ih hq; omega
          have hr2 : i + n + j ≤ x.size := by clear ih hq; omega
          have hr3 : (acc ++ [(⟨kd, strOfNums s, ((i + n : Nat) : Int)⟩ : S33)]).length ≤ i + n + j := by
            rw [List.length_append, List.length_singleton]
            exact Nat.add_le_add (Nat.le_trans ha (Nat.le_add_right i n)) hj0
          generalize hu : tokV (i + n) (some (kd, s, j)) = u
          have hu1 : u.1 = kd := by rw [← hu]; rfl
          have hu2 : u.2.1 = strOfNums s := by rw [← hu]; rfl
          have hu3 : u.2.2.1 = ((i + n : Nat) : Int) := by rw [← hu]; rfl
          have hu4 : u.2.2.2 = ((i + n + j : Nat) : Int) := by rw [← hu]; rfl
          have hr := ih (i + n + j) (acc ++ [⟨kd, strOfNums s, ((i + n : Nat) : Int)⟩]) hr1 hr2 hr3
          dsimp only
          rw [List.drop_drop, ← Nat.add_assoc]
          exact Evr.eqs hr (fun k => by rw [hu4, if_neg (by omega), if_pos (by omega), hu1, hu2, hu3])
/-- The tokens of a text. -/
def cutOf (l : List Int) : List S33 × Int × Int := if 8192 < l.length then ([], 0, 14) else cutL (l.length + 1) [] 0 l
theorem Cut_lex (x : ByteArray) : Evr (fun k => lex_Cut.f k x) (cutOf (bytesOf x)) := by
  unfold cutOf
  rw [bytesOf_length]
  by_cases h : 8192 < x.size
  · rw [if_pos h]
    exact Evr.eqs Evr.ret (fun k => by rw [lex_Cut.f, if_pos (by omega)])
  · rw [if_neg h]
    exact Evr.eqs (lex_cut x (by omega) (x.size + 1) 0 [] (by omega) (by omega) (Nat.le_refl _)) (fun k => by rw [lex_Cut.f, if_neg (by omega)]; rfl)
theorem Cut_ref (x : ByteArray) : Evr (fun k => scarfref10_Cut.f k x) (cutOf (bytesOf x)) := by
  unfold cutOf
  rw [bytesOf_length]
  by_cases h : 8192 < x.size
  · rw [if_pos h]
    exact Evr.eqs Evr.ret (fun k => by rw [scarfref10_Cut.f, if_pos (by omega)])
  · rw [if_neg h]
    exact Evr.eqs (ref_cut x (by omega) (x.size + 1) 0 [] (by omega) (by omega) (Nat.le_refl _)) (fun k => by rw [scarfref10_Cut.f, if_neg (by omega)]; rfl)
end Go.Proofs.YtlggjgpdiffajaaDoor.LexT
namespace Go.Proofs.YtlggjgpdiffajaaDoor.LexC
set_option linter.unusedVariables false
set_option linter.unusedSimpArgs false
open Go.RowKit Go.Proofs.YtlggjgpdiffajaaDoor.PA Go.Proofs.YtlggjgpdiffajaaDoorW.PrintWords Go.Proofs.YtlggjgpdiffajaaDoorW.PrintLast Go.Proofs.YtlggjgpdiffajaaDoorW.PrintMore
open Go.Proofs.YtlggjgpdiffajaaDoor.Str Go.Proofs.YtlggjgpdiffajaaDoor.Ev Go.Proofs.YtlggjgpdiffajaaDoor.LexM Go.Proofs.YtlggjgpdiffajaaDoor.LexT
theorem cut_len : ∀ (m p : Nat) (acc : List S33) (l : List Int), (cutL m acc p l).1.length ≤ acc.length + m := by
  intro m
  induction m with
  | zero => intro p acc l; exact Nat.le_refl _
  | succ m ih =>
    intro p acc l
    rw [cutL]
    split
    · exact Nat.zero_le _
    · split
      · exact Nat.le_add_right _ _
      · split
        · exact Nat.zero_le _
        · refine Nat.le_trans (ih _ _ _) ?_
          rw [List.length_append, List.length_singleton]; omega
theorem cutOf_len (l : List Int) : (cutOf l).1.length ≤ 8193 := by
  unfold cutOf
  split
  · exact Nat.zero_le _
  · refine Nat.le_trans (cut_len _ _ _ _) ?_
    rw [List.length_nil]; omega
theorem Same_self (l : List S33) (hl : l.length ≤ 4611686018427387904) : Evr (fun k => scarfref10_Same.f k l l) true := by
  refine Evr.eqs ?_ (fun k => by rw [scarfref10_Same.f, if_pos rfl])
  have key : ∀ (m i : Nat), i + m = l.length → Evr (fun k => scarfref10_Same.l0 k l l (i : Int)) true := by
    intro m
    induction m with
    | zero => intro i hi; exact Evr.step Evr.ret (fun k => by rw [scarfref10_Same.l0, if_neg (by omega)])
    | succ m ih =>
      intro i hi
      have hw := wrap_add1 i (by omega)
      exact Evr.step (ih (i + 1) (by omega)) (fun k => by rw [scarfref10_Same.l0, if_pos (by omega), if_pos (by omega), if_pos (by omega), if_neg (by simp), hw])
  exact key l.length 0 (by omega)
theorem lexCuts : scarflaw10_LexCuts.Pure := by
  intro a h
  refine Evr.out (v := true) ?_
  refine Evr.eqs ?_ (fun k => by rw [scarflaw10_LexCuts.f])
  refine Evr.bind (Cut_lex a) ?_
  refine Evr.bind (Cut_ref a) ?_
  refine Evr.bind (Same_self _ (Nat.le_trans (cutOf_len _) (by decide))) ?_
  refine Evr.eqs ?_ (fun k => by rw [if_pos rfl, if_pos rfl, if_pos rfl])
  exact Evr.bind awake_ev Evr.ret
end Go.Proofs.YtlggjgpdiffajaaDoor.LexC
namespace Go.Proofs.YtlggjgpdiffajaaDoor.Pure
open Go.RowKit Go.Proofs.YtlggjgpdiffajaaDoor.PA Go.Proofs.YtlggjgpdiffajaaDoorW.PrintWords Go.Proofs.YtlggjgpdiffajaaDoorW.PrintLast
theorem LexCuts : scarflaw10_LexCuts.Pure :=
  Go.Proofs.YtlggjgpdiffajaaDoor.LexC.lexCuts
end Go.Proofs.YtlggjgpdiffajaaDoor.Pure
