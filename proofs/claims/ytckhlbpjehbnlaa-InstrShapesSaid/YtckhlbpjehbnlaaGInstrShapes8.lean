/- Several texts of this session, laid into one for a claim: InstrSh, InstrAw, InstrShl, PureInstrShapes. -/
import Derived.Test.YtckhlbpjehbnlaaGInstrShapes7
namespace Go.Proofs.Ytckhlbpjehbnlaa.PB
open Go.RowKit Go.Proofs.YtckhlbpjehbnlaaW.PrintWords Go.Proofs.YtckhlbpjehbnlaaW.PrintLast Go.Proofs.YtckhlbpjehbnlaaW.PrintMore
open Go.Proofs.Ytckhlbpjehbnlaa.Str
set_option linter.unusedVariables false
set_option linter.unusedSimpArgs false
theorem beq_no {a b : Int} (h : a ≠ b) : (a == b) = false := by simpa using h
def Out (op : Int) : Prop := op < 0 ∨ (255 < op ∧ op < 64512) ∨ 64529 < op
theorem Out.ne {op : Int} (h : Out op) (c : Int) (hc : (0 ≤ c ∧ c ≤ 255) ∨ (64512 ≤ c ∧ c ≤ 64529)) : op ≠ c := by unfold Out at h; omega
theorem Out.nb {op : Int} (h : Out op) (c : Int) (hc : (0 ≤ c ∧ c ≤ 255) ∨ (64512 ≤ c ∧ c ≤ 64529)) : (op == c) = false := beq_no (h.ne c hc)
theorem wid_out (op : Int) (h : Out op) (k : Nat) : mem_Width.f (k + 5) op = some (0, 0, false) := by
  have e : ∀ c : Int, (0 ≤ c ∧ c ≤ 255) → (op = c) = False := fun c hc => eq_false (h.ne c (.inl hc))
  have b : ∀ c : Int, (0 ≤ c ∧ c ≤ 255) → (op == c) = false := fun c hc => h.nb c (.inl hc)
  have j4 : ∀ k, mem_Width.j4 (k + 1) op false = some (0, 0, false) := fun k => by
    simp only [mem_Width.j4, Bool.false_eq_true, if_false, e 54 (by decide), e 55 (by decide), e 58 (by decide), e 59 (by decide), e 60 (by decide), e 61 (by decide), e 62 (by decide)]
  have j3 : ∀ k, mem_Width.j3 (k + 2) op false = some (0, 0, false) := fun k => by
    simp only [mem_Width.j3, Bool.false_eq_true, if_false, e 52 (by decide), b 53 (by decide), j4]
  have j2 : ∀ k, mem_Width.j2 (k + 3) op false = some (0, 0, false) := fun k => by
    simp only [mem_Width.j2, Bool.false_eq_true, if_false, e 50 (by decide), b 51 (by decide), j3]
  have j1 : ∀ k, mem_Width.j1 (k + 4) op false = some (0, 0, false) := fun k => by
    simp only [mem_Width.j1, Bool.false_eq_true, if_false, e 48 (by decide), b 49 (by decide), j2]
  simp only [mem_Width.f, mem_Width.j0, Bool.false_eq_true, if_false, e 40 (by decide), e 41 (by decide), e 44 (by decide), b 45 (by decide), e 46 (by decide), b 47 (by decide), j1]
theorem sig_out (op : Int) (h : Out op) (k : Nat) : num_Sig.f (k + 6) op = some (0, 0, 0) := by
  have e : ∀ c : Int, (0 ≤ c ∧ c ≤ 255) → (op = c) = False := fun c hc => eq_false (h.ne c (.inl hc))
  have b : ∀ c : Int, (0 ≤ c ∧ c ≤ 255) → (op == c) = false := fun c hc => h.nb c (.inl hc)
  have d : ∀ c x : Int, (0 ≤ c ∧ c ≤ 255) → (0 ≤ x ∧ x ≤ 255) → op ≥ c → decide (op ≤ x) = false := fun c x hc hx hg => decide_eq_false (by unfold Out at h; omega)
  have d' : ∀ c x : Int, (0 ≤ c ∧ c ≤ 255) → (0 ≤ x ∧ x ≤ 255) → op ≥ c → decide (op < x) = false := fun c x hc hx hg => decide_eq_false (by unfold Out at h; omega)
  have n : ∀ c x : Int, (0 ≤ c ∧ c ≤ 255) → (0 ≤ x ∧ x ≤ 255) → op ≥ c → ¬ (op < x) := fun c x hc hx hg => by unfold Out at h; omega
  have n' : ∀ c x : Int, (0 ≤ c ∧ c ≤ 255) → (0 ≤ x ∧ x ≤ 255) → op ≥ c → ¬ (op ≤ x) := fun c x hc hx hg => by unfold Out at h; omega
  have j5 : ∀ k, num_Sig.j5 (k + 1) op false = some (0, 0, 0) := fun k => by
    simp only [num_Sig.j5, Bool.false_eq_true, if_false]
    split
    · rename_i q; rw [if_neg (n' 124 138 (by decide) (by decide) q)]
    · rfl
  have j4 : ∀ k, num_Sig.j4 (k + 2) op false = some (0, 0, 0) := fun k => by
    simp only [num_Sig.j4, Bool.false_eq_true, if_false]
    split
    · rename_i q; rw [d 81 90 (by decide) (by decide) q, j5]
    · exact j5 k
  have j3 : ∀ k, num_Sig.j3 (k + 3) op false = some (0, 0, 0) := fun k => by
    simp only [num_Sig.j3, Bool.false_eq_true, if_false]
    have m : (if op ≥ 106 then num_Sig.j4 (k + 2) op (decide (op < 121)) else num_Sig.j4 (k + 2) op false) = some (0, 0, 0) := by
      split
      · rename_i q; rw [d' 106 121 (by decide) (by decide) q, j4]
      · exact j4 k
    split
    · rename_i q; rw [if_neg (n 70 80 (by decide) (by decide) q), m]
    · exact m
  have j2 : ∀ k, num_Sig.j2 (k + 4) op false = some (0, 0, 0) := fun k => by
    simp only [num_Sig.j2, Bool.false_eq_true, if_false, e 172 (by decide), b 173 (by decide), j3]
  have j1 : ∀ k, num_Sig.j1 (k + 5) op false = some (0, 0, 0) := fun k => by
    simp only [num_Sig.j1, Bool.false_eq_true, if_false]
    have m : (if op ≥ 194 then num_Sig.j2 (k + 4) op (decide (op ≤ 196)) else num_Sig.j2 (k + 4) op false) = some (0, 0, 0) := by
      split
      · rename_i q; rw [d 194 196 (by decide) (by decide) q, j2]
      · exact j2 k
    split
    · rename_i q; rw [if_neg (n 121 124 (by decide) (by decide) q), m]
    · exact m
  have j0 : ∀ k, num_Sig.j0 (k + 6) op false = some (0, 0, 0) := fun k => by
    simp only [num_Sig.j0, Bool.false_eq_true, if_false, e 80 (by decide), b 167 (by decide), j1]
  simp only [num_Sig.f, e 69 (by decide), e 192 (by decide), b 193 (by decide), if_false, j0]
  split
  · rename_i q; rw [if_neg (n 103 106 (by decide) (by decide) q)]
  · rfl
theorem flo_out (op : Int) (h : Out op) (k : Nat) : instr_float.f (k + 4) op = some false := by
  have e : ∀ c : Int, (0 ≤ c ∧ c ≤ 255) → (op = c) = False := fun c hc => eq_false (h.ne c (.inl hc))
  have d : ∀ c x : Int, (0 ≤ c ∧ c ≤ 255) → (0 ≤ x ∧ x ≤ 255) → op ≥ c → decide (op ≤ x) = false := fun c x hc hx hg => decide_eq_false (by unfold Out at h; omega)
  have j3 : ∀ k, instr_float.j3 (k + 1) op false = some false := fun k => by
    simp only [instr_float.j3, Bool.false_eq_true, if_false]
    split
    · rw [if_neg (by unfold Out at h; omega)]
    · rfl
  have j2 : ∀ k, instr_float.j2 (k + 2) op false = some false := fun k => by
    simp only [instr_float.j2, Bool.false_eq_true, if_false]
    split
    · rename_i q; rw [d 174 191 (by decide) (by decide) q, j3]
    · exact j3 k
  have j1 : ∀ k, instr_float.j1 (k + 3) op false = some false := fun k => by
    simp only [instr_float.j1, Bool.false_eq_true, if_false]
    split
    · rename_i q; rw [d 168 171 (by decide) (by decide) q, j2]
    · exact j2 k
  have j0 : ∀ k, instr_float.j0 (k + 4) op false = some false := fun k => by
    simp only [instr_float.j0, Bool.false_eq_true, if_false]
    split
    · rename_i q; rw [d 139 166 (by decide) (by decide) q, j1]
    · exact j1 k
  simp only [instr_float.f, e 42 (by decide), e 43 (by decide), e 56 (by decide), e 57 (by decide), e 67 (by decide), e 68 (by decide), if_false]
  split
  · rename_i q; rw [d 91 102 (by decide) (by decide) q, j0]
  · exact j0 k
theorem shp_out (op : Int) (h : Out op) : instr_Shape.f 40 op = some (0, 5) := by
  have e : ∀ c : Int, (0 ≤ c ∧ c ≤ 255) ∨ (64512 ≤ c ∧ c ≤ 64529) → (op = c) = False := fun c hc => eq_false (h.ne c hc)
  have b : ∀ c : Int, (0 ≤ c ∧ c ≤ 255) ∨ (64512 ≤ c ∧ c ≤ 64529) → (op == c) = false := fun c hc => h.nb c hc
  have j5 : instr_Shape.j5 35 op op false = some (0, 5) := by
    simp only [instr_Shape.j5, Bool.false_eq_true, if_false, e 208 (by decide), wid_out op h 29, sig_out op h 28, flo_out op h 30, Option.bind_some, e 253 (by decide), Int.lt_irrefl, gt_iff_lt]
  have j4 : instr_Shape.j4 36 op op false = some (0, 5) := by
    simp only [instr_Shape.j4, Bool.false_eq_true, if_false, e 65 (by decide), b 66 (by decide), j5]
  have j3 : instr_Shape.j3 37 op op false = some (0, 5) := by
    simp only [instr_Shape.j3, Bool.false_eq_true, if_false, e 64522 (by decide), b 64526 (by decide), j4]
  have j2 : instr_Shape.j2 38 op op false = some (0, 5) := by
    simp only [instr_Shape.j2, Bool.false_eq_true, if_false, e 14 (by decide), e 17 (by decide), e 28 (by decide), e 37 (by decide), e 38 (by decide), e 63 (by decide), e 64 (by decide), e 64523 (by decide), e 64527 (by decide), e 64528 (by decide), b 64529 (by decide), j3]
  have j1 : instr_Shape.j1 39 op op false = some (0, 5) := by
    simp only [instr_Shape.j1, Bool.false_eq_true, if_false, e 12 (by decide), e 13 (by decide), e 16 (by decide), e 32 (by decide), e 33 (by decide), e 34 (by decide), e 35 (by decide), e 36 (by decide), b 210 (by decide), j2]
  have j0 : instr_Shape.j0 40 op op false = some (0, 5) := by
    simp only [instr_Shape.j0, Bool.false_eq_true, if_false, e 2 (by decide), e 3 (by decide), b 4 (by decide), j1]
  simp only [instr_Shape.f, e 0 (by decide), e 1 (by decide), e 15 (by decide), e 26 (by decide), e 27 (by decide), b 209 (by decide), if_false, j0]
/-- What there is to know of an opcode's shape. -/
def shB (op s e : Int) : Bool :=
  (e == 0 && decide (1 ≤ s) && decide (s ≤ 11) && ((s == 2) == (decide (2 ≤ op) && decide (op ≤ 4))) && (s != 10 || (op == 65 || op == 66)) && op != 5 && op != 11 && op != 252)
  || (s == 0 && (e == 3 || e == 4 || e == 5) && !(decide (2 ≤ op) && decide (op ≤ 4)))
def shC (op : Int) : Bool := match instr_Shape.f 40 op with
  | some (s, e) => shB op s e
  | none => false
theorem shC_low : ∀ i : Fin 256, shC (i.val : Int) = true := by decide +kernel
theorem shC_high : ∀ i : Fin 18, shC ((i.val : Int) + 64512) = true := by decide +kernel
structure ShOk (op s : Int) : Prop where
  s1 : 1 ≤ s
  s11 : s ≤ 11
  two : s = 2 ↔ 2 ≤ op ∧ op ≤ 4
  ten : s = 10 → op = 65 ∨ op = 66
  n5 : op ≠ 5
  n11 : op ≠ 11
  n252 : op ≠ 252
  range : (0 ≤ op ∧ op ≤ 255) ∨ (64512 ≤ op ∧ op ≤ 64529)
theorem shp_any (op : Int) : ∃ s e, instr_Shape.f 40 op = some (s, e) ∧ ((e = 0 ∧ ShOk op s) ∨ (s = 0 ∧ (e = 3 ∨ e = 4 ∨ e = 5) ∧ ¬ (2 ≤ op ∧ op ≤ 4))) := by
  by_cases h : Out op
  · exact ⟨0, 5, shp_out op h, .inr ⟨rfl, .inr (.inr rfl), by unfold Out at h; omega⟩⟩
  · have hr : (0 ≤ op ∧ op ≤ 255) ∨ (64512 ≤ op ∧ op ≤ 64529) := by unfold Out at h; omega
    have hc : shC op = true := by
      rcases hr with hr | hr
      · have := shC_low ⟨op.toNat, by omega⟩
        simpa [show ((op.toNat : Nat) : Int) = op by omega] using this
      · have := shC_high ⟨(op - 64512).toNat, by omega⟩
        have e : (((op - 64512).toNat : Nat) : Int) + 64512 = op := by omega
        simp only [e] at this
        exact this
    unfold shC at hc
    cases hs : instr_Shape.f 40 op with
    | none => rw [hs] at hc; cases hc
    | some p =>
      obtain ⟨s, e⟩ := p
      rw [hs] at hc
      refine ⟨s, e, rfl, ?_⟩
      simp only [shB, Bool.or_eq_true, Bool.and_eq_true, beq_iff_eq, decide_eq_true_eq, bne_iff_ne, ne_eq, Bool.not_eq_true', Bool.and_eq_false_iff, decide_eq_false_iff_not] at hc
      rcases hc with ⟨⟨⟨⟨⟨⟨⟨h1, h2⟩, h3⟩, h4⟩, h5⟩, h6⟩, h7⟩, h8⟩ | ⟨⟨h1, h2⟩, h3⟩
      · refine .inl ⟨h1, ⟨h2, h3, ?_, fun h => by omega, h6, h7, h8, hr⟩⟩
        have h4' := (Bool.eq_iff_iff.mp h4)
        simpa using h4'
      · exact .inr ⟨h1, by omega, by omega⟩
theorem shp_ok {op s : Int} (h : instr_Shape.f 40 op = some (s, 0)) : ShOk op s := by
  obtain ⟨s', e, h', hk⟩ := shp_any op
  rw [h'] at h
  obtain ⟨rfl, rfl⟩ := Prod.mk.inj (Option.some.inj h)
  rcases hk with ⟨_, hk⟩ | ⟨_, hk, _⟩
  · exact hk
  · omega
theorem ty_at (c : Int) : ∃ t e, instr_Type.f 5 c = some (t, e) ∧ ((e = 0 ∧ t = c ∧ (c = 127 ∨ c = 126 ∨ c = 112)) ∨ (t = 0 ∧ e ≠ 0 ∧ ¬ (c = 127 ∨ c = 126 ∨ c = 112))) := by
  by_cases h1 : c = 127
  · subst h1; exact ⟨127, 0, by decide +kernel, .inl ⟨rfl, rfl, by omega⟩⟩
  by_cases h2 : c = 126
  · subst h2; exact ⟨126, 0, by decide +kernel, .inl ⟨rfl, rfl, by omega⟩⟩
  by_cases h3 : c = 112
  · subst h3; exact ⟨112, 0, by decide +kernel, .inl ⟨rfl, rfl, by omega⟩⟩
  by_cases h4 : c = 125
  · subst h4; exact ⟨0, 3, by decide +kernel, .inr ⟨rfl, by decide, by omega⟩⟩
  by_cases h5 : c = 124
  · subst h5; exact ⟨0, 3, by decide +kernel, .inr ⟨rfl, by decide, by omega⟩⟩
  by_cases h6 : c = 123
  · subst h6; exact ⟨0, 4, by decide +kernel, .inr ⟨rfl, by decide, by omega⟩⟩
  exact ⟨0, 2, by simp [instr_Type.f, instr_Type.j0, instr_Type.j1, h1, h2, h3, h4, h5, h6], .inr ⟨rfl, by decide, by omega⟩⟩
def aw1 : List S54 := [(⟨65, (-1), 0, 0, ([] : List Int), ([] : List (S54)), ([] : List (S54))⟩ : S54), (⟨26, 0, 0, 0, ([] : List Int), ([] : List (S54)), ([] : List (S54))⟩ : S54)]
def aw2 : List S54 := [(⟨4, (-64), 0, 0, ([] : List Int), (([(⟨1, 0, 0, 0, ([] : List Int), ([] : List (S54)), ([] : List (S54))⟩ : S54)] : List (S54))), (([(⟨15, 0, 0, 0, ([] : List Int), ([] : List (S54)), ([] : List (S54))⟩ : S54)] : List (S54)))⟩ : S54)]
theorem aw_c1 : instr_Count.f 1000000 aw1 = some (2, true) := at_rounds (instr_Count.mono aw1) (k := 60) (by omega) (by decide +kernel)
theorem aw_c2 : instr_Count.f 1000000 aw2 = some (3, true) := at_rounds (instr_Count.mono aw2) (k := 60) (by omega) (by decide +kernel)
theorem aw_p1 : putF 60 aw1 = some (strOfNums [65, 127, 26]) := by decide +kernel
theorem aw_p2 : putF 60 aw2 = some (strOfNums [4, 64, 1, 5, 15, 11]) := by decide +kernel
theorem aw_q1 : instr_Put.f aw1 = some (strOfNums [65, 127, 26, 11], 0) := by
  unfold instr_Put.f
  rw [aw_c1, Option.bind_some, if_pos rfl, aw_p1, Option.bind_some]
  decide +kernel
theorem aw_q2 : instr_Put.f aw2 = some (strOfNums [4, 64, 1, 5, 15, 11, 11], 0) := by
  unfold instr_Put.f
  rw [aw_c2, Option.bind_some, if_pos rfl, aw_p2, Option.bind_some]
  decide +kernel
theorem aw_t1 : ∃ x, instr_Take.f (⟨#[67, 0, 0, 0, 0, 11]⟩ : ByteArray) = some x ∧ x.2.2 = 3 := by
  have h : (instr_Take.f (⟨#[67, 0, 0, 0, 0, 11]⟩ : ByteArray)).map (fun x => x.2.2) = some 3 := by decide +kernel
  obtain ⟨x, h1, h2⟩ := Option.map_eq_some_iff.mp h
  exact ⟨x, h1, h2⟩
theorem aw_t2 : ∃ x, instr_Take.f (strOfNums [65, 127, 26, 11] ++ (⟨#[122]⟩ : ByteArray)) = some x ∧ x.1.length = 2 ∧ x.2.1.toList = ([122] : List UInt8) ∧ x.2.2 = 0 := by
  have h : (instr_Take.f (strOfNums [65, 127, 26, 11] ++ (⟨#[122]⟩ : ByteArray))).map (fun x => (x.1.length, x.2.1.toList, x.2.2)) = some (2, ([122] : List UInt8), 0) := by decide +kernel
  obtain ⟨x, h1, h2⟩ := Option.map_eq_some_iff.mp h
  simp only [Prod.mk.injEq] at h2
  exact ⟨x, h1, h2⟩
theorem awake_ok (k : Nat) : scarflaw05_awake.f (k + 1) = some true := by
  obtain ⟨x1, h1, e1⟩ := aw_t1
  obtain ⟨x2, h2, e2, e3, e4⟩ := aw_t2
  have b1 : (strOfNums [65, 127, 26, 11]).toList = ([65, 127, 26, 11] : List UInt8) := by decide +kernel
  have b2 : (strOfNums [4, 64, 1, 5, 15, 11, 11]).toList = ([4, 64, 1, 5, 15, 11, 11] : List UInt8) := by decide +kernel
  have b3 : (strOfNums [65, 127, 26, 11]).size + 1 ≤ 9223372036854775807 := by decide +kernel
  have q1 := aw_q1
  have q2 := aw_q2
  unfold aw1 at q1
  unfold aw2 at q2
  unfold scarflaw05_awake.f
  rw [q1, Option.bind_some, q2, Option.bind_some, h1, Option.bind_some]
  simp only [b3, if_true, h2, Option.bind_some, b1, b2, e1, e2, e3, e4, scarflaw05_awake.j0]
  rfl
theorem one_l0 (op : Int) (l : List Int) (hlen : l.length ≤ 1000) : ∀ (ys : List Int) (i k : Nat), l.drop i = ys → ys.length + 1 ≤ k → scarfref05_one.l0 k op l (i : Int) = some (decide (op ∈ ys)) := by
  intro ys
  induction ys with
  | nil =>
    intro i k hd hk
    obtain ⟨k, rfl⟩ : ∃ m, k = m + 1 := ⟨k - 1, by simp at hk; omega⟩
    have := List.drop_eq_nil_iff.mp hd
    rw [scarfref05_one.l0, if_neg (by omega)]
    simp
  | cons y ys ih =>
    intro i k hd hk
    simp only [List.length_cons] at hk
    obtain ⟨k, rfl⟩ : ∃ m, k = m + 1 := ⟨k - 1, by omega⟩
    have hi : i < l.length := by
      rcases Nat.lt_or_ge i l.length with h1 | h1
      · exact h1
      · rw [List.drop_eq_nil_of_le h1] at hd; cases hd
    have hy := drop_cons (l := l) hi
    rw [hd] at hy
    obtain ⟨e1, e2⟩ := List.cons.inj hy
    have hr : rd l (i : Int) = y := by rw [e1]; unfold rd; simp
    rw [scarfref05_one.l0, if_pos (by omega), if_pos (by omega), hr]
    by_cases h : y = op
    · rw [if_pos h]; simp [h]
    · rw [if_neg h, wrap64_id (by omega) (by omega), show (i : Int) + 1 = ((i + 1 : Nat) : Int) by omega, ih (i + 1) k e2.symm (by omega)]
      have : ¬ op = y := fun e => h e.symm
      simp [this]
theorem one_eq (op : Int) (l : List Int) (hlen : l.length ≤ 1000) (k : Nat) (hk : l.length + 1 ≤ k) : scarfref05_one.f k op l = some (decide (op ∈ l)) := by
  unfold scarfref05_one.f
  have := one_l0 op l hlen l 0 k (by simp) hk
  rwa [show ((0 : Nat) : Int) = 0 from rfl] at this
theorem wid_l0 (op : Int) (l a b : List Int) (hlen : l.length ≤ 1000) (hno : ∀ x ∈ l, x ≠ op) : ∀ (m i k : Nat), l.length - i = m → m + 1 ≤ k → scarfref04_Width.l0 k op l a b (i : Int) = some (0, 0, false) := by
  intro m
  induction m with
  | zero =>
    intro i k hm hk
    obtain ⟨k, rfl⟩ : ∃ m, k = m + 1 := ⟨k - 1, by omega⟩
    rw [scarfref04_Width.l0, if_neg (by omega)]
  | succ m ih =>
    intro i k hm hk
    obtain ⟨k, rfl⟩ : ∃ m, k = m + 1 := ⟨k - 1, by omega⟩
    have hi : i < l.length := by omega
    have hr : rd l (i : Int) ∈ l := by unfold rd; rw [Int.toNat_natCast]; exact getD_mem hi
    rw [scarfref04_Width.l0, if_pos (by omega), if_pos (by omega), if_neg (hno _ hr), wrap64_id (by omega) (by omega), show (i : Int) + 1 = ((i + 1 : Nat) : Int) by omega]
    exact ih (i + 1) k (by omega) (by omega)
theorem rwid_out (op : Int) (h : Out op) (k : Nat) (hk : 20 ≤ k) : scarfref04_Width.f k op = some (0, 0, false) := by
  unfold scarfref04_Width.f
  have := wid_l0 op [40, 41, 44, 45, 46, 47, 48, 49, 50, 51, 52, 53, 54, 55, 58, 59, 60, 61, 62] [4, 8, 1, 1, 2, 2, 1, 1, 2, 2, 4, 4, 4, 8, 1, 2, 1, 2, 4] [127, 126, 127, 127, 127, 127, 126, 126, 126, 126, 126, 126, 127, 126, 127, 127, 126, 126, 126] (by decide) (by
    intro x hx
    have hb : ∀ x ∈ ([40, 41, 44, 45, 46, 47, 48, 49, 50, 51, 52, 53, 54, 55, 58, 59, 60, 61, 62] : List Int), 0 ≤ x ∧ x ≤ 255 := by decide
    exact fun e => h.ne x (.inl (hb x hx)) e.symm) 19 0 k (by rfl) (by omega)
  rwa [show ((0 : Nat) : Int) = 0 from rfl] at this
theorem rsig_out (op : Int) (h : Out op) (k : Nat) : scarfref03_Sig.f (k + 6) op = some (0, 0, 0) := by
  have e : ∀ c : Int, (0 ≤ c ∧ c ≤ 255) → (op = c) = False := fun c hc => eq_false (h.ne c (.inl hc))
  have b : ∀ c : Int, (0 ≤ c ∧ c ≤ 255) → (op == c) = false := fun c hc => h.nb c (.inl hc)
  have d : ∀ c x : Int, (0 ≤ c ∧ c ≤ 255) → (0 ≤ x ∧ x ≤ 255) → op ≥ c → decide (op ≤ x) = false := fun c x hc hx hg => decide_eq_false (by unfold Out at h; omega)
  have d' : ∀ c x : Int, (0 ≤ c ∧ c ≤ 255) → (0 ≤ x ∧ x ≤ 255) → op ≥ c → decide (op < x) = false := fun c x hc hx hg => decide_eq_false (by unfold Out at h; omega)
  have n : ∀ c x : Int, (0 ≤ c ∧ c ≤ 255) → (0 ≤ x ∧ x ≤ 255) → op ≥ c → ¬ (op < x) := fun c x hc hx hg => by unfold Out at h; omega
  have n' : ∀ c x : Int, (0 ≤ c ∧ c ≤ 255) → (0 ≤ x ∧ x ≤ 255) → op ≥ c → ¬ (op ≤ x) := fun c x hc hx hg => by unfold Out at h; omega
  have j5 : ∀ k, scarfref03_Sig.j5 (k + 1) op false = some (0, 0, 0) := fun k => by
    simp only [scarfref03_Sig.j5, Bool.false_eq_true, if_false]
    split
    · rename_i q; rw [if_neg (n' 124 138 (by decide) (by decide) q)]
    · rfl
  have j4 : ∀ k, scarfref03_Sig.j4 (k + 2) op false = some (0, 0, 0) := fun k => by
    simp only [scarfref03_Sig.j4, Bool.false_eq_true, if_false]
    split
    · rename_i q; rw [d 81 90 (by decide) (by decide) q, j5]
    · exact j5 k
  have j3 : ∀ k, scarfref03_Sig.j3 (k + 3) op false = some (0, 0, 0) := fun k => by
    simp only [scarfref03_Sig.j3, Bool.false_eq_true, if_false]
    have m : (if op ≥ 106 then scarfref03_Sig.j4 (k + 2) op (decide (op ≤ 120)) else scarfref03_Sig.j4 (k + 2) op false) = some (0, 0, 0) := by
      split
      · rename_i q; rw [d 106 120 (by decide) (by decide) q, j4]
      · exact j4 k
    split
    · rename_i q; rw [if_neg (n' 70 79 (by decide) (by decide) q), m]
    · exact m
  have j2 : ∀ k, scarfref03_Sig.j2 (k + 4) op false = some (0, 0, 0) := fun k => by
    simp only [scarfref03_Sig.j2, Bool.false_eq_true, if_false, e 172 (by decide), b 173 (by decide), j3]
  have j1 : ∀ k, scarfref03_Sig.j1 (k + 5) op false = some (0, 0, 0) := fun k => by
    simp only [scarfref03_Sig.j1, Bool.false_eq_true, if_false]
    have m : (if op ≥ 194 then scarfref03_Sig.j2 (k + 4) op (decide (op ≤ 196)) else scarfref03_Sig.j2 (k + 4) op false) = some (0, 0, 0) := by
      split
      · rename_i q; rw [d 194 196 (by decide) (by decide) q, j2]
      · exact j2 k
    split
    · rename_i q; rw [if_neg (n' 121 123 (by decide) (by decide) q), m]
    · exact m
  have j0 : ∀ k, scarfref03_Sig.j0 (k + 6) op false = some (0, 0, 0) := fun k => by
    simp only [scarfref03_Sig.j0, Bool.false_eq_true, if_false, e 80 (by decide), b 167 (by decide), j1]
  simp only [scarfref03_Sig.f, e 69 (by decide), e 192 (by decide), b 193 (by decide), if_false, j0]
  split
  · rename_i q; rw [if_neg (n' 103 105 (by decide) (by decide) q)]
  · rfl
theorem one_out (op : Int) (h : Out op) (l : List Int) (hlen : l.length ≤ 1000) (k : Nat) (hk : l.length + 1 ≤ k) (hb : ∀ x ∈ l, (0 ≤ x ∧ x ≤ 255) ∨ (64512 ≤ x ∧ x ≤ 64529)) : scarfref05_one.f k op l = some false := by
  rw [one_eq op l hlen k hk, decide_eq_false (fun hm => h.ne op (hb op hm) rfl)]
theorem rshp_out (op : Int) (h : Out op) : scarfref05_Shape.f 60 op = some (0, 5) := by
  have e : ∀ c : Int, (0 ≤ c ∧ c ≤ 255) ∨ (64512 ≤ c ∧ c ≤ 64529) → (op = c) = False := fun c hc => eq_false (h.ne c hc)
  have b : ∀ c : Int, (0 ≤ c ∧ c ≤ 255) ∨ (64512 ≤ c ∧ c ≤ 64529) → (op == c) = false := fun c hc => h.nb c hc
  have n : ∀ c x : Int, (0 ≤ c ∧ c ≤ 255) → (0 ≤ x ∧ x ≤ 255) → op ≥ c → ¬ (op ≤ x) := fun c x hc hx hg => by unfold Out at h; omega
  have j3 : scarfref05_Shape.j3 57 op false = some (0, 5) := by
    simp only [scarfref05_Shape.j3, Bool.false_eq_true, if_false, e 253 (by decide)]
  have f4 : (if op ≥ 64512 then scarfref05_Shape.j3 57 op (decide (op ≤ 64519)) else scarfref05_Shape.j3 57 op false) = some (0, 5) := by
    split
    · rw [decide_eq_false (by unfold Out at h; omega), j3]
    · exact j3
  have f3 : (if op ≥ 174 then (if op ≤ 191 then scarfref05_Shape.j3 57 op true else (if op ≥ 64512 then scarfref05_Shape.j3 57 op (decide (op ≤ 64519)) else scarfref05_Shape.j3 57 op false)) else (if op ≥ 64512 then scarfref05_Shape.j3 57 op (decide (op ≤ 64519)) else scarfref05_Shape.j3 57 op false)) = some (0, 5) := by
    split
    · rename_i q; rw [if_neg (n 174 191 (by decide) (by decide) q), f4]
    · exact f4
  have j2 : scarfref05_Shape.j2 58 op false = some (0, 5) := by
    rw [scarfref05_Shape.j2]
    simp only [Bool.false_eq_true, if_false, e 208 (by decide)]
    rw [one_out op h [42, 43, 56, 57, 67, 68] (by decide) 57 (by decide) (by decide)]
    simp only [Option.bind_some, Bool.false_eq_true, if_false, f3]
    have n102 := n 91 102 (by decide) (by decide)
    have n166 := n 139 166 (by decide) (by decide)
    have n171 := n 168 171 (by decide) (by decide)
    by_cases h1 : op ≥ 91
    · rw [if_pos h1, if_neg (n102 h1)]
      by_cases h2 : op ≥ 139
      · rw [if_pos h2, if_neg (n166 h2)]
        by_cases h3 : op ≥ 168
        · rw [if_pos h3, if_neg (n171 h3)]
        · rw [if_neg h3]
      · rw [if_neg h2]
        by_cases h3 : op ≥ 168
        · rw [if_pos h3, if_neg (n171 h3)]
        · rw [if_neg h3]
    · rw [if_neg h1]
      by_cases h2 : op ≥ 139
      · rw [if_pos h2, if_neg (n166 h2)]
        by_cases h3 : op ≥ 168
        · rw [if_pos h3, if_neg (n171 h3)]
        · rw [if_neg h3]
      · rw [if_neg h2]
        by_cases h3 : op ≥ 168
        · rw [if_pos h3, if_neg (n171 h3)]
        · rw [if_neg h3]
  have j1 : scarfref05_Shape.j1 59 op false = some (0, 5) := by
    rw [scarfref05_Shape.j1]
    simp only [Bool.false_eq_true, if_false, e 65 (by decide), b 66 (by decide), j2]
  have j0 : scarfref05_Shape.j0 60 op 0 false = some (0, 5) := by
    rw [scarfref05_Shape.j0]
    simp only [Bool.false_eq_true, if_false]
    rw [one_out op h [2, 3, 4] (by decide) 59 (by decide) (by decide)]
    simp only [Option.bind_some, Bool.false_eq_true, if_false]
    rw [one_out op h [12, 13, 16, 32, 33, 34, 35, 36, 210] (by decide) 59 (by decide) (by decide)]
    simp only [Option.bind_some, Bool.false_eq_true, if_false, e 14 (by decide), e 17 (by decide), e 28 (by decide), Int.lt_irrefl, gt_iff_lt]
    rw [one_out op h [37, 38, 63, 64, 64523, 64527, 64528, 64529] (by decide) 59 (by decide) (by decide)]
    simp only [Option.bind_some, Bool.false_eq_true, if_false, e 64522 (by decide), b 64526 (by decide), j1]
  unfold scarfref05_Shape.f
  rw [rwid_out op h 60 (by decide), Option.bind_some, rsig_out op h 54, Option.bind_some]
  simp only [Int.lt_irrefl, gt_iff_lt, if_false]
  rw [one_out op h [0, 1, 15, 26, 27, 209] (by decide) 60 (by decide) (by decide)]
  exact j0
theorem shp_low : ∀ i : Fin 256, instr_Shape.f 60 (i.val : Int) = scarfref05_Shape.f 60 (i.val : Int) ∧ (scarfref05_Shape.f 60 (i.val : Int)).isSome = true := by decide +kernel
theorem shp_high : ∀ i : Fin 18, instr_Shape.f 60 ((i.val : Int) + 64512) = scarfref05_Shape.f 60 ((i.val : Int) + 64512) ∧ (scarfref05_Shape.f 60 ((i.val : Int) + 64512)).isSome = true := by decide +kernel
/-- Shape is the document's. -/
theorem shp_same (op : Int) : ∃ r, instr_Shape.f 60 op = some r ∧ scarfref05_Shape.f 60 op = some r := by
  by_cases h : Out op
  · exact ⟨(0, 5), at_rounds (instr_Shape.mono op) (by omega) (shp_out op h), rshp_out op h⟩
  · have hr : (0 ≤ op ∧ op ≤ 255) ∨ (64512 ≤ op ∧ op ≤ 64529) := by unfold Out at h; omega
    have hc : instr_Shape.f 60 op = scarfref05_Shape.f 60 op ∧ (scarfref05_Shape.f 60 op).isSome = true := by
      rcases hr with hr | hr
      · have := shp_low ⟨op.toNat, by omega⟩
        simpa [show ((op.toNat : Nat) : Int) = op by omega] using this
      · have := shp_high ⟨(op - 64512).toNat, by omega⟩
        have e : (((op - 64512).toNat : Nat) : Int) + 64512 = op := by omega
        simp only [e] at this
        exact this
    obtain ⟨r, hr2⟩ := Option.isSome_iff_exists.mp hc.2
    exact ⟨r, by rw [hc.1, hr2], hr2⟩
def styS (c : Int) : Int × Int := if c = 127 ∨ c = 126 ∨ c = 112 then (c, 0) else if c = 125 ∨ c = 124 then (0, 3) else if c = 123 then (0, 4) else (0, 2)
theorem sty1 (c : Int) : instr_Type.f 60 c = some (styS c) := by
  by_cases h1 : c = 127
  · subst h1; decide +kernel
  by_cases h2 : c = 126
  · subst h2; decide +kernel
  by_cases h3 : c = 112
  · subst h3; decide +kernel
  by_cases h4 : c = 125
  · subst h4; decide +kernel
  by_cases h5 : c = 124
  · subst h5; decide +kernel
  by_cases h6 : c = 123
  · subst h6; decide +kernel
  simp [instr_Type.f, instr_Type.j0, instr_Type.j1, styS, h1, h2, h3, h4, h5, h6]
theorem sone3 (c : Int) (h1 : ¬ c = 127) (h2 : ¬ c = 126) (h3 : ¬ c = 112) : scarfref05_one.f 60 c [127, 126, 112] = some false := by
  have q1 : ¬ (127 : Int) = c := fun h => h1 h.symm
  have q2 : ¬ (126 : Int) = c := fun h => h2 h.symm
  have q3 : ¬ (112 : Int) = c := fun h => h3 h.symm
  simp [scarfref05_one.f, scarfref05_one.l0, rd, wrap64, q1, q2, q3]
theorem sty2 (c : Int) : scarfref05_Type.f 60 c = some (styS c) := by
  by_cases h1 : c = 127
  · subst h1; decide +kernel
  by_cases h2 : c = 126
  · subst h2; decide +kernel
  by_cases h3 : c = 112
  · subst h3; decide +kernel
  by_cases h4 : c = 125
  · subst h4; decide +kernel
  by_cases h5 : c = 124
  · subst h5; decide +kernel
  by_cases h6 : c = 123
  · subst h6; decide +kernel
  simp [scarfref05_Type.f, scarfref05_Type.j0, sone3 c h1 h2 h3, styS, h1, h2, h3, h4, h5, h6]
theorem law_shapes : scarflaw05_InstrShapes.Pure := by
  intro a0 _
  refine ⟨60, ?_⟩
  obtain ⟨r, h1, h2⟩ := shp_same a0
  unfold scarflaw05_InstrShapes.f
  rw [h1, Option.bind_some, h2, Option.bind_some, sty1, Option.bind_some, sty2, Option.bind_some]
  simp only [if_true]
  rw [awake_ok 59]
  rfl
end Go.Proofs.Ytckhlbpjehbnlaa.PB
namespace Go.Proofs.Ytckhlbpjehbnlaa.Pure
open Go.RowKit Go.Proofs.Ytckhlbpjehbnlaa.PB Go.Proofs.YtckhlbpjehbnlaaW.PrintWords Go.Proofs.YtckhlbpjehbnlaaW.PrintLast
theorem InstrShapes : scarflaw05_InstrShapes.Pure :=
  Go.Proofs.Ytckhlbpjehbnlaa.PB.law_shapes
end Go.Proofs.Ytckhlbpjehbnlaa.Pure
