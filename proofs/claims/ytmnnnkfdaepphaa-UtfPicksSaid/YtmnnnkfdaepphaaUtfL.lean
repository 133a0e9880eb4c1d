/- Layer 2: the statements over the printed functions. -/
import Derived.Test.YtmnnnkfdaepphaaUtfQ
namespace Go.Proofs.Ytmnnnkfdaepphaa.UtfL
set_option linter.unusedVariables false
set_option linter.unusedSimpArgs false
open Go.RowKit Go.Proofs.Ytmnnnkfdaepphaa.PA Go.Proofs.YtmnnnkfdaepphaaW.PrintWords Go.Proofs.YtmnnnkfdaepphaaW.PrintLast Go.Proofs.YtmnnnkfdaepphaaW.PrintMore
open Go.Proofs.Ytmnnnkfdaepphaa.Str Go.Proofs.Ytmnnnkfdaepphaa.UtfS Go.Proofs.Ytmnnnkfdaepphaa.UtfF Go.Proofs.Ytmnnnkfdaepphaa.UtfR Go.Proofs.Ytmnnnkfdaepphaa.UtfQ Go.Proofs.Ytmnnnkfdaepphaa.Same

theorem awake_eq (k : Nat) (hk : 60 ≤ k) : scarflaw02_awake.f k = some true := by
  have h : scarflaw02_awake.f 60 = some true := by decide +kernel
  exact at_rounds (g := fun k => scarflaw02_awake.f k) scarflaw02_awake.mono hk h

/-- Not too many of them. -/
def cut (l : List Int) : List Int := if (l.length : Int) > 300 then l.take 300 else l
theorem some_eq (l : List Int) : scarflaw02_some.f l = some (cut l) := by
  unfold scarflaw02_some.f cut
  by_cases h : (l.length : Int) > 300
  · rw [if_pos h, if_pos (by omega), if_pos h]
  · rw [if_neg h, if_neg h]
theorem cut_len (l : List Int) : (cut l).length ≤ 300 := by
  unfold cut
  split
  · rw [List.length_take]; omega
  · omega
def cutS (s : ByteArray) : ByteArray := if (s.size : Int) > 1000 then s.extract 0 1000 else s
theorem short_eq (s : ByteArray) : scarflaw02_short.f s = some (cutS s) := by
  unfold scarflaw02_short.f cutS
  by_cases h : (s.size : Int) > 1000
  · rw [if_pos h, if_pos (by omega), if_pos (by omega), if_pos h]
  · rw [if_neg h, if_neg h]
theorem cutS_size (s : ByteArray) : (cutS s).size ≤ 1000 := by
  unfold cutS
  split
  · rw [size_bytes, bytes_head, List.length_take]; omega
  · omega

theorem writes : scarflaw02_UtfWrites.Pure := by
  intro f l _ _ _ _
  suffices h : ∀ k, 2000 ≤ k → scarflaw02_UtfWrites.f k f l = some true from ⟨_, h 2000 (Nat.le_refl _)⟩
  intro k hk
  have hc := cut_len l
  unfold scarflaw02_UtfWrites.f
  rw [some_eq]
  simp only [Option.bind_some]
  rw [Write_eq f _ (by omega) k (by omega), rWrite_eq f _ (by omega) k (by omega)]
  simp only [Option.bind_some, if_true, beq_self_eq_true, awake_eq k (by omega)]

theorem scalars : scarflaw02_UtfScalars.Pure := by
  intro p _
  suffices h : ∀ k, 2000 ≤ k → scarflaw02_UtfScalars.f k p = some true from ⟨_, h 2000 (Nat.le_refl _)⟩
  intro k hk
  unfold scarflaw02_UtfScalars.f
  rw [Write_eq 0 [p] (by simp) k (by simp; omega), Scalar_eq, rScalar_eq]
  have hb : (resW [] (wr 0 [p])).2 = scal p := by
    unfold wr
    rw [one8]
    cases hs : scal p with
    | false => simp [resW]
    | true =>
      have := e8_len p
      have hne : e8 p ≠ [] := by intro e; rw [e] at this; simp at this
      rw [if_pos rfl, if_neg hne]
      simp [wr, resW]
  simp only [Option.bind_some, hb, if_true, beq_self_eq_true, awake_eq k (by omega)]

theorem back : scarflaw02_UtfBack.Pure := by
  intro f l _ _ _ _
  suffices h : ∀ k, 100000 ≤ k → scarflaw02_UtfBack.f k f l = some true from ⟨_, h 100000 (Nat.le_refl _)⟩
  intro k hk
  have hc := cut_len l
  have ha := awake_eq k (by omega)
  unfold scarflaw02_UtfBack.f
  rw [some_eq]
  simp only [Option.bind_some]
  rw [Write_eq f _ (by omega) k (by omega)]
  cases hw : wr f (cut l) with
  | none =>
    have he : (⟨#[]⟩ : ByteArray).toList = [] := (empty_iff _).2 rfl
    simp only [resW, Option.bind_some, Bool.false_eq_true, if_false, he, if_true, ha]
  | some t =>
    have hl := wr_len hw
    have hr := wr_range hw
    have hz : (strOfNums t).size = t.length := strOfNums_size t
    have hR : utf_Read.f k f (strOfNums t) = some (cut l, true) := by
      rw [Read_eq f _ (by omega) k (by omega), bytes_of hr]
      unfold readR
      rw [if_pos (wr_form hw), rd_wr hw _ (Nat.le_refl _)]
      simp [resR]
    have hS := Same_eq (cut l) (by omega) k (by omega)
    simp only [resW, Option.bind_some, List.nil_append, if_true, hR, hS, ha]

theorem only : scarflaw02_UtfOnly.Pure := by
  intro f s _ _
  suffices h : ∀ k, 100000 ≤ k → scarflaw02_UtfOnly.f k f s = some true from ⟨_, h 100000 (Nat.le_refl _)⟩
  intro k hk
  have hc := cutS_size s
  have ha := awake_eq k (by omega)
  unfold scarflaw02_UtfOnly.f
  rw [short_eq]
  simp only [Option.bind_some]
  rw [Read_eq f _ (by omega) k (by omega)]
  unfold readR
  by_cases hf : 0 ≤ f ∧ f ≤ 2
  · rw [if_pos hf]
    cases hr : rdL f (bytesOf (cutS s)).length (bytesOf (cutS s)) with
    | none => simp only [resR, Option.bind_some, Bool.false_eq_true, if_false, List.length_nil, Int.natCast_zero, if_true, ha]
    | some a =>
      have hw := wr_rd hf _ (bytes_range _) hr
      have hal := rdL_len _ (bytes_range _) hr
      rw [bytesOf_length] at hal
      have hW : utf_Write.f k f a = some (cutS s, true) := by
        rw [Write_eq f a (by omega) k (by omega), hw]
        simp [resW, str_of]
      simp only [resR, Option.bind_some, List.nil_append, if_true, hW, ha]
  · rw [if_neg hf]
    simp only [Option.bind_some, Bool.false_eq_true, if_false, List.length_nil, if_true, ha]
    try rfl

theorem reads : scarflaw02_UtfReads.Pure := by
  intro f s _ _
  suffices h : ∀ k, 100000 ≤ k → scarflaw02_UtfReads.f k f s = some true from ⟨_, h 100000 (Nat.le_refl _)⟩
  intro k hk
  have hc := cutS_size s
  have ha := awake_eq k (by omega)
  have hlen : ∀ g : Int, (readR g (bytesOf (cutS s))).1.length ≤ 1000 := by
    intro g
    unfold readR
    split
    · cases hr : rdL g (bytesOf (cutS s)).length (bytesOf (cutS s)) with
      | none => simp [resR]
      | some a =>
        have hal := rdL_len _ (bytes_range _) hr
        rw [bytesOf_length] at hal
        simp only [resR, List.nil_append]
        omega
    · simp
  have h0 : (readR 0 (bytesOf (cutS s))).2 = false → (readR 0 (bytesOf (cutS s))).1 = [] := by
    unfold readR
    rw [if_pos (by omega)]
    cases rdL 0 (bytesOf (cutS s)).length (bytesOf (cutS s)) with
    | none => intro _; rfl
    | some a => intro h; simp [resR] at h
  unfold scarflaw02_UtfReads.f
  rw [short_eq]
  simp only [Option.bind_some]
  have hl := hlen f
  have hS := Same_eq (readR f (bytesOf (cutS s))).1 (by omega) k (by omega)
  rw [Read_eq f _ (by omega) k (by omega), rRead_eq f _ (by omega) k (by omega), rRead_eq 0 _ (by omega) k (by omega), Valid_eq _ (by omega) k (by omega)]
  simp only [Option.bind_some, hS, if_true, beq_self_eq_true, ha]
  cases h2 : (readR 0 (bytesOf (cutS s))).2 with
  | true => simp only [if_true]
  | false =>
    rw [h0 h2]
    simp

/-! ### forms and sizes -/
theorem Form_l0 (l : List Int) (hn : l.length ≤ 1000000) : ∀ (m i k : Nat), i + m = l.length → m + 1 ≤ k →
    utf_Form.l0 k l (l.length : Int) (i : Int) = some (if wide (l.drop i) = true then 1 else 2) := by
  intro m
  induction m with
  | zero =>
    intro i k hi hk
    obtain ⟨k, rfl⟩ : ∃ m, k = m + 1 := ⟨k - 1, by omega⟩
    rw [utf_Form.l0, if_neg (by omega), List.drop_eq_nil_of_le (by omega)]; rfl
  | succ m ih =>
    intro i k hi hk
    obtain ⟨k, rfl⟩ : ∃ m, k = m + 1 := ⟨k - 1, by omega⟩
    have hlt : i < l.length := by omega
    have e : rd l (i : Int) = l.getD i 0 := by simp [rd]
    have hi1 : wrap64 ((i : Int) + 1) = ((i + 1 : Nat) : Int) := by rw [wrap64_id (by omega) (by omega)]; omega
    rw [utf_Form.l0, if_pos (by omega), if_pos (by omega), if_pos (by omega), e, drop_cons hlt, wide]
    by_cases h : l.getD i 0 > 255
    · rw [if_pos h, if_pos h]; rfl
    · rw [if_neg h, if_neg h, hi1, ih (i + 1) k (by omega) (by omega)]
theorem rForm_l0 (l : List Int) (hn : l.length ≤ 1000000) : ∀ (m i k : Nat), i + m = l.length → m + 1 ≤ k →
    scarfref02_Form.l0 k l (i : Int) = some (if wide (l.drop i) = true then 1 else 2) := by
  intro m
  induction m with
  | zero =>
    intro i k hi hk
    obtain ⟨k, rfl⟩ : ∃ m, k = m + 1 := ⟨k - 1, by omega⟩
    rw [scarfref02_Form.l0, if_neg (by omega), List.drop_eq_nil_of_le (by omega)]; rfl
  | succ m ih =>
    intro i k hi hk
    obtain ⟨k, rfl⟩ : ∃ m, k = m + 1 := ⟨k - 1, by omega⟩
    have hlt : i < l.length := by omega
    have e : rd l (i : Int) = l.getD i 0 := by simp [rd]
    have hi1 : wrap64 ((i : Int) + 1) = ((i + 1 : Nat) : Int) := by rw [wrap64_id (by omega) (by omega)]; omega
    rw [scarfref02_Form.l0, if_pos (by omega), if_pos (by omega), e, drop_cons hlt, wide]
    by_cases h : l.getD i 0 > 255
    · rw [if_pos h, if_pos h]; rfl
    · rw [if_neg h, if_neg h, hi1, ih (i + 1) k (by omega) (by omega)]
theorem Form_eq (enc : Int) (l : List Int) (hn : l.length ≤ 1000000) (k : Nat) (hk : l.length + 1 ≤ k) : utf_Form.f k enc l = some (formOf enc l) := by
  unfold utf_Form.f formOf
  have := Form_l0 l hn l.length 0 k (by omega) (by omega)
  rw [show ((0 : Nat) : Int) = 0 from rfl, List.drop_zero] at this
  by_cases h : enc = 2
  · rw [if_pos h, if_pos h, this]
  · rw [if_neg h, if_neg h]
theorem rForm_eq (enc : Int) (l : List Int) (hn : l.length ≤ 1000000) (k : Nat) (hk : l.length + 1 ≤ k) : scarfref02_Form.f k enc l = some (formOf enc l) := by
  unfold scarfref02_Form.f formOf
  have := rForm_l0 l hn l.length 0 k (by omega) (by omega)
  rw [show ((0 : Nat) : Int) = 0 from rfl, List.drop_zero] at this
  by_cases h : enc = 2
  · rw [if_pos h, if_pos h, this]
  · rw [if_neg h, if_neg h]

def sizes (f n : Int) : Int × Int := if f = 1 then (n, wrap64 (n.tdiv 2)) else (n, n)

theorem Size_l0 (f : Int) (l : List Int) (hn : l.length ≤ 1000000) : ∀ (m i : Nat) (n : Int) (k : Nat), i + m = l.length → 0 ≤ n → n + 4 * m ≤ 100000000 → 4 * m + 1 ≤ k →
    utf_Size.l0 k f n l (l.length : Int) (i : Int) = some (sizes f (n + szL f (l.drop i))) := by
  intro m
  induction m with
  | zero =>
    intro i n k hi h0 hb hk
    obtain ⟨k, rfl⟩ : ∃ m, k = m + 1 := ⟨k - 1, by omega⟩
    rw [utf_Size.l0, if_neg (by omega), List.drop_eq_nil_of_le (by omega)]
    simp only [szL, Int.add_zero, sizes]
    split <;> rfl
  | succ m ih =>
    intro i n k hi h0 hb hk
    obtain ⟨k, rfl⟩ : ∃ m, k = m + 4 := ⟨k - 4, by omega⟩
    have hlt : i < l.length := by omega
    have e : rd l (i : Int) = l.getD i 0 := by simp [rd]
    have hi1 : wrap64 ((i : Int) + 1) = ((i + 1 : Nat) : Int) := by rw [wrap64_id (by omega) (by omega)]; omega
    rw [utf_Size.l0, if_pos (by omega), if_pos (by omega), if_pos (by omega), e, drop_cons hlt, szL]
    generalize l.getD i 0 = p
    have fin : ∀ (k' : Nat) (x : Int), k ≤ k' → sz f p = x → 1 ≤ x → x ≤ 4 → utf_Size.l0 k' f (wrap64 (n + x)) l (l.length : Int) (wrap64 ((i : Int) + 1)) = some (sizes f (n + (sz f p + szL f (l.drop (i + 1))))) := by
      intro k' x hk' hx h1 h4
      rw [hi1, wrap64_id (n := n + x) (by omega) (by omega), ih (i + 1) (n + x) k' (by omega) (by omega) (by omega) (by omega), hx, Int.add_assoc]
    have j2f : ∀ b, (b = true ↔ f = 1 ∨ f = 0 ∧ p ≥ 65536) → ¬ (f = 1 ∧ p < 65536) → utf_Size.j2 (k + 2) f n p l (l.length : Int) (i : Int) b = some (sizes f (n + (sz f p + szL f (l.drop (i + 1))))) := by
      intro b hb2 hn1
      rw [utf_Size.j2]
      cases b with
      | true =>
        have := hb2.1 rfl
        rw [if_pos rfl]
        refine fin (k + 1) 4 (by omega) ?_ (by omega) (by omega)
        unfold sz
        rcases this with h | ⟨h, h2⟩
        · rw [if_neg (by omega), if_pos h, if_neg (by omega)]
        · rw [if_neg (by omega), if_neg (by omega), if_neg (by omega), if_neg (by omega), if_neg (by omega), if_pos h]
      | false =>
        have hno : ¬ (f = 1 ∨ f = 0 ∧ p ≥ 65536) := fun h => by have := hb2.2 h; cases this
        rw [if_neg (by decide)]
        have j3f : ∀ b, (b = true ↔ f = 2 ∨ p < 128) → utf_Size.j3 (k + 1) f n p l (l.length : Int) (i : Int) b = some (sizes f (n + (sz f p + szL f (l.drop (i + 1))))) := by
          intro b hb3
          rw [utf_Size.j3]
          cases b with
          | true =>
            have := hb3.1 rfl
            rw [if_pos rfl]
            refine fin k 1 (by omega) ?_ (by omega) (by omega)
            unfold sz
            by_cases h2 : f = 2
            · rw [if_pos h2]
            · rw [if_neg h2, if_neg (by omega), if_pos (by omega)]
          | false =>
            have hno3 : ¬ (f = 2 ∨ p < 128) := fun h => by have := hb3.2 h; cases this
            rw [if_neg (by decide)]
            by_cases h3 : p < 2048
            · rw [if_pos h3]
              refine fin k 2 (by omega) ?_ (by omega) (by omega)
              unfold sz
              rw [if_neg (by omega), if_neg (by omega), if_neg (by omega), if_pos h3]
            · rw [if_neg h3]
              refine fin k 3 (by omega) ?_ (by omega) (by omega)
              unfold sz
              rw [if_neg (by omega), if_neg (by omega), if_neg (by omega), if_neg h3]
              by_cases h4 : p < 65536
              · rw [if_pos h4]
              · rw [if_neg h4, if_neg (by omega)]
        by_cases h2 : f = 2
        · rw [if_pos h2]; exact j3f true (by simp [h2])
        · rw [if_neg h2]; exact j3f _ (by simp [h2])
    by_cases f1 : f = 1
    · rw [if_pos f1]
      by_cases hp : p < 65536
      · rw [decide_eq_true hp, utf_Size.j1, if_pos rfl]
        refine fin (k + 2) 2 (by omega) ?_ (by omega) (by omega)
        unfold sz
        rw [if_neg (by omega), if_pos f1, if_pos hp]
      · rw [decide_eq_false hp, utf_Size.j1, if_neg (by decide), if_pos f1]
        exact j2f true (by simp [f1]) (by omega)
    · rw [if_neg f1, utf_Size.j1, if_neg (by decide), if_neg f1]
      by_cases f0 : f = 0
      · rw [if_pos f0]; exact j2f _ (by simp [f0]) (by omega)
      · rw [if_neg f0]; exact j2f false (by simp [f0, f1]) (by omega)

theorem Size_eq (f : Int) (l : List Int) (hn : l.length ≤ 1000000) (k : Nat) (hk : 4 * l.length + 1 ≤ k) : utf_Size.f k f l = some (sizes f (szL f l)) := by
  unfold utf_Size.f
  have := Size_l0 f l hn l.length 0 0 k (by omega) (by omega) (by omega) hk
  rwa [show ((0 : Nat) : Int) = 0 from rfl, List.drop_zero, Int.zero_add] at this

theorem rSize_l0 (f : Int) (l : List Int) (hn : l.length ≤ 1000000) : ∀ (m i : Nat) (n : Int) (k : Nat), i + m = l.length → 0 ≤ n → n + 4 * m ≤ 100000000 → 2 * m + 1 ≤ k →
    scarfref02_Size.l0 k f l n (i : Int) = some (sizes f (n + szL f (l.drop i))) := by
  intro m
  induction m with
  | zero =>
    intro i n k hi h0 hb hk
    obtain ⟨k, rfl⟩ : ∃ m, k = m + 1 := ⟨k - 1, by omega⟩
    rw [scarfref02_Size.l0, if_neg (by omega), List.drop_eq_nil_of_le (by omega)]
    simp only [szL, Int.add_zero, sizes]
    split <;> rfl
  | succ m ih =>
    intro i n k hi h0 hb hk
    obtain ⟨k, rfl⟩ : ∃ m, k = m + 2 := ⟨k - 2, by omega⟩
    have hlt : i < l.length := by omega
    have e : rd l (i : Int) = l.getD i 0 := by simp [rd]
    have hi1 : wrap64 ((i : Int) + 1) = ((i + 1 : Nat) : Int) := by rw [wrap64_id (by omega) (by omega)]; omega
    rw [scarfref02_Size.l0, if_pos (by omega), if_pos (by omega), e, drop_cons hlt, szL]
    generalize l.getD i 0 = p
    have fin : ∀ (k' : Nat) (x : Int), k ≤ k' → sz f p = x → 1 ≤ x → x ≤ 4 → scarfref02_Size.l0 k' f l (wrap64 (n + x)) (wrap64 ((i : Int) + 1)) = some (sizes f (n + (sz f p + szL f (l.drop (i + 1))))) := by
      intro k' x hk' hx h1 h4
      rw [hi1, wrap64_id (n := n + x) (by omega) (by omega), ih (i + 1) (n + x) k' (by omega) (by omega) (by omega) (by omega), hx, Int.add_assoc]
    by_cases f2 : f = 2
    · rw [if_pos f2]
      exact fin (k + 1) 1 (by omega) (by unfold sz; rw [if_pos f2]) (by omega) (by omega)
    · rw [if_neg f2]
      by_cases f1 : f = 1
      · rw [if_pos f1]
        by_cases hp : p < 65536
        · rw [decide_eq_true hp, scarfref02_Size.j1, if_pos rfl]
          exact fin k 2 (by omega) (by unfold sz; rw [if_neg f2, if_pos f1, if_pos hp]) (by omega) (by omega)
        · rw [decide_eq_false hp, scarfref02_Size.j1, if_neg (by decide), if_pos f1]
          exact fin k 4 (by omega) (by unfold sz; rw [if_neg f2, if_pos f1, if_neg hp]) (by omega) (by omega)
      · rw [if_neg f1, scarfref02_Size.j1, if_neg (by decide), if_neg f1]
        by_cases h1 : p < 128
        · rw [if_pos h1]
          exact fin k 1 (by omega) (by unfold sz; rw [if_neg f2, if_neg f1, if_pos h1]) (by omega) (by omega)
        · rw [if_neg h1]
          by_cases h2 : p < 2048
          · rw [if_pos h2]
            exact fin k 2 (by omega) (by unfold sz; rw [if_neg f2, if_neg f1, if_neg h1, if_pos h2]) (by omega) (by omega)
          · rw [if_neg h2]
            by_cases h3 : p < 65536
            · rw [if_pos h3]
              exact fin k 3 (by omega) (by unfold sz; rw [if_neg f2, if_neg f1, if_neg h1, if_neg h2, if_pos h3]) (by omega) (by omega)
            · rw [if_neg h3]
              by_cases f0 : f = 0
              · rw [if_pos f0]
                exact fin k 4 (by omega) (by unfold sz; rw [if_neg f2, if_neg f1, if_neg h1, if_neg h2, if_neg h3, if_pos f0]) (by omega) (by omega)
              · rw [if_neg f0]
                exact fin k 3 (by omega) (by unfold sz; rw [if_neg f2, if_neg f1, if_neg h1, if_neg h2, if_neg h3, if_neg f0]) (by omega) (by omega)

theorem rSize_eq (f : Int) (l : List Int) (hn : l.length ≤ 1000000) (k : Nat) (hk : 2 * l.length + 1 ≤ k) : scarfref02_Size.f k f l = some (sizes f (szL f l)) := by
  unfold scarfref02_Size.f
  have := rSize_l0 f l hn l.length 0 0 k (by omega) (by omega) (by omega) hk
  rwa [show ((0 : Nat) : Int) = 0 from rfl, List.drop_zero, Int.zero_add] at this

theorem sizes_fst (f n : Int) : (sizes f n).1 = n := by unfold sizes; split <;> rfl

theorem forms : scarflaw02_UtfForms.Pure := by
  intro enc f l _ _ _ _ _
  suffices h : ∀ k, 100000 ≤ k → scarflaw02_UtfForms.f (k + 1) enc f l = some true from ⟨_, h 100000 (Nat.le_refl _)⟩
  intro k hk
  have hc := cut_len l
  have ha := awake_eq k (by omega)
  unfold scarflaw02_UtfForms.f
  rw [some_eq]
  simp only [Option.bind_some]
  rw [Size_eq f _ (by omega) (k + 1) (by omega), rSize_eq f _ (by omega) (k + 1) (by omega), Form_eq enc _ (by omega) (k + 1) (by omega), rForm_eq enc _ (by omega) (k + 1) (by omega)]
  simp only [Option.bind_some, if_true, bne_self_eq_false]
  rw [scarflaw02_UtfForms.j0, if_neg (by decide), Write_eq f _ (by omega) k (by omega), sizes_fst]
  cases hw : wr f (cut l) with
  | none => simp only [resW, Option.bind_some, Bool.false_eq_true, if_false, ha]
  | some t =>
    have hsz := wr_sz hw
    have hz : ((strOfNums t).size : Int) = szL f (cut l) := by rw [strOfNums_size]; exact hsz
    simp only [resW, Option.bind_some, List.nil_append, if_true, hz, ha]

theorem picks_l0 (enc : Int) (he : 0 ≤ enc ∧ enc ≤ 2) (l : List Int) (hn : l.length ≤ 300) :
    ∀ (m i k : Nat), i + m = l.length → (∀ p ∈ l.take i, scal p = true) → m + 100000 ≤ k → scarflaw02_UtfPicks.l0 k enc l (i : Int) = some true := by
  intro m
  induction m with
  | zero =>
    intro i k hi hs hk
    obtain ⟨k, rfl⟩ : ∃ m, k = m + 1 := ⟨k - 1, by omega⟩
    rw [List.take_of_length_le (by omega)] at hs
    have ha := awake_eq k (by omega)
    have hf : 0 ≤ formOf enc l ∧ formOf enc l ≤ 2 := by unfold formOf; split
                                                        · split <;> omega
                                                        · omega
    have hw2 : formOf enc l = 2 → wide l = false := by
      unfold formOf
      by_cases h2 : enc = 2
      · rw [if_pos h2]
        cases wide l with
        | true => intro h; simp at h
        | false => intro _; rfl
      · rw [if_neg h2]; intro h; exact absurd h h2
    obtain ⟨t, hw⟩ := wr_some hf hs hw2
    have hl := wr_len hw
    have hr := wr_range hw
    have hz : (strOfNums t).size = t.length := strOfNums_size t
    have hR : utf_Read.f k (formOf enc l) (strOfNums t) = some (l, true) := by
      rw [Read_eq _ _ (by omega) k (by omega), bytes_of hr]
      unfold readR
      rw [if_pos hf, rd_wr hw _ (Nat.le_refl _)]
      simp [resR]
    have hS := Same_eq l (by omega) k (by omega)
    have hV : enc = 0 → utf_Valid.f k (strOfNums t) = some true := by
      intro h0
      have hf0 : formOf enc l = 0 := by unfold formOf; rw [if_neg (by omega), h0]
      rw [Valid_eq _ (by omega) k (by omega), bytes_of hr]
      rw [hf0] at hw
      unfold readR
      rw [if_pos (by omega), rd_wr hw _ (Nat.le_refl _)]
      rfl
    rw [scarflaw02_UtfPicks.l0, if_neg (by omega), Form_eq enc l (by omega) k (by omega)]
    simp only [Option.bind_some]
    rw [Write_eq _ l (by omega) k (by omega), hw]
    simp only [resW, Option.bind_some, List.nil_append, hR, if_true, hS, ha]
    by_cases h0 : enc = 0
    · rw [if_pos h0, hV h0]; rfl
    · rw [if_neg h0]
  | succ m ih =>
    intro i k hi hs hk
    obtain ⟨k, rfl⟩ : ∃ m, k = m + 1 := ⟨k - 1, by omega⟩
    have hlt : i < l.length := by omega
    have e : rd l (i : Int) = l.getD i 0 := by simp [rd]
    have hi1 : wrap64 ((i : Int) + 1) = ((i + 1 : Nat) : Int) := by rw [wrap64_id (by omega) (by omega)]; omega
    have ht : l.take (i + 1) = l.take i ++ [l.getD i 0] := by
      rw [List.take_succ_eq_append_getElem hlt]
      simp [List.getD, List.getElem?_eq_getElem hlt]
    rw [scarflaw02_UtfPicks.l0, if_pos (by omega), if_pos (by omega), e, rScalar_eq]
    simp only [Option.bind_some]
    cases hp : scal (l.getD i 0) with
    | true =>
      rw [if_pos rfl, hi1]
      refine ih (i + 1) k (by omega) ?_ (by omega)
      rw [ht]
      intro p hp2
      rcases List.mem_append.1 hp2 with h | h
      · exact hs p h
      · rw [List.mem_singleton.1 h]; exact hp
    | false =>
      simp only [Bool.false_eq_true, if_false, awake_eq k (by omega), Option.bind_some]

theorem picks : scarflaw02_UtfPicks.Pure := by
  intro enc l hen _ _ _
  suffices h : ∀ k, 200000 ≤ k → scarflaw02_UtfPicks.f k enc l = some true from ⟨_, h 200000 (Nat.le_refl _)⟩
  intro k hk
  have hc := cut_len l
  unfold scarflaw02_UtfPicks.f
  rw [some_eq]
  simp only [Option.bind_some]
  have h1 : -3 < enc.tmod 3 ∧ enc.tmod 3 < 3 := by
    rw [Int.tmod_eq_emod]
    split <;> simp <;> omega
  have h2 : wrap64 (enc.tmod 3 + 3) = enc.tmod 3 + 3 := wrap64_id (by omega) (by omega)
  have h3 : (enc.tmod 3 + 3).tmod 3 = (enc.tmod 3 + 3) % 3 := Int.tmod_eq_emod_of_nonneg (by omega)
  rw [h2, h3]
  have := picks_l0 ((enc.tmod 3 + 3) % 3) (by omega) (cut l) hc (cut l).length 0 k (by omega) (by simp) (by omega)
  rwa [show ((0 : Nat) : Int) = 0 from rfl] at this
end Go.Proofs.Ytmnnnkfdaepphaa.UtfL
