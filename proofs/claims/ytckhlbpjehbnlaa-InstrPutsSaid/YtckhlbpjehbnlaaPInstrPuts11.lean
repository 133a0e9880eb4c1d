/- Several texts, laid into one for a claim: InstrPu, InstrPv, InstrPw. -/
import Derived.Test.YtckhlbpjehbnlaaPInstrPuts8
import Derived.Test.YtckhlbpjehbnlaaPInstrPuts9
import Derived.Test.YtckhlbpjehbnlaaPInstrPuts10
namespace Go.Proofs.Ytckhlbpjehbnlaa.PB
open Go.RowKit Go.Proofs.YtckhlbpjehbnlaaW.PrintWords Go.Proofs.YtckhlbpjehbnlaaW.PrintLast Go.Proofs.YtckhlbpjehbnlaaW.PrintMore
open Go.Proofs.Ytckhlbpjehbnlaa.Str Go.Proofs.Ytckhlbpjehbnlaa.LebS Go.Proofs.Ytckhlbpjehbnlaa.LebF
set_option linter.unusedVariables false
set_option linter.unusedSimpArgs false
theorem rin_eq (n : Int) : scarfref05_in.f n = some (inx n) := by
  unfold scarfref05_in.f inx
  by_cases h : n ≥ 0
  · have h' : 0 ≤ n := h
    have e : (decide (n ≤ 4294967295)) = decide (n < 4294967296) := by rw [Bool.eq_iff_iff]; simp; omega
    rw [if_pos h, e]; simp [h']
  · have h' : ¬ 0 ≤ n := h
    rw [if_neg h]; simp [h']
def BadC (s op b : Int) (N : List Int) (L E : List S54) : Prop := (s ≠ 2 ∧ (L.length : Int) > 0) ∨ (op ≠ 4 ∧ (E.length : Int) > 0) ∨ (s ≠ 4 ∧ (N.length : Int) > 0) ∨ (s ≠ 7 ∧ b ≠ 0)
instance (s op b : Int) (N : List Int) (L E : List S54) : Decidable (BadC s op b N L E) := by unfold BadC; infer_instance
theorem j0_bad {k : Nat} {s op a b m : Int} {N : List Int} {L E : List S54} (h : BadC s op b N L E) : scarfref05_May.j0 k s true op a b m N L E = scarfref05_May.j0 k s (decide (BadC s op b N L E)) op a b m N L E := by rw [decide_eq_true h]
theorem j0_good {k : Nat} {s op a b m : Int} {N : List Int} {L E : List S54} (h : ¬ BadC s op b N L E) : scarfref05_May.j0 k s false op a b m N L E = scarfref05_May.j0 k s (decide (BadC s op b N L E)) op a b m N L E := by rw [decide_eq_false h]
theorem j0_b {k : Nat} {s op a b m : Int} {N : List Int} {L E : List S54} (h : BadC s op b N L E ↔ b ≠ 0) : scarfref05_May.j0 k s (b != 0) op a b m N L E = scarfref05_May.j0 k s (decide (BadC s op b N L E)) op a b m N L E := by
  by_cases hb : b = 0
  · rw [show (b != 0) = false by simp [hb], decide_eq_false (fun hh => h.mp hh hb)]
  · rw [show (b != 0) = true by simp [hb], decide_eq_true (h.mpr hb)]
set_option maxHeartbeats 2000000 in
theorem May_j0 {k : Nat} {s op a b m : Int} {N : List Int} {L E : List S54} (hs : scarfref05_Shape.f k op = some (s, 0)) : scarfref05_May.f k op a b m N L E = scarfref05_May.j0 k s (decide (BadC s op b N L E)) op a b m N L E := by
  unfold scarfref05_May.f
  rw [hs]
  simp only [Option.bind_some, if_true]
  repeat' split
  all_goals first
    | exact j0_bad (by unfold BadC; omega)
    | exact j0_good (by unfold BadC; omega)
    | exact j0_b (by unfold BadC; constructor <;> (intro; omega))
theorem May_l0 (op a b m : Int) (N : List Int) (L E : List S54) (hlen : N.length ≤ 17592186044416) : ∀ (ys : List Int) (i k : Nat), N.drop i = ys → ys.length + 2 ≤ k →
    scarfref05_May.l0 k (i : Int) op a b m N L E = some (ys.all inx && (inx a && (decide (0 ≤ b) && (decide (b < 64) && decide ((N.length : Int) ≤ 1000))))) := by
  intro ys
  induction ys with
  | nil =>
    intro i k hd hk
    obtain ⟨k, rfl⟩ : ∃ q, k = q + 1 := ⟨k - 1, by simp at hk; omega⟩
    have := List.drop_eq_nil_iff.mp hd
    rw [scarfref05_May.l0, if_neg (by omega), rin_eq]
    simp only [Option.bind_some, List.all_nil, Bool.true_and]
    cases inx a with
    | false => simp
    | true =>
      simp only [if_true, Bool.true_and]
      by_cases h0 : b ≥ 0
      · have h0' : 0 ≤ b := h0
        rw [if_pos h0]
        by_cases h1 : b < 64
        · rw [if_pos h1]; simp [h0', h1]
        · rw [if_neg h1]; simp [h0', h1]
      · have h0' : ¬ 0 ≤ b := h0
        rw [if_neg h0]; simp [h0']
  | cons y ys ih =>
    intro i k hd hk
    simp only [List.length_cons] at hk
    obtain ⟨k, rfl⟩ : ∃ q, k = q + 1 := ⟨k - 1, by omega⟩
    have hi : i < N.length := by
      rcases Nat.lt_or_ge i N.length with h1 | h1
      · exact h1
      · rw [List.drop_eq_nil_of_le h1] at hd; cases hd
    have hy := drop_cons (l := N) hi
    rw [hd] at hy
    obtain ⟨e1, e2⟩ := List.cons.inj hy
    have hr : rd N (i : Int) = y := by rw [e1]; unfold rd; simp
    rw [scarfref05_May.l0, if_pos (by omega), if_pos (by omega), hr, rin_eq]
    simp only [Option.bind_some]
    cases hyi : inx y with
    | false => simp [hyi]
    | true =>
      simp only [if_true]
      rw [succ3 i (by omega), ih (i + 1) k e2.symm (by omega)]
      simp [hyi]
theorem nil_len {α : Type} {l : List α} : ¬ (l.length : Int) > 0 ↔ l = [] := by
  rw [← List.length_eq_zero_iff]; omega
theorem tyr (c : Int) (k : Nat) (hk : 60 ≤ k) : ∃ t, instr_Type.f 5 c = some t ∧ scarfref05_Type.f k c = some t := by
  obtain ⟨t, e, ht, _⟩ := ty_at c
  have h1 := sty1 c
  have h2 := sty2 c
  have h3 := ty_more ht 60 (by omega)
  rw [h1] at h3
  refine ⟨(t, e), ht, ?_⟩
  rw [Option.some.inj h3] at h2
  exact at_rounds (scarfref05_Type.mono c) hk h2
set_option maxHeartbeats 4000000 in
/-- The document's May is the program's. -/
theorem rmay {x : S54} (hw : WfI x) : ∃ K b, (∀ k, K ≤ k → scarfref05_May.f k x.f0 x.f1 x.f2 x.f3 x.f4 x.f5 x.f6 = some b) ∧ (b = true ↔ okx x) := by
  obtain ⟨b, hb, hbk⟩ := may_at hw
  refine ⟨x.f4.length + 100, b, ?_, hbk⟩
  obtain ⟨x, h0, h1, h2, h3, l4, h4, l5, h5, l6, h6⟩ := hw
  obtain ⟨op, a, bb, m, N, L, E⟩ := x
  simp only at *
  intro k hkk
  obtain ⟨r, hs, hr⟩ := shp_same op
  obtain ⟨s, e, hs40, hk40⟩ := shp_any op
  have e60 : instr_Shape.f 60 op = some (s, e) := at_rounds (instr_Shape.mono op) (by omega) hs40
  rw [e60] at hs
  obtain rfl := Option.some.inj hs
  have hrk : scarfref05_Shape.f k op = some (s, e) := at_rounds (scarfref05_Shape.mono op) (show 60 ≤ k by omega) hr
  obtain ⟨ty, hty, hty2⟩ := tyr a k (by omega)
  unfold instr_may.f at hb
  rw [if_pos (by omega), hs40, hty] at hb
  simp only [Option.bind_some] at hb
  rcases hk40 with ⟨rfl, hk⟩ | ⟨_, he, _⟩
  · rw [May_j0 hrk]
    obtain ⟨k, rfl⟩ : ∃ q, k = q + 2 := ⟨k - 2, by omega⟩
    have hb' : b = mayS s op a bb m N L E ty := by
      simp only [beq_self_eq_true, Bool.true_and, Option.some.injEq] at hb
      exact hb.symm
    subst hb'
    have o1 : ∀ q, scarfref05_one.f (k + 1) s q = if q.length + 1 ≤ k + 1 ∧ q.length ≤ 1000 then some (decide (s ∈ q)) else scarfref05_one.f (k + 1) s q := fun q => by
      split
      · rename_i h; exact one_eq s q h.2 _ h.1
      · rfl
    have h5789 := one_eq s [5, 7, 8, 9] (by decide) (k + 1) (by simp; omega)
    have h1811 := one_eq s [1, 8, 11] (by decide) k (by simp; omega)
    have hneg := one_eq a [-64, -1, -2, -16] (by decide) k (by simp; omega)
    have hl0 := May_l0 op a bb m N L E l4 N 0 k (by simp) (by omega)
    rw [show ((0 : Nat) : Int) = 0 from rfl] at hl0
    have hty3 : scarfref05_Type.f k a = some ty := by
      obtain ⟨ty', hty', hty3⟩ := tyr a k (by omega)
      rw [hty] at hty'
      rw [Option.some.inj hty']
      exact hty3
    clear o1 hty2
    -- the faults that are looked for first
    have hop4 : s ≠ 2 → op ≠ 4 := fun h h4 => h (hk.two.mpr (by omega))
    by_cases hbad : BadC s op bb N L E
    · rw [decide_eq_true hbad, scarfref05_May.j0, if_pos rfl]
      congr 1
      have hf : mayS s op a bb m N L E ty = false := by
        unfold BadC at hbad
        rcases hbad with ⟨g1, g2⟩ | ⟨g1, g2⟩ | ⟨g1, g2⟩ | ⟨g1, g2⟩
        · have hL : L.length ≠ 0 := by omega
          rcases s_cases hk with rfl | rfl | rfl | rfl | rfl | rfl | rfl | rfl | rfl | rfl | rfl <;> simp [mayS] <;> first | exact absurd rfl g1 | (intros; simp_all)
        · have hE : E.length ≠ 0 := by omega
          rcases s_cases hk with rfl | rfl | rfl | rfl | rfl | rfl | rfl | rfl | rfl | rfl | rfl <;> simp [mayS] <;> (intros; simp_all)
        · have hN : N.length ≠ 0 := by omega
          rcases s_cases hk with rfl | rfl | rfl | rfl | rfl | rfl | rfl | rfl | rfl | rfl | rfl <;> simp [mayS] <;> first | exact absurd rfl g1 | (intros; simp_all)
        · rcases s_cases hk with rfl | rfl | rfl | rfl | rfl | rfl | rfl | rfl | rfl | rfl | rfl <;> simp [mayS] <;> first | exact absurd rfl g1 | (intros; simp_all)
      exact hf.symm
    · rw [decide_eq_false hbad, scarfref05_May.j0]
      simp only [Bool.false_eq_true, if_false]
      rw [h5789, rin_eq]
      have b1 : s = 2 ∨ L = [] := by
        by_cases h : s = 2
        · exact .inl h
        · exact .inr (nil_len.mp (fun hh => hbad (.inl ⟨h, hh⟩)))
      have b2 : op = 4 ∨ E = [] := by
        by_cases h : op = 4
        · exact .inl h
        · exact .inr (nil_len.mp (fun hh => hbad (.inr (.inl ⟨h, hh⟩))))
      have b3 : s = 4 ∨ N = [] := by
        by_cases h : s = 4
        · exact .inl h
        · exact .inr (nil_len.mp (fun hh => hbad (.inr (.inr (.inl ⟨h, hh⟩)))))
      have b4 : s = 7 ∨ bb = 0 := by
        by_cases h : s = 7
        · exact .inl h
        · by_cases h0 : bb = 0
          · exact .inr h0
          · exact absurd (.inr (.inr (.inr ⟨h, h0⟩))) hbad
      clear hbad
      have jj : ∀ q, scarfref05_May.j1 (k + 1) s q op a bb m N L E = if q = true then some false else (if decide (s ∈ [1, 8, 11]) = true then some (a == 0) else if s = 2 then (if inx a = true then some true else some (decide (a ∈ [-64, -1, -2, -16]))) else if s = 6 then some (ty.2 == 0) else if s = 10 then (if op = 66 then some true else if a ≥ -2147483648 then some (decide (a ≤ 2147483647)) else some false) else some (N.all inx && (inx a && (decide (0 ≤ bb) && (decide (bb < 64) && decide ((N.length : Int) ≤ 1000)))))) := by
        intro q
        rw [scarfref05_May.j1, h1811, hl0, hty3, rin_eq, hneg]
        simp only [Option.bind_some]
      simp only [Option.bind_some, jj]
      rcases s_cases hk with rfl | rfl | rfl | rfl | rfl | rfl | rfl | rfl | rfl | rfl | rfl
      · simp at b1 b2 b3 b4
        have e6 : E = [] := by rcases b2 with h | h; exact absurd h (hop4 (by decide)); exact h
        subst b1; subst e6; subst b3; subst b4
        by_cases hm : m = 0 <;> simp [mayS, hm, inx]
      · simp at b3 b4
        subst b3; subst b4
        by_cases hm : m = 0
        · by_cases ha : inx a = true
          · simp [mayS, hm, ha, bty]
            rcases b2 with h | h <;> simp [h, inx]
          · have ha' : inx a = false := by simpa using ha
            have e : decide (a ∈ ([-64, -1, -2, -16] : List Int)) = bty a := by
              unfold bty
              rw [ha', Bool.eq_iff_iff]
              simp [or_assoc]
            simp only [mayS, hm, ha']
            rw [e]
            rcases b2 with h | h <;> simp [h, inx]
        · simp [mayS, hm]
      · simp at b1 b2 b3 b4
        have e6 : E = [] := by rcases b2 with h | h; exact absurd h (hop4 (by decide)); exact h
        subst b1; subst e6; subst b3; subst b4
        by_cases hm : m = 0 <;> simp [mayS, hm, inx]
      · simp at b1 b2 b4
        have e6 : E = [] := by rcases b2 with h | h; exact absurd h (hop4 (by decide)); exact h
        subst b1; subst e6; subst b4
        have e1000 : (decide ((N.length : Int) ≤ 1000)) = decide (N.length ≤ 1000) := by rw [Bool.eq_iff_iff]; simp; omega
        by_cases hm : m = 0
        · simp only [mayS, hm]
          simp only [e1000]
          cases inx a <;> cases N.all inx <;> cases decide (N.length ≤ 1000) <;> simp [inx]
        · simp [mayS, hm]
      · simp at b1 b2 b3 b4
        have e6 : E = [] := by rcases b2 with h | h; exact absurd h (hop4 (by decide)); exact h
        subst b1; subst e6; subst b3; subst b4
        cases hm : inx m <;> simp [mayS, hm]
      · simp at b1 b2 b3 b4
        have e6 : E = [] := by rcases b2 with h | h; exact absurd h (hop4 (by decide)); exact h
        subst b1; subst e6; subst b3; subst b4
        by_cases hm : m = 0 <;> simp [mayS, hm, inx]
      · simp at b1 b2 b3
        have e6 : E = [] := by rcases b2 with h | h; exact absurd h (hop4 (by decide)); exact h
        subst b1; subst e6; subst b3
        cases hm : inx m <;> cases ha : inx a <;> simp [mayS, hm, ha]
      · simp at b1 b2 b3 b4
        have e6 : E = [] := by rcases b2 with h | h; exact absurd h (hop4 (by decide)); exact h
        subst b1; subst e6; subst b3; subst b4
        cases hm : inx m <;> simp [mayS, hm]
      · simp at b1 b2 b3 b4
        have e6 : E = [] := by rcases b2 with h | h; exact absurd h (hop4 (by decide)); exact h
        subst b1; subst e6; subst b3; subst b4
        cases hm : inx m <;> simp [mayS, hm]
      · simp at b1 b2 b3 b4
        have e6 : E = [] := by rcases b2 with h | h; exact absurd h (hop4 (by decide)); exact h
        subst b1; subst e6; subst b3; subst b4
        by_cases hm : m = 0
        · by_cases h66 : op = 66
          · simp [mayS, hm, h66, inx]
          · by_cases ha : a ≥ -2147483648
            · have ha' : -2147483648 ≤ a := ha
              have e : decide (a ≤ 2147483647) = decide (a < 2147483648) := by rw [Bool.eq_iff_iff]; simp; omega
              simp [mayS, hm, h66, inx, ha', e]
            · have ha' : ¬ -2147483648 ≤ a := ha
              simp [mayS, hm, h66, inx, ha']
        · simp [mayS, hm]
      · simp at b1 b2 b3 b4
        have e6 : E = [] := by rcases b2 with h | h; exact absurd h (hop4 (by decide)); exact h
        subst b1; subst e6; subst b3; subst b4
        by_cases hm : m = 0 <;> simp [mayS, hm, inx]
  · have hbf : b = false := by
      simp only [Option.some.injEq] at hb
      rw [← hb]
      have : ¬ e = 0 := by omega
      simp [this]
    subst hbf
    unfold scarfref05_May.f
    rw [hrk]
    simp only [Option.bind_some]
    rw [if_neg (by omega)]
    obtain ⟨k, rfl⟩ : ∃ q, k = q + 1 := ⟨k - 1, by omega⟩
    rw [scarfref05_May.j0, if_pos rfl]
open Classical in
/-- What the document's Count answers. -/
noncomputable def resR (k n : Nat) (l : List S54) : Int := if okD k l ∧ n + cntD k l ≤ 8192 then ((n + cntD k l : Nat) : Int) else -1
theorem resR_yes {k n : Nat} {l : List S54} (h : okD k l) (h1 : n + cntD k l ≤ 8192) : resR k n l = ((n + cntD k l : Nat) : Int) := by unfold resR; rw [if_pos ⟨h, h1⟩]
theorem resR_no {k n : Nat} {l : List S54} (h : ¬ (okD k l ∧ n + cntD k l ≤ 8192)) : resR k n l = -1 := by unfold resR; rw [if_neg h]
theorem sum2 (n a b : Nat) (hn : n ≤ 8192) (ha : 0 + a ≤ 8192) (hb : 0 + b ≤ 8192) : wrap64 (wrap64 (((n + 1 : Nat) : Int) + ((0 + a : Nat) : Int)) + ((0 + b : Nat) : Int)) = ((n + 1 + a + b : Nat) : Int) := by
  rw [wrap64_id (n := ((n + 1 : Nat) : Int) + ((0 + a : Nat) : Int)) (by omega) (by omega), wrap64_id (by omega) (by omega)]
  omega
theorem cu {l : List S54} {d : Int} {k k' : Nat} {r : Int} (h : scarfref05_Count.f k l d = some r) (hk : k ≤ k') : scarfref05_Count.f k' l d = some r := at_rounds (scarfref05_Count.mono l d) hk h
theorem cul {l : List S54} {a b c : Int} {k k' : Nat} {r : Int} (h : scarfref05_Count.l0 k l a b c = some r) (hk : k ≤ k') : scarfref05_Count.l0 k' l a b c = some r := at_rounds (fun k => (scarfref05_Count.mono_l k).2.1 l a b c) hk h
set_option maxHeartbeats 1000000 in
theorem rcount_l0 (k : Nat) (deep : Int) (hd : 0 ≤ deep) (hdk : deep + (k + 1 : Nat) = 33)
    (IH : deep ≠ 32 → ∀ (l : List S54), (∀ x ∈ l, WfI x) → l.length ≤ 17592186044416 → ∃ F, scarfref05_Count.f F l (deep + 1) = some (resR k 0 l)) (l : List S54) (hlen : l.length ≤ 17592186044416) :
    ∀ (ys : List S54) (i n : Nat), l.drop i = ys → (∀ x ∈ ys, WfI x) → n ≤ 8192 → ∃ F, scarfref05_Count.l0 F l deep (n : Int) (i : Int) = some (resR (k + 1) n ys) := by
  intro ys
  induction ys with
  | nil =>
    intro i n hdrop _ hn
    have hge : l.length ≤ i := List.drop_eq_nil_iff.mp hdrop
    refine ⟨1, ?_⟩
    rw [scarfref05_Count.l0, if_neg (by omega), resR_yes (by intro x hx; cases hx) (by show n + 0 ≤ 8192; omega)]
    rfl
  | cons x ys ih =>
    intro i n hdrop hw hn
    obtain ⟨hx, hi, hdrop1⟩ := rd_at hdrop
    have hwx := hw x (by simp)
    obtain ⟨K, b, hb, hbk⟩ := rmay hwx
    have hcnt : cntD (k + 1) (x :: ys) = 1 + cntD k x.f5 + cntD k x.f6 + cntD (k + 1) ys := rfl
    have hok : okD (k + 1) (x :: ys) ↔ (okx x ∧ okD k x.f5 ∧ okD k x.f6 ∧ (k = 0 → blk x.f0 = false)) ∧ okD (k + 1) ys := by
      constructor
      · intro h; exact ⟨h x (by simp), fun y hy => h y (by simp [hy])⟩
      · rintro ⟨h1, h2⟩ y hy
        rcases List.mem_cons.mp hy with rfl | hy
        · exact h1
        · exact h2 y hy
    have head : ∀ F, K ≤ F → scarfref05_Count.l0 (F + 1) l deep (n : Int) (i : Int) = if b = true then scarfref05_Count.j1 F l deep ((n + 1 : Nat) : Int) (i : Int) (blk x.f0) else some (-1) := by
      intro F hF
      rw [scarfref05_Count.l0, if_pos (by omega), if_pos (by omega), hx, hb F hF]
      simp only [Option.bind_some]
      cases b with
      | false => rfl
      | true =>
        simp only [if_true]
        rw [succ3 n (by omega)]
        unfold blk
        by_cases h2 : x.f0 ≥ 2
        · have h2' : 2 ≤ x.f0 := h2
          rw [if_pos h2]; simp [h2']
        · have h2' : ¬ 2 ≤ x.f0 := h2
          rw [if_neg h2]; simp [h2']
    cases b with
    | false =>
      refine ⟨K + 1, ?_⟩
      rw [head K (Nat.le_refl _), resR_no]
      · rfl
      · rintro ⟨h1, _⟩
        exact absurd (hbk.mpr (hok.mp h1).1.1) (by simp)
    | true =>
      have hokx := hbk.mp rfl
      obtain ⟨s, t, hs, ht, hm, h0, h1⟩ := id hokx
      have hk := shp_ok hs
      obtain ⟨_, _, _, _, _, _, _, l5, h5, l6, h6⟩ := hwx
      cases hbl : blk x.f0 with
      | false =>
        have hs2 : s ≠ 2 := fun h => by
          have := blk_iff.mpr (hk.two.mp h)
          rw [hbl] at this; cases this
        obtain ⟨e5, e6⟩ := may_leaf hk hm hs2
        have c5 : cntD k x.f5 = 0 := by rw [e5]; cases k <;> rfl
        have c6 : cntD k x.f6 = 0 := by rw [e6]; cases k <;> rfl
        have o5 : okD k x.f5 := by rw [e5]; cases k; rfl; intro y hy; cases hy
        have o6 : okD k x.f6 := by rw [e6]; cases k; rfl; intro y hy; cases hy
        by_cases hbig : n + 1 ≤ 8192
        · obtain ⟨F, hF⟩ := ih (i + 1) (n + 1) hdrop1 (fun y hy => hw y (by simp [hy])) hbig
          refine ⟨K + F + 2, ?_⟩
          rw [head (K + F + 1) (by omega), if_pos rfl, hbl, scarfref05_Count.j1]
          simp only [Bool.false_eq_true, if_false]
          rw [if_neg (by omega), succ3 i (by omega), cul hF (by omega)]
          by_cases hr : okD (k + 1) ys ∧ n + 1 + cntD (k + 1) ys ≤ 8192
          · rw [resR_yes hr.1 hr.2, resR_yes (hok.mpr ⟨⟨hokx, o5, o6, fun _ => hbl⟩, hr.1⟩) (by omega), hcnt, c5, c6]
            congr 2
            omega
          · rw [resR_no hr, resR_no]
            rintro ⟨g1, g2⟩
            exact hr ⟨(hok.mp g1).2, by omega⟩
        · refine ⟨K + 2, ?_⟩
          rw [head (K + 1) (by omega), if_pos rfl, hbl, scarfref05_Count.j1]
          simp only [Bool.false_eq_true, if_false]
          rw [if_pos (by omega), resR_no]
          rintro ⟨g1, g2⟩
          omega
      | true =>
        by_cases h32 : deep = 32
        · refine ⟨K + 2, ?_⟩
          rw [head (K + 1) (by omega), if_pos rfl, hbl, scarfref05_Count.j1, if_pos rfl, if_pos h32, resR_no]
          rintro ⟨g1, _⟩
          have q := (hok.mp g1).1
          have k0 : k = 0 := by omega
          have := q.2.2.2 k0
          rw [hbl] at this; cases this
        · obtain ⟨F5, hF5⟩ := IH h32 x.f5 h5 l5
          obtain ⟨F6, hF6⟩ := IH h32 x.f6 h6 l6
          have hk0 : k = 0 → blk x.f0 = false := fun h => by omega
          have step : ∀ F, F5 + F6 ≤ F → scarfref05_Count.j1 (F + 1) l deep ((n + 1 : Nat) : Int) (i : Int) true = if resR k 0 x.f5 < 0 then scarfref05_Count.j2 F l deep ((n + 1 : Nat) : Int) (i : Int) (resR k 0 x.f5) (resR k 0 x.f6) true else scarfref05_Count.j2 F l deep ((n + 1 : Nat) : Int) (i : Int) (resR k 0 x.f5) (resR k 0 x.f6) (decide (resR k 0 x.f6 < 0)) := by
            intro F hF
            rw [scarfref05_Count.j1, if_pos rfl, if_neg h32, if_pos (by omega), if_pos (by omega), hx, wrap64_id (by omega) (by omega), cu hF5 (by omega), Option.bind_some, cu hF6 (by omega), Option.bind_some]
          by_cases c5 : okD k x.f5 ∧ 0 + cntD k x.f5 ≤ 8192
          · by_cases c6 : okD k x.f6 ∧ 0 + cntD k x.f6 ≤ 8192
            · have st2 : ∀ F, F5 + F6 ≤ F → scarfref05_Count.j1 (F + 2) l deep ((n + 1 : Nat) : Int) (i : Int) true = if ((n + 1 + cntD k x.f5 + cntD k x.f6 : Nat) : Int) > 8192 then some (-1) else scarfref05_Count.l0 F l deep ((n + 1 + cntD k x.f5 + cntD k x.f6 : Nat) : Int) ((i + 1 : Nat) : Int) := by
                intro F hF
                rw [step (F + 1) (by omega), resR_yes c5.1 c5.2, resR_yes c6.1 c6.2, if_neg (by omega), decide_eq_false (by omega), scarfref05_Count.j2]
                simp only [Bool.false_eq_true, if_false]
                rw [sum2 n _ _ hn c5.2 c6.2, succ3 i (by omega)]
              by_cases hbig : n + 1 + cntD k x.f5 + cntD k x.f6 ≤ 8192
              · obtain ⟨F, hF⟩ := ih (i + 1) (n + 1 + cntD k x.f5 + cntD k x.f6) hdrop1 (fun y hy => hw y (by simp [hy])) hbig
                refine ⟨K + F5 + F6 + F + 3, ?_⟩
                rw [head (K + F5 + F6 + F + 2) (by omega), if_pos rfl, hbl, st2 _ (by omega), if_neg (by omega), cul hF (by omega)]
                by_cases hr : okD (k + 1) ys ∧ n + 1 + cntD k x.f5 + cntD k x.f6 + cntD (k + 1) ys ≤ 8192
                · rw [resR_yes hr.1 hr.2, resR_yes (hok.mpr ⟨⟨hokx, c5.1, c6.1, hk0⟩, hr.1⟩) (by omega), hcnt]
                  congr 2
                  omega
                · rw [resR_no hr, resR_no]
                  rintro ⟨g1, g2⟩
                  exact hr ⟨(hok.mp g1).2, by omega⟩
              · refine ⟨K + F5 + F6 + 3, ?_⟩
                rw [head (K + F5 + F6 + 2) (by omega), if_pos rfl, hbl, st2 _ (by omega), if_pos (by omega), resR_no]
                rintro ⟨g1, g2⟩
                omega
            · refine ⟨K + F5 + F6 + 3, ?_⟩
              rw [head (K + F5 + F6 + 2) (by omega), if_pos rfl, hbl, step (K + F5 + F6 + 1) (by omega), resR_yes c5.1 c5.2, resR_no c6, if_neg (by omega), decide_eq_true (by decide), scarfref05_Count.j2, if_pos rfl, resR_no]
              rintro ⟨g1, g2⟩
              exact c6 ⟨(hok.mp g1).1.2.2.1, by omega⟩
          · refine ⟨K + F5 + F6 + 3, ?_⟩
            rw [head (K + F5 + F6 + 2) (by omega), if_pos rfl, hbl, step (K + F5 + F6 + 1) (by omega), resR_no c5, if_pos (by decide), scarfref05_Count.j2, if_pos rfl, resR_no]
            rintro ⟨g1, g2⟩
            exact c5 ⟨(hok.mp g1).1.2.1, by omega⟩
theorem rcount_f : ∀ (k : Nat) (deep : Int), 0 ≤ deep → deep + (k + 1 : Nat) = 33 → ∀ (l : List S54), (∀ x ∈ l, WfI x) → l.length ≤ 17592186044416 → ∃ F, scarfref05_Count.f F l deep = some (resR (k + 1) 0 l) := by
  intro k
  induction k with
  | zero =>
    intro deep h0 hd l hw hlen
    obtain ⟨F, hF⟩ := rcount_l0 0 deep h0 hd (fun h => by omega) l hlen l 0 0 (by simp) hw (by omega)
    refine ⟨F + 1, ?_⟩
    rw [scarfref05_Count.f]
    exact hF
  | succ k ih =>
    intro deep h0 hd l hw hlen
    obtain ⟨F, hF⟩ := rcount_l0 (k + 1) deep h0 hd (fun h l h2 h3 => ih (deep + 1) (by omega) (by omega) l h2 h3) l hlen l 0 0 (by simp) hw (by omega)
    refine ⟨F + 1, ?_⟩
    rw [scarfref05_Count.f]
    exact hF
theorem b1 (n : Int) : scarfref05_byte1.f n = some (strOfNums [n % 256]) := rfl
theorem rputU {a : Int} (h : inx a = true) (k : Nat) (hk : 12 ≤ k) : scarfref01_PutU.f k a = some (strOfNums (pu a.toNat)) := by
  have := inx_iff.mp h
  rw [rPutU_eq a (by omega) k hk]
  unfold puZ
  rw [if_neg (by omega)]
theorem inner_len {k : Nat} {x : S54} : (encD k x.f5).length ≤ (inner (encD k) x).length ∧ (x.f6.length ≠ 0 → (encD k x.f5).length + (encD k x.f6).length ≤ (inner (encD k) x).length) := by
  unfold inner
  simp only [List.length_append, List.length_singleton]
  constructor
  · omega
  · intro h
    rw [if_neg h]
    simp only [List.length_cons]; omega
set_option maxHeartbeats 2000000 in
theorem rsingle_eq {T : List S54 → Option ByteArray} {k : Nat} {x : S54} (hx : okx x) (hN : ∀ n ∈ x.f4, (Lit.int .i64 n).wf = true) (hT5 : T x.f5 = some (strOfNums (encD k x.f5))) (hT6 : T x.f6 = some (strOfNums (encD k x.f6))) (hz : (encX (encD k) x).length ≤ 90000000) :
    rsingleF T x = some (strOfNums (encX (encD k) x)) := by
  obtain ⟨s, t, hs, ht, hm, h0, h1⟩ := hx
  have hk := shp_ok hs
  have hrng := hk.range
  rw [encX_eq hs] at hz ⊢
  unfold rsingleF
  have hsh : scarfref05_Shape.f 1999 x.f0 = some (s, 0) := by
    obtain ⟨r, hs1, hr⟩ := shp_same x.f0
    have e60 : instr_Shape.f 60 x.f0 = some (s, 0) := at_rounds (instr_Shape.mono x.f0) (by omega) hs
    rw [e60] at hs1
    rw [← Option.some.inj hs1] at hr
    exact at_rounds (scarfref05_Shape.mono x.f0) (by omega) hr
  have hj : scarfref05_single.f T 2000 x.f0 x.f1 x.f2 x.f3 x.f4 x.f5 x.f6 = scarfref05_single.j0 T 2000 (strOfNums (opb x.f0)) x.f0 x.f1 x.f2 x.f3 x.f4 x.f5 x.f6 := by
    unfold scarfref05_single.f opb
    rw [b1, Option.bind_some]
    by_cases h : x.f0 ≥ 64512
    · rw [if_pos h, if_pos h, b1, Option.bind_some, wrap64_id (by omega) (by omega), rputU (inx_iff.mpr (by omega)) 2000 (by omega), Option.bind_some]
      have hp := pu5 (n := (x.f0 - 64512).toNat) (by omega)
      rw [if_pos (by rw [strOfNums_size, strOfNums_size]; simp only [List.length_singleton]; omega), ← strOfNums_append]
      rfl
    · rw [if_neg h, if_neg h, show x.f0 % 256 = x.f0 by omega]
  rw [hj, scarfref05_single.j0, hsh, Option.bind_some]
  simp only [List.length_append] at hz
  have hop := opb_len hk
  have hbl := body_len hk hm h0 h1
  have hps := rPutS_eq x.f1 h0 h1 1999 (by omega)
  have hpl := ps10 h0 h1
  have sz : ∀ a b : List Int, a.length + b.length ≤ 1000000000 → (strOfNums a).size + (strOfNums b).size ≤ 9223372036854775807 := fun a b h => by rw [strOfNums_size, strOfNums_size]; omega
  obtain ⟨op, a, b, m, N, L, E⟩ := x
  simp only at *
  rcases s_cases hk with rfl | rfl | rfl | rfl | rfl | rfl | rfl | rfl | rfl | rfl | rfl
  · simp [body]
  · have hb2 : body 2 (⟨op, a, b, m, N, L, E⟩ : S54) = ps a := rfl
    have hin : (encD k L).length ≤ (inner (encD k) (⟨op, a, b, m, N, L, E⟩ : S54)).length := (inner_len (k := k) (x := ⟨op, a, b, m, N, L, E⟩)).1
    simp only [if_true] at hz ⊢
    rw [hb2] at hz ⊢
    rw [hps, Option.bind_some, if_pos (sz _ _ (by omega)), ← strOfNums_append, hT5, Option.bind_some, if_pos (sz _ _ (by simp only [List.length_append]; omega)), ← strOfNums_append]
    have ein : inner (encD k) (⟨op, a, b, m, N, L, E⟩ : S54) = encD k L ++ ((if E.length = 0 then [] else 5 :: encD k E) ++ [11]) := rfl
    by_cases hE : E.length = 0
    · rw [if_neg (by omega), b1, Option.bind_some, if_pos (sz _ _ (by simp only [List.length_append, List.length_singleton]; omega)), ← strOfNums_append, ein, if_pos hE]
      simp only [List.append_assoc, List.nil_append, Int.reduceMod]
    · have hin2 : (encD k L).length + (encD k E).length ≤ (inner (encD k) (⟨op, a, b, m, N, L, E⟩ : S54)).length := (inner_len (k := k) (x := ⟨op, a, b, m, N, L, E⟩)).2 hE
      rw [if_pos (by omega), b1, Option.bind_some, if_pos (sz _ _ (by simp only [List.length_append, List.length_singleton]; omega)), ← strOfNums_append, hT6, Option.bind_some, if_pos (sz _ _ (by simp only [List.length_append, List.length_singleton]; omega)), ← strOfNums_append, b1, Option.bind_some,
        if_pos (sz _ _ (by simp only [List.length_append, List.length_singleton]; omega)), ← strOfNums_append, ein, if_neg hE]
      simp only [List.append_assoc, List.nil_append, List.cons_append, Int.reduceMod]
  · simp [mayS] at hm
    simp only [body, Int.reduceEq, if_false, if_true] at hz hbl ⊢
    rw [rputU hm.1 1999 (by omega), Option.bind_some, if_pos (sz _ _ (by omega)), ← strOfNums_append, List.append_nil]
  · simp [mayS] at hm
    obtain ⟨⟨⟨ha, hn⟩, hNx⟩, rfl, rfl, rfl, rfl⟩ := hm
    simp only [body, Int.reduceEq, if_false, if_true] at hz hbl ⊢
    simp only [List.length_append] at hz hbl
    rw [rPutAll_eq N hN (by omega) 1999 (by omega), Option.bind_some, if_pos (sz _ _ (by simp only [List.length_append]; omega)), ← strOfNums_append, rputU ha 1999 (by omega), Option.bind_some, if_pos (sz _ _ (by simp only [List.length_append]; omega)), ← strOfNums_append]
    simp only [List.append_assoc, List.append_nil]
  · simp [mayS] at hm
    simp only [body, Int.reduceEq, if_false, if_true] at hz hbl ⊢
    simp only [List.length_append] at hz hbl
    rw [rputU hm.1.1 1999 (by omega), Option.bind_some, if_pos (sz _ _ (by omega)), ← strOfNums_append, rputU hm.1.2 1999 (by omega), Option.bind_some, if_pos (sz _ _ (by simp only [List.length_append]; omega)), ← strOfNums_append]
    simp only [List.append_assoc, List.append_nil]
  · simp [mayS] at hm
    obtain ⟨g1, g2⟩ := ty_ok (t := t.1) (e := t.2) ht hm.1
    simp only [body, Int.reduceEq, if_false, if_true] at hz hbl ⊢
    rw [b1, Option.bind_some, if_pos (sz _ _ (by simp only [List.length_singleton]; omega)), ← strOfNums_append, b1, Option.bind_some, if_pos (sz _ _ (by simp only [List.length_append, List.length_singleton]; omega)), ← strOfNums_append, show a % 256 = a by omega]
    simp only [List.append_assoc, List.append_nil, List.cons_append, List.nil_append, Int.reduceMod]
  · simp [mayS] at hm
    obtain ⟨⟨⟨⟨ha, hmm⟩, hb0⟩, hb1⟩, rfl, rfl, rfl⟩ := hm
    have hmi := inx_iff.mp hmm
    simp only [body, Int.reduceEq, if_false, if_true] at hz hbl ⊢
    by_cases hm0 : m = 0
    · rw [if_neg (show ¬ m > 0 by omega)] at hz hbl ⊢
      simp only [List.length_append] at hz hbl
      rw [if_pos hm0, rputU (inx_iff.mpr (by omega)) 1999 (by omega), Option.bind_some, if_pos (sz _ _ (by omega)), ← strOfNums_append, rputU ha 1999 (by omega), Option.bind_some, if_pos (sz _ _ (by simp only [List.length_append]; omega)), ← strOfNums_append]
      simp only [List.append_assoc, List.append_nil]
    · rw [if_pos (show m > 0 by omega)] at hz hbl ⊢
      simp only [List.length_append] at hz hbl
      rw [if_neg hm0, wrap64_id (by omega) (by omega), rputU (inx_iff.mpr (by omega)) 1999 (by omega), Option.bind_some, if_pos (sz _ _ (by omega)), ← strOfNums_append, rputU hmm 1999 (by omega), Option.bind_some, if_pos (sz _ _ (by simp only [List.length_append]; omega)), ← strOfNums_append,
        rputU ha 1999 (by omega), Option.bind_some, if_pos (sz _ _ (by simp only [List.length_append]; omega)), ← strOfNums_append]
      simp only [List.append_assoc, List.append_nil]
  · simp [mayS] at hm
    simp only [body, Int.reduceEq, if_false, if_true] at hz hbl ⊢
    rw [rputU hm.1 1999 (by omega), Option.bind_some, if_pos (sz _ _ (by omega)), ← strOfNums_append, List.append_nil]
  · simp [mayS] at hm
    simp only [body, Int.reduceEq, if_false, if_true] at hz hbl ⊢
    simp only [List.length_append] at hz hbl
    rw [rputU hm.1.2 1999 (by omega), Option.bind_some, if_pos (sz _ _ (by omega)), ← strOfNums_append, rputU hm.1.1 1999 (by omega), Option.bind_some, if_pos (sz _ _ (by simp only [List.length_append]; omega)), ← strOfNums_append]
    simp only [List.append_assoc, List.append_nil]
  · simp only [body, Int.reduceEq, if_false, if_true] at hz hbl ⊢
    rw [hps, Option.bind_some, if_pos (sz _ _ (by omega)), ← strOfNums_append, List.append_nil]
  · simp only [body, Int.reduceEq, if_false, if_true] at hz hbl ⊢
    rw [b1, Option.bind_some, if_pos (sz _ _ (by simp only [List.length_singleton]; omega)), ← strOfNums_append]
    simp only [List.append_nil, Int.reduceMod]
theorem okx_N {x : S54} (h : okx x) : ∀ n ∈ x.f4, (Lit.int .i64 n).wf = true := by
  obtain ⟨s, t, hs, ht, hm, _, _⟩ := h
  have hk := shp_ok hs
  have key : ∀ n ∈ x.f4, inx n = true := by
    rcases s_cases hk with rfl | rfl | rfl | rfl | rfl | rfl | rfl | rfl | rfl | rfl | rfl <;> simp [mayS] at hm
    · rw [hm.2.2.2.1]; intro n hn; cases hn
    · rw [hm.2.2.2]; intro n hn; cases hn
    · rw [hm.2.2.2.1]; intro n hn; cases hn
    · exact hm.1.2
    · rw [hm.2.2.1]; intro n hn; cases hn
    · rw [hm.2.2.2.1]; intro n hn; cases hn
    · rw [hm.2.1]; intro n hn; cases hn
    · rw [hm.2.2.2.1]; intro n hn; cases hn
    · rw [hm.2.2.1]; intro n hn; cases hn
    · rw [hm.2.2.2.1]; intro n hn; cases hn
    · rw [hm.2.2.2.1]; intro n hn; cases hn
  intro n hn
  have := inx_iff.mp (key n hn)
  exact wf64_mk (by omega) (by omega)
theorem rtextL_eq (one : S54 → Option ByteArray) (e : S54 → List Int) : ∀ (l : List S54) (s0 : List Int), (∀ x ∈ l, one x = some (strOfNums (e x))) → s0.length + (encL e l).length ≤ 1000000000 → rtextL one (strOfNums s0) l = some (strOfNums (s0 ++ encL e l)) := by
  intro l
  induction l with
  | nil => intro s0 _ _; simp [rtextL, encL]
  | cons x l ih =>
    intro s0 h hz
    have he : encL e (x :: l) = e x ++ encL e l := rfl
    rw [he] at hz ⊢
    simp only [List.length_append] at hz
    rw [rtextL, h x (by simp), Option.bind_some, if_pos (by rw [strOfNums_size, strOfNums_size]; omega), ← strOfNums_append, ih (s0 ++ e x) (fun y hy => h y (by simp [hy])) (by simp only [List.length_append]; omega)]
    rw [List.append_assoc]
theorem rtextF_eq : ∀ (k j : Nat) (l : List S54), k < j → okD k l → cntD k l ≤ 8192 → rtextF j l = some (strOfNums (encD k l)) := by
  intro k
  induction k with
  | zero =>
    intro j l hj hl _
    obtain ⟨j, rfl⟩ : ∃ i, j = i + 1 := ⟨j - 1, by omega⟩
    rw [show l = [] from hl]
    unfold rtextF
    rw [if_pos (by simp)]
    rfl
  | succ k ih =>
    intro j l hj hl hc
    obtain ⟨j, rfl⟩ : ∃ i, j = i + 1 := ⟨j - 1, by omega⟩
    have hlen := cntD_len k l
    have hsz := encD_size (k + 1) l hl
    have hsub : ∀ x ∈ l, cntD k x.f5 + cntD k x.f6 ≤ cntD (k + 1) l ∧ (encX (encD k) x).length ≤ (encD (k + 1) l).length := by
      clear hc hlen hl hsz
      induction l with
      | nil => intro x hx; cases hx
      | cons y l ihl =>
        intro x hx
        have e : encD (k + 1) (y :: l) = encX (encD k) y ++ encD (k + 1) l := rfl
        rw [cnt_le, e, List.length_append]
        rcases List.mem_cons.mp hx with rfl | hx
        · omega
        · have := ihl x hx; omega
    unfold rtextF
    rw [if_pos (by omega)]
    have h := rtextL_eq (rsingleF (rtextF j)) (encX (encD k)) l [] (fun x hx => by
      obtain ⟨hx1, hL, hE, _⟩ := hl x hx
      have h1 := hsub x hx
      exact rsingle_eq hx1 (okx_N hx1) (ih j x.f5 (by omega) hL (by omega)) (ih j x.f6 (by omega) hE (by omega)) (by omega)) (by
        have e : encL (encX (encD k)) l = encD (k + 1) l := rfl
        rw [e]; simp; omega)
    rw [str_nil, List.nil_append] at h
    exact h
theorem law_puts (l : List S54) (hm : l.length ≤ 17592186044416) (hw : ∀ x ∈ l, WfI x) : ∃ k, scarflaw05_InstrPuts.f k l = some true := by
  obtain ⟨F, hF⟩ := rcount_f 32 0 (by omega) (by omega) l hw hm
  refine ⟨F + 1000000, ?_⟩
  have hc : scarfref05_Count.f (F + 1000000) l 0 = some (resR 33 0 l) := cu hF (by omega)
  have aw : (scarflaw05_awake.f (F + 1000000)).bind (fun t => some t) = some true := by rw [awk _ (by omega)]; rfl
  unfold scarflaw05_InstrPuts.f scarfref05_Put.f
  by_cases h : Fits l
  · have h2 := h.2
    have hlen := h.len
    rw [Put_yes hw hm h, Option.bind_some, hc, resR_yes h.1 (by omega), Option.bind_some, if_neg (by omega)]
    unfold scarfref05_text.f
    rw [rtextF_eq 33 60 l (by omega) h.1 h2, Option.bind_some, b1, Option.bind_some, if_pos (by rw [strOfNums_size, strOfNums_size]; simp only [List.length_singleton]; omega), ← strOfNums_append, Option.bind_some, Count_eq hw hm _ (by omega), resC_yes h.1 (by omega), Option.bind_some, Option.bind_some]
    simp only [Int.reduceMod, if_true]
    rw [if_pos (by unfold mx; omega), decide_eq_true (by omega)]
    simp only [beq_self_eq_true, if_true]
    exact aw
  · have hno : ¬ (okD 33 l ∧ 0 + cntD 33 l ≤ 8192) := fun ⟨h1, h2⟩ => h ⟨h1, by omega⟩
    rw [Put_no hw hm h, Option.bind_some, hc, resR_no hno, Option.bind_some, if_pos (by decide), Option.bind_some, Count_eq hw hm _ (by omega), resC_no hno, Option.bind_some, Option.bind_some]
    simp only [if_true]
    rw [if_pos (by decide), if_pos (by decide)]
    exact aw
end Go.Proofs.Ytckhlbpjehbnlaa.PB
