/- Several texts of this session, laid into one for a claim: InstrN, Reads, InstrRd, InstrK, InstrF, InstrC, InstrG, InstrAw, InstrH, InstrCut. -/
import Derived.Test.YtckhlbpjehbnlaaGInstrCut5
import Derived.Test.YtckhlbpjehbnlaaWWords
import Derived.ChangeArms
import Derived.ChangeShapes
import Derived.DataReads
import Derived.SizedLaws
import Derived.Test.YtckhlbpjehbnlaaGInstrCut0
import Derived.Test.YtckhlbpjehbnlaaGInstrCut2
import Derived.Test.YtckhlbpjehbnlaaGInstrCut4
import Derived.Test.YtckhlbpjehbnlaaGInstrCut3
namespace Go.Proofs.Ytckhlbpjehbnlaa.PB
open Go.RowKit Go.Proofs.YtckhlbpjehbnlaaW.PrintWords Go.Proofs.YtckhlbpjehbnlaaW.PrintLast Go.Proofs.YtckhlbpjehbnlaaW.PrintMore
open Go.Proofs.Ytckhlbpjehbnlaa.Str Go.Proofs.Ytckhlbpjehbnlaa.LebS Go.Proofs.Ytckhlbpjehbnlaa.LebF
set_option linter.unusedVariables false
set_option linter.unusedSimpArgs false

/-- An instruction's own numbers' bytes, by its shape. -/
def body (s : Int) (x : S54) : List Int :=
  if s = 2 then ps x.f1
  else if s = 3 then pu x.f1.toNat
  else if s = 4 then pu x.f4.length ++ (puA x.f4 ++ pu x.f1.toNat)
  else if s = 5 then pu x.f1.toNat ++ pu x.f3.toNat
  else if s = 6 then [1, x.f1]
  else if s = 7 then (if x.f3 > 0 then pu (x.f2 + 64).toNat ++ (pu x.f3.toNat ++ pu x.f1.toNat) else pu x.f2.toNat ++ pu x.f1.toNat)
  else if s = 8 then pu x.f3.toNat
  else if s = 9 then pu x.f3.toNat ++ pu x.f1.toNat
  else if s = 10 then ps x.f1
  else if s = 11 then [112]
  else []
theorem inx_iff {n : Int} : inx n = true ↔ 0 ≤ n ∧ n < 4294967296 := by simp [inx]
theorem bty_iff {n : Int} : bty n = true ↔ (0 ≤ n ∧ n < 4294967296) ∨ n = -64 ∨ n = -1 ∨ n = -2 ∨ n = -16 := by
  unfold bty
  simp only [Bool.or_eq_true, inx_iff, beq_iff_eq]
  omega
theorem sm_app {a b : List Int} (h : Sm (a ++ b)) : Sm b := by
  have : (a ++ b).length ≤ 140737488351232 := h
  rw [List.length_append] at this
  show b.length ≤ _
  omega
theorem rU_pu {m n : Int} {more : List Int} (h : 0 ≤ m ∧ m < 4294967296) (hr : Rng more) (hs : Sm (pu m.toNat ++ more)) : rU (strOfNums (pu m.toNat ++ more), n, 0) = some (m, strOfNums more, n, 0) := by
  refine rU_some ((Rng.pu _).app hr) hs ?_
  rw [takeU_pu, if_pos (by omega), show ((m.toNat : Nat) : Int) = m by omega]
theorem rU_cut {k : Nat} {n : Int} {p : List Int} (h : Cutp p (pu k)) (hs : Sm p) : rU (strOfNums p, n, 0) = some (0, ⟨#[]⟩, n, 2) := rU_none (cut_rng h (Rng.pu _)) hs (takeU_cut h)
theorem takeN_puA : ∀ (N : List Int) (more : List Int), (∀ x ∈ N, inx x = true) → takeN N.length (puA N ++ more) = some (N, more) := by
  intro N
  induction N with
  | nil => intro more _; rfl
  | cons x N ih =>
    intro more h
    have hx := inx_iff.mp (h x (by simp))
    have e : puZ x = pu x.toNat := by unfold puZ; rw [if_neg (by omega)]
    simp only [List.length_cons, puA, takeN, e, List.append_assoc]
    rw [takeU_pu, if_pos (by omega), show ((x.toNat : Nat) : Int) = x by omega]
    simp only [ih more (fun y hy => h y (by simp [hy]))]
theorem takeN_cut : ∀ (N : List Int) (p : List Int), (∀ x ∈ N, inx x = true) → Cutp p (puA N) → takeN N.length p = none := by
  intro N
  induction N with
  | nil => intro p _ h; exact (cut_nil h).elim
  | cons x N ih =>
    intro p h hp
    have hx := inx_iff.mp (h x (by simp))
    have e : puZ x = pu x.toNat := by unfold puZ; rw [if_neg (by omega)]
    simp only [puA, e] at hp
    simp only [List.length_cons, takeN]
    rcases cut_app hp with hc | ⟨p', rfl, hc⟩
    · rw [takeU_cut hc]
    · rw [takeU_pu, if_pos (by omega)]
      simp only [ih p' (fun y hy => h y (by simp [hy])) hc]
theorem ps_head {a : Int} (h0 : 0 ≤ a) (more : List Int) : NoC (ps a ++ more) := by
  intro c r hc
  by_cases h : -64 ≤ a ∧ a < 64
  · rw [ps_small h] at hc
    simp at hc
    omega
  · rw [ps_big h] at hc
    simp at hc
    omega
theorem ps_headcut {a : Int} (h0 : 0 ≤ a) {p : List Int} (hp : Cutp p (ps a)) : NoC p := by
  intro c r hc
  obtain ⟨q, hq, _⟩ := hp
  rw [hc] at hq
  exact ps_head h0 [] c (r ++ q) (by rw [List.append_nil, hq]; rfl)
theorem rBlock_ps {a n : Int} {more : List Int} (h : bty a = true) (hr : Rng more) (hs : Sm (ps a ++ more)) : rBlock (strOfNums (ps a ++ more), n, 0) = some (a, strOfNums more, n, 0) := by
  rcases bty_iff.mp h with h | h | h | h | h
  · have := rBlock_some (n := n) (ps_head h.1 more) ((Rng.ps a).app hr) hs (v := a) (r := more) (by rw [takeS_ps33, if_pos (by omega)])
    rw [this, if_neg (by omega)]
  · subst h
    have e : ps (-64) = [64] := by rw [ps_small (by omega)]; rfl
    rw [e] at hs ⊢
    have := rBlock_c (c := 64) (l := more) (n := n) (Rng.cons (by omega) hr) (by omega) (by omega) (show instr_Type.f 5 64 = some (0, 2) by decide +kernel)
    rw [List.singleton_append, this, if_pos rfl]; rfl
  · subst h
    have e : ps (-1) = [127] := by rw [ps_small (by omega)]; rfl
    rw [e] at hs ⊢
    have := rBlock_c (c := 127) (l := more) (n := n) (Rng.cons (by omega) hr) (by omega) (by omega) (show instr_Type.f 5 127 = some (127, 0) by decide +kernel)
    rw [List.singleton_append, this, if_neg (by omega)]; rfl
  · subst h
    have e : ps (-2) = [126] := by rw [ps_small (by omega)]; rfl
    rw [e] at hs ⊢
    have := rBlock_c (c := 126) (l := more) (n := n) (Rng.cons (by omega) hr) (by omega) (by omega) (show instr_Type.f 5 126 = some (126, 0) by decide +kernel)
    rw [List.singleton_append, this, if_neg (by omega)]; rfl
  · subst h
    have e : ps (-16) = [112] := by rw [ps_small (by omega)]; rfl
    rw [e] at hs ⊢
    have := rBlock_c (c := 112) (l := more) (n := n) (Rng.cons (by omega) hr) (by omega) (by omega) (show instr_Type.f 5 112 = some (112, 0) by decide +kernel)
    rw [List.singleton_append, this, if_neg (by omega)]; rfl
theorem rBlock_cut {a n : Int} {p : List Int} (h : bty a = true) (hp : Cutp p (ps a)) (hs : Sm p) : rBlock (strOfNums p, n, 0) = some (0, ⟨#[]⟩, n, 2) := by
  have hn : NoC p := by
    rcases bty_iff.mp h with h | h
    · exact ps_headcut h.1 hp
    · rw [ps_small (by omega)] at hp
      rw [cut_one hp]
      intro c r hc
      cases hc
  exact rBlock_none hn (cut_rng hp (Rng.ps a)) hs (takeS_cut hp 33)
theorem takeA_fwd {N : List Int} (hN : ∀ x ∈ N, inx x = true) (hn : N.length ≤ 1000) (more : List Int) : takeA (pu N.length ++ (puA N ++ more)) 1000 = (N, strOfNums more, 0) := by
  unfold takeA
  rw [takeU_pu, if_pos (by omega)]
  simp only
  rw [if_neg (by omega), show ((N.length : Nat) : Int).toNat = N.length by omega, takeN_puA N more hN]
theorem place_fwd {a b m n : Int} {more : List Int} (ha : 0 ≤ a ∧ a < 4294967296) (hm : 0 ≤ m ∧ m < 4294967296) (hb0 : 0 ≤ b) (hb1 : b < 64) (hr : Rng more)
    (hs : Sm ((if m > 0 then pu (b + 64).toNat ++ (pu m.toNat ++ pu a.toNat) else pu b.toNat ++ pu a.toNat) ++ more)) :
    placeF (strOfNums ((if m > 0 then pu (b + 64).toNat ++ (pu m.toNat ++ pu a.toNat) else pu b.toNat ++ pu a.toNat) ++ more), n, 0) = some (a, b, m, strOfNums more, n, 0) := by
  unfold placeF
  by_cases h : m > 0
  · rw [if_pos h] at hs ⊢
    rw [List.append_assoc, List.append_assoc] at hs ⊢
    have r1 : Rng (pu m.toNat ++ (pu a.toNat ++ more)) := (Rng.pu _).app ((Rng.pu _).app hr)
    rw [rU_pu (m := b + 64) (by omega) r1 hs]
    simp only [Option.bind_some]
    rw [if_neg (by omega)]
    simp only [Option.bind_some]
    rw [if_pos (by omega), rU_pu (m := m) hm r1.right (sm_app hs)]
    simp only [Option.bind_some]
    rw [rU_pu (m := a) ha hr (sm_app (sm_app hs))]
    simp only [Option.bind_some]
    rw [wrap64_id (by omega) (by omega), show b + 64 - 64 = b by omega]
  · rw [if_neg h] at hs ⊢
    rw [List.append_assoc] at hs ⊢
    have r1 : Rng (pu a.toNat ++ more) := (Rng.pu _).app hr
    rw [rU_pu (m := b) (by omega) r1 hs]
    simp only [Option.bind_some]
    rw [if_neg (by omega)]
    simp only [Option.bind_some]
    rw [if_neg (by omega), rU_pu (m := a) ha hr (sm_app hs)]
    simp only [Option.bind_some]
    rw [show m = 0 by omega]
theorem ty_self {c : Int} (h : c = 127 ∨ c = 126 ∨ c = 112) : instr_Type.f 5 c = some (c, 0) := by
  rcases h with rfl | rfl | rfl <;> decide +kernel
theorem ty_ok {c t e : Int} (h : instr_Type.f 5 c = some (t, e)) (he : e = 0) : t = c ∧ (c = 127 ∨ c = 126 ∨ c = 112) := by
  obtain ⟨t', e', h', hk⟩ := ty_at c
  rw [h'] at h
  obtain ⟨rfl, rfl⟩ := Prod.mk.inj (Option.some.inj h)
  rcases hk with ⟨_, h1, h2⟩ | ⟨_, h2, _⟩
  · exact ⟨h1, h2⟩
  · exact absurd he h2
theorem s_cases {op s : Int} (h : ShOk op s) : s = 1 ∨ s = 2 ∨ s = 3 ∨ s = 4 ∨ s = 5 ∨ s = 6 ∨ s = 7 ∨ s = 8 ∨ s = 9 ∨ s = 10 ∨ s = 11 := by
  have := h.s1
  have := h.s11
  omega
theorem const_bits {op : Int} (h : op = 65 ∨ op = 66) : wrap64 (32 + wrap64 (32 * wrap64 (op - 65))) = if op = 66 then 64 else 32 := by
  rcases h with rfl | rfl <;> decide +kernel
theorem const_fwd {op a n : Int} {more : List Int} (h : op = 65 ∨ op = 66) (h0 : -9223372036854775808 ≤ a) (h1 : a < 9223372036854775808) (ha : op = 66 ∨ (-2147483648 ≤ a ∧ a < 2147483648)) (hr : Rng more) (hs : Sm (ps a ++ more)) :
    rSigned (strOfNums (ps a ++ more), n, 0) (wrap64 (32 + wrap64 (32 * wrap64 (op - 65)))) = some (a, strOfNums more, n, 0) := by
  rw [const_bits h]
  by_cases h66 : op = 66
  · rw [if_pos h66]
    exact rS_some (.inr (.inr rfl)) ((Rng.ps a).app hr) hs (takeS_ps a h0 h1 more)
  · rw [if_neg h66]
    exact rS_some (.inl rfl) ((Rng.ps a).app hr) hs (by rw [takeS_ps32, if_pos (by omega)])
set_option maxHeartbeats 1000000 in
theorem num_fwd {x : S54} {s n : Int} {t : Int × Int} {more : List Int} (hs : instr_Shape.f 40 x.f0 = some (s, 0)) (ht : instr_Type.f 5 x.f1 = some t) (hm : mayS s x.f0 x.f1 x.f2 x.f3 x.f4 x.f5 x.f6 t = true)
    (h0 : -9223372036854775808 ≤ x.f1) (h1 : x.f1 < 9223372036854775808) (hr : Rng more) (hz : Sm (body s x ++ more)) : numF (strOfNums (body s x ++ more), n, 0) x.f0 = some (x.f1, x.f2, x.f3, x.f4, strOfNums more, n, 0) := by
  have hk := shp_ok hs
  obtain ⟨op, a, b, m, N, L, E⟩ := x
  simp only at hs ht hm h0 h1 hk ⊢
  unfold numF
  rw [hs]
  simp only [Option.bind_some, rFail_0]
  rcases s_cases hk with rfl | rfl | rfl | rfl | rfl | rfl | rfl | rfl | rfl | rfl | rfl
  · simp [mayS] at hm
    obtain ⟨rfl, rfl, rfl, rfl, rfl, rfl⟩ := hm
    simp [body]
  · simp [mayS] at hm
    obtain ⟨⟨hb, _⟩, rfl, rfl, rfl⟩ := hm
    simp only [body, Int.reduceEq, if_true] at hz ⊢
    rw [rBlock_ps hb hr hz]
    rfl
  · simp [mayS] at hm
    obtain ⟨ha, rfl, rfl, rfl, rfl, rfl⟩ := hm
    simp only [body, Int.reduceEq, if_true, if_false] at hz ⊢
    rw [rU_pu (inx_iff.mp ha) hr hz]
    rfl
  · simp [mayS] at hm
    obtain ⟨⟨⟨ha, hn⟩, hN⟩, rfl, rfl, rfl, rfl⟩ := hm
    simp only [body, Int.reduceEq, if_true, if_false] at hz ⊢
    have hp : Rng (pu N.length ++ (puA N ++ (pu a.toNat ++ more))) := (Rng.pu _).app (Rng.app (puA_range N) ((Rng.pu _).app hr))
    rw [List.append_assoc, List.append_assoc] at hz ⊢
    rw [rLab hp hz, takeA_fwd hN hn]
    simp only [Option.bind_some]
    rw [rU_pu (inx_iff.mp ha) hr (sm_app (sm_app hz))]
    rfl
  · simp [mayS] at hm
    obtain ⟨⟨ha, hm⟩, rfl, rfl, rfl, rfl⟩ := hm
    simp only [body, Int.reduceEq, if_true, if_false] at hz ⊢
    rw [List.append_assoc] at hz ⊢
    rw [rU_pu (inx_iff.mp ha) ((Rng.pu _).app hr) hz]
    simp only [Option.bind_some]
    rw [rU_pu (inx_iff.mp hm) hr (sm_app hz)]
    rfl
  · simp [mayS] at hm
    obtain ⟨he, rfl, rfl, rfl, rfl, rfl⟩ := hm
    obtain ⟨rfl, hc⟩ := ty_ok (t := t.1) (e := t.2) ht he
    simp only [body, Int.reduceEq, if_true, if_false] at hz ⊢
    have e1 : pu (1 : Int).toNat = [1] := by rw [pu_small (by decide)]; rfl
    have h2 : Rng ([t.1] ++ more) := Rng.app (Rng.cons (by omega) Rng.nil) hr
    have hz2 : Sm (pu (1 : Int).toNat ++ ([t.1] ++ more)) := by rw [e1]; exact hz
    have := rU_pu (m := 1) (n := n) (by omega) h2 hz2
    rw [e1] at this
    rw [show [1, t.1] ++ more = [1] ++ ([t.1] ++ more) from rfl, this]
    simp only [Option.bind_some, if_true, List.singleton_append]
    rw [rByte_cons (show Rng (t.1 :: more) from h2)]
    simp only [Option.bind_some]
    rw [ty_self hc]
    simp only [Option.bind_some, rFail_0]
  · simp [mayS] at hm
    obtain ⟨⟨⟨⟨ha, hm⟩, hb0⟩, hb1⟩, rfl, rfl, rfl⟩ := hm
    simp only [body, Int.reduceEq, if_true, if_false] at hz ⊢
    rw [place_fwd (inx_iff.mp ha) (inx_iff.mp hm) hb0 hb1 hr hz]
    rfl
  · simp [mayS] at hm
    obtain ⟨hm, rfl, rfl, rfl, rfl, rfl⟩ := hm
    simp only [body, Int.reduceEq, if_true, if_false] at hz ⊢
    rw [rU_pu (inx_iff.mp hm) hr hz]
    rfl
  · simp [mayS] at hm
    obtain ⟨⟨ha, hm⟩, rfl, rfl, rfl, rfl⟩ := hm
    simp only [body, Int.reduceEq, if_true, if_false] at hz ⊢
    rw [List.append_assoc] at hz ⊢
    rw [rU_pu (inx_iff.mp hm) ((Rng.pu _).app hr) hz]
    simp only [Option.bind_some]
    rw [rU_pu (inx_iff.mp ha) hr (sm_app hz)]
    rfl
  · simp [mayS] at hm
    obtain ⟨ha, rfl, rfl, rfl, rfl, rfl⟩ := hm
    simp only [body, Int.reduceEq, if_true, if_false] at hz ⊢
    rw [const_fwd (hk.ten rfl) h0 h1 (by omega) hr hz]
    rfl
  · simp [mayS] at hm
    obtain ⟨rfl, rfl, rfl, rfl, rfl, rfl⟩ := hm
    simp only [body, Int.reduceEq, if_true, if_false] at hz ⊢
    rw [List.singleton_append, rByte_cons (Rng.cons (by omega) hr)]
    simp only [Option.bind_some]
    rw [ty_self (c := 112) (by omega)]
    simp only [Option.bind_some, rFail_0, if_true]

/-! ### cut off -/
theorem place_cut {a b m n : Int} {p : List Int} (ha : 0 ≤ a ∧ a < 4294967296) (hm : 0 ≤ m ∧ m < 4294967296) (hb0 : 0 ≤ b) (hb1 : b < 64) (hs : Sm p)
    (hp : Cutp p (if m > 0 then pu (b + 64).toNat ++ (pu m.toNat ++ pu a.toNat) else pu b.toNat ++ pu a.toNat)) :
    ∃ a' b' m' z, placeF (strOfNums p, n, 0) = some (a', b', m', z, n, 2) := by
  unfold placeF
  have zero : ∀ {s : ByteArray}, (if (0 : Int) ≥ 128 then rFail (s, n, 2) 2 else some (s, n, 2)) = some (s, n, 2) := by
    intro s; rw [if_neg (by omega)]
  by_cases h : m > 0
  · rw [if_pos h] at hp
    rcases cut_app hp with hc | ⟨p', rfl, hc⟩
    · rw [rU_cut hc hs]
      simp only [Option.bind_some]
      rw [zero]
      simp only [Option.bind_some]
      rw [if_neg (by omega), rU_err (by decide)]
      exact ⟨_, _, _, _, rfl⟩
    · have hr' := cut_rng hc ((Rng.pu _).app (Rng.pu _))
      rw [rU_pu (m := b + 64) (by omega) hr' hs]
      simp only [Option.bind_some]
      rw [if_neg (by omega)]
      simp only [Option.bind_some]
      rw [if_pos (by omega)]
      rcases cut_app hc with hc2 | ⟨p2, rfl, hc2⟩
      · rw [rU_cut hc2 (sm_app hs)]
        simp only [Option.bind_some]
        rw [rU_err (by decide)]
        exact ⟨_, _, _, _, rfl⟩
      · have hr2 := cut_rng hc2 (Rng.pu _)
        rw [rU_pu (m := m) hm hr2 (sm_app hs)]
        simp only [Option.bind_some]
        rw [rU_cut hc2 (sm_app (sm_app hs))]
        exact ⟨_, _, _, _, rfl⟩
  · rw [if_neg h] at hp
    rcases cut_app hp with hc | ⟨p', rfl, hc⟩
    · rw [rU_cut hc hs]
      simp only [Option.bind_some]
      rw [zero]
      simp only [Option.bind_some]
      rw [if_neg (by omega), rU_err (by decide)]
      exact ⟨_, _, _, _, rfl⟩
    · have hr' := cut_rng hc (Rng.pu _)
      rw [rU_pu (m := b) (by omega) hr' hs]
      simp only [Option.bind_some]
      rw [if_neg (by omega)]
      simp only [Option.bind_some]
      rw [if_neg (by omega), rU_cut hc (sm_app hs)]
      exact ⟨_, _, _, _, rfl⟩
theorem takeA_cut1 {N : List Int} (p : List Int) (hc : Cutp p (pu N.length)) : takeA p 1000 = ([], ⟨#[]⟩, 2) := by
  unfold takeA
  rw [takeU_cut hc]
theorem takeA_cut2 {N : List Int} (hN : ∀ x ∈ N, inx x = true) (hn : N.length ≤ 1000) (p : List Int) (hc : Cutp p (puA N)) : takeA (pu N.length ++ p) 1000 = ([], ⟨#[]⟩, 2) := by
  unfold takeA
  rw [takeU_pu, if_pos (by omega)]
  simp only
  rw [if_neg (by omega), show ((N.length : Nat) : Int).toNat = N.length by omega, takeN_cut N p hN hc]
set_option maxHeartbeats 1000000 in
theorem num_cut {x : S54} {s n : Int} {t : Int × Int} {p : List Int} (hs : instr_Shape.f 40 x.f0 = some (s, 0)) (ht : instr_Type.f 5 x.f1 = some t) (hm : mayS s x.f0 x.f1 x.f2 x.f3 x.f4 x.f5 x.f6 t = true)
    (h0 : -9223372036854775808 ≤ x.f1) (h1 : x.f1 < 9223372036854775808) (hp : Cutp p (body s x)) (hz : Sm p) : ∃ a b m N z, numF (strOfNums p, n, 0) x.f0 = some (a, b, m, N, z, n, 2) := by
  have hk := shp_ok hs
  obtain ⟨op, a, b, m, N, L, E⟩ := x
  simp only at hs ht hm h0 h1 hk hp ⊢
  unfold numF
  rw [hs]
  simp only [Option.bind_some, rFail_0]
  have n2 : (2 : Int) ≠ 0 := by decide
  have e0 : ∃ t' e', instr_Type.f 5 0 = some (t', e') := ⟨0, 2, by decide +kernel⟩
  obtain ⟨t', e', he0⟩ := e0
  rcases s_cases hk with rfl | rfl | rfl | rfl | rfl | rfl | rfl | rfl | rfl | rfl | rfl
  · simp only [body, Int.reduceEq, if_false] at hp
    exact (cut_nil hp).elim
  · simp [mayS] at hm
    obtain ⟨⟨hb, _⟩, rfl, rfl, rfl⟩ := hm
    simp only [body, Int.reduceEq, if_true, if_false] at hp ⊢
    rw [rBlock_cut hb hp hz]
    exact ⟨_, _, _, _, _, rfl⟩
  · simp [mayS] at hm
    obtain ⟨ha, rfl, rfl, rfl, rfl, rfl⟩ := hm
    simp only [body, Int.reduceEq, if_true, if_false] at hp ⊢
    rw [rU_cut hp hz]
    exact ⟨_, _, _, _, _, rfl⟩
  · simp [mayS] at hm
    obtain ⟨⟨⟨ha, hn⟩, hN⟩, rfl, rfl, rfl, rfl⟩ := hm
    simp only [body, Int.reduceEq, if_true, if_false] at hp ⊢
    rw [rLab (cut_rng hp ((Rng.pu _).app (Rng.app (puA_range N) (Rng.pu _)))) hz]
    simp only [Option.bind_some]
    rcases cut_app hp with hc | ⟨p', rfl, hc⟩
    · rw [takeA_cut1 p hc]
      simp only
      rw [rU_err n2]
      exact ⟨_, _, _, _, _, rfl⟩
    · rcases cut_app hc with hc2 | ⟨p2, rfl, hc2⟩
      · rw [takeA_cut2 hN hn p' hc2]
        simp only
        rw [rU_err n2]
        exact ⟨_, _, _, _, _, rfl⟩
      · rw [takeA_fwd hN hn]
        simp only
        rw [rU_cut hc2 (sm_app (sm_app hz))]
        exact ⟨_, _, _, _, _, rfl⟩
  · simp [mayS] at hm
    obtain ⟨⟨ha, hm⟩, rfl, rfl, rfl, rfl⟩ := hm
    simp only [body, Int.reduceEq, if_true, if_false] at hp ⊢
    rcases cut_app hp with hc | ⟨p', rfl, hc⟩
    · rw [rU_cut hc hz]
      simp only [Option.bind_some]
      rw [rU_err n2]
      exact ⟨_, _, _, _, _, rfl⟩
    · rw [rU_pu (inx_iff.mp ha) (cut_rng hc (Rng.pu _)) hz]
      simp only [Option.bind_some]
      rw [rU_cut hc (sm_app hz)]
      exact ⟨_, _, _, _, _, rfl⟩
  · simp [mayS] at hm
    obtain ⟨he, rfl, rfl, rfl, rfl, rfl⟩ := hm
    obtain ⟨rfl, hc⟩ := ty_ok (t := t.1) (e := t.2) ht he
    simp only [body, Int.reduceEq, if_true, if_false] at hp ⊢
    have e1 : pu (1 : Int).toNat = [1] := by rw [pu_small (by decide)]; rfl
    rcases cut_app (a := [1]) (b := [t.1]) hp with hc1 | ⟨p', rfl, hc1⟩
    · rw [← e1] at hc1
      rw [rU_cut hc1 hz]
      simp only [Option.bind_some, Int.reduceEq, if_false]
      rw [rFail_e n2]
      simp only [Option.bind_some]
      rw [rByte_err n2]
      simp only [Option.bind_some]
      rw [he0]
      simp only [Option.bind_some]
      rw [rFail_e n2]
      exact ⟨_, _, _, _, _, rfl⟩
    · obtain rfl := cut_one hc1
      have := rU_pu (m := 1) (n := n) (more := []) (by omega) Rng.nil (by rw [e1]; exact hz)
      rw [e1] at this
      rw [this]
      simp only [Option.bind_some, if_true]
      rw [str_nil, rByte_nil]
      simp only [Option.bind_some]
      rw [he0]
      simp only [Option.bind_some]
      rw [rFail_e n2]
      exact ⟨_, _, _, _, _, rfl⟩
  · simp [mayS] at hm
    obtain ⟨⟨⟨⟨ha, hm⟩, hb0⟩, hb1⟩, rfl, rfl, rfl⟩ := hm
    simp only [body, Int.reduceEq, if_true, if_false] at hp ⊢
    obtain ⟨a', b', m', z, h⟩ := place_cut (n := n) (inx_iff.mp ha) (inx_iff.mp hm) hb0 hb1 hz hp
    rw [h]
    exact ⟨_, _, _, _, _, rfl⟩
  · simp [mayS] at hm
    obtain ⟨hm, rfl, rfl, rfl, rfl, rfl⟩ := hm
    simp only [body, Int.reduceEq, if_true, if_false] at hp ⊢
    rw [rU_cut hp hz]
    exact ⟨_, _, _, _, _, rfl⟩
  · simp [mayS] at hm
    obtain ⟨⟨ha, hm⟩, rfl, rfl, rfl, rfl⟩ := hm
    simp only [body, Int.reduceEq, if_true, if_false] at hp ⊢
    rcases cut_app hp with hc | ⟨p', rfl, hc⟩
    · rw [rU_cut hc hz]
      simp only [Option.bind_some]
      rw [rU_err n2]
      exact ⟨_, _, _, _, _, rfl⟩
    · rw [rU_pu (inx_iff.mp hm) (cut_rng hc (Rng.pu _)) hz]
      simp only [Option.bind_some]
      rw [rU_cut hc (sm_app hz)]
      exact ⟨_, _, _, _, _, rfl⟩
  · simp [mayS] at hm
    obtain ⟨ha, rfl, rfl, rfl, rfl, rfl⟩ := hm
    simp only [body, Int.reduceEq, if_true, if_false] at hp ⊢
    rw [const_bits (hk.ten rfl), rS_none (by split <;> omega) (cut_rng hp (Rng.ps a)) hz (takeS_cut hp _)]
    exact ⟨_, _, _, _, _, rfl⟩
  · simp [mayS] at hm
    obtain ⟨rfl, rfl, rfl, rfl, rfl, rfl⟩ := hm
    simp only [body, Int.reduceEq, if_true, if_false] at hp ⊢
    obtain rfl := cut_one hp
    rw [str_nil, rByte_nil]
    simp only [Option.bind_some]
    rw [he0]
    simp only [Option.bind_some]
    rw [rFail_e n2]
    simp only [Option.bind_some]
    split
    · exact ⟨_, _, _, _, _, rfl⟩
    · rw [rFail_e n2]
      exact ⟨_, _, _, _, _, rfl⟩

end Go.Proofs.Ytckhlbpjehbnlaa.PB

namespace Go.Proofs.Ytckhlbpjehbnlaa.Reads
open Go.RowKit Go.Proofs.YtckhlbpjehbnlaaW.PrintWords

section
variable {H : Type} {enc : TypeId × Value → H} {P : Program} {w : World} {α β : Type}
/-- Whatever reads as a value of the type t, with at most n steps, is of the kind d. -/
def Opn (enc : TypeId × Value → H) (P : Program) (w : World) (d : Kd α) (t : TypeId) (wf : α → Prop) (n : Nat) : Prop :=
  ∀ m, m ≤ n → ∀ cs x, DataW.trod enc P w 0 (fun _ => true) true m t cs = some x → (∀ q ∈ x.1.weights P t, q ≤ reachBytes) → ∃ a, d.K w a cs ∧ wf a
theorem weights_mem {P : Program} {e : TypeId} {H : Type} : ∀ {ds : List (DataW H)} {d : DataW H}, d ∈ ds → ∀ q ∈ d.weights P e, q ∈ DataW.weightsAll P e ds
  | d0 :: ds, d, hd, q, hq => by
    simp only [DataW.weightsAll, List.mem_append]
    rcases List.mem_cons.mp hd with rfl | h
    · exact .inl hq
    · exact .inr (weights_mem h q hq)
theorem Opn.le {d : Kd α} {t : TypeId} {wf : α → Prop} {n m : Nat} (h : Opn enc P w d t wf n) (hm : m ≤ n) : Opn enc P w d t wf m := fun q hq => h q (by omega)
theorem Opn.imp {d : Kd α} {t : TypeId} {wf wf' : α → Prop} {n : Nat} (h : Opn enc P w d t wf n) (hi : ∀ a, wf a → wf' a) : Opn enc P w d t wf' n := fun m hm cs x hx hz => by
  obtain ⟨a, h1, h2⟩ := h m hm cs x hx hz
  exact ⟨a, h1, hi a h2⟩
theorem opn_int {t : TypeId} {k : IntKind} (ht : P.underlying t = some (.int k)) (n : Nat) : Opn enc P w (Kd.int k) t (fun x => (Lit.int k x).wf = true) n := by
  intro m _ cs x hx hz
  cases m with
  | zero => simp [DataW.trod] at hx
  | succ m =>
    unfold DataW.trod at hx
    rw [ht] at hx
    split at hx <;> simp_all
    obtain ⟨⟨rfl, hwf⟩, rfl⟩ := hx
    exact ⟨_, rfl, hwf⟩
theorem opn_bool {t : TypeId} (ht : P.underlying t = some .bool) (n : Nat) : Opn enc P w Kd.bool t (fun _ => True) n := by
  intro m _ cs x hx hz
  cases m with
  | zero => simp [DataW.trod] at hx
  | succ m =>
    unfold DataW.trod at hx
    rw [ht] at hx
    split at hx <;> simp_all
    rename Bool => b
    cases b
    · exact .inl rfl
    · exact .inr rfl
theorem opn_string {t : TypeId} (ht : P.underlying t = some .string) (n : Nat) : Opn enc P w Kd.string t (fun s => s.size ≤ reachBytes) n := by
  intro m _ cs x hx hz
  cases m with
  | zero => simp [DataW.trod] at hx
  | succ m =>
    unfold DataW.trod at hx
    rw [ht] at hx
    split at hx <;> simp_all
    obtain ⟨_, rfl⟩ := hx
    refine ⟨_, rfl, ?_⟩
    have := hz _ (List.mem_singleton.2 rfl)
    simpa using this
theorem add_add' (a : Addr) (i j : Nat) : (a.add i).add j = a.add (i + j) := by
  unfold Addr.add
  by_cases hi : i = 0 <;> by_cases hj : j = 0 <;> simp [hi, hj, Nat.add_assoc]
theorem choose_list {p : Nat → α → Prop} : ∀ {n : Nat}, (∀ i, i < n → ∃ x, p i x) → ∃ l : List α, l.length = n ∧ ∀ i x, l[i]? = some x → p i x := by
  intro n
  induction n with
  | zero => intro _; exact ⟨[], rfl, fun i x h => by simp at h⟩
  | succ n ih =>
    intro h
    obtain ⟨l, hl, hp⟩ := ih (fun i hi => h i (by omega))
    obtain ⟨x, hx⟩ := h n (by omega)
    refine ⟨l ++ [x], by simp [hl], fun i y hy => ?_⟩
    by_cases hi : i < n
    · rw [List.getElem?_append_left (by omega)] at hy
      exact hp i y hy
    · rw [List.getElem?_append_right (by omega)] at hy
      have e : i = n := by
        have := List.getElem?_eq_some_iff.mp hy
        obtain ⟨h1, _⟩ := this
        simp at h1
        omega
      subst e
      rw [hl] at hy
      simp at hy
      exact hy ▸ hx
theorem opn_slice {t e : TypeId} {d : Kd α} {wf : α → Prop} {n : Nat} (q : Nat) (ht : P.underlying t = some (.slice e)) (hc : P.cellsOf e = d.sz) (h : Opn enc P w d e wf n) :
    Opn enc P w (Kd.slice q d) t (fun l => l.length * P.bytesOf e ≤ reachBytes ∧ ∀ x ∈ l, wf x) (n + 1) := by
  intro m hm cs x hx hz
  rcases DataW.trod_slice ht hx with ⟨rfl, _⟩ | ⟨a, len, cap, elems, rest, m', rfl, rfl, rfl, _, hl, hcap, hlen, hel, _, _⟩
  · exact ⟨[], ⟨none, 0, rfl, Nat.le_refl _, rfl, by simp, fun h => by simp at h⟩, by simp, by simp⟩
  · have hwt : (DataW.slice (elems.map (·.1)) (rest.map (·.1))).weights P t = (elems.length + rest.length) * P.bytesOf e :: (DataW.weightsAll P e (elems.map (·.1)) ++ DataW.weightsAll P e (rest.map (·.1))) := by
      simp [DataW.weights, ht]
    rw [hwt] at hz
    have key : ∀ i, i < len → ∃ y : α, wf y ∧ ∃ c, w.cells? 0 (a.add (i * P.cellsOf e)) (P.cellsOf e) = some c ∧ d.K w y c := by
      intro i hi
      have h1 := hel i hi
      rw [List.getElem?_eq_getElem (by omega)] at h1
      obtain ⟨c, hc1, hc2⟩ := Option.bind_eq_some_iff.mp h1
      obtain ⟨y, hy1, hy2⟩ := h m' (by omega) c _ hc2 (fun q hq => hz q (List.mem_cons_of_mem _ (List.mem_append_left _ (weights_mem (List.mem_map.2 ⟨_, List.getElem_mem _, rfl⟩) q hq))))
      exact ⟨y, hy2, c, hc1, hy1⟩
    obtain ⟨l, hll, hlp⟩ := choose_list key
    refine ⟨l, ⟨some a, cap, by rw [hll], by omega, rfl, ?_, fun _ => ⟨a, rfl, fun j p hj => ?_⟩⟩, ?_, fun y hy => ?_⟩
    · have : maxLen = 9223372036854775807 := by decide
      omega
    · obtain ⟨_, c, hc1, hK⟩ := hlp j p hj
      obtain ⟨_, hcl, hcell⟩ := World.cells?_some hc1
      rw [hc] at hcl hcell hc1
      refine ⟨c, hcl, hK, fun i u hi => ?_⟩
      have hi' : i < d.sz := by
        obtain ⟨h1, _⟩ := List.getElem?_eq_some_iff.mp hi
        omega
      have := hcell i hi'
      rw [add_add'] at this
      rw [this, hi]
    · have hq := hz _ (List.mem_cons_self ..)
      rw [hll, ← hlen]
      exact Nat.le_trans (Nat.mul_le_mul_right _ (by omega)) hq
    · obtain ⟨i, hi, rfl⟩ := List.getElem_of_mem hy
      exact (hlp i _ (List.getElem?_eq_getElem hi)).1
/-- The fields of a struct, from the cell o on. -/
def OpnFs (enc : TypeId × Value → H) (P : Program) (w : World) (d : Kd α) (fs : List Field) (o : Nat) (wf : α → Prop) (n : Nat) : Prop :=
  ∀ m, m ≤ n → ∀ cs : List Value, cs.length = o + d.sz → (∀ f ∈ fs, ∃ x, DataW.trod enc P w 0 (fun _ => true) true m f.type ((cs.drop f.offset).take (P.cellsOf f.type)) = some x ∧ ∀ q ∈ x.1.weights P f.type, q ≤ reachBytes) → ∃ a, d.K w a (cs.drop o) ∧ wf a
theorem opn_one {d : Kd α} {f : Field} {o : Nat} {wf : α → Prop} {n : Nat} (ho : f.offset = o) (hc : P.cellsOf f.type = d.sz) (h : Opn enc P w d f.type wf n) : OpnFs enc P w d [f] o wf n := by
  intro m hm cs hl hf
  obtain ⟨x, hx, hz⟩ := hf f (by simp)
  rw [ho, hc, List.take_of_length_le (by simp; omega)] at hx
  exact h m hm _ _ hx hz
theorem opn_pair {a : Kd α} {b : Kd β} {f : Field} {fs : List Field} {o : Nat} {wa : α → Prop} {wb : β → Prop} {n : Nat} (ho : f.offset = o) (hc : P.cellsOf f.type = a.sz) (h : Opn enc P w a f.type wa n) (hs : OpnFs enc P w b fs (o + a.sz) wb n) :
    OpnFs enc P w (Kd.pair a b) (f :: fs) o (fun x => wa x.1 ∧ wb x.2) n := by
  intro m hm cs hl hf
  have hl' : cs.length = o + (a.sz + b.sz) := hl
  obtain ⟨x, hx, hz0⟩ := hf f (by simp)
  rw [ho, hc] at hx
  obtain ⟨y, hy, wy⟩ := h m hm _ _ hx hz0
  obtain ⟨z, hz, wz⟩ := hs m hm cs (by omega) (fun g hg => hf g (by simp [hg]))
  refine ⟨(y, z), ⟨_, _, ?_, hy, hz⟩, wy, wz⟩
  rw [show cs.drop (o + a.sz) = (cs.drop o).drop a.sz by rw [List.drop_drop], List.take_append_drop]
theorem opn_struct {t : TypeId} {fs : Array Field} {d : Kd α} {wf : α → Prop} {n : Nat} (ht : P.underlying t = some (.struct fs)) (hc : P.cellsOf t = d.sz) (h : OpnFs enc P w d fs.toList 0 wf n) : Opn enc P w d t wf (n + 1) := by
  intro m hm cs x hx hz0
  obtain ⟨xs, m', rfl, rfl, hl, hxl, hf⟩ := DataW.trod_struct ht hx
  obtain ⟨a, ha, wa⟩ := h m' (by omega) cs (by omega) (fun f hf' => by
    obtain ⟨i, hi, rfl⟩ := List.getElem_of_mem hf'
    have hi' : i < fs.size := by simpa using hi
    have := hf i fs[i] (Array.getElem?_eq_getElem hi')
    rw [List.getElem?_eq_getElem (by omega)] at this
    refine ⟨_, this, fun q hq => hz0 q ?_⟩
    have hwt : (DataW.agg (xs.map (·.1))).weights P t = DataW.weightsEach P (fs.toList.map (·.type)) (xs.map (·.1)) := by simp [DataW.weights, ht]
    rw [hwt]
    refine DataW.weights_mem_each (j := i) (t := fs[i].type) (d := (xs[i]'(by omega)).1) (by simp [hi']) (by rw [List.getElem?_map, List.getElem?_eq_getElem (by omega)]; rfl) q ?_
    simpa using hq)
  exact ⟨a, ha, wa⟩
theorem opn_iso {t : TypeId} {d : Kd α} {f : β → α} (g : α → β) (hg : ∀ a, f (g a) = a) {wf : α → Prop} {n : Nat} (h : Opn enc P w d t wf n) : Opn enc P w (Kd.iso d f) t (fun b => wf (f b)) n := by
  intro m hm cs x hx hz
  obtain ⟨a, ha, wa⟩ := h m hm cs x hx hz
  exact ⟨g a, (by show d.K w (f (g a)) cs; rw [hg]; exact ha), by show wf (f (g a)); rw [hg]; exact wa⟩
end
end Go.Proofs.Ytckhlbpjehbnlaa.Reads

namespace Go.Proofs.Ytckhlbpjehbnlaa.PB
open Go.RowKit Go.Proofs.YtckhlbpjehbnlaaW.PrintWords Go.Proofs.YtckhlbpjehbnlaaW.PrintLast Go.Proofs.YtckhlbpjehbnlaaW.PrintMore Go.Proofs.Ytckhlbpjehbnlaa.Reads

/-- Its numbers are of their kind, within too. -/
inductive WfI : S54 → Prop
  | mk (x : S54) (h0 : (Lit.int .i64 x.f0).wf = true) (h1 : (Lit.int .i64 x.f1).wf = true) (h2 : (Lit.int .i64 x.f2).wf = true) (h3 : (Lit.int .i64 x.f3).wf = true) (l4 : x.f4.length ≤ 17592186044416) (h4 : ∀ n ∈ x.f4, (Lit.int .i64 n).wf = true)
      (l5 : x.f5.length ≤ 17592186044416) (h5 : ∀ y ∈ x.f5, WfI y) (l6 : x.f6.length ≤ 17592186044416) (h6 : ∀ y ∈ x.f6, WfI y) : WfI x
theorem k54_of {w : World} {x : S54} {cs : List Value} (h : (F54 k54).K w x cs) : k54.K w x cs := by
  obtain ⟨_, _, rfl, rfl, ⟨_, _, rfl, rfl, ⟨_, _, rfl, rfl, ⟨_, _, rfl, rfl, ⟨_, _, rfl, ⟨A4, c4, rfl, l4, g4⟩, ⟨_, _, rfl, ⟨A5, c5, rfl, l5, g5⟩, ⟨A6, c6, rfl, l6, g6⟩⟩⟩⟩⟩⟩⟩ := h
  exact k54_mk w x l4 g4 l5 g5 l6 g6
theorem len8 {n : Nat} (h : n * Try.prog.bytesOf 3 ≤ reachBytes) : n ≤ 17592186044416 := by
  have e : Try.prog.bytesOf 3 = 8 := by kernel_rfl
  rw [e] at h
  unfold reachBytes at h
  omega
theorem len104 {n : Nat} (h : n * Try.prog.bytesOf 54 ≤ reachBytes) : n ≤ 17592186044416 := by
  have e : Try.prog.bytesOf 54 = 104 := by kernel_rfl
  rw [e] at h
  unfold reachBytes at h
  omega
theorem opn54 {H : Type} {enc : TypeId × Value → H} {w : World} : ∀ n, Opn enc Try.prog w k54 54 WfI n := by
  intro n
  induction n with
  | zero =>
    intro m hm cs x hx hz
    obtain rfl : m = 0 := by omega
    simp [DataW.trod] at hx
  | succ n ih =>
    have hi : Opn enc Try.prog w (Kd.int .i64) 3 (fun x => (Lit.int .i64 x).wf = true) n := opn_int Try.underlying3 n
    have hN : Opn enc Try.prog w (Kd.slice 3 (Kd.int .i64)) 52 (fun l => l.length ≤ 17592186044416 ∧ ∀ x ∈ l, (Lit.int .i64 x).wf = true) n := ((opn_slice 3 Try.underlying52 (by kernel_rfl) (opn_int Try.underlying3 n)).imp (fun l h => ⟨len8 h.1, h.2⟩)).le (by omega)
    have hL : Opn enc Try.prog w (Kd.slice 54 k54) 29 (fun l => l.length ≤ 17592186044416 ∧ ∀ x ∈ l, WfI x) n := ((opn_slice 54 Try.underlying29 (by kernel_rfl) ih).imp (fun l h => ⟨len104 h.1, h.2⟩)).le (by omega)
    have hs := opn_struct (d := Kd.pair (Kd.int .i64) (Kd.pair (Kd.int .i64) (Kd.pair (Kd.int .i64) (Kd.pair (Kd.int .i64) (Kd.pair (Kd.slice 3 (Kd.int .i64)) (Kd.pair (Kd.slice 54 k54) (Kd.slice 54 k54))))))) Try.underlying54 (by kernel_rfl)
      (opn_pair rfl (by kernel_rfl) hi (opn_pair rfl (by kernel_rfl) hi (opn_pair rfl (by kernel_rfl) hi (opn_pair rfl (by kernel_rfl) hi (opn_pair rfl (by kernel_rfl) hN (opn_pair rfl (by kernel_rfl) hL (opn_one rfl (by kernel_rfl) hL)))))))
    have hq := opn_iso (f := fun x : S54 => (x.f0, x.f1, x.f2, x.f3, x.f4, x.f5, x.f6)) (fun q => ⟨q.1, q.2.1, q.2.2.1, q.2.2.2.1, q.2.2.2.2.1, q.2.2.2.2.2.1, q.2.2.2.2.2.2⟩) (fun _ => rfl) hs
    intro m hm cs x hx hz
    obtain ⟨a, ha, w0, w1, w2, w3, ⟨l4, w4⟩, ⟨l5, w5⟩, l6, w6⟩ := hq m hm cs x hx hz
    exact ⟨a, k54_of ha, .mk a w0 w1 w2 w3 l4 w4 l5 w5 l6 w6⟩
/-- The argument of a law: instructions. -/
theorem arg_instrs {H : Type} {enc : TypeId × Value → H} {w : World} {v : Value} {d : DataW H} {ps : List MemPlace} (h : DataW.Trod enc Try.prog w 0 (fun _ => true) true 29 v d ps) (hv : ∃ a len cap, v = .slice a len cap) (hz : ∀ q ∈ d.weights Try.prog 29, q ≤ reachBytes) :
    ∃ (A : Option Addr) (c : Nat) (l : List S54), v = .slice A l.length c ∧ l.length ≤ c ∧ Kd.C k54 w A l.length l ∧ l.length ≤ 17592186044416 ∧ ∀ x ∈ l, WfI x := by
  obtain ⟨n, hn⟩ := h
  obtain ⟨a, len, cap, rfl⟩ := hv
  obtain ⟨l, ⟨A, c, e, hc, hC⟩, hm, hw⟩ := (opn_slice 54 Try.underlying29 (by kernel_rfl) (opn54 n)) n (by omega) _ _ hn hz
  have e' : [Value.slice a len cap] = [Value.slice A l.length c] := e
  simp at e'
  obtain ⟨rfl, rfl, rfl⟩ := e'
  exact ⟨_, _, l, rfl, hc, hC, len104 hm, hw⟩

end Go.Proofs.Ytckhlbpjehbnlaa.PB

namespace Go.Proofs.Ytckhlbpjehbnlaa.PB
open Go.RowKit Go.Proofs.YtckhlbpjehbnlaaW.PrintWords Go.Proofs.YtckhlbpjehbnlaaW.PrintLast Go.Proofs.YtckhlbpjehbnlaaW.PrintMore
open Go.Proofs.Ytckhlbpjehbnlaa.Str Go.Proofs.Ytckhlbpjehbnlaa.LebS Go.Proofs.Ytckhlbpjehbnlaa.LebF
set_option linter.unusedVariables false
set_option linter.unusedSimpArgs false

/-- An opcode's bytes. -/
def opb (op : Int) : List Int := if op ≥ 64512 then 252 :: pu (op - 64512).toNat else [op]
/-- An opcode's shape. -/
def shS (op : Int) : Int := match instr_Shape.f 40 op with | some (s, _) => s | none => 0
theorem shS_eq {op s e : Int} (h : instr_Shape.f 40 op = some (s, e)) : shS op = s := by unfold shS; rw [h]
/-- What stands within a block, and its end. -/
def inner (rec : List S54 → List Int) (x : S54) : List Int := rec x.f5 ++ ((if x.f6.length = 0 then [] else 5 :: rec x.f6) ++ [11])
def encX (rec : List S54 → List Int) (x : S54) : List Int := opb x.f0 ++ (body (shS x.f0) x ++ (if shS x.f0 = 2 then inner rec x else []))
def encL (one : S54 → List Int) : List S54 → List Int
  | [] => []
  | x :: l => one x ++ encL one l
/-- Instructions' bytes; k: how deep they may stand in one another. -/
def encD : Nat → List S54 → List Int
  | 0 => fun _ => []
  | k + 1 => encL (encX (encD k))
/-- An instruction whose own numbers may be. -/
def okx (x : S54) : Prop := ∃ s t, instr_Shape.f 40 x.f0 = some (s, 0) ∧ instr_Type.f 5 x.f1 = some t ∧ mayS s x.f0 x.f1 x.f2 x.f3 x.f4 x.f5 x.f6 t = true ∧ -9223372036854775808 ≤ x.f1 ∧ x.f1 < 9223372036854775808
/-- Instructions that may be, so deep. -/
def okD : Nat → List S54 → Prop
  | 0 => fun l => l = []
  | k + 1 => fun l => ∀ x ∈ l, okx x ∧ okD k x.f5 ∧ okD k x.f6 ∧ (k = 0 → blk x.f0 = false)
def cntL (one : S54 → Nat) : List S54 → Nat
  | [] => 0
  | x :: l => one x + cntL one l
/-- How many there are. -/
def cntD : Nat → List S54 → Nat
  | 0 => fun _ => 0
  | k + 1 => cntL fun x => 1 + cntD k x.f5 + cntD k x.f6
theorem blk_iff {op : Int} : blk op = true ↔ 2 ≤ op ∧ op ≤ 4 := by simp [blk]
theorem opb_rng {op s : Int} (h : ShOk op s) : Rng (opb op) := by
  unfold opb
  have := h.range
  split
  · exact Rng.cons (by omega) (Rng.pu _)
  · exact Rng.cons (by omega) Rng.nil
theorem body_rng {x : S54} {s : Int} {t : Int × Int} (hk : ShOk x.f0 s) (ht : instr_Type.f 5 x.f1 = some t) (hm : mayS s x.f0 x.f1 x.f2 x.f3 x.f4 x.f5 x.f6 t = true) : Rng (body s x) := by
  unfold body
  by_cases h6 : s = 6
  · subst h6
    simp [mayS] at hm
    obtain ⟨h1, h2⟩ := ty_ok (t := t.1) (e := t.2) ht hm.1
    simp only [Int.reduceEq, if_false, if_true]
    exact Rng.cons (by omega) (Rng.cons (by omega) Rng.nil)
  · repeat' split
    all_goals first | exact Rng.pu _ | exact Rng.ps _ | exact (Rng.pu _).app (Rng.app (puA_range _) (Rng.pu _)) | exact (Rng.pu _).app (Rng.pu _) | exact (Rng.pu _).app ((Rng.pu _).app (Rng.pu _)) | exact absurd ‹s = 6› h6 | exact Rng.cons (by omega) Rng.nil | exact Rng.nil
theorem encX_eq {rec : List S54 → List Int} {x : S54} {s e : Int} (h : instr_Shape.f 40 x.f0 = some (s, e)) : encX rec x = opb x.f0 ++ (body s x ++ (if s = 2 then inner rec x else [])) := by
  unfold encX; rw [shS_eq h]
theorem opb_pos (op : Int) : 1 ≤ (opb op).length := by unfold opb; split <;> simp
theorem cntD_len (k : Nat) : ∀ l : List S54, l.length ≤ cntD (k + 1) l := by
  intro l
  induction l with
  | nil => simp
  | cons x l ih =>
    have : cntD (k + 1) (x :: l) = 1 + cntD k x.f5 + cntD k x.f6 + cntD (k + 1) l := rfl
    simp only [List.length_cons]; omega
theorem encD_len : ∀ (k : Nat) (l : List S54), okD k l → l.length ≤ (encD k l).length := by
  intro k
  cases k with
  | zero => intro l h; rw [show l = [] from h]; simp
  | succ k =>
    intro l
    induction l with
    | nil => intro _; simp
    | cons x l ih =>
      intro h
      have h1 := ih (fun y hy => h y (by simp [hy]))
      have h2 := opb_pos x.f0
      have : encD (k + 1) (x :: l) = encX (encD k) x ++ encD (k + 1) l := rfl
      rw [this]
      unfold encX
      simp only [List.length_append, List.length_cons]
      omega
theorem encD_rng : ∀ (k : Nat) (l : List S54), okD k l → Rng (encD k l) := by
  intro k
  induction k with
  | zero => intro l _; exact Rng.nil
  | succ k ih =>
    intro l
    induction l with
    | nil => intro _; exact Rng.nil
    | cons x l ihl =>
      intro h
      have h1 := ihl (fun y hy => h y (by simp [hy]))
      obtain ⟨⟨s, t, hs, ht, hm, _, _⟩, hL, hE, _⟩ := h x (by simp)
      have : encD (k + 1) (x :: l) = encX (encD k) x ++ encD (k + 1) l := rfl
      rw [this, encX_eq hs]
      have hk := shp_ok hs
      refine Rng.app (Rng.app (opb_rng hk) (Rng.app (body_rng hk ht hm) ?_)) h1
      split
      · unfold inner
        refine (ih _ hL).app (Rng.app ?_ (Rng.cons (by omega) Rng.nil))
        split
        · exact Rng.nil
        · exact Rng.cons (by omega) (ih _ hE)
      · exact Rng.nil

/-! ### laid -/
theorem opc_eq {op s : Int} (h : ShOk op s) : opc op = some (strOfNums (opb op)) := by
  unfold opc opb
  have := h.range
  by_cases h1 : op ≥ 64512
  · rw [if_pos h1, if_pos h1, wrap64_id (by omega) (by omega), PutU_eq _ (by omega) 12 (by omega)]
    simp only [Option.bind_some]
    unfold puZ
    rw [if_neg (by omega), ← strOfNums_append]
    rfl
  · rw [if_neg h1, if_neg h1, show op % 256 = op by omega]
theorem wf64_mk {n : Int} (h0 : -9223372036854775808 ≤ n) (h1 : n < 9223372036854775808) : (Lit.int .i64 n).wf = true := by
  simp [Lit.wf, IntKind.min, IntKind.max, IntKind.bits, IntKind.signed]
  omega
theorem putU_in {a : Int} (h : inx a = true) : leb_PutU.f 12 a = some (strOfNums (pu a.toNat)) := by
  have := inx_iff.mp h
  rw [PutU_eq _ (by omega) 12 (by omega)]
  unfold puZ
  rw [if_neg (by omega)]
theorem or64 (b : Int) (h0 : 0 ≤ b) (h1 : b < 64) : Go.bits .or .i64 b 64 = b + 64 := by
  have h : ∀ y : Fin 64, Go.bits .or .i64 (y.val : Int) 64 = (y.val : Int) + 64 := by decide +kernel
  have := h ⟨b.toNat, by omega⟩
  simp only at this
  rw [show ((b.toNat : Nat) : Int) = b by omega] at this
  exact this
theorem putS_eq {x : S54} {s : Int} {t : Int × Int} (rec : List S54 → Option ByteArray) (hk : ShOk x.f0 s) (ht : instr_Type.f 5 x.f1 = some t) (hm : mayS s x.f0 x.f1 x.f2 x.f3 x.f4 x.f5 x.f6 t = true)
    (h0 : -9223372036854775808 ≤ x.f1) (h1 : x.f1 < 9223372036854775808) (h2 : s ≠ 2) : putS s rec x = some (strOfNums (body s x)) := by
  obtain ⟨op, a, b, m, N, L, E⟩ := x
  simp only at hk ht hm h0 h1 ⊢
  rcases s_cases hk with rfl | rfl | rfl | rfl | rfl | rfl | rfl | rfl | rfl | rfl | rfl
  · simp only [putS, body, Int.reduceEq, if_false]; rfl
  · exact absurd rfl h2
  · simp [mayS] at hm
    simp only [putS, body, Int.reduceEq, if_false, if_true]
    exact putU_in hm.1
  · simp [mayS] at hm
    obtain ⟨⟨⟨ha, hn⟩, hN⟩, rfl, rfl, rfl, rfl⟩ := hm
    simp only [putS, body, two, Int.reduceEq, if_false, if_true]
    have hw : ∀ x ∈ N, (Lit.int .i64 x).wf = true := fun x hx => by
      have := inx_iff.mp (hN x hx)
      exact wf64_mk (by omega) (by omega)
    rw [PutAll_eq N hw (by omega) _ (by omega), putU_in ha]
    simp only [Option.bind_some, ← strOfNums_append, List.append_assoc]
  · simp [mayS] at hm
    simp only [putS, body, two, Int.reduceEq, if_false, if_true]
    rw [putU_in hm.1.1, putU_in hm.1.2]
    simp only [Option.bind_some, ← strOfNums_append]
  · simp [mayS] at hm
    obtain ⟨h1, h2⟩ := ty_ok (t := t.1) (e := t.2) ht hm.1
    simp only [putS, body, Int.reduceEq, if_false, if_true]
    rw [show a % 256 = a by omega, show (⟨#[1]⟩ : ByteArray) = strOfNums [1] by decide +kernel, ← strOfNums_append]
    rfl
  · simp [mayS] at hm
    obtain ⟨⟨⟨⟨ha, hm⟩, hb0⟩, hb1⟩, rfl, rfl, rfl⟩ := hm
    have hb : inx b = true := inx_iff.mpr (by omega)
    have hb2 : inx (b + 64) = true := inx_iff.mpr (by omega)
    simp only [putS, body, two, Int.reduceEq, if_false, if_true]
    split
    · rw [or64 b hb0 hb1, putU_in hb2, putU_in hm, putU_in ha]
      simp only [Option.bind_some, ← strOfNums_append, List.append_assoc]
    · rw [putU_in hb, putU_in ha]
      simp only [Option.bind_some, ← strOfNums_append, List.append_assoc]
  · simp [mayS] at hm
    simp only [putS, body, Int.reduceEq, if_false, if_true]
    exact putU_in hm.1
  · simp [mayS] at hm
    simp only [putS, body, two, Int.reduceEq, if_false, if_true]
    rw [putU_in hm.1.2, putU_in hm.1.1]
    simp only [Option.bind_some, ← strOfNums_append]
  · simp only [putS, body, Int.reduceEq, if_false, if_true]
    exact PutS_eq a h0 h1 12 (by omega)
  · simp only [putS, body, Int.reduceEq, if_false, if_true]
theorem putF_eq : ∀ (k j : Nat) (l : List S54), k < j → okD k l → cntD k l ≤ 8192 → putF j l = some (strOfNums (encD k l)) := by
  intro k
  induction k with
  | zero =>
    intro j l hj hl _
    obtain ⟨j, rfl⟩ : ∃ i, j = i + 1 := ⟨j - 1, by omega⟩
    rw [show l = [] from hl]
    unfold putF
    rw [if_pos (by simp)]
    simp only [putL, encD]
    rfl
  | succ k ih =>
    intro j l hj hl hc
    obtain ⟨j, rfl⟩ : ∃ i, j = i + 1 := ⟨j - 1, by omega⟩
    have hlen := cntD_len k l
    unfold putF
    rw [if_pos (by omega)]
    clear hlen
    induction l with
    | nil => simp only [putL, encD, encL]; rfl
    | cons x l ihl =>
      have hcc : cntD (k + 1) (x :: l) = 1 + cntD k x.f5 + cntD k x.f6 + cntD (k + 1) l := rfl
      obtain ⟨⟨s, t, hs, ht, hm, h0, h1⟩, hL, hE, _⟩ := hl x (by simp)
      have hk := shp_ok hs
      have e : encD (k + 1) (x :: l) = encX (encD k) x ++ encD (k + 1) l := rfl
      have hrest := ihl (fun y hy => hl y (by simp [hy])) (by omega)
      have hone : putOne (putF j) x = some (strOfNums (encX (encD k) x)) := by
        unfold putOne
        rw [opc_eq hk, hs]
        simp only [Option.bind_some]
        rw [encX_eq hs]
        by_cases h2 : s = 2
        · subst h2
          have hbt : body 2 x = ps x.f1 := rfl
          simp only [putS, if_true, hbt]
          rw [PutS_eq _ h0 h1 12 (by omega), ih j x.f5 (by omega) hL (by omega)]
          simp only [Option.bind_some]
          unfold inner
          by_cases h6 : x.f6.length = 0
          · rw [if_pos h6, if_pos h6]
            simp only [Option.bind_some, ← strOfNums_append, List.nil_append]
          · rw [if_neg h6, if_neg h6, ih j x.f6 (by omega) hE (by omega)]
            simp only [Option.bind_some, ← strOfNums_append, List.cons_append, List.nil_append, List.append_assoc]
        · rw [putS_eq (putF j) hk ht hm h0 h1 h2, if_neg h2]
          simp only [Option.bind_some, ← strOfNums_append, List.append_nil]
      rw [e]
      simp only [putL]
      rw [hone, hrest]
      simp only [Option.bind_some, ← strOfNums_append]

end Go.Proofs.Ytckhlbpjehbnlaa.PB

namespace Go.Proofs.Ytckhlbpjehbnlaa.PB
open Go.RowKit Go.Proofs.YtckhlbpjehbnlaaW.PrintWords Go.Proofs.YtckhlbpjehbnlaaW.PrintLast Go.Proofs.YtckhlbpjehbnlaaW.PrintMore
open Go.Proofs.Ytckhlbpjehbnlaa.Str Go.Proofs.Ytckhlbpjehbnlaa.LebS Go.Proofs.Ytckhlbpjehbnlaa.LebF
set_option linter.unusedVariables false
set_option linter.unusedSimpArgs false

/-- An opcode behind its first byte. -/
def opF (x : Int × RS) : Option (Int × RS) := if x.1 = 252 then (rU x.2).bind fun y => some (wrap64 (64512 + y.1), y.2) else some (x.1, x.2)
/-- What an instruction's end makes of the state: one more, and whether there are too many. -/
def fullF (op deep : Int) (q : RS) : Option RS :=
  if q.2.2 = 0 ∧ (wrap64 (q.2.1 + 1) > 8192 ∨ (blk op = true ∧ deep = 32)) then rFail (q.1, wrap64 (q.2.1 + 1), q.2.2) 14 else some (q.1, wrap64 (q.2.1 + 1), q.2.2)
/-- What stands within. -/
def inF (k : Nat) (op deep : Int) (t5 : RS) : Option (List S54 × List S54 × RS) :=
  if t5.2.2 = 0 ∧ blk op = true then
    (listL k t5 (wrap64 (deep + 1)) []).bind fun L =>
      if L.2.1 = 5 then
        (if op = 4 then some L.2.2 else rFail L.2.2 2).bind fun t7 =>
          (listL k t7 (wrap64 (deep + 1)) []).bind fun E =>
            (if E.2.1 = 5 then rFail E.2.2 2 else some E.2.2).bind fun t9 => some (L.1, E.1, t9)
      else some (L.1, [], L.2.2)
  else some ([], [], t5)
theorem listL_err {k : Nat} {s : ByteArray} {n e deep : Int} {acc : List S54} (h : e ≠ 0) : listL (k + 1) (s, n, e) deep acc = some ([], 11, s, n, e) := by
  simp only [listL]
  rw [if_neg h]
theorem listL_end {k : Nat} {c : Int} {l : List Int} {n deep : Int} {acc : List S54} (h : Rng (c :: l)) (hc : c = 11 ∨ c = 5) : listL (k + 1) (strOfNums (c :: l), n, 0) deep acc = some (acc, c, strOfNums l, n, 0) := by
  simp only [listL, if_true]
  rw [rByte_cons h]
  simp only [Option.bind_some]
  rw [if_pos hc]
/-- One instruction, in parts. -/
theorem listL_step {k : Nat} {s : ByteArray} {n deep : Int} {acc : List S54} {c op : Int} {t1 t2 t4 t5 t9 : RS} {a b m : Int} {N : List Int} {L E : List S54}
    (h1 : rByte (s, n, 0) = some (c, t1)) (hc : ¬ (c = 11 ∨ c = 5)) (h2 : opF (c, t1) = some (op, t2)) (h3 : numF t2 op = some (a, b, m, N, t4)) (h4 : fullF op deep t4 = some t5) (h5 : inF k op deep t5 = some (L, E, t9)) (ha : acc.length ≤ 1000000) :
    listL (k + 1) (s, n, 0) deep acc = listL k t9 deep (acc ++ [⟨op, a, b, m, N, L, E⟩]) := by
  simp only [listL, if_true]
  rw [h1]
  simp only [Option.bind_some]
  rw [if_neg hc]
  unfold opF at h2
  simp only at h2
  rw [h2]
  simp only [Option.bind_some]
  rw [h3]
  simp only [Option.bind_some]
  unfold fullF at h4
  rw [h4]
  simp only [Option.bind_some]
  unfold inF at h5
  rw [h5]
  simp only [Option.bind_some]
  rw [if_pos (by omega)]
/-- Where an instruction's numbers have a fault, it is told. -/
theorem listL_fault {k : Nat} {s : ByteArray} {n deep : Int} {acc : List S54} {c op : Int} {t1 t2 : RS} {a b m n4 e : Int} {z : ByteArray} {N : List Int}
    (h1 : rByte (s, n, 0) = some (c, t1)) (hc : ¬ (c = 11 ∨ c = 5)) (h2 : opF (c, t1) = some (op, t2)) (h3 : numF t2 op = some (a, b, m, N, z, n4, e)) (he : e ≠ 0) (ha : acc.length ≤ 1000000) :
    listL (k + 2) (s, n, 0) deep acc = some ([], 11, z, wrap64 (n4 + 1), e) := by
  rw [listL_step h1 hc h2 h3 (t5 := (z, wrap64 (n4 + 1), e)) (t9 := (z, wrap64 (n4 + 1), e)) (L := []) (E := []) (by unfold fullF; rw [if_neg (fun h => he h.1)]) (by unfold inF; rw [if_neg (fun h => he h.1)]) ha]
  exact listL_err he
/-- With a fault in the state nothing is read. -/
theorem num_err {s : ByteArray} {n e : Int} (h : e ≠ 0) (op : Int) : ∃ a b m N, numF (s, n, e) op = some (a, b, m, N, s, n, e) := by
  obtain ⟨sh, e', hs, hk⟩ := shp_any op
  unfold numF
  rw [hs]
  simp only [Option.bind_some]
  rw [rFail_e h]
  simp only [Option.bind_some]
  have e0 : instr_Type.f 5 0 = some (0, 2) := by decide +kernel
  rcases hk with ⟨rfl, hk⟩ | ⟨rfl, _⟩
  · rcases s_cases hk with rfl | rfl | rfl | rfl | rfl | rfl | rfl | rfl | rfl | rfl | rfl
    · exact ⟨_, _, _, _, rfl⟩
    · simp only [Int.reduceEq, if_true, if_false]; rw [rBlock_err h]; exact ⟨_, _, _, _, rfl⟩
    · simp only [Int.reduceEq, if_true, if_false]; rw [rU_err h]; exact ⟨_, _, _, _, rfl⟩
    · simp only [Int.reduceEq, if_true, if_false]; rw [rLab_err h]; simp only [Option.bind_some]; rw [rU_err h]; exact ⟨_, _, _, _, rfl⟩
    · simp only [Int.reduceEq, if_true, if_false]; rw [rU_err h]; simp only [Option.bind_some]; rw [rU_err h]; exact ⟨_, _, _, _, rfl⟩
    · simp only [Int.reduceEq, if_true, if_false]
      rw [rU_err h]
      simp only [Option.bind_some, Int.reduceEq, if_false]
      rw [rFail_e h]
      simp only [Option.bind_some]
      rw [rByte_err h]
      simp only [Option.bind_some]
      rw [e0]
      simp only [Option.bind_some]
      rw [rFail_e h]
      exact ⟨_, _, _, _, rfl⟩
    · simp only [Int.reduceEq, if_true, if_false]
      unfold placeF
      rw [rU_err h]
      simp only [Option.bind_some, Int.reduceLE, if_false, ge_iff_le]
      rw [rU_err h]
      exact ⟨_, _, _, _, rfl⟩
    · simp only [Int.reduceEq, if_true, if_false]; rw [rU_err h]; exact ⟨_, _, _, _, rfl⟩
    · simp only [Int.reduceEq, if_true, if_false]; rw [rU_err h]; simp only [Option.bind_some]; rw [rU_err h]; exact ⟨_, _, _, _, rfl⟩
    · simp only [Int.reduceEq, if_true, if_false]; rw [rS_err h]; exact ⟨_, _, _, _, rfl⟩
    · simp only [Int.reduceEq, if_true, if_false]
      rw [rByte_err h]
      simp only [Option.bind_some]
      rw [e0]
      simp only [Option.bind_some]
      rw [rFail_e h]
      simp only [Option.bind_some, Int.reduceEq, if_false]
      rw [rFail_e h]
      exact ⟨_, _, _, _, rfl⟩
  · exact ⟨_, _, _, _, rfl⟩
theorem listL_nil {k : Nat} {n deep : Int} {acc : List S54} (ha : acc.length ≤ 1000000) : listL (k + 2) (⟨#[]⟩, n, 0) deep acc = some ([], 11, ⟨#[]⟩, wrap64 (n + 1), 2) := by
  obtain ⟨a, b, m, N, h⟩ := @num_err ⟨#[]⟩ n 2 (by decide) 0
  exact listL_fault rByte_nil (by omega) (show opF (0, ⟨#[]⟩, n, 2) = some (0, ⟨#[]⟩, n, 2) from rfl) h (by decide) ha
/-- An opcode's bytes are read. -/
theorem op_fwd {op s n : Int} {more : List Int} (hk : ShOk op s) (hr : Rng more) (hz : Sm (opb op ++ more)) : ∃ c l, rByte (strOfNums (opb op ++ more), n, 0) = some (c, strOfNums l, n, 0) ∧ ¬ (c = 11 ∨ c = 5) ∧ opF (c, strOfNums l, n, 0) = some (op, strOfNums more, n, 0) := by
  have hrng := hk.range
  have h5 := hk.n5
  have h11 := hk.n11
  have h252 := hk.n252
  unfold opb at hz ⊢
  by_cases h : op ≥ 64512
  · rw [if_pos h] at hz ⊢
    rw [List.cons_append] at hz ⊢
    refine ⟨252, _, rByte_cons (Rng.cons (by omega) ((Rng.pu _).app hr)), by omega, ?_⟩
    unfold opF
    rw [if_pos rfl]
    have hz' : Sm (pu (op - 64512).toNat ++ more) := by
      have : (252 :: (pu (op - 64512).toNat ++ more)).length ≤ 140737488351232 := hz
      rw [List.length_cons] at this
      show List.length _ ≤ _
      omega
    simp only
    rw [rU_pu (m := op - 64512) (by omega) hr hz']
    simp only [Option.bind_some]
    rw [wrap64_id (by omega) (by omega), show 64512 + (op - 64512) = op by omega]
  · rw [if_neg h] at hz ⊢
    refine ⟨op, more, rByte_cons (Rng.cons (by omega) hr), by omega, ?_⟩
    unfold opF
    rw [if_neg h252]
theorem full_ok {op deep n : Int} {s : ByteArray} (h0 : 0 ≤ n) (h : n + 1 ≤ 8192) (hb : blk op = true → deep ≠ 32) : fullF op deep (s, n, 0) = some (s, n + 1, 0) := by
  unfold fullF
  simp only
  rw [wrap64_id (by omega) (by omega), if_neg]
  rintro ⟨_, h1 | ⟨h1, h2⟩⟩
  · omega
  · exact hb h1 h2
theorem may_leaf {x : S54} {s : Int} {t : Int × Int} (hk : ShOk x.f0 s) (hm : mayS s x.f0 x.f1 x.f2 x.f3 x.f4 x.f5 x.f6 t = true) (h2 : s ≠ 2) : x.f5 = [] ∧ x.f6 = [] := by
  rcases s_cases hk with rfl | rfl | rfl | rfl | rfl | rfl | rfl | rfl | rfl | rfl | rfl <;> simp [mayS] at hm
  · exact ⟨hm.2.2.2.2.1, hm.2.2.2.2.2⟩
  · exact absurd rfl h2
  · exact ⟨hm.2.2.2.2.1, hm.2.2.2.2.2⟩
  · exact ⟨hm.2.2.2.1, hm.2.2.2.2⟩
  · exact ⟨hm.2.2.2.1, hm.2.2.2.2⟩
  · exact ⟨hm.2.2.2.2.1, hm.2.2.2.2.2⟩
  · exact ⟨hm.2.2.1, hm.2.2.2⟩
  · exact ⟨hm.2.2.2.2.1, hm.2.2.2.2.2⟩
  · exact ⟨hm.2.2.2.1, hm.2.2.2.2⟩
  · exact ⟨hm.2.2.2.2.1, hm.2.2.2.2.2⟩
  · exact ⟨hm.2.2.2.2.1, hm.2.2.2.2.2⟩
theorem may_block {x : S54} {t : Int × Int} (hm : mayS 2 x.f0 x.f1 x.f2 x.f3 x.f4 x.f5 x.f6 t = true) : x.f0 = 4 ∨ x.f6 = [] := by
  simp [mayS] at hm
  exact hm.1.2
theorem s54_eta (x : S54) : (⟨x.f0, x.f1, x.f2, x.f3, x.f4, x.f5, x.f6⟩ : S54) = x := by cases x; rfl
theorem cnt_len (k : Nat) (l : List S54) (h : okD k l) : l.length ≤ cntD k l := by
  cases k with
  | zero => rw [show l = [] from h]; simp
  | succ k => exact cntD_len k l
theorem sm_le {a b : List Int} (h : Sm b) (hl : a.length ≤ b.length) : Sm a := Nat.le_trans hl h
set_option maxHeartbeats 1000000 in
/-- What is laid is read as it was, with whatever behind it. -/
theorem list_fwd : ∀ (k : Nat) (l : List S54), okD k l → ∀ (f : Nat) (n deep : Int) (acc : List S54) (more : List Int), Rng more → Sm (encD k l ++ more) → (encD k l).length + 1 ≤ f → 0 ≤ n → n + cntD k l ≤ 8192 → 0 ≤ deep → deep + k = 33 → acc.length + l.length ≤ 100000 →
    ∃ f', f' + l.length = f ∧ listL f (strOfNums (encD k l ++ more), n, 0) deep acc = listL f' (strOfNums more, n + cntD k l, 0) deep (acc ++ l) := by
  intro k
  induction k with
  | zero =>
    intro l hl f n deep acc more hr hz hf hn hc hd hdk ha
    rw [show l = [] from hl]
    exact ⟨f, by simp, by simp [encD, cntD]⟩
  | succ k ih =>
    intro l
    induction l with
    | nil => intro hl f n deep acc more hr hz hf hn hc hd hdk ha; exact ⟨f, by simp, by simp [encD, encL, cntD, cntL]⟩
    | cons x l ihl =>
      intro hl f n deep acc more hr hz hf hn hc hd hdk ha
      have hcc : cntD (k + 1) (x :: l) = 1 + cntD k x.f5 + cntD k x.f6 + cntD (k + 1) l := rfl
      obtain ⟨⟨s, t, hs, ht, hm, h0, h1⟩, hL, hE, hb⟩ := hl x (by simp)
      have hl' : okD (k + 1) l := fun y hy => hl y (by simp [hy])
      have hk := shp_ok hs
      have e : encD (k + 1) (x :: l) = encX (encD k) x ++ encD (k + 1) l := rfl
      rw [e, encX_eq hs] at hz hf ⊢
      have hp := opb_pos x.f0
      obtain ⟨f, rfl⟩ : ∃ q, f = q + 1 := ⟨f - 1, by omega⟩
      have hrl := encD_rng (k + 1) l hl'
      have hrL := encD_rng k _ hL
      have hrE := encD_rng k _ hE
      have hrin : Rng (if s = 2 then inner (encD k) x else []) := by
        split
        · unfold inner
          refine hrL.app (Rng.app ?_ (Rng.cons (by omega) Rng.nil))
          split
          · exact Rng.nil
          · exact Rng.cons (by omega) hrE
        · exact Rng.nil
      have hrb := body_rng hk ht hm
      rw [hcc] at hc ⊢
      simp only [List.length_cons, List.length_append] at hf ha
      -- the opcode, the numbers
      have a1 : (opb x.f0 ++ (body s x ++ if s = 2 then inner (encD k) x else [])) ++ encD (k + 1) l ++ more = opb x.f0 ++ (body s x ++ ((if s = 2 then inner (encD k) x else []) ++ (encD (k + 1) l ++ more))) := by simp only [List.append_assoc]
      rw [a1] at hz ⊢
      obtain ⟨c, l1, g1, gc, g2⟩ := op_fwd (n := n) hk (hrb.app (hrin.app (hrl.app hr))) hz
      have g3 := num_fwd (n := n) hs ht hm h0 h1 (hrin.app (hrl.app hr)) (sm_app hz)
      have hbd : blk x.f0 = true → deep ≠ 32 := fun h hd32 => by
        have : k = 0 := by omega
        rw [hb this] at h
        cases h
      have g4 := full_ok (s := strOfNums ((if s = 2 then inner (encD k) x else []) ++ (encD (k + 1) l ++ more))) (op := x.f0) (deep := deep) hn (by omega) hbd
      have hx := s54_eta x
      -- what stands within
      have g5 : inF f x.f0 deep (strOfNums ((if s = 2 then inner (encD k) x else []) ++ (encD (k + 1) l ++ more)), n + 1, 0) = some (x.f5, x.f6, strOfNums (encD (k + 1) l ++ more), n + 1 + cntD k x.f5 + cntD k x.f6, 0) := by
        by_cases h2 : s = 2
        · have hbk : blk x.f0 = true := blk_iff.mpr (hk.two.mp h2)
          rw [if_pos h2] at hz hf ⊢
          have hdw : wrap64 (deep + 1) = deep + 1 := wrap64_id (by omega) (by omega)
          have hin : inner (encD k) x ++ (encD (k + 1) l ++ more) = encD k x.f5 ++ (((if x.f6.length = 0 then [] else 5 :: encD k x.f6) ++ [11]) ++ (encD (k + 1) l ++ more)) := by unfold inner; simp only [List.append_assoc]
          unfold inF
          rw [if_pos ⟨rfl, hbk⟩, hin, hdw]
          rw [hin] at hz
          unfold inner at hf
          simp only [List.length_append, List.length_cons, List.length_nil] at hf
          have hlL := encD_len k _ hL
          have hlE := encD_len k _ hE
          have hnL := cnt_len k _ hL
          have hnE := cnt_len k _ hE
          by_cases h6 : x.f6.length = 0
          · have h6' : x.f6 = [] := List.length_eq_zero_iff.mp h6
            rw [if_pos h6] at hz hf ⊢
            simp only [List.nil_append, List.singleton_append] at hz ⊢
            have hrr : Rng (11 :: (encD (k + 1) l ++ more)) := Rng.cons (by omega) (hrl.app hr)
            obtain ⟨f', ef, hq⟩ := ih x.f5 hL f (n + 1) (deep + 1) [] _ hrr (sm_app (sm_app hz)) (by omega) (by omega) (by omega) (by omega) (by omega) (by simp; omega)
            obtain ⟨f', rfl⟩ : ∃ q, f' = q + 1 := ⟨f' - 1, by omega⟩
            rw [hq, listL_end hrr (.inl rfl)]
            simp only [Option.bind_some, Int.reduceEq, if_false, List.nil_append]
            rw [h6']
            have c0 : cntD k ([] : List S54) = 0 := by cases k <;> rfl
            rw [c0]
            simp
          · have h4 : x.f0 = 4 := by
              subst h2
              rcases may_block hm with h | h
              · exact h
              · rw [h] at h6; simp at h6
            rw [if_neg h6] at hz hf ⊢
            simp only [List.cons_append, List.append_assoc, List.nil_append] at hz ⊢
            have hrr2 : Rng (11 :: (encD (k + 1) l ++ more)) := Rng.cons (by omega) (hrl.app hr)
            have hrr : Rng (5 :: (encD k x.f6 ++ 11 :: (encD (k + 1) l ++ more))) := Rng.cons (by omega) (hrE.app hrr2)
            have hzz := sm_app (sm_app hz)
            obtain ⟨f', ef, hq⟩ := ih x.f5 hL f (n + 1) (deep + 1) [] _ hrr hzz (by simp only [List.length_cons] at hf; omega) (by omega) (by omega) (by omega) (by omega) (by simp; omega)
            obtain ⟨f', rfl⟩ : ∃ q, f' = q + 1 := ⟨f' - 1, by simp only [List.length_cons] at hf; omega⟩
            rw [hq, listL_end hrr (.inr rfl)]
            simp only [Option.bind_some, if_true]
            rw [if_pos h4]
            simp only [Option.bind_some]
            have hzE : Sm (encD k x.f6 ++ 11 :: (encD (k + 1) l ++ more)) := sm_le (sm_app hzz) (by simp only [List.length_append, List.length_cons]; omega)
            obtain ⟨f2, ef2, hq2⟩ := ih x.f6 hE f (n + 1 + cntD k x.f5) (deep + 1) [] _ hrr2 hzE (by simp only [List.length_cons] at hf; omega) (by omega) (by omega) (by omega) (by omega) (by simp; omega)
            obtain ⟨f2, rfl⟩ : ∃ q, f2 = q + 1 := ⟨f2 - 1, by simp only [List.length_cons] at hf; omega⟩
            rw [hq2, listL_end hrr2 (.inl rfl)]
            simp
        · have hbk : ¬ blk x.f0 = true := fun h => h2 (hk.two.mpr (blk_iff.mp h))
          obtain ⟨e5, e6⟩ := may_leaf hk hm h2
          unfold inF
          rw [if_neg (fun h => hbk h.2), if_neg h2, e5, e6]
          have c0 : cntD k ([] : List S54) = 0 := by cases k <;> rfl
          rw [c0]
          simp
      rw [listL_step g1 gc g2 g3 g4 g5 (by omega), hx]
      have hzl : Sm (encD (k + 1) l ++ more) := sm_app (sm_app (sm_app hz))
      obtain ⟨f', ef, hq⟩ := ihl hl' f (n + 1 + cntD k x.f5 + cntD k x.f6) deep (acc ++ [x]) more hr hzl (by omega) (by omega) (by omega) hd hdk (by simp only [List.length_append, List.length_singleton]; omega)
      refine ⟨f', by simp only [List.length_cons]; omega, ?_⟩
      rw [hq]
      simp only [List.append_assoc, List.singleton_append]
      congr 3
      omega

end Go.Proofs.Ytckhlbpjehbnlaa.PB

namespace Go.Proofs.Ytckhlbpjehbnlaa.PB
open Go.RowKit Go.Proofs.YtckhlbpjehbnlaaW.PrintWords Go.Proofs.YtckhlbpjehbnlaaW.PrintLast Go.Proofs.YtckhlbpjehbnlaaW.PrintMore
open Go.Proofs.Ytckhlbpjehbnlaa.Str Go.Proofs.Ytckhlbpjehbnlaa.LebS Go.Proofs.Ytckhlbpjehbnlaa.LebF
set_option linter.unusedVariables false
set_option linter.unusedSimpArgs false

theorem may_at {x : S54} (h : WfI x) : ∃ b, instr_may.f x.f0 x.f1 x.f2 x.f3 x.f4 x.f5 x.f6 = some b ∧ (b = true ↔ okx x) := by
  obtain ⟨x, h0, h1, h2, h3, l4, h4, l5, h5, l6, h6⟩ := h
  obtain ⟨s, e, hs, hk⟩ := shp_any x.f0
  obtain ⟨t, e', ht, _⟩ := ty_at x.f1
  unfold instr_may.f
  rw [if_pos (by omega), hs, ht]
  simp only [Option.bind_some]
  refine ⟨_, rfl, ?_⟩
  have hw := wf64 h1
  constructor
  · intro hb
    rw [Bool.and_eq_true] at hb
    have he : e = 0 := by simpa using hb.1
    subst he
    exact ⟨s, (t, e'), hs, ht, hb.2, hw.1, hw.2⟩
  · rintro ⟨s', t', hs', ht', hm, _, _⟩
    rw [hs] at hs'
    rw [ht] at ht'
    obtain ⟨rfl, rfl⟩ := Prod.mk.inj (Option.some.inj hs')
    obtain rfl := Option.some.inj ht'
    simp only [beq_self_eq_true, Bool.true_and]
    exact hm
theorem sum3 (n a b : Nat) (hn : n ≤ 8192) (ha : 0 + a ≤ 8192) (hb : 0 + b ≤ 8192) : wrap64 ((n : Int) + wrap64 (wrap64 (1 + ((0 + a : Nat) : Int)) + ((0 + b : Nat) : Int))) = ((n + 1 + a + b : Nat) : Int) := by
  rw [wrap64_id (n := 1 + ((0 + a : Nat) : Int)) (by omega) (by omega), wrap64_id (n := 1 + ((0 + a : Nat) : Int) + ((0 + b : Nat) : Int)) (by omega) (by omega), wrap64_id (by omega) (by omega)]
  omega
theorem succ3 (i : Nat) (hi : i ≤ 17592186044416) : wrap64 ((i : Int) + 1) = ((i + 1 : Nat) : Int) := by
  rw [wrap64_id (by omega) (by omega)]
  omega
open Classical in
/-- What Count answers. -/
noncomputable def resC (k : Nat) (n : Nat) (l : List S54) : Int × Bool := if okD k l ∧ n + cntD k l ≤ 8192 then (((n + cntD k l : Nat) : Int), true) else (0, false)
theorem resC_yes {k n : Nat} {l : List S54} (h : okD k l) (h1 : n + cntD k l ≤ 8192) : resC k n l = (((n + cntD k l : Nat) : Int), true) := by unfold resC; rw [if_pos ⟨h, h1⟩]
theorem resC_no {k n : Nat} {l : List S54} (h : ¬ (okD k l ∧ n + cntD k l ≤ 8192)) : resC k n l = (0, false) := by unfold resC; rw [if_neg h]
theorem rd_at {l ys : List S54} {x : S54} {i : Nat} (h : l.drop i = x :: ys) : rd_T54 l (i : Int) = x ∧ i < l.length ∧ l.drop (i + 1) = ys := by
  have hi : i < l.length := by
    rcases Nat.lt_or_ge i l.length with h1 | h1
    · exact h1
    · rw [List.drop_eq_nil_of_le h1] at h; cases h
  rw [List.drop_eq_getElem_cons hi] at h
  simp only [List.cons.injEq] at h
  refine ⟨?_, hi, h.2⟩
  unfold rd_T54
  rw [Int.toNat_natCast, List.getD_eq_getElem?_getD, List.getElem?_eq_getElem hi]
  simpa using h.1
set_option maxHeartbeats 1000000 in
theorem count_l0 (k : Nat) (deep : Int) (hd : 0 ≤ deep) (hdk : deep + (k + 1 : Nat) = 33)
    (IH : ∀ (l : List S54), (k = 0 → l = []) → (∀ x ∈ l, WfI x) → l.length ≤ 17592186044416 → ∀ F : Nat, 30000 * k + 10 ≤ F → instr_count.f F l (deep + 1) = some (resC k 0 l)) (l : List S54) (hlen : l.length ≤ 17592186044416) :
    ∀ (ys : List S54) (i n F : Nat), l.drop i = ys → (∀ x ∈ ys, WfI x) → n ≤ 8192 → 30000 * k + 20 + 3 * (8193 - n) ≤ F → instr_count.l0 F deep (n : Int) l (l.length : Int) (i : Int) = some (resC (k + 1) n ys) := by
  intro ys
  induction ys with
  | nil =>
    intro i n F hdrop _ hn hF
    obtain ⟨F, rfl⟩ : ∃ q, F = q + 1 := ⟨F - 1, by omega⟩
    simp only [instr_count.l0]
    have hge : l.length ≤ i := List.drop_eq_nil_iff.mp hdrop
    rw [if_neg (by omega), resC_yes (by intro x hx; cases hx) (by show n + 0 ≤ 8192; omega)]
    rfl
  | cons x ys ih =>
    intro i n F hdrop hw hn hF
    obtain ⟨F, rfl⟩ : ∃ q, F = q + 3 := ⟨F - 3, by omega⟩
    obtain ⟨hx, hi, hdrop1⟩ := rd_at hdrop
    have hwx := hw x (by simp)
    obtain ⟨b, hb, hbk⟩ := may_at hwx
    have hcnt : cntD (k + 1) (x :: ys) = 1 + cntD k x.f5 + cntD k x.f6 + cntD (k + 1) ys := rfl
    have hok : okD (k + 1) (x :: ys) ↔ (okx x ∧ okD k x.f5 ∧ okD k x.f6 ∧ (k = 0 → blk x.f0 = false)) ∧ okD (k + 1) ys := by
      constructor
      · intro h; exact ⟨h x (by simp), fun y hy => h y (by simp [hy])⟩
      · rintro ⟨h1, h2⟩ y hy
        rcases List.mem_cons.mp hy with rfl | hy
        · exact h1
        · exact h2 y hy
    rw [instr_count.l0, if_pos (by omega), if_pos (by omega), if_pos (by omega), hx, hb]
    simp only [Option.bind_some]
    have jno : instr_count.j1 (F + 2) deep (n : Int) l (l.length : Int) (i : Int) true x.f0 x.f1 x.f2 x.f3 x.f4 x.f5 x.f6 = some (0, false) := by simp only [instr_count.j1, if_true]
    cases b with
    | false =>
      simp only [Bool.false_eq_true, if_false]
      rw [jno, resC_no]
      rintro ⟨h1, _⟩
      exact absurd (hbk.mpr (hok.mp h1).1.1) (by simp)
    | true =>
      simp only [if_true]
      have hokx := hbk.mp rfl
      -- where instructions may stand
      have hj : (k = 0 → x.f5 = []) → (k = 0 → x.f6 = []) → (k = 0 → blk x.f0 = false) → instr_count.j1 (F + 2) deep (n : Int) l (l.length : Int) (i : Int) false x.f0 x.f1 x.f2 x.f3 x.f4 x.f5 x.f6 = some (resC (k + 1) n (x :: ys)) := by
        intro k5 k6 kb
        obtain ⟨_, _, _, _, _, _, _, l5, h5, l6, h6⟩ := hwx
        simp only [instr_count.j1, Bool.false_eq_true, if_false]
        rw [wrap64_id (by omega) (by omega), IH x.f5 k5 h5 l5 (F + 1) (by omega), Option.bind_some, IH x.f6 k6 h6 l6 (F + 1) (by omega), Option.bind_some]
        by_cases c5 : okD k x.f5 ∧ 0 + cntD k x.f5 ≤ 8192
        · by_cases c6 : okD k x.f6 ∧ 0 + cntD k x.f6 ≤ 8192
          · rw [resC_yes c5.1 c5.2, resC_yes c6.1 c6.2]
            simp only [if_true, Bool.not_true, instr_count.j2, Bool.false_eq_true, if_false]
            rw [sum3 n _ _ hn c5.2 c6.2]
            by_cases hbig : n + 1 + cntD k x.f5 + cntD k x.f6 ≤ 8192
            · rw [if_neg (by omega), succ3 i (by omega)]
              have := ih (i + 1) (n + 1 + cntD k x.f5 + cntD k x.f6) F hdrop1 (fun y hy => hw y (by simp [hy])) hbig (by omega)
              rw [this]
              by_cases hr : okD (k + 1) ys ∧ n + 1 + cntD k x.f5 + cntD k x.f6 + cntD (k + 1) ys ≤ 8192
              · rw [resC_yes hr.1 hr.2, resC_yes (hok.mpr ⟨⟨hokx, c5.1, c6.1, kb⟩, hr.1⟩) (by omega), hcnt]
                congr 3
                omega
              · rw [resC_no hr, resC_no]
                rintro ⟨g1, g2⟩
                exact hr ⟨(hok.mp g1).2, by omega⟩
            · rw [if_pos (by omega), resC_no]
              rintro ⟨g1, g2⟩
              omega
          · rw [resC_yes c5.1 c5.2, resC_no c6]
            simp only [if_true, Bool.not_false, instr_count.j2]
            rw [resC_no]
            rintro ⟨g1, g2⟩
            exact c6 ⟨(hok.mp g1).1.2.2.1, by omega⟩
        · rw [resC_no c5]
          simp only [Bool.false_eq_true, if_false, instr_count.j2, if_true]
          rw [resC_no]
          rintro ⟨g1, g2⟩
          exact c5 ⟨(hok.mp g1).1.2.1, by omega⟩
      by_cases h32 : deep = 32
      · have k0 : k = 0 := by omega
        rw [if_pos h32]
        have hno : ¬ (x.f5 = [] ∧ x.f6 = [] ∧ blk x.f0 = false) → some ((0 : Int), false) = some (resC (k + 1) n (x :: ys)) := by
          intro hh
          rw [resC_no]
          rintro ⟨g1, _⟩
          have q := (hok.mp g1).1
          subst k0
          exact hh ⟨q.2.1, q.2.2.1, q.2.2.2 rfl⟩
        by_cases p5 : ((x.f5.length : Int)) > 0
        · rw [if_pos p5, jno, hno]
          rintro ⟨e5, _⟩
          rw [e5] at p5; simp at p5
        · have e5 : x.f5 = [] := List.length_eq_zero_iff.mp (by omega)
          rw [if_neg p5]
          by_cases p6 : ((x.f6.length : Int)) > 0
          · rw [if_pos p6, jno, hno]
            rintro ⟨_, e6, _⟩
            rw [e6] at p6; simp at p6
          · have e6 : x.f6 = [] := List.length_eq_zero_iff.mp (by omega)
            rw [if_neg p6, blk_at]
            simp only [Option.bind_some]
            cases hbk2 : blk x.f0 with
            | true => rw [jno, hno]; rintro ⟨_, _, h⟩; rw [hbk2] at h; cases h
            | false => exact hj (fun _ => e5) (fun _ => e6) (fun _ => hbk2)
      · rw [if_neg h32]
        exact hj (fun h => by omega) (fun h => by omega) (fun h => by omega)
theorem count_f : ∀ (k : Nat) (deep : Int), 0 ≤ deep → deep + k = 33 → ∀ (l : List S54), (k = 0 → l = []) → (∀ x ∈ l, WfI x) → l.length ≤ 17592186044416 → ∀ F : Nat, 30000 * k + 10 ≤ F → instr_count.f F l deep = some (resC k 0 l) := by
  intro k
  induction k with
  | zero =>
    intro deep h0 hd l hl _ _ F hF
    rw [hl rfl]
    obtain ⟨F, rfl⟩ : ∃ q, F = q + 2 := ⟨F - 2, by omega⟩
    simp only [instr_count.f, instr_count.l0]
    rw [if_neg (by simp), resC_yes (k := 0) (l := []) (n := 0) rfl (by show 0 + 0 ≤ 8192; omega)]
    rfl
  | succ k ih =>
    intro deep h0 hd l _ hw hlen F hF
    obtain ⟨F, rfl⟩ : ∃ q, F = q + 1 := ⟨F - 1, by omega⟩
    simp only [instr_count.f]
    exact count_l0 k deep h0 hd (fun l h1 h2 h3 F hF => ih (deep + 1) (by omega) (by omega) l h1 h2 h3 F hF) l hlen l 0 0 F (by simp) hw (by omega) (by omega)
/-- Count's answer. -/
theorem Count_eq {l : List S54} (hw : ∀ x ∈ l, WfI x) (hlen : l.length ≤ 17592186044416) (F : Nat) (hF : 1000000 ≤ F) : instr_Count.f F l = some (resC 33 0 l) := by
  unfold instr_Count.f
  rw [count_f 33 0 (by omega) (by omega) l (by omega) hw hlen F (by omega)]
  rfl

end Go.Proofs.Ytckhlbpjehbnlaa.PB

namespace Go.Proofs.Ytckhlbpjehbnlaa.PB
open Go.RowKit Go.Proofs.YtckhlbpjehbnlaaW.PrintWords Go.Proofs.YtckhlbpjehbnlaaW.PrintLast Go.Proofs.YtckhlbpjehbnlaaW.PrintMore
open Go.Proofs.Ytckhlbpjehbnlaa.Str Go.Proofs.Ytckhlbpjehbnlaa.LebS Go.Proofs.Ytckhlbpjehbnlaa.LebF
set_option linter.unusedVariables false
set_option linter.unusedSimpArgs false

theorem pre_cut {p a : List Int} {c : Int} (h : Cutp p (a ++ [c])) : ∃ q, a = p ++ q := by
  rcases cut_app h with ⟨q, hq, _⟩ | ⟨p', rfl, hc⟩
  · exact ⟨q, hq⟩
  · obtain rfl := cut_one hc
    exact ⟨[], by simp⟩
theorem pre_or {p q a b : List Int} (h : a ++ b = p ++ q) : (∃ p', p = a ++ p' ∧ b = p' ++ q) ∨ Cutp p a := by
  rcases List.append_eq_append_iff.mp h with ⟨x, hx, hx2⟩ | ⟨x, hx, hx2⟩
  · exact .inl ⟨x, hx, hx2⟩
  · by_cases hx0 : x = []
    · subst hx0
      rw [List.append_nil] at hx
      rw [List.nil_append] at hx2
      exact .inl ⟨[], by rw [hx, List.append_nil], by rw [hx2, List.nil_append]⟩
    · exact .inr ⟨x, hx, hx0⟩
theorem step_fwd {k f : Nat} {x : S54} {n deep : Int} {acc : List S54} {more : List Int} (hx : okx x ∧ okD k x.f5 ∧ okD k x.f6 ∧ (k = 0 → blk x.f0 = false)) (hr : Rng more) (hz : Sm (encX (encD k) x ++ more)) (hf : (encX (encD k) x).length ≤ f) (hn : 0 ≤ n)
    (hc : n + (1 + cntD k x.f5 + cntD k x.f6 : Nat) ≤ 8192) (hd : 0 ≤ deep) (hdk : deep + (k + 1 : Nat) = 33) (ha : acc.length + 1 ≤ 100000) :
    listL (f + 1) (strOfNums (encX (encD k) x ++ more), n, 0) deep acc = listL f (strOfNums more, n + (1 + cntD k x.f5 + cntD k x.f6 : Nat), 0) deep (acc ++ [x]) := by
  have e : encD (k + 1) [x] = encX (encD k) x := List.append_nil _
  have c : cntD (k + 1) [x] = 1 + cntD k x.f5 + cntD k x.f6 := rfl
  obtain ⟨f', hf', hq⟩ := list_fwd (k + 1) [x] (by intro y hy; rw [List.mem_singleton.mp hy]; exact hx) (f + 1) n deep acc more hr (by rw [e]; exact hz) (by rw [e]; omega) hn (by rw [c]; exact hc) hd hdk (by simpa using ha)
  obtain rfl : f' = f := by simpa using hf'
  rw [e, c] at hq
  exact hq
theorem cnt_le {k : Nat} {x : S54} {l : List S54} : cntD (k + 1) (x :: l) = 1 + cntD k x.f5 + cntD k x.f6 + cntD (k + 1) l := rfl
set_option maxHeartbeats 1000000 in
/-- What is cut off has no end. -/
theorem list_cut : ∀ (k : Nat) (l : List S54), okD k l → ∀ (p q : List Int), encD k l = p ++ q → ∀ (f : Nat) (n deep : Int) (acc : List S54), Sm p → p.length + 2 ≤ f → 0 ≤ n → n + cntD k l ≤ 8192 → 0 ≤ deep → deep + k = 33 → acc.length + l.length ≤ 100000 →
    ∃ z n', listL f (strOfNums p, n, 0) deep acc = some ([], 11, z, n', 2) := by
  have nil : ∀ (f : Nat) (n deep : Int) (acc : List S54), 2 ≤ f → acc.length ≤ 100000 → ∃ z n', listL f (strOfNums [], n, 0) deep acc = some ([], 11, z, n', 2) := by
    intro f n deep acc hf ha
    obtain ⟨f, rfl⟩ : ∃ q, f = q + 2 := ⟨f - 2, by omega⟩
    rw [str_nil]
    exact ⟨_, _, listL_nil (by omega)⟩
  intro k
  induction k with
  | zero =>
    intro l hl p q hpq f n deep acc hz hf hn hc hd hdk ha
    have hp : p = [] := by
      have : ([] : List Int) = p ++ q := hpq
      simp at this
      exact this.1
    subst hp
    exact nil f n deep acc (by simpa using hf) (by omega)
  | succ k ih =>
    intro l
    induction l with
    | nil =>
      intro hl p q hpq f n deep acc hz hf hn hc hd hdk ha
      have hp : p = [] := by
        have : ([] : List Int) = p ++ q := hpq
        simp at this
        exact this.1
      subst hp
      exact nil f n deep acc (by simpa using hf) (by omega)
    | cons x l ihl =>
      intro hl p q hpq f n deep acc hz hf hn hc hd hdk ha
      have hx := hl x (by simp)
      have hl' : okD (k + 1) l := fun y hy => hl y (by simp [hy])
      have e : encD (k + 1) (x :: l) = encX (encD k) x ++ encD (k + 1) l := rfl
      rw [cnt_le] at hc
      rw [e] at hpq
      simp only [List.length_cons] at ha
      rcases pre_or hpq with ⟨p', rfl, hq'⟩ | hcut
      · have hrp : Rng p' := by
          have := encD_rng (k + 1) l hl'
          rw [hq'] at this
          exact this.left
        simp only [List.length_append] at hf
        have hpos : 1 ≤ (encX (encD k) x).length := by
          unfold encX
          have := opb_pos x.f0
          simp only [List.length_append]; omega
        obtain ⟨f, rfl⟩ : ∃ q, f = q + 1 := ⟨f - 1, by omega⟩
        rw [step_fwd hx hrp hz (by omega) hn (by omega) hd hdk (by omega)]
        exact ihl hl' p' q hq' f _ deep _ (sm_app hz) (by omega) (by omega) (by omega) hd hdk (by simp only [List.length_append, List.length_singleton]; omega)
      · obtain ⟨⟨s, t, hs, ht, hm, h0, h1⟩, hL, hE, hb⟩ := hx
        have hk := shp_ok hs
        rw [encX_eq hs] at hcut
        have hrL := encD_rng k _ hL
        have hrE := encD_rng k _ hE
        have hrin : Rng (if s = 2 then inner (encD k) x else []) := by
          split
          · unfold inner
            refine hrL.app (Rng.app ?_ (Rng.cons (by omega) Rng.nil))
            split
            · exact Rng.nil
            · exact Rng.cons (by omega) hrE
          · exact Rng.nil
        have hrb := body_rng hk ht hm
        obtain ⟨f, rfl⟩ : ∃ q, f = q + 2 := ⟨f - 2, by omega⟩
        rcases cut_app hcut with hc1 | ⟨p1, rfl, hc1⟩
        · -- within the opcode
          unfold opb at hc1
          by_cases h : x.f0 ≥ 64512
          · rw [if_pos h] at hc1
            cases p with
            | nil => exact nil (f + 2) n deep acc (by omega) (by omega)
            | cons c p =>
              obtain ⟨r, hr, hrn⟩ := hc1
              simp only [List.cons_append, List.cons.injEq] at hr
              obtain ⟨rfl, hr⟩ := hr
              have hcp : Cutp p (pu (x.f0 - 64512).toNat) := ⟨r, hr, hrn⟩
              have hzp : Sm p := by
                have : (252 :: p).length ≤ 140737488351232 := hz
                rw [List.length_cons] at this
                show p.length ≤ _
                omega
              have g1 := rByte_cons (n := n) (Rng.cons (c := 252) (by omega) (cut_rng hcp (Rng.pu _)))
              obtain ⟨a, b, m, N, g3⟩ := @num_err ⟨#[]⟩ n 2 (by decide) 64512
              have g2 : opF (252, strOfNums p, n, 0) = some (64512, ⟨#[]⟩, n, 2) := by
                unfold opF
                rw [if_pos rfl]
                simp only
                rw [rU_cut hcp hzp]
                simp only [Option.bind_some]
                rw [wrap64_id (by omega) (by omega)]
                rfl
              exact ⟨_, _, listL_fault g1 (by omega) g2 g3 (by decide) (by omega)⟩
          · rw [if_neg h] at hc1
            obtain rfl := cut_one hc1
            exact nil (f + 2) n deep acc (by omega) (by omega)
        · simp only [List.length_append] at hf
          have hop := opb_pos x.f0
          have hr1 : Rng p1 := cut_rng hc1 (hrb.app hrin)
          obtain ⟨c, l1, g1, gc, g2⟩ := op_fwd (n := n) hk hr1 hz
          rcases cut_app hc1 with hc2 | ⟨p2, rfl, hc2⟩
          · -- within the numbers
            obtain ⟨a, b, m, N, z, g3⟩ := num_cut (n := n) hs ht hm h0 h1 hc2 (sm_app hz)
            exact ⟨_, _, listL_fault g1 gc g2 g3 (by decide) (by omega)⟩
          · -- within the block
            have h2 : s = 2 := by
              by_cases h2 : s = 2
              · exact h2
              · rw [if_neg h2] at hc2
                exact (cut_nil hc2).elim
            have hbk : blk x.f0 = true := blk_iff.mpr (hk.two.mp h2)
            rw [if_pos h2] at hc2 hrin
            have g3 := num_fwd (n := n) hs ht hm h0 h1 (cut_rng hc2 hrin) (sm_app hz)
            have hbd : blk x.f0 = true → deep ≠ 32 := fun h hd32 => by
              have : k = 0 := by omega
              rw [hb this] at h
              cases h
            have g4 := full_ok (s := strOfNums p2) (op := x.f0) (deep := deep) hn (by omega) hbd
            have hdw : wrap64 (deep + 1) = deep + 1 := wrap64_id (by omega) (by omega)
            have hz2 : Sm p2 := sm_app (sm_app hz)
            simp only [List.length_append] at hf
            have hnL := cnt_len k _ hL
            have hnE := cnt_len k _ hE
            have key : ∃ L E z n', inF (f + 1) x.f0 deep (strOfNums p2, n + 1, 0) = some (L, E, z, n', 2) := by
              unfold inF
              rw [if_pos ⟨rfl, hbk⟩, hdw]
              rcases cut_app hc2 with ⟨qq, hqq, _⟩ | ⟨p3, rfl, hc3⟩
              · obtain ⟨z, n', hq⟩ := ih x.f5 hL p2 qq hqq (f + 1) (n + 1) (deep + 1) [] hz2 (by omega) (by omega) (by omega) (by omega) (by omega) (by simp; omega)
                rw [hq]
                exact ⟨_, _, _, _, rfl⟩
              · by_cases h6 : x.f6.length = 0
                · rw [if_pos h6] at hc3
                  obtain rfl := cut_one (c := 11) hc3
                  obtain ⟨z, n', hq⟩ := ih x.f5 hL (encD k x.f5) [] (by simp) (f + 1) (n + 1) (deep + 1) [] (by simpa using hz2) (by simp only [List.length_append] at hf; omega) (by omega) (by omega) (by omega) (by omega) (by simp; omega)
                  rw [List.append_nil, hq]
                  exact ⟨_, _, _, _, rfl⟩
                · rw [if_neg h6] at hc3
                  cases p3 with
                  | nil =>
                    obtain ⟨z, n', hq⟩ := ih x.f5 hL (encD k x.f5) [] (by simp) (f + 1) (n + 1) (deep + 1) [] (by simpa using hz2) (by simp only [List.length_append] at hf; omega) (by omega) (by omega) (by omega) (by omega) (by simp; omega)
                    rw [List.append_nil, hq]
                    exact ⟨_, _, _, _, rfl⟩
                  | cons c4 p4 =>
                    obtain ⟨r, hr, hrn⟩ := hc3
                    simp only [List.cons_append, List.cons.injEq] at hr
                    obtain ⟨rfl, hr⟩ := hr
                    obtain ⟨q4, hq4⟩ := pre_cut (p := p4) (a := encD k x.f6) (c := 11) ⟨r, hr, hrn⟩
                    have hr4 : Rng p4 := by
                      have := hrE
                      rw [hq4] at this
                      exact this.left
                    have hr5 : Rng (5 :: p4) := Rng.cons (by omega) hr4
                    have h4 : x.f0 = 4 := by
                      subst h2
                      rcases may_block hm with h | h
                      · exact h
                      · rw [h] at h6; simp at h6
                    simp only [List.length_append, List.length_cons] at hf
                    have hlL := encD_len k _ hL
                    obtain ⟨f', ef, hq⟩ := list_fwd k x.f5 hL (f + 1) (n + 1) (deep + 1) [] (5 :: p4) hr5 hz2 (by omega) (by omega) (by omega) (by omega) (by omega) (by simp; omega)
                    obtain ⟨f', rfl⟩ : ∃ q, f' = q + 1 := ⟨f' - 1, by omega⟩
                    rw [hq, listL_end hr5 (.inr rfl)]
                    simp only [Option.bind_some, if_true]
                    rw [if_pos h4]
                    simp only [Option.bind_some]
                    have hz4 : Sm p4 := sm_le (sm_app hz2) (by simp only [List.length_cons]; omega)
                    obtain ⟨z, n', hq2⟩ := ih x.f6 hE p4 q4 hq4 (f + 1) (n + 1 + cntD k x.f5) (deep + 1) [] hz4 (by omega) (by omega) (by omega) (by omega) (by omega) (by simp; omega)
                    rw [hq2]
                    exact ⟨_, _, _, _, rfl⟩
            obtain ⟨L, E, z, n', g5⟩ := key
            rw [listL_step g1 gc g2 g3 g4 g5 (by omega)]
            exact ⟨_, _, listL_err (by decide)⟩

end Go.Proofs.Ytckhlbpjehbnlaa.PB

namespace Go.Proofs.Ytckhlbpjehbnlaa.PB
open Go.RowKit Go.Proofs.YtckhlbpjehbnlaaW.PrintWords Go.Proofs.YtckhlbpjehbnlaaW.PrintLast Go.Proofs.YtckhlbpjehbnlaaW.PrintMore

def aw1 : List S54 := [(⟨65, (-1), 0, 0, ([] : List Int), ([] : List (S54)), ([] : List (S54))⟩ : S54), (⟨26, 0, 0, 0, ([] : List Int), ([] : List (S54)), ([] : List (S54))⟩ : S54)]
def aw2 : List S54 := [(⟨4, (-64), 0, 0, ([] : List Int), (([(⟨1, 0, 0, 0, ([] : List Int), ([] : List (S54)), ([] : List (S54))⟩ : S54)] : List (S54))), (([(⟨15, 0, 0, 0, ([] : List Int), ([] : List (S54)), ([] : List (S54))⟩ : S54)] : List (S54)))⟩ : S54)]
theorem aw_c1 : instr_Count.f 1000000 aw1 = some (2, true) := at_rounds (instr_Count.mono aw1) (k := 60) (by omega) (by decide +kernel)
theorem aw_c2 : instr_Count.f 1000000 aw2 = some (3, true) := at_rounds (instr_Count.mono aw2) (k := 60) (by omega) (by decide +kernel)
theorem aw_p1 : putF 60 aw1 = some (strOfNums [65, 127, 26]) := by decide +kernel
theorem aw_p2 : putF 60 aw2 = some (strOfNums [4, 64, 1, 5, 15, 11]) := by decide +kernel
theorem aw_q1 : instr_Put.f aw1 = some (strOfNums [65, 127, 26, 11], 0) := by
  unfold instr_Put.f
  rw [aw_c1, Option.bind_some, if_pos rfl, aw_p1, Option.bind_some]
  decide +kernel
theorem aw_q2 : instr_Put.f aw2 = some (strOfNums [4, 64, 1, 5, 15, 11, 11], 0) := by
  unfold instr_Put.f
  rw [aw_c2, Option.bind_some, if_pos rfl, aw_p2, Option.bind_some]
  decide +kernel
theorem aw_t1 : ∃ x, instr_Take.f (⟨#[67, 0, 0, 0, 0, 11]⟩ : ByteArray) = some x ∧ x.2.2 = 3 := by
  have h : (instr_Take.f (⟨#[67, 0, 0, 0, 0, 11]⟩ : ByteArray)).map (fun x => x.2.2) = some 3 := by decide +kernel
  obtain ⟨x, h1, h2⟩ := Option.map_eq_some_iff.mp h
  exact ⟨x, h1, h2⟩
theorem aw_t2 : ∃ x, instr_Take.f (strOfNums [65, 127, 26, 11] ++ (⟨#[122]⟩ : ByteArray)) = some x ∧ x.1.length = 2 ∧ x.2.1.toList = ([122] : List UInt8) ∧ x.2.2 = 0 := by
  have h : (instr_Take.f (strOfNums [65, 127, 26, 11] ++ (⟨#[122]⟩ : ByteArray))).map (fun x => (x.1.length, x.2.1.toList, x.2.2)) = some (2, ([122] : List UInt8), 0) := by decide +kernel
  obtain ⟨x, h1, h2⟩ := Option.map_eq_some_iff.mp h
  simp only [Prod.mk.injEq] at h2
  exact ⟨x, h1, h2⟩
theorem awake_ok (k : Nat) : scarflaw05_awake.f (k + 1) = some true := by
  obtain ⟨x1, h1, e1⟩ := aw_t1
  obtain ⟨x2, h2, e2, e3, e4⟩ := aw_t2
  have b1 : (strOfNums [65, 127, 26, 11]).toList = ([65, 127, 26, 11] : List UInt8) := by decide +kernel
  have b2 : (strOfNums [4, 64, 1, 5, 15, 11, 11]).toList = ([4, 64, 1, 5, 15, 11, 11] : List UInt8) := by decide +kernel
  have b3 : (strOfNums [65, 127, 26, 11]).size + 1 ≤ 9223372036854775807 := by decide +kernel
  have q1 := aw_q1
  have q2 := aw_q2
  unfold aw1 at q1
  unfold aw2 at q2
  unfold scarflaw05_awake.f
  rw [q1, Option.bind_some, q2, Option.bind_some, h1, Option.bind_some]
  simp only [b3, if_true, h2, Option.bind_some, b1, b2, e1, e2, e3, e4, scarflaw05_awake.j0]
  rfl

end Go.Proofs.Ytckhlbpjehbnlaa.PB

namespace Go.Proofs.Ytckhlbpjehbnlaa.PB
open Go.RowKit Go.Proofs.YtckhlbpjehbnlaaW.PrintWords Go.Proofs.YtckhlbpjehbnlaaW.PrintLast Go.Proofs.YtckhlbpjehbnlaaW.PrintMore
open Go.Proofs.Ytckhlbpjehbnlaa.Str Go.Proofs.Ytckhlbpjehbnlaa.LebS Go.Proofs.Ytckhlbpjehbnlaa.LebF
set_option linter.unusedVariables false
set_option linter.unusedSimpArgs false

theorem pu5 {n : Nat} (h : n < 4294967296) : (pu n).length ≤ 5 := pu_len 4 n (by omega)
theorem pu_in {a : Int} (h : inx a = true) : (pu a.toNat).length ≤ 5 := by
  have := inx_iff.mp h
  exact pu5 (by omega)
theorem ps10 {n : Int} (h0 : -9223372036854775808 ≤ n) (h1 : n < 9223372036854775808) : (ps n).length ≤ 10 := ps_len 9 n (by omega) (by omega)
theorem opb_len {op s : Int} (h : ShOk op s) : (opb op).length ≤ 6 := by
  unfold opb
  have := h.range
  split
  · have := pu5 (n := (op - 64512).toNat) (by omega)
    simp only [List.length_cons]; omega
  · simp
theorem body_len {x : S54} {s : Int} {t : Int × Int} (hk : ShOk x.f0 s) (hm : mayS s x.f0 x.f1 x.f2 x.f3 x.f4 x.f5 x.f6 t = true) (h0 : -9223372036854775808 ≤ x.f1) (h1 : x.f1 < 9223372036854775808) : (body s x).length ≤ 9020 := by
  obtain ⟨op, a, b, m, N, L, E⟩ := x
  simp only at hk hm h0 h1 ⊢
  have hps := ps10 h0 h1
  rcases s_cases hk with rfl | rfl | rfl | rfl | rfl | rfl | rfl | rfl | rfl | rfl | rfl <;> simp [mayS] at hm <;> simp only [body, Int.reduceEq, if_false, if_true]
  · simp
  · omega
  · have := pu_in hm.1; omega
  · obtain ⟨⟨⟨ha, hn⟩, hN⟩, rfl, rfl, rfl, rfl⟩ := hm
    have hw : ∀ x ∈ N, (Lit.int .i64 x).wf = true := fun x hx => by
      have := inx_iff.mp (hN x hx)
      exact wf64_mk (by omega) (by omega)
    have h3 := puA_len N hw
    have h4 := pu_in ha
    have h5 := pu5 (n := N.length) (by omega)
    simp only [List.length_append]
    omega
  · have h3 := pu_in hm.1.1
    have h4 := pu_in hm.1.2
    simp only [List.length_append]; omega
  · simp
  · obtain ⟨⟨⟨⟨ha, hm⟩, hb0⟩, hb1⟩, rfl, rfl, rfl⟩ := hm
    have h3 := pu_in ha
    have h4 := pu_in hm
    have h5 := pu5 (n := (b + 64).toNat) (by omega)
    have h6 := pu5 (n := b.toNat) (by omega)
    split <;> simp only [List.length_append] <;> omega
  · have := pu_in hm.1; omega
  · have h3 := pu_in hm.1.1
    have h4 := pu_in hm.1.2
    simp only [List.length_append]; omega
  · omega
  · simp
theorem encD_size : ∀ (k : Nat) (l : List S54), okD k l → (encD k l).length ≤ 9100 * cntD k l := by
  intro k
  induction k with
  | zero => intro l h; simp [encD, cntD]
  | succ k ih =>
    intro l
    induction l with
    | nil => intro _; simp [encD, encL, cntD, cntL]
    | cons x l ihl =>
      intro h
      have h1 := ihl (fun y hy => h y (by simp [hy]))
      obtain ⟨⟨s, t, hs, ht, hm, h0, h2⟩, hL, hE, _⟩ := h x (by simp)
      have e : encD (k + 1) (x :: l) = encX (encD k) x ++ encD (k + 1) l := rfl
      have hk := shp_ok hs
      rw [e, encX_eq hs, cnt_le]
      have a1 := opb_len hk
      have a2 := body_len hk hm h0 h2
      have a3 := ih _ hL
      have a4 := ih _ hE
      have a5 : (if s = 2 then inner (encD k) x else []).length ≤ (encD k x.f5).length + (encD k x.f6).length + 2 := by
        split
        · unfold inner
          simp only [List.length_append, List.length_singleton]
          split
          · simp only [List.length_nil]; omega
          · simp only [List.length_cons]; omega
        · simp
      simp only [List.length_append]
      omega
/-- Instructions that may be laid. -/
def Fits (l : List S54) : Prop := okD 33 l ∧ cntD 33 l ≤ 8192
theorem Fits.len {l : List S54} (h : Fits l) : (encD 33 l).length ≤ 80000000 := by
  have := encD_size 33 l h.1
  have := h.2
  omega
theorem Fits.rng {l : List S54} (h : Fits l) : Rng (encD 33 l) := encD_rng 33 l h.1
theorem Put_yes {l : List S54} (hw : ∀ x ∈ l, WfI x) (hl : l.length ≤ 17592186044416) (h : Fits l) : instr_Put.f l = some (strOfNums (encD 33 l ++ [11]), 0) := by
  unfold instr_Put.f
  have h2 := h.2
  rw [Count_eq hw hl 1000000 (Nat.le_refl _), resC_yes h.1 (by omega)]
  simp only [Option.bind_some, if_true]
  rw [putF_eq 33 60 l (by omega) h.1 h2]
  simp only [Option.bind_some]
  have := h.len
  rw [if_pos (by rw [strOfNums_size]; omega), ← strOfNums_append]
theorem Put_no {l : List S54} (hw : ∀ x ∈ l, WfI x) (hl : l.length ≤ 17592186044416) (h : ¬ Fits l) : instr_Put.f l = some (⟨#[]⟩, 1) := by
  unfold instr_Put.f
  rw [Count_eq hw hl 1000000 (Nat.le_refl _), resC_no (fun ⟨h1, h2⟩ => h ⟨h1, by omega⟩)]
  simp
theorem Take_fault {l : List Int} {L : List S54} {ec : Int} {z : ByteArray} {n e : Int} (h : listL (l.length + 10) (strOfNums l, 0, 0) 0 [] = some (L, ec, z, n, e)) (he : e ≠ 0) (hc : ec = 11) : instr_Take.f (strOfNums l) = some ([], ⟨#[]⟩, e) := by
  unfold instr_Take.f takeF
  rw [strOfNums_size, h]
  simp only [Option.bind_some]
  rw [if_neg (by omega)]
  simp only [Option.bind_some]
  rw [if_neg he]
theorem Take_done {l r : List Int} {L : List S54} {n : Int} (h : listL (l.length + 10) (strOfNums l, 0, 0) 0 [] = some (L, 11, strOfNums r, n, 0)) : instr_Take.f (strOfNums l) = some (L, strOfNums r, 0) := by
  unfold instr_Take.f takeF
  rw [strOfNums_size, h]
  simp only [Option.bind_some]
  rw [if_neg (by omega)]
  simp only [Option.bind_some]
  rw [if_pos trivial]
theorem Take_fwd {l : List S54} (h : Fits l) (more : List Int) (hr : Rng more) (hm : more.length ≤ 100000000000) : instr_Take.f (strOfNums (encD 33 l ++ 11 :: more)) = some (l, strOfNums more, 0) := by
  have hlen := h.len
  have hr' : Rng (11 :: more) := Rng.cons (by omega) hr
  have hz : Sm (encD 33 l ++ 11 :: more) := by
    show List.length _ ≤ _
    simp only [List.length_append, List.length_cons]; omega
  have h2 := h.2
  have h3 := cnt_len 33 l h.1
  have h4 := encD_len 33 l h.1
  obtain ⟨f', ef, hq⟩ := list_fwd 33 l h.1 ((encD 33 l ++ 11 :: more).length + 10) 0 0 [] (11 :: more) hr' hz (by simp only [List.length_append, List.length_cons]; omega) (by omega) (by omega) (by omega) (by omega) (by simp; omega)
  simp only [List.length_append, List.length_cons] at ef
  obtain ⟨f', rfl⟩ : ∃ q, f' = q + 1 := ⟨f' - 1, by omega⟩
  rw [listL_end hr' (.inl rfl)] at hq
  exact Take_done (n := 0 + cntD 33 l) (by rw [hq, List.nil_append])
theorem Take_cut {l : List S54} (h : Fits l) (p : List Int) (hp : Cutp p (encD 33 l ++ [11])) : instr_Take.f (strOfNums p) = some ([], ⟨#[]⟩, 2) := by
  obtain ⟨q, hq⟩ := pre_cut hp
  have hlen := h.len
  have h2 := h.2
  have h3 := cnt_len 33 l h.1
  have hpl : p.length ≤ 80000000 := by
    have := congrArg List.length hq
    rw [List.length_append] at this
    omega
  obtain ⟨z, n', hh⟩ := list_cut 33 l h.1 p q hq (p.length + 10) 0 0 [] (by show p.length ≤ _; omega) (by omega) (by omega) (by omega) (by omega) (by omega) (by simp; omega)
  exact Take_fault hh (by decide) rfl
theorem Take_refused {l : List S54} (h : Fits l) (hc : cntD 33 l < 8192) {op e : Int} (h0 : 0 ≤ op) (h1 : op ≤ 255) (h5 : op ≠ 5) (h11 : op ≠ 11) (h252 : op ≠ 252) (hs : instr_Shape.f 40 op = some (0, e)) (he : e ≠ 0) :
    instr_Take.f (strOfNums (encD 33 l ++ [op, 11])) = some ([], ⟨#[]⟩, e) := by
  have hlen := h.len
  have hr' : Rng [op, 11] := Rng.cons (by omega) (Rng.cons (by omega) Rng.nil)
  have hz : Sm (encD 33 l ++ [op, 11]) := by
    show List.length _ ≤ _
    simp only [List.length_append, List.length_cons, List.length_nil]; omega
  have h2 := h.2
  have h3 := cnt_len 33 l h.1
  have h4 := encD_len 33 l h.1
  obtain ⟨f', ef, hq⟩ := list_fwd 33 l h.1 ((encD 33 l ++ [op, 11]).length + 10) 0 0 [] [op, 11] hr' hz (by simp only [List.length_append, List.length_cons]; omega) (by omega) (by omega) (by omega) (by omega) (by simp; omega)
  simp only [List.length_append, List.length_cons, List.length_nil] at ef
  obtain ⟨f', rfl⟩ : ∃ q, f' = q + 2 := ⟨f' - 2, by omega⟩
  have g1 := rByte_cons (n := 0 + (cntD 33 l : Int)) hr'
  have g2 : opF (op, strOfNums [11], 0 + (cntD 33 l : Int), 0) = some (op, strOfNums [11], 0 + (cntD 33 l : Int), 0) := by
    unfold opF
    rw [if_neg h252]
  have g3 : numF (strOfNums [11], 0 + (cntD 33 l : Int), 0) op = some (0, 0, 0, [], strOfNums [11], 0 + (cntD 33 l : Int), e) := by
    unfold numF
    rw [hs]
    simp only [Option.bind_some, rFail_0, Int.reduceEq, if_false]
  rw [listL_fault g1 (by omega) g2 g3 he (by simp; omega)] at hq
  exact Take_fault hq he rfl
theorem awk (k : Nat) (hk : 1 ≤ k) : scarflaw05_awake.f k = some true := by
  obtain ⟨k, rfl⟩ : ∃ m, k = m + 1 := ⟨k - 1, by omega⟩
  exact awake_ok k

end Go.Proofs.Ytckhlbpjehbnlaa.PB

namespace Go.Proofs.Ytckhlbpjehbnlaa.PB
open Go.RowKit Go.Proofs.YtckhlbpjehbnlaaW.PrintWords Go.Proofs.YtckhlbpjehbnlaaW.PrintLast Go.Proofs.YtckhlbpjehbnlaaW.PrintMore
open Go.Proofs.Ytckhlbpjehbnlaa.Str Go.Proofs.Ytckhlbpjehbnlaa.LebS Go.Proofs.Ytckhlbpjehbnlaa.LebF
set_option linter.unusedVariables false

theorem ex_take (l : List Int) (hl : Rng l) (i : Nat) : (strOfNums l).extract 0 i = strOfNums (l.take i) := by
  rw [← str_of ((strOfNums l).extract 0 i), bytes_head, bytes_of hl]
theorem law_cut (l : List S54) (a1 : Int) (hm : l.length ≤ 17592186044416) (hw : ∀ x ∈ l, WfI x) (ha : (Lit.int .i64 a1).wf = true) : ∃ k, scarflaw05_InstrCut.f k l a1 = some true := by
  refine ⟨10, ?_⟩
  unfold scarflaw05_InstrCut.f
  have jt : ∀ s, scarflaw05_InstrCut.j0 10 a1 s true = some true := fun s => by
    simp only [scarflaw05_InstrCut.j0, if_true]
    rw [awk 9 (by omega)]; rfl
  by_cases h : Fits l
  · rw [Put_yes hw hm h]
    simp only [Option.bind_some, if_true]
    split
    · exact jt _
    · rename_i h0
      by_cases h1 : a1 ≥ ((strOfNums (encD 33 l ++ [11])).size : Int)
      · rw [decide_eq_true h1]; exact jt _
      · rw [decide_eq_false h1]
        simp only [scarflaw05_InstrCut.j0, Bool.false_eq_true, if_false]
        rw [if_pos (by omega), if_pos (by omega), ex_take _ (h.rng.app (Rng.cons (by omega) Rng.nil))]
        rw [strOfNums_size] at h1
        have hc : Cutp ((encD 33 l ++ [11]).take a1.toNat) (encD 33 l ++ [11]) := ⟨(encD 33 l ++ [11]).drop a1.toNat, (List.take_append_drop _ _).symm, fun hh => by
          have := List.drop_eq_nil_iff.mp hh
          omega⟩
        rw [Take_cut h _ hc]
        simp only [Option.bind_some, List.length_nil, empty_toList, if_true]
        rw [awk 9 (by omega)]; rfl
  · rw [Put_no hw hm h]
    simp only [Option.bind_some]
    rw [if_neg (by decide)]
    exact jt _

end Go.Proofs.Ytckhlbpjehbnlaa.PB
