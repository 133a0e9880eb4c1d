/- Several texts of this session, laid into one for a claim: InstrOn, PureInstrOnly. -/
import Derived.Test.YtckhlbpjehbnlaaGInstrOnly0
namespace Go.Proofs.Ytckhlbpjehbnlaa.PB
open Go.RowKit Go.Proofs.YtckhlbpjehbnlaaW.PrintWords Go.Proofs.YtckhlbpjehbnlaaW.PrintLast Go.Proofs.YtckhlbpjehbnlaaW.PrintMore
open Go.Proofs.Ytckhlbpjehbnlaa.Str Go.Proofs.Ytckhlbpjehbnlaa.LebS Go.Proofs.Ytckhlbpjehbnlaa.LebF
set_option linter.unusedVariables false
/-- What Take answers, of any bytes that are not too many. -/
theorem Take_any (l : List Int) (hl : Rng l) (hlen : l.length ≤ 400000) :
    (∃ L r, instr_Take.f (strOfNums l) = some (L, strOfNums r, 0) ∧ Fits L ∧ Rng r ∧ (encD 33 L).length + 1 + r.length ≤ l.length) ∨ ∃ e, e ≠ 0 ∧ instr_Take.f (strOfNums l) = some ([], ⟨#[]⟩, e) := by
  obtain ⟨out, ec, r, n', e, h, hr, hrl, hz⟩ := list_any (l.length + 10) l 0 0 [] 32 hl (by omega) (by omega) (by omega) (by omega) (by omega) (by omega) (by simp; omega)
  rcases hz with ⟨rfl, hec, hn, new, hout, hok, hcnt, henc⟩ | ⟨he, hout, hec⟩
  · rw [List.nil_append] at hout
    subst hout
    rcases hec with rfl | rfl
    · have hcnt' : n' = 0 + (cntD 33 out : Int) := hcnt
      exact .inl ⟨out, r, Take_done h, ⟨hok, by omega⟩, hr, henc⟩
    · refine .inr ⟨2, by decide, ?_⟩
      unfold instr_Take.f takeF
      rw [strOfNums_size, h]
      simp only [Option.bind_some, if_true]
      rw [rFail_0]
      simp
  · subst hout
    exact .inr ⟨e, he, Take_fault h he hec⟩
/-- What may be laid has numbers of their kind. -/
theorem okD_wf : ∀ (k : Nat) (l : List S54), okD k l → cntD k l ≤ 8192 → (∀ x ∈ l, (Lit.int .i64 x.f0).wf = true) → ∀ x ∈ l, okx x := by
  intro k
  cases k with
  | zero => intro l hl _ _ x hx; rw [show l = [] from hl] at hx; cases hx
  | succ k => intro l hl _ _ x hx; exact (hl x hx).1
theorem may_range {x : S54} {s : Int} {t : Int × Int} (hk : ShOk x.f0 s) (hm : mayS s x.f0 x.f1 x.f2 x.f3 x.f4 x.f5 x.f6 t = true) : (0 ≤ x.f2 ∧ x.f2 < 64) ∧ (0 ≤ x.f3 ∧ x.f3 < 4294967296) ∧ ∀ n ∈ x.f4, 0 ≤ n ∧ n < 4294967296 := by
  have nil : ∀ n ∈ ([] : List Int), 0 ≤ n ∧ n < 4294967296 := fun n hn => by cases hn
  rcases s_cases hk with rfl | rfl | rfl | rfl | rfl | rfl | rfl | rfl | rfl | rfl | rfl <;> simp [mayS] at hm
  · obtain ⟨_, h2, h3, h4, _⟩ := hm; rw [h2, h3, h4]; exact ⟨by omega, by omega, nil⟩
  · obtain ⟨_, h2, h3, h4⟩ := hm; rw [h2, h3, h4]; exact ⟨by omega, by omega, nil⟩
  · obtain ⟨_, h2, h3, h4, _⟩ := hm; rw [h2, h3, h4]; exact ⟨by omega, by omega, nil⟩
  · obtain ⟨⟨_, h4⟩, h2, h3, _⟩ := hm; rw [h2, h3]; exact ⟨by omega, by omega, fun n hn => inx_iff.mp (h4 n hn)⟩
  · obtain ⟨⟨_, h3⟩, h2, h4, _⟩ := hm; rw [h2, h4]; exact ⟨by omega, inx_iff.mp h3, nil⟩
  · obtain ⟨_, h2, h3, h4, _⟩ := hm; rw [h2, h3, h4]; exact ⟨by omega, by omega, nil⟩
  · obtain ⟨⟨⟨⟨_, h3⟩, h20⟩, h21⟩, h4, _⟩ := hm; rw [h4]; exact ⟨⟨h20, h21⟩, inx_iff.mp h3, nil⟩
  · obtain ⟨h3, _, h2, h4, _⟩ := hm; rw [h2, h4]; exact ⟨by omega, inx_iff.mp h3, nil⟩
  · obtain ⟨⟨_, h3⟩, h2, h4, _⟩ := hm; rw [h2, h4]; exact ⟨by omega, inx_iff.mp h3, nil⟩
  · obtain ⟨_, h2, h3, h4, _⟩ := hm; rw [h2, h3, h4]; exact ⟨by omega, by omega, nil⟩
  · obtain ⟨_, h2, h3, h4, _⟩ := hm; rw [h2, h3, h4]; exact ⟨by omega, by omega, nil⟩
theorem okD_WfI : ∀ (k : Nat) (l : List S54), okD k l → cntD k l ≤ 8192 → ∀ x ∈ l, WfI x := by
  intro k
  induction k with
  | zero => intro l hl _ x hx; rw [show l = [] from hl] at hx; cases hx
  | succ k ih =>
    intro l hl hc x hx
    have hsub : ∀ x ∈ l, cntD k x.f5 + cntD k x.f6 ≤ cntD (k + 1) l := by
      clear hc hl hx
      induction l with
      | nil => intro x hx; cases hx
      | cons y l ihl =>
        intro x hx
        rw [cnt_le]
        rcases List.mem_cons.mp hx with rfl | hx
        · omega
        · have := ihl x hx; omega
    obtain ⟨⟨s, t, hs, ht, hm, h0, h1⟩, hL, hE, _⟩ := hl x hx
    have hk := shp_ok hs
    have hr := hk.range
    have hs' := hsub x hx
    have h4 := mayN hk hm
    obtain ⟨hb, hM, hN⟩ := may_range hk hm
    have l5 := cnt_len k _ hL
    have l6 := cnt_len k _ hE
    exact .mk x (wf64_mk (by omega) (by omega)) (wf64_mk h0 h1) (wf64_mk (by omega) (by omega)) (wf64_mk (by omega) (by omega)) (by omega) (fun n hn => by have := hN n hn; exact wf64_mk (by omega) (by omega))
      (by omega) (ih _ hL (by omega)) (by omega) (ih _ hE (by omega))
theorem law_only_j (l : List Int) (hl : Rng l) (hlen : l.length ≤ 20000) : ∃ k, scarflaw05_InstrOnly.j0 k (strOfNums l) = some true := by
  have aw : ∀ k, 1 ≤ k → (scarflaw05_awake.f k).bind (fun t => some t) = some true := fun k hk => by rw [awk k hk]; rfl
  rcases Take_any l hl (by omega) with ⟨L, r, h, hfit, hr, hle⟩ | ⟨e, he, h⟩
  · obtain ⟨k, hk⟩ := hfit.same
    refine ⟨k + 2, ?_⟩
    have hw := okD_WfI 33 L hfit.1 hfit.2
    have hL := cnt_len 33 L hfit.1
    have h2 := hfit.2
    have ht := Take_fwd hfit [] Rng.nil (by simp)
    simp only [scarflaw05_InstrOnly.j0]
    rw [h]
    simp only [Option.bind_some, if_true]
    rw [Put_yes hw (by omega) hfit]
    simp only [Option.bind_some, if_true]
    rw [ht]
    simp only [Option.bind_some, if_true, empty_nums]
    rw [same_up hk (by omega)]
    simp only [Option.bind_some, if_true, strOfNums_size]
    rw [wrap64_id (by omega) (by omega), if_pos (by simp only [List.length_append, List.length_singleton]; omega)]
    exact aw _ (by omega)
  · refine ⟨2, ?_⟩
    simp only [scarflaw05_InstrOnly.j0]
    rw [h]
    simp only [Option.bind_some]
    rw [if_neg he]
    simp only [List.length_nil, empty_toList, if_true]
    exact aw _ (by omega)
theorem law_only : scarflaw05_InstrOnly.Pure := by
  intro a0 ha
  unfold scarflaw05_InstrOnly.f
  by_cases h : (a0.size : Int) > 20000
  · obtain ⟨k, hk⟩ := law_only_j (bytesOf (a0.extract 0 20000)) (bytes_range _) (by rw [bytesOf_length, ByteArray.size_extract]; omega)
    refine ⟨k, ?_⟩
    rw [if_pos h, if_pos (by decide), if_pos (by omega)]
    rw [str_of] at hk
    exact hk
  · obtain ⟨k, hk⟩ := law_only_j (bytesOf a0) (bytes_range _) (by rw [bytesOf_length]; omega)
    refine ⟨k, ?_⟩
    rw [if_neg h]
    rw [str_of] at hk
    exact hk
end Go.Proofs.Ytckhlbpjehbnlaa.PB
namespace Go.Proofs.Ytckhlbpjehbnlaa.Pure
open Go.RowKit Go.Proofs.Ytckhlbpjehbnlaa.PB Go.Proofs.YtckhlbpjehbnlaaW.PrintWords Go.Proofs.YtckhlbpjehbnlaaW.PrintLast
theorem InstrOnly : scarflaw05_InstrOnly.Pure :=
  Go.Proofs.Ytckhlbpjehbnlaa.PB.law_only
end Go.Proofs.Ytckhlbpjehbnlaa.Pure
