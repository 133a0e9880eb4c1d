/- Several texts, laid into one for a claim: PAx17, PAx36, PAx37, PAx38, PAx1. -/
import Derived.Test.YtlggjgpdiffajaaDoorPLexAgain1
namespace Go.Proofs.YtlggjgpdiffajaaDoor.PA
open Go.RowKit Go.Proofs.YtlggjgpdiffajaaDoorW.PrintWords Go.Proofs.YtlggjgpdiffajaaDoorW.PrintLast Go.Proofs.YtlggjgpdiffajaaDoorW.PrintMore
attribute [local go_sem] max2_int min2_int max_two min_two max_three min_three max_four min_four   -- for this text's walks alone
set_option linter.unusedVariables false
set_option linter.unusedSimpArgs false
attribute [local go_sem] Oper.semAt_some
/-- A loop over an iterator that goes over the pieces ps and writes the box B between two rounds: what is said between rounds abides B and whatever is no cell. -/
def Held (B n0 : Nat) (J : List ByteArray → World → Prop) : Prop := ∀ s A C k, J s A → A.grownBy C (some k) → (k = B ∨ n0 ≤ k ∧ ∀ o : Obj, A.heap[k]? = some o → o.isCells = false) → J s C
def BoxesKept (T : List Nat) (A C : World) : Prop := A.heap.size ≤ C.heap.size ∧ ∀ k ∈ T, k < A.heap.size → C.heap[k]? = A.heap[k]?
theorem BoxesKept.trans {T : List Nat} {A C D : World} (h : BoxesKept T A C) (k : BoxesKept T C D) : BoxesKept T A D := ⟨Nat.le_trans h.1 k.1, fun i hi hl => (k.2 i hi (Nat.lt_of_lt_of_le hl h.1)).trans (h.2 i hi hl)⟩
theorem BoxesKept.putObj {T : List Nat} (A : World) (l : Nat) (o : Obj) (h : l ∉ T) : BoxesKept T A (A.putObj l o) := ⟨by simp, fun i hi _ => World.putObj_heap_other (fun e => h (by rw [← e]; exact hi))⟩
def PiecesGo (F : Fence) (n : Nat) (P : Program) (g : Nat) (lb : Array Value) (B : Nat) (T : List Nat) (ps : List ByteArray) (w : World) : Prop :=
  ∀ (l : Nat) (J Jx : List ByteArray → World → Prop) (W : World), (∀ k ∈ T, W.heap[k]? = w.heap[k]?) → w.heap.size ≤ W.heap.size →
    (∀ s A C, J s A → A.grownBy C (some B) → J s C) →
    (∀ s A C, Jx s A → A.grownBy C (some B) → Jx s C) →
    (∀ pre x W1, J pre W1 → pre ++ [x] <+: ps → YieldAt F (n - 1) P l #[.string x] W1 fun e W' => (e = .returned (.bool true) ∧ J (pre ++ [x]) W' ∧ BoxesKept T W1 W') ∨ (e = .returned (.bool false) ∧ Jx (pre ++ [x]) W')) →
    J [] W → CallsIn F n P g (#[.func (.yield l) #[] #[]] ++ lb) W fun e W' => (∃ v, e = .returned v) ∧ (J ps W' ∨ ∃ pre, pre <+: ps ∧ Jx pre W')
def piecePost (T : List Nat) (I Ix : List ByteArray → World → Prop) (xs : List ByteArray) (W : World) : Exit → Act → World → Prop
  | .normal, _, W' => KeepsOthers W W' ∧ BoxesKept T W W' ∧ I xs W'
  | .ret, _, W' => KeepsOthers W W' ∧ Ix xs W'
  | _, _, _ => False
theorem range_pieces {F : Fence} {n : Nat} {P : Program} {g : Operand} {p : Tmp} {assign body : Code} {Q : Exit → Act → World → Prop} {a : Act} {w : World}
    (hro : F.round = none) (h1 : 1 ≤ n) {gf : Nat} {lb : Array Value} (hg : a.eval g = .func (.func gf) #[] lb) (hFg : F.fn gf) (eg : ∀ args w, (callFunc gf args).run P w = .ok (.enter gf args) w)
    {B : Nat} {T : List Nat} (hB : B < w.heap.size) (hT : ∀ k ∈ T, k < w.heap.size) {qs : List ByteArray} (hseq : PiecesGo F (n - 1) P gf lb B T qs w)
    (I Ix : List ByteArray → World → Prop) (hI : Held B w.heap.size I) (hIx : Held B w.heap.size Ix) (h0 : I [] w) (a₁ : ByteArray → Act)
    (hassign : ∀ (l : Nat) (x : ByteArray) (W : World) (K : Act → World → Prop), K (a₁ x) W → assign.wpIn (F.inRound l) (n - 1 - 1) P (Exit.then K (fun _ _ _ => False)) { tmps := a.tmps.setIfInBounds p (.string x), defers := [] } W)
    (hbody : ∀ (l : Nat) (pre : List ByteArray) (x : ByteArray) (W : World), I pre W → pre ++ [x] <+: qs → body.wpIn (F.inRound l) (n - 1 - 1) P (piecePost T I Ix (pre ++ [x]) W) (a₁ x) W)
    (hdone : ∀ (D : Nat) (W : World), w.heap.size ≤ D → I qs W → W.heap[D]? = some (.deferred (some [])) → Q .normal { a with defers := { target := .collected D, args := #[] } :: a.defers } W)
    (hstop : ∀ (D : Nat) (pre : List ByteArray) (W : World), w.heap.size ≤ D → pre <+: qs → Ix pre W → W.heap[D]? = some (.deferred (some [])) → Code.ret.wpIn F n P Q { a with defers := { target := .collected D, args := #[] } :: a.defers } W) :
    (Code.rangeFunc g #[p] assign body).wpIn F n P Q a w := by
  refine wpIn_rangeFunc fun fn hfn => ?_
  rw [hro]
  let rec_ : LoopState → Option Code → Loop := fun st pe => { state := st, pending := pe, fn, tmps := a.tmps, params := #[p], assign, body, defers := w.heap.size }
  have hlB : w.heap.size + 1 ≠ B := by omega
  have hlT : w.heap.size + 1 ∉ T := fun h => by have := hT _ h; omega
  generalize hW1 : (w.alloc (.deferred (some []))).alloc (.loop (rec_ .ready none)) = W1
  have hs1 : W1.heap.size = w.heap.size + 2 := by rw [← hW1]; simp
  have hL1 : W1.heap[w.heap.size + 1]? = some (.loop (rec_ .ready none)) := by
    rw [← hW1]; have := World.alloc_heap_new (w.alloc (.deferred (some []))) (.loop (rec_ .ready none)); rwa [World.size_alloc] at this
  have hK1 : W1.heap[w.heap.size]? = some (.deferred (some [])) := by rw [← hW1]; exact (Below.heap_alloc _ _ _ (by simp)).trans (World.alloc_heap_new w _)
  have hold : ∀ k, k < w.heap.size → W1.heap[k]? = w.heap[k]? := fun k hk => by
    rw [← hW1]; exact (Below.heap_alloc _ _ _ (by simp; omega)).trans (Below.heap_alloc _ _ _ hk)
  have hfree : ∀ (A : World) (k : Nat), A.heap.size ≤ k → ∀ o : Obj, A.heap[k]? = some o → o.isCells = false := fun A k hk o ho => by rw [Array.getElem?_eq_none hk] at ho; cases ho
  have hI1 : I [] W1 := by
    rw [← hW1]
    have i1 := hI [] w _ w.heap.size h0 (World.grownBy_alloc w (.deferred (some [])) (some w.heap.size)) (.inr ⟨Nat.le_refl _, hfree w _ (Nat.le_refl _)⟩)
    exact hI [] _ _ (w.heap.size + 1) i1 (World.grownBy_alloc _ _ (some (w.heap.size + 1))) (.inr ⟨by omega, hfree _ _ (by simp)⟩)
  refine ⟨w.heap.size + 1, [{ target := .collected w.heap.size, args := #[] }], W1, { target := .fn (.func gf) lb, args := #[.func (.yield (w.heap.size + 1)) #[] #[]] }, W1, gf, #[.func (.yield (w.heap.size + 1)) #[] #[]] ++ lb, W1, ?_, ?_, ?_, ?_, fun _ => h1, ?_⟩
  · rw [← hW1]; exact run_enterLoop_outer _ _ _ _ _
  · simp only [resolve, hg]
    simp [go_sem]
  · intro f' hf'; simp [Target.leads] at hf'; subst hf'; exact hFg
  · simp [invoke, go_sem, eg]
  · have other : ∀ {A C : World} (_ : A.grownBy C (some B)) {k : Nat} {o : Obj}, k ≠ B → A.heap[k]? = some o → C.heap[k]? = some o := fun {A C} hg' {k o} hk ho => (hg'.block k (Array.getElem?_eq_some_iff.1 ho).1 (fun e => hk (Option.some.inj e))).trans ho
    have hturn : ∀ {J : List ByteArray → World → Prop} (_ : Held B w.heap.size J) {s : List ByteArray} {A : World} {o : Obj} (o' : Obj), J s A → A.heap[w.heap.size + 1]? = some o → o.isCells = false → J s (A.putObj (w.heap.size + 1) o') :=
      fun {J} hJ {s A o} o' hs ho hc => hJ s A _ (w.heap.size + 1) hs (grownBy_putObj' A _ o') (.inr ⟨by omega, fun o2 h2 => by rw [ho] at h2; cases h2; exact hc⟩)
    refine (hseq (w.heap.size + 1)
      (fun pre W => I pre W ∧ W.heap[w.heap.size + 1]? = some (.loop (rec_ .ready none)) ∧ W.heap[w.heap.size]? = some (.deferred (some [])))
      (fun pre W => Ix pre W ∧ W.heap[w.heap.size + 1]? = some (.loop (rec_ .done (some .ret))) ∧ W.heap[w.heap.size]? = some (.deferred (some [])))
      W1 (fun k hk => hold k (hT k hk)) (by omega)
      (fun s A C hs hg' => ⟨hI s A C B hs.1 hg' (.inl rfl), other hg' hlB hs.2.1, other hg' (by omega) hs.2.2⟩)
      (fun s A C hs hg' => ⟨hIx s A C B hs.1 hg' (.inl rfl), other hg' hlB hs.2.1, other hg' (by omega) hs.2.2⟩)
      ?_ ⟨hI1, hL1, hK1⟩).mono ?_
    · rintro pre x W ⟨hi, hl, hk⟩ hlen
      have hlt : w.heap.size + 1 < W.heap.size := (Array.getElem?_eq_some_iff.1 hl).1
      refine ⟨fn, a.tmps.setIfInBounds p (.string x), assign, body, (run_yield (P := P) (args := #[.string x]) hl rfl).trans (by simp [rec_]), roundIn_of_wpIn hfn ?_⟩
      refine hassign _ x W _ ?_
      refine ⟨_, run_beginRound hl rfl, ?_⟩
      have hl2 : (W.putObj (w.heap.size + 1) (.loop (rec_ .busy none))).heap[w.heap.size + 1]? = some (.loop (rec_ .busy none)) := World.putObj_heap_same hlt
      have hk2 : (W.putObj (w.heap.size + 1) (.loop (rec_ .busy none))).heap[w.heap.size]? = some (.deferred (some [])) := (World.putObj_heap_other (by omega)).trans hk
      refine wpIn_mono (hbody _ pre x _ (hturn hI _ hi hl rfl) hlen) ?_
      intro e a3 W3 hp
      cases e with
      | normal =>
        obtain ⟨hk3, hb3, hi3⟩ := hp
        have hl3 := hk3.same _ _ hl2 rfl
        refine ⟨_, _, run_endRound (P := P) none hl3, .inl ⟨rfl, ⟨hturn hI _ hi3 hl3 rfl, World.putObj_heap_same (Array.getElem?_eq_some_iff.1 hl3).1, (World.putObj_heap_other (by omega)).trans (hk3.same _ _ hk2 rfl)⟩, ?_⟩⟩
        exact ((BoxesKept.putObj W _ _ hlT).trans hb3).trans (BoxesKept.putObj W3 _ _ hlT)
      | ret =>
        obtain ⟨hk3, hi3⟩ := hp
        have hl3 := hk3.same _ _ hl2 rfl
        exact ⟨_, _, run_endRound (P := P) (some .ret) hl3, .inr ⟨rfl, hturn hIx _ hi3 hl3 rfl, World.putObj_heap_same (Array.getElem?_eq_some_iff.1 hl3).1, (World.putObj_heap_other (by omega)).trans (hk3.same _ _ hk2 rfl)⟩⟩
      | exit id => exact hp.elim
      | goto t => exact hp.elim
      | panic ch => exact hp.elim
      | outgrown => exact hp.elim
    · rintro e W2 ⟨⟨v, rfl⟩, (⟨hi, hl, hk⟩ | ⟨pre, hpx, hi, hl, hk⟩)⟩
      · exact ⟨none, _, run_endLoop (P := P) hl (by simp [rec_]), hdone _ _ (Nat.le_refl _) (hturn hI _ hi hl rfl) ((World.putObj_heap_other (by omega)).trans hk)⟩
      · exact ⟨some .ret, _, run_endLoop (P := P) hl (by simp [rec_]), hstop _ pre _ (Nat.le_refl _) hpx (hturn hIx _ hi hl rfl) ((World.putObj_heap_other (by omega)).trans hk)⟩
def piecesF (c : UInt8) : Nat → ByteArray → List ByteArray
  | 0, s => [s]
  | k + 1, s => if Go.Lib.indexByte s.data.toList c < 0 then [s] else s.extract 0 (Go.Lib.indexByte s.data.toList c).toNat :: piecesF c k (s.extract ((Go.Lib.indexByte s.data.toList c).toNat + 1) s.size)
theorem indexByte_lt (l : List UInt8) (c : UInt8) : Go.Lib.indexByte l c < l.length := by
  induction l with
  | nil => simp [Go.Lib.indexByte]
  | cons b l ih =>
    unfold Go.Lib.indexByte
    rw [List.length_cons]
    split
    · omega
    · split <;> omega
theorem indexByte_lt' (s : ByteArray) (c : UInt8) : Go.Lib.indexByte s.data.toList c < s.size := by
  have := indexByte_lt s.data.toList c
  rwa [data_length] at this
theorem piecesF_succ (c : UInt8) (k : Nat) (s : ByteArray) : piecesF c (k + 1) s = if Go.Lib.indexByte s.data.toList c < 0 then [s] else s.extract 0 (Go.Lib.indexByte s.data.toList c).toNat :: piecesF c k (s.extract ((Go.Lib.indexByte s.data.toList c).toNat + 1) s.size) := rfl
theorem piecesF_fuel (c : UInt8) : ∀ (k m : Nat) (s : ByteArray), s.size ≤ k → s.size ≤ m → piecesF c k s = piecesF c m s
  | 0, 0, s, _, _ => rfl
  | 0, m + 1, s, h, _ => by
    have hi := indexByte_lt' s c
    rw [piecesF_succ, if_pos (by omega)]; rfl
  | k + 1, 0, s, _, h => by
    have hi := indexByte_lt' s c
    rw [piecesF_succ, if_pos (by omega)]; rfl
  | k + 1, m + 1, s, h, h' => by
    have hi := indexByte_lt' s c
    rw [piecesF_succ, piecesF_succ]
    split
    · rfl
    · have hz := ByteArray.size_extract (a := s) (b := (Go.Lib.indexByte s.data.toList c).toNat + 1) (e := s.size)
      rw [piecesF_fuel c k m _ (by omega) (by omega)]
theorem pieces_end (c : UInt8) (s : ByteArray) (h : Go.Lib.indexByte s.data.toList c < 0) : piecesF c s.size s = [s] := by
  rw [piecesF_fuel c s.size (s.size + 1) s (by omega) (by omega), piecesF_succ, if_pos h]
theorem pieces_more (c : UInt8) (s : ByteArray) (h : ¬ Go.Lib.indexByte s.data.toList c < 0) : piecesF c s.size s = s.extract 0 (Go.Lib.indexByte s.data.toList c).toNat :: piecesF c (s.extract ((Go.Lib.indexByte s.data.toList c).toNat + 1) s.size).size (s.extract ((Go.Lib.indexByte s.data.toList c).toNat + 1) s.size) := by
  have hi := indexByte_lt' s c
  have hz := ByteArray.size_extract (a := s) (b := (Go.Lib.indexByte s.data.toList c).toNat + 1) (e := s.size)
  rw [piecesF_fuel c s.size (s.size + 1) s (by omega) (by omega), piecesF_succ, if_neg h, piecesF_fuel c s.size _ (s.extract _ s.size) (by omega) (Nat.le_refl _)]
def strAt (W : World) (b : Nat) : Nat := match W.cell? ⟨b, 0, none⟩ with | some (.string s) => s.size | _ => 0
theorem wrap_in (n : Int) (h : -9223372036854775808 ≤ n) (h' : n ≤ 9223372036854775807) : wrap64 n = n := by unfold wrap64; omega
theorem strAt_of {W : World} {b : Nat} {s : ByteArray} (h : W.heap[b]? = some (.cells #[.string s] 9 (0, 0))) : strAt W b = s.size := by
  unfold strAt
  rw [show W.cell? ⟨b, 0, none⟩ = some (.string s) from (blk_cell h 0).trans rfl]
set_option maxHeartbeats 8000000 in
set_option maxRecDepth 100000 in
theorem split_go (n : Nat) (hn : 1 ≤ n) (Bs Bp Bv : Nat) (h1 : Bs ≠ Bp) (h2 : Bs ≠ Bv) (c : UInt8) (s : ByteArray) (w : World) (hs : w.heap[Bs]? = some (.cells #[.string s] 9 (0, 0))) (hp : w.heap[Bp]? = some (.cells #[.string ⟨#[c]⟩] 9 (0, 0))) (hv : w.heap[Bv]? = some (.cells #[.int .i64 0] 3 (0, 0))) (hsz : s.size ≤ 140737488355328) :
    PiecesGo Fence.wide n Tryd.prog 51 #[.pointer (some ⟨Bp, 0, none⟩), .pointer (some ⟨Bs, 0, none⟩), .pointer (some ⟨Bv, 0, none⟩)] Bs [Bs, Bp, Bv] (piecesF c s.size s) w := by
  intro l J Jx W hT hW hJ hJx hY h0
  have hs1 := (hT Bs (by simp)).trans hs
  have hp1 := (hT Bp (by simp)).trans hp
  have hv1 := (hT Bv (by simp)).trans hv
  clear hs hp hv hT hW
  refine callsIn_of_wp Tryd.func51 rfl trivial ?_ rfl
  simp only [Tryd.ntmps51, List.size_toArray, List.length_cons, List.length_nil, Nat.reduceAdd, Nat.reduceSub, Array.replicate_succ, Array.replicate_zero, List.push_toArray, List.append_toArray, List.nil_append, List.cons_append]
  have hcp : W.cell? ⟨Bp, 0, none⟩ = some (.string ⟨#[c]⟩) := (blk_cell hp1 0).trans rfl
  gi_wp2
  gi_loopw [7] (fun p wr => ∃ (pre : List ByteArray) (t : ByteArray), pre ++ piecesF c t.size t = piecesF c s.size s ∧ t.size ≤ 140737488355328 ∧ wr.heap[Bs]? = some (.cells #[.string t] 9 (0, 0)) ∧ wr.heap[Bp]? = some (.cells #[.string ⟨#[c]⟩] 9 (0, 0)) ∧ wr.heap[Bv]? = some (.cells #[.int .i64 0] 3 (0, 0)) ∧ J pre wr) (fun p wr => strAt wr Bs)
  case atStart => exact ⟨[], s, rfl, hsz, hs1, hp1, hv1, h0⟩
  case round =>
    obtain ⟨pre, t, hpre, htz, hs2, hp2, hv2, hJ2⟩ := hrel
    have hcs : wr.cell? ⟨Bs, 0, none⟩ = some (.string t) := (blk_cell hs2 0).trans rfl
    have hcp2 : wr.cell? ⟨Bp, 0, none⟩ = some (.string ⟨#[c]⟩) := (blk_cell hp2 0).trans rfl
    have hcv : wr.cell? ⟨Bv, 0, none⟩ = some (.int .i64 0) := (blk_cell hv2 0).trans rfl
    have hix := callsIn_wide (n := n - 1).2 (lx_strings_Index_one t c wr)
    have hlt := indexByte_lt' t c
    by_cases hc : Go.Lib.indexByte t.data.toList c < 0
    · rw [pieces_end c t hc] at hpre
      obtain ⟨fn, tmps, assign, body, hy, hR⟩ := hY pre t wr hJ2 (by rw [hpre]; exact List.prefix_refl _)
      generalize Go.Lib.indexByte t.data.toList c = ix at hix hc hlt
      have hc0 : decide (ix < 0) = true := decide_eq_true hc
      gi_wp2
      refine ⟨trivial, hix.mono ?_⟩
      rintro e w' ⟨rfl, rfl⟩
      gi_wp2
      refine hR.mono ?_
      rintro e W' (⟨rfl, hJ3, hk3⟩ | ⟨rfl, hJx3⟩)
      · gi_wp2
        go_end0
        rw [hpre] at hJ3
        exact ⟨⟨_, rfl⟩, .inl hJ3⟩
      · gi_wp2
        go_end0
        exact ⟨⟨_, rfl⟩, .inr ⟨_, by rw [hpre]; exact List.prefix_refl _, hJx3⟩⟩
    · rw [pieces_more c t hc] at hpre
      obtain ⟨fn, tmps, assign, body, hy, hR⟩ := hY pre (t.extract 0 (Go.Lib.indexByte t.data.toList c).toNat) wr hJ2 ⟨piecesF c (t.extract ((Go.Lib.indexByte t.data.toList c).toNat + 1) t.size).size (t.extract ((Go.Lib.indexByte t.data.toList c).toNat + 1) t.size), by rw [← hpre]; simp⟩
      generalize Go.Lib.indexByte t.data.toList c = ix at hix hc hlt hpre hy hR
      have hc0 : decide (ix < 0) = false := decide_eq_false hc
      have hw0 : wrap64 (ix + 0) = ix := by rw [Int.add_zero]; exact wrap_in _ (by omega) (by omega)
      have hw1 : wrap64 (ix + 1) = ix + 1 := wrap_in _ (by omega) (by omega)
      have hp1' : (0 : Int) ≤ ix := by omega
      have hp2' : ix ≤ (t.size : Int) := by omega
      have hp3' : (0 : Int) ≤ ix + 1 := by omega
      have hp4' : ix + 1 ≤ (t.size : Int) := by omega
      gi_wp2
      refine ⟨trivial, hix.mono ?_⟩
      rintro e w' ⟨rfl, rfl⟩
      gi_wp2
      refine hR.mono ?_
      rintro e W' (⟨rfl, hJ3, hk3⟩ | ⟨rfl, hJx3⟩)
      · have hs3 := (hk3.2 Bs (by simp) (Array.getElem?_eq_some_iff.1 hs2).1).trans hs2
        have hp3 := (hk3.2 Bp (by simp) (Array.getElem?_eq_some_iff.1 hp2).1).trans hp2
        have hv3 := (hk3.2 Bv (by simp) (Array.getElem?_eq_some_iff.1 hv2).1).trans hv2
        have hcs3 : W'.cell? ⟨Bs, 0, none⟩ = some (.string t) := (blk_cell hs3 0).trans rfl
        have hcp3 : W'.cell? ⟨Bp, 0, none⟩ = some (.string ⟨#[c]⟩) := (blk_cell hp3 0).trans rfl
        have hfs3 := blk_frozen hs3 0
        gi_wp2
        have e1 : (ix + 1).toNat = ix.toNat + 1 := by omega
        have e2 := ByteArray.size_extract (a := t) (b := (ix + 1).toNat) (e := t.size)
        have hs4 : (W'.setCell ⟨Bs, 0, none⟩ (.string (t.extract (ix + 1).toNat t.size))).heap[Bs]? = some (.cells #[.string (t.extract (ix + 1).toNat t.size)] 9 (0, 0)) := by simpa using blk_set hs3 0 (.string (t.extract (ix + 1).toNat t.size))
        refine ⟨⟨pre ++ [t.extract 0 ix.toNat], t.extract (ix + 1).toNat t.size, ?_, by omega, hs4, (Below.heap_setCell W' ⟨Bs, 0, none⟩ _ Bp (Ne.symm h1)).trans hp3, (Below.heap_setCell W' ⟨Bs, 0, none⟩ _ Bv (Ne.symm h2)).trans hv3, hJ _ _ _ hJ3 (grownBy_setCell' W' Bs _)⟩, ?_⟩
        · rw [← hpre, e1, List.append_assoc]; rfl
        · rw [strAt_of hs4, strAt_of hs2]; omega
      · gi_wp2
        refine bodyPost_ret (results_none rfl _ _ _) rfl ?_
        exact ⟨⟨_, rfl⟩, .inr ⟨_, ⟨piecesF c (t.extract (ix.toNat + 1) t.size).size (t.extract (ix.toNat + 1) t.size), by rw [← hpre]; simp⟩, hJx3⟩⟩
def splitW (s p : ByteArray) (w : World) : World := ((w.alloc (.cells #[.string s] 9)).alloc (.cells #[.string p] 9)).alloc (.cells #[.int .i64 0] 3)
set_option maxHeartbeats 8000000 in
set_option maxRecDepth 100000 in
theorem split_seq0 (s p : ByteArray) (w : World) : Calls Tryd.prog 41 #[.string s, .string p, .int .i64 0] w fun e w' => e = .returned (.func (.func 51) #[] #[.pointer (some ⟨w.heap.size + 1, 0, none⟩), .pointer (some ⟨w.heap.size, 0, none⟩), .pointer (some ⟨w.heap.size + 2, 0, none⟩)]) ∧ w' = splitW s p w := by
  go_enter Tryd.func41, Tryd.ntmps41
  go_wp2
  go_ret
  exact ⟨by first | rfl | simp, by first | rfl | simp [splitW]⟩
set_option maxHeartbeats 8000000 in
set_option maxRecDepth 100000 in
theorem split_seq (s p : ByteArray) (w : World) : Calls Tryd.prog 24 #[.string s, .string p] w fun e w' => e = .returned (.func (.func 51) #[] #[.pointer (some ⟨w.heap.size + 1, 0, none⟩), .pointer (some ⟨w.heap.size, 0, none⟩), .pointer (some ⟨w.heap.size + 2, 0, none⟩)]) ∧ w' = splitW s p w := by
  have h0 := split_seq0 s p w
  generalize splitW s p w = w2 at h0 ⊢
  go_enter Tryd.func24, Tryd.ntmps24
  go_wp2_with (first | (go_at_call 41; refine h0.mono ?_; rintro e w' ⟨rfl, rfl⟩))
  go_ret
  exact ⟨rfl, rfl⟩
theorem splitW_heap (s p : ByteArray) (w : World) : (splitW s p w).heap[w.heap.size]? = some (.cells #[.string s] 9 (0, 0)) ∧ (splitW s p w).heap[w.heap.size + 1]? = some (.cells #[.string p] 9 (0, 0)) ∧ (splitW s p w).heap[w.heap.size + 2]? = some (.cells #[.int .i64 0] 3 (0, 0)) ∧ (splitW s p w).heap.size = w.heap.size + 3 := by
  unfold splitW
  refine ⟨?_, ?_, ?_, by simp⟩
  · exact (Below.heap_alloc _ _ _ (by simp; omega)).trans ((Below.heap_alloc _ _ _ (by simp)).trans (World.alloc_heap_new w _))
  · exact (Below.heap_alloc _ _ _ (by simp)).trans (by have := World.alloc_heap_new (w.alloc (.cells #[.string s] 9)) (.cells #[.string p] 9); rwa [World.size_alloc] at this)
  · have := World.alloc_heap_new ((w.alloc (.cells #[.string s] 9)).alloc (.cells #[.string p] 9)) (.cells #[.int .i64 0] 3); rwa [World.size_alloc, World.size_alloc] at this
theorem splitW_below (s p : ByteArray) (w : World) : Below w.heap.size w (splitW s p w) := (((Below.refl _ w).alloc (Nat.le_refl _) _).alloc (by simp) _).alloc (by simp; omega) _
def lxOk (t : Bool) (c : Int) : Bool := lxDi c || (lxLo c == t && (lxLo c || lxUp c))
def partAll (t : Bool) (s : ByteArray) : Nat → Nat → Bool
  | 0, _ => true
  | m + 1, i => lxOk t (bt s (i : Int)) && partAll t s m (i + 1)
theorem part_l0 (t : Bool) (s : ByteArray) (hs : s.size ≤ 4611686018427387904) : ∀ (m i k : Nat), i + m = s.size → m + 1 ≤ k → lex_part.l0 k t s (s.size : Int) (i : Int) = some (partAll t s m i) := by
  intro m
  induction m with
  | zero =>
    intro i k h hk
    obtain ⟨k, rfl⟩ : ∃ k', k = k' + 1 := ⟨k - 1, by omega⟩
    rw [lex_part.l0, if_neg (by omega)]
    rfl
  | succ m ih =>
    intro i k h hk
    obtain ⟨k, rfl⟩ : ∃ k', k = k' + 1 := ⟨k - 1, by omega⟩
    have hw : wrap64 ((i : Int) + 1) = ((i + 1 : Nat) : Int) := by unfold wrap64; omega
    have hr := ih (i + 1) k (by omega) (by omega)
    rw [lex_part.l0, if_pos (by omega), if_pos (by omega), if_pos (by omega), partAll]
    rw [hw, hr]
    generalize partAll t s m (i + 1) = R
    generalize bt s (i : Int) = c
    rw [digit_at, lower_at, upper_at]
    unfold lxOk
    cases lxDi c <;> cases lxLo c <;> cases lxUp c <;> cases t <;> simp
def partB (s : ByteArray) : Bool := decide (0 < s.size) && (lxLo (bt s 0) || lxUp (bt s 0)) && partAll (lxLo (bt s 0)) s s.size 0
theorem str_empty (a : ByteArray) : a.toList = [] ↔ a.size = 0 := by
  have h : a.toList = a.data.toList := ByteArray.toList_eq a
  rw [h, ← data_length]
  exact List.length_eq_zero_iff.symm
theorem part_at (s : ByteArray) (hs : s.size ≤ 4611686018427387904) (k : Nat) (hk : s.size + 2 ≤ k) : lex_part.f k s = some (partB s) := by
  obtain ⟨k, rfl⟩ : ∃ k', k = k' + 1 := ⟨k - 1, by omega⟩
  unfold lex_part.f partB
  by_cases h0 : s.size = 0
  · rw [if_pos ((str_empty s).2 h0), lex_part.j0, if_pos rfl, decide_eq_false (by omega)]
    rfl
  · rw [if_neg (fun h => h0 ((str_empty s).1 h)), if_pos (by omega), lower_at, upper_at, decide_eq_true (by omega), Bool.true_and]
    have hj : lex_part.j0 (k + 1) s false = some (partAll (lxLo (bt s 0)) s s.size 0) := by
      rw [lex_part.j0, if_neg (by decide), if_pos (by omega), lower_at]
      exact part_l0 (lxLo (bt s 0)) s hs s.size 0 k (by omega) (by omega)
    have hj1 : lex_part.j0 (k + 1) s true = some false := by rw [lex_part.j0, if_pos rfl]
    simp only [Option.bind_some]
    generalize lxLo (bt s 0) = t at hj ⊢
    generalize partAll t s s.size 0 = R at hj ⊢
    cases t <;> cases lxUp (bt s 0) <;> simp [hj, hj1]
theorem part_calls (s : ByteArray) (hs : s.size ≤ 4611686018427387904) (w : World) : Calls Tryd.prog 25 #[.string s] w fun e w' => e = .returned (.bool (partB s)) ∧ Below w.heap.size w w' := lex_part.calls _ s _ w (part_at s hs _ (Nat.le_refl _))
def lex_Name.f (a0 : ByteArray) : Option Bool := some (if a0.size = 0 then false else if 100 < a0.size then false else (piecesF 45 a0.size a0).all partB)
theorem pieces_size (c : UInt8) : ∀ (k : Nat) (s x : ByteArray), x ∈ piecesF c k s → x.size ≤ s.size
  | 0, s, x, h => by rw [List.mem_singleton.1 h]; exact Nat.le_refl _
  | k + 1, s, x, h => by
    rw [piecesF_succ] at h
    split at h
    · rw [List.mem_singleton.1 h]; exact Nat.le_refl _
    · rcases List.mem_cons.1 h with h | h
      · rw [h, ByteArray.size_extract]; omega
      · have := pieces_size c k _ x h
        rw [ByteArray.size_extract] at this; omega
theorem held_cell (Bs n0 N : Nat) (w : World) (o : Obj) (q : List ByteArray → Prop) (h1 : n0 < Bs) (h2 : n0 < N) (h3 : w.heap.size ≤ n0) : Held Bs N (fun pre W => W.heap[n0]? = some o ∧ q pre ∧ Below w.heap.size w W) := by
  rintro s A C k ⟨hc, hq, hb⟩ hg hk
  have hkn : w.heap.size ≤ k ∧ n0 ≠ k := by
    rcases hk with rfl | ⟨hk, _⟩ <;> omega
  exact ⟨(hg.block n0 (Array.getElem?_eq_some_iff.1 hc).1 (fun e => hkn.2 (Option.some.inj e))).trans hc, hq, hb.grown hg hb.size (fun k' e => by cases e; exact hkn.1)⟩
set_option maxHeartbeats 8000000 in
set_option maxRecDepth 100000 in
theorem lex_Name.main (a0 : ByteArray) (w : World) (h0 : a0.size ≠ 0) (h100 : ¬ 100 < a0.size) :
    Calls Tryd.prog 13 #[.string a0] w fun e w' => e = .returned (.bool ((piecesF 45 a0.size a0).all partB)) ∧ Below w.heap.size w w' := by
  have hsq := (callsIn_wide (n := 5)).2 (split_seq a0 ⟨#[45]⟩ (w.alloc (.cells #[.bool false] 4)))
  obtain ⟨q1, q2, q3, q4⟩ := splitW_heap a0 ⟨#[45]⟩ (w.alloc (.cells #[.bool false] 4))
  have qb := splitW_below a0 ⟨#[45]⟩ (w.alloc (.cells #[.bool false] 4))
  have q0 : (splitW a0 ⟨#[45]⟩ (w.alloc (.cells #[.bool false] 4))).heap[w.heap.size]? = some (.cells #[.bool false] 4 (0, 0)) := (qb.block _ (by simp)).trans (World.alloc_heap_new w _)
  have qB : Below w.heap.size w (splitW a0 ⟨#[45]⟩ (w.alloc (.cells #[.bool false] 4))) := ((Below.refl _ w).alloc (Nat.le_refl _) _).trans (qb.mono (by simp))
  rw [World.size_alloc] at q1 q2 q3 q4 hsq
  generalize hw2 : splitW a0 ⟨#[45]⟩ (w.alloc (.cells #[.bool false] 4)) = w2 at *
  have e0 : (a0.toList == ([] : List UInt8)) = false := by
    have := str_empty a0
    cases hh : (a0.toList == ([] : List UInt8)) with
    | false => rfl
    | true => exact absurd (this.1 (beq_iff_eq.1 hh)) h0
  have e1 : decide ((100 : Int) < (a0.size : Int)) = false := decide_eq_false (by omega)
  refine (callsIn_wide (n := 6)).1 ?_
  refine callsIn_of_wp_marks Tryd.func13 rfl trivial ?_ rfl
  simp only [Tryd.ntmps13, List.size_toArray, List.length_cons, List.length_nil, Nat.reduceAdd, Nat.reduceSub, Array.replicate_succ, Array.replicate_zero, List.push_toArray, List.append_toArray, List.nil_append, List.cons_append]
  gi_wp2
  refine ⟨trivial, hsq.mono ?_⟩
  rintro e w' ⟨rfl, rfl⟩
  gi_wp2
  refine range_pieces (F := Fence.wide) (n := 6) rfl (by omega) (gf := 51) (lb := #[.pointer (some ⟨w.heap.size + 1 + 1, 0, none⟩), .pointer (some ⟨w.heap.size + 1, 0, none⟩), .pointer (some ⟨w.heap.size + 1 + 2, 0, none⟩)]) rfl trivial (enters_of Tryd.func51 (by kernel_rfl) rfl)
    (B := w.heap.size + 1) (T := [w.heap.size + 1, w.heap.size + 1 + 1, w.heap.size + 1 + 2]) (by omega) (by intro k hk; simp at hk; omega)
    (split_go 5 (by omega) _ _ _ (by omega) (by omega) 45 a0 w' q1 q2 q3 (by omega))
    (fun pre W => W.heap[w.heap.size]? = some (.cells #[.bool false] 4 (0, 0)) ∧ (∀ x ∈ pre, partB x = true) ∧ Below w.heap.size w W)
    (fun pre W => W.heap[w.heap.size]? = some (.cells #[.bool false] 4 (0, 0)) ∧ (∃ x ∈ pre, partB x = false) ∧ Below w.heap.size w W)
    (held_cell _ _ _ w _ (fun pre => ∀ x ∈ pre, partB x = true) (by omega) (by omega) (Nat.le_refl _)) (held_cell _ _ _ w _ (fun pre => ∃ x ∈ pre, partB x = false) (by omega) (by omega) (Nat.le_refl _)) ⟨q0, by simp, qB⟩
    (fun x => { tmps := #[.string a0, undef, .pointer (some ⟨w.heap.size, 0, none⟩), .string x, .string a0, .bool false, .bool false, .string a0, .int .i64 a0.size, .bool false, .bool false, .string a0, .func (.func 51) #[] #[.pointer (some ⟨w.heap.size + 1 + 1, 0, none⟩), .pointer (some ⟨w.heap.size + 1, 0, none⟩), .pointer (some ⟨w.heap.size + 1 + 2, 0, none⟩)], .string x, undef, undef, undef], defers := [] }) ?assign ?body ?done ?stop
  case assign =>
    intro l x W K hK
    gi_wp2
    exact hK
  case body =>
    rintro l pre x W ⟨hc, hq, hb⟩ hpre
    have hpc := CallsIn.inRound l ((callsIn_wide (n := 3)).2 (part_calls x (by have := pieces_size 45 a0.size a0 x (hpre.subset (by simp)); omega) W))
    gi_wp2
    refine ⟨trivial, hpc.mono ?_⟩
    rintro e W' ⟨rfl, hb'⟩
    have hc' := (hb'.block _ (Array.getElem?_eq_some_iff.1 hc).1).trans hc
    have hcc : W'.cell? ⟨w.heap.size, 0, none⟩ = some (.bool false) := (blk_cell hc' 0).trans rfl
    have hff := blk_frozen hc' 0
    have hko : KeepsOthers W W' := ⟨hb'.size, fun k o hk _ => (hb'.block k (Array.getElem?_eq_some_iff.1 hk).1).trans hk⟩
    have hbx : BoxesKept [w.heap.size + 1, w.heap.size + 1 + 1, w.heap.size + 1 + 2] W W' := ⟨hb'.size, fun k _ hk => hb'.block k hk⟩
    have hbw : Below w.heap.size w W' := hb.trans (hb'.mono hb.size)
    cases hv : partB x with
    | true =>
      gi_wp2
      exact ⟨hko, hbx, hc', fun y hy => by
        rcases List.mem_append.1 hy with h | h
        · exact hq y h
        · rw [List.mem_singleton.1 h]; exact hv, hbw⟩
    | false =>
      gi_wp2
      exact ⟨hko.trans (KeepsOthers.setCell _ _ _), by simpa using blk_set hc' 0 (.bool false), ⟨x, by simp, hv⟩, hbw.setCell (p := ⟨w.heap.size, 0, none⟩) (Nat.le_refl _) _⟩
  case done =>
    rintro D W hD ⟨hc, hq, hb⟩ hK
    have hcc : W.cell? ⟨w.heap.size, 0, none⟩ = some (.bool false) := (blk_cell hc 0).trans rfl
    have hff := blk_frozen hc 0
    gi_wp2
    have hc2 : (W.setCell ⟨w.heap.size, 0, none⟩ (.bool true)).heap[w.heap.size]? = some (.cells #[.bool true] 4 (0, 0)) := by simpa using blk_set hc 0 (.bool true)
    have hK2 := (KeepsOthers.setCell W ⟨w.heap.size, 0, none⟩ (.bool true)).same D _ hK rfl
    have hb2 := hb.setCell (p := ⟨w.heap.size, 0, none⟩) (Nat.le_refl _) (.bool true)
    refine ⟨by simp, .inl ⟨_, _, rfl, run_takeDeferred hK2, ?_⟩⟩
    have hc5 := cell_kept (a := ⟨w.heap.size, 0, none⟩) ((blk_cell hc2 0).trans rfl) (grownBy_putObj' _ D (.deferred none)) (fun r e => by cases e; exact ⟨_, hK2, rfl⟩)
    refine ⟨.bool true, ?_, ?_, hb2.trans (belowK_b (w := w) (Nat.le_refl _) _ D _ _ (by omega) hK2 rfl rfl)⟩
    · simp [results, Tryd.f13, go_sem, hc5]
    · rw [show (piecesF 45 a0.size a0).all partB = true from List.all_eq_true.2 hq]
  case stop =>
    rintro D pre W hD hpx ⟨hc, ⟨x, hx, hf⟩, hb⟩ hK
    gi_wp2
    refine ⟨by simp, .inl ⟨_, _, rfl, run_takeDeferred hK, ?_⟩⟩
    have hc5 := cell_kept (a := ⟨w.heap.size, 0, none⟩) ((blk_cell hc 0).trans rfl) (grownBy_putObj' _ D (.deferred none)) (fun r e => by cases e; exact ⟨_, hK, rfl⟩)
    refine ⟨.bool false, ?_, ?_, hb.trans (belowK_b (w := w) (Nat.le_refl _) _ D _ _ (by omega) hK rfl rfl)⟩
    · simp [results, Tryd.f13, go_sem, hc5]
    · rw [show (piecesF 45 a0.size a0).all partB = false from List.all_eq_false.2 ⟨x, hpx.subset hx, by simp [hf]⟩]
theorem cell_false (w : World) : ((w.alloc (.cells #[.bool false] 4)).setCell ⟨w.heap.size, 0, none⟩ (.bool false)).cell? ⟨w.heap.size, 0, none⟩ = some (.bool false) :=
  (blk_cell (show ((w.alloc (.cells #[.bool false] 4)).setCell ⟨w.heap.size, 0, none⟩ (.bool false)).heap[w.heap.size]? = some (.cells #[.bool false] 4 (0, 0)) from by simpa using blk_set (World.alloc_heap_new w (.cells #[.bool false] 4)) 0 (.bool false)) 0).trans rfl
set_option maxHeartbeats 8000000 in
set_option maxRecDepth 100000 in
theorem lex_Name.calls (a0 : ByteArray) (r : Bool) (w : World) (h : lex_Name.f a0 = some r) :
    Calls Tryd.prog 13 #[.string a0] w fun e w' => e = .returned (.bool r) ∧ Below w.heap.size w w' := by
  unfold lex_Name.f at h
  by_cases h0 : a0.size = 0
  · rw [if_pos h0] at h
    cases h
    have e0 : (a0.toList == ([] : List UInt8)) = true := beq_iff_eq.2 ((str_empty a0).2 h0)
    go_enter Tryd.func13, Tryd.ntmps13
    go_wp2
    refine bodyPost_ret (v := .bool false) (by simp [results, Tryd.f13, go_sem, cell_false w]) rfl ?_
    exact ⟨rfl, (Below.refl _ w).alloc (Nat.le_refl _) _⟩
  · by_cases h100 : 100 < a0.size
    · rw [if_neg h0, if_pos h100] at h
      cases h
      have e0 : (a0.toList == ([] : List UInt8)) = false := by
        cases hh : (a0.toList == ([] : List UInt8)) with
        | false => rfl
        | true => exact absurd ((str_empty a0).1 (beq_iff_eq.1 hh)) h0
      have e1 : decide ((100 : Int) < (a0.size : Int)) = true := decide_eq_true (by omega)
      go_enter Tryd.func13, Tryd.ntmps13
      go_wp2
      refine bodyPost_ret (v := .bool false) (by simp [results, Tryd.f13, go_sem, cell_false w]) rfl ?_
      exact ⟨rfl, (Below.refl _ w).alloc (Nat.le_refl _) _⟩
    · rw [if_neg h0, if_neg h100] at h
      cases h
      exact lex_Name.main a0 w h0 h100
attribute [local go_sem] Oper.semAt_some
def trimmed (x : ByteArray) : ByteArray := ⟨(Go.Lib.trimS x.data.toList [48, 49, 50, 51, 52, 53, 54, 55, 56, 57]).toArray⟩
def verBad (x : ByteArray) : Bool := x.toList == [] || (trimmed x).toList != [] || (decide ((x.size : Int) > 1) && bt x 0 == 48) || decide ((x.size : Int) > 9)
def lex_Version.f (a0 : ByteArray) : Option Bool := if a0.size ≤ 140737488355328 then some ((piecesF 46 a0.size a0).all (fun x => !verBad x) && (piecesF 46 a0.size a0).length == 3) else none
theorem pieces_len (c : UInt8) : ∀ (k : Nat) (s : ByteArray), (piecesF c k s).length ≤ k + 1
  | 0, s => by simp [piecesF]
  | k + 1, s => by
    rw [piecesF_succ]
    split
    · simp
    · have := pieces_len c k (s.extract ((Go.Lib.indexByte s.data.toList c).toNat + 1) s.size)
      rw [List.length_cons]; omega
theorem held_cell2 (Bs n0 n1 N : Nat) (w : World) (o : Obj) (f : List ByteArray → Obj) (q : List ByteArray → Prop) (h1 : n0 < Bs) (h2 : n0 < N) (h3 : w.heap.size ≤ n0) (h4 : n1 < Bs) (h5 : n1 < N) : Held Bs N (fun pre W => W.heap[n0]? = some o ∧ W.heap[n1]? = some (f pre) ∧ q pre ∧ Below w.heap.size w W) := by
  rintro s A C k ⟨hc, hd, hq, hb⟩ hg hk
  have hkn : w.heap.size ≤ k ∧ n0 ≠ k ∧ n1 ≠ k := by
    rcases hk with rfl | ⟨hk, _⟩ <;> omega
  exact ⟨(hg.block n0 (Array.getElem?_eq_some_iff.1 hc).1 (fun e => hkn.2.1 (Option.some.inj e))).trans hc, (hg.block n1 (Array.getElem?_eq_some_iff.1 hd).1 (fun e => hkn.2.2 (Option.some.inj e))).trans hd, hq, hb.grown hg hb.size (fun k' e => by cases e; exact hkn.1)⟩
def verW (w : World) : World := (w.alloc (.cells #[.bool false] 4)).alloc (.cells #[.int .i64 0] 3)
set_option maxHeartbeats 8000000 in
set_option maxRecDepth 100000 in
theorem lex_Version.main (a0 : ByteArray) (w : World) (hsz : a0.size ≤ 140737488355328) :
    Calls Tryd.prog 15 #[.string a0] w fun e w' => e = .returned (.bool ((piecesF 46 a0.size a0).all (fun x => !verBad x) && (piecesF 46 a0.size a0).length == 3)) ∧ Below w.heap.size w w' := by
  have hsq := (callsIn_wide (n := 5)).2 (split_seq a0 ⟨#[46]⟩ (verW w))
  obtain ⟨q1, q2, q3, q4⟩ := splitW_heap a0 ⟨#[46]⟩ (verW w)
  have qb := splitW_below a0 ⟨#[46]⟩ (verW w)
  have qs : (verW w).heap.size = w.heap.size + 2 := by simp [verW]
  have q0 : (splitW a0 ⟨#[46]⟩ (verW w)).heap[w.heap.size]? = some (.cells #[.bool false] 4 (0, 0)) := (qb.block _ (by omega)).trans ((Below.heap_alloc _ _ _ (by simp)).trans (World.alloc_heap_new w _))
  have q0' : (splitW a0 ⟨#[46]⟩ (verW w)).heap[w.heap.size + 1]? = some (.cells #[.int .i64 0] 3 (0, 0)) := (qb.block _ (by omega)).trans (by have := World.alloc_heap_new (w.alloc (.cells #[.bool false] 4)) (.cells #[.int .i64 0] 3); rwa [World.size_alloc] at this)
  have qB : Below w.heap.size w (splitW a0 ⟨#[46]⟩ (verW w)) := (((Below.refl _ w).alloc (Nat.le_refl _) _).alloc (by simp) _).trans (qb.mono (by omega))
  rw [qs] at q1 q2 q3 q4 hsq
  generalize hw2 : splitW a0 ⟨#[46]⟩ (verW w) = w2 at *
  unfold verW at hsq
  refine (callsIn_wide (n := 6)).1 ?_
  refine callsIn_of_wp_marks Tryd.func15 rfl trivial ?_ rfl
  simp only [Tryd.ntmps15, List.size_toArray, List.length_cons, List.length_nil, Nat.reduceAdd, Nat.reduceSub, Array.replicate_succ, Array.replicate_zero, List.push_toArray, List.append_toArray, List.nil_append, List.cons_append]
  gi_wp2
  refine ⟨trivial, hsq.mono ?_⟩
  rintro e w' ⟨rfl, rfl⟩
  gi_wp2
  refine range_pieces (F := Fence.wide) (n := 6) rfl (by omega) (gf := 51) (lb := #[.pointer (some ⟨w.heap.size + 2 + 1, 0, none⟩), .pointer (some ⟨w.heap.size + 2, 0, none⟩), .pointer (some ⟨w.heap.size + 2 + 2, 0, none⟩)]) rfl trivial (enters_of Tryd.func51 (by kernel_rfl) rfl)
    (B := w.heap.size + 2) (T := [w.heap.size + 2, w.heap.size + 2 + 1, w.heap.size + 2 + 2]) (by omega) (by intro k hk; simp at hk; omega)
    (split_go 5 (by omega) _ _ _ (by omega) (by omega) 46 a0 w' q1 q2 q3 hsz)
    (fun pre W => W.heap[w.heap.size]? = some (.cells #[.bool false] 4 (0, 0)) ∧ W.heap[w.heap.size + 1]? = some (.cells #[.int .i64 (pre.length : Int)] 3 (0, 0)) ∧ (∀ x ∈ pre, verBad x = false) ∧ Below w.heap.size w W)
    (fun pre W => W.heap[w.heap.size]? = some (.cells #[.bool false] 4 (0, 0)) ∧ (∃ x ∈ pre, verBad x = true) ∧ Below w.heap.size w W)
    (held_cell2 _ _ _ _ w _ (fun pre => .cells #[.int .i64 (pre.length : Int)] 3 (0, 0)) (fun pre => ∀ x ∈ pre, verBad x = false) (by omega) (by omega) (Nat.le_refl _) (by omega) (by omega)) (held_cell _ _ _ w _ (fun pre => ∃ x ∈ pre, verBad x = true) (by omega) (by omega) (Nat.le_refl _)) ⟨q0, q0', by simp, qB⟩
    (fun x => { tmps := #[.string a0, undef, .pointer (some ⟨w.heap.size, 0, none⟩), .pointer (some ⟨w.heap.size + 1, 0, none⟩), .string x, .string a0, .func (.func 51) #[] #[.pointer (some ⟨w.heap.size + 2 + 1, 0, none⟩), .pointer (some ⟨w.heap.size + 2, 0, none⟩), .pointer (some ⟨w.heap.size + 2 + 2, 0, none⟩)], .string x, undef, undef, undef, undef, undef, undef, undef, undef, undef, undef, undef, undef, undef, undef, undef, undef, undef, undef, undef, undef, undef, undef, undef, undef, undef, undef], defers := [] }) ?assign ?body ?done ?stop
  case assign =>
    intro l x W K hK
    gi_wp2
    exact hK
  case body =>
    rintro l pre x W ⟨hc, hd, hq, hb⟩ hpre
    have hxz : x.size ≤ a0.size := pieces_size 46 a0.size a0 x (hpre.subset (by simp))
    have hlz : pre.length + 1 ≤ a0.size + 1 := by
      have h1 := hpre.length_le
      have h2 := pieces_len 46 a0.size a0
      simp at h1; omega
    have hct : ∀ W1 : World, CallsIn (Fence.wide.inRound l) 3 Tryd.prog 26 #[.string x, .string ⟨#[48, 49, 50, 51, 52, 53, 54, 55, 56, 57]⟩] W1 fun e w' => e = .returned (.string (trimmed x)) ∧ Below W1.heap.size W1 w' := fun W1 => CallsIn.inRound l ((callsIn_wide (n := 3)).2 (lx_strings_Trim_digits x W1 (by omega)))
    have hc1 : W.cell? ⟨w.heap.size + 1, 0, none⟩ = some (.int .i64 (pre.length : Int)) := (blk_cell hd 0).trans rfl
    have hf1 := blk_frozen hd 0
    have hwr : wrap64 ((pre.length : Int) + 1) = ((pre.length : Int) + 1) := wrap_in _ (by omega) (by omega)
    obtain ⟨W1, hW1⟩ : ∃ W1, W.setCell ⟨w.heap.size + 1, 0, none⟩ (.int .i64 ((pre.length : Int) + 1)) = W1 := ⟨_, rfl⟩
    have hd1 : W1.heap[w.heap.size + 1]? = some (.cells #[.int .i64 ((pre.length : Int) + 1)] 3 (0, 0)) := by rw [← hW1]; simpa using blk_set hd 0 (.int .i64 ((pre.length : Int) + 1))
    have hc0 : W1.heap[w.heap.size]? = some (.cells #[.bool false] 4 (0, 0)) := by rw [← hW1]; exact (Below.heap_setCell W ⟨w.heap.size + 1, 0, none⟩ _ _ (by simp)).trans hc
    have hko : KeepsOthers W W1 := by rw [← hW1]; exact KeepsOthers.setCell _ _ _
    have hbx : BoxesKept [w.heap.size + 2, w.heap.size + 2 + 1, w.heap.size + 2 + 2] W W1 := ⟨hko.size, fun k hk _ => by rw [← hW1]; exact Below.heap_setCell W ⟨w.heap.size + 1, 0, none⟩ _ _ (by simp at hk; simp; omega)⟩
    have hb1 : Below w.heap.size w W1 := by rw [← hW1]; exact hb.setCell (p := ⟨w.heap.size + 1, 0, none⟩) (by simp) _
    have fin1 : ∀ W2, Below W1.heap.size W1 W2 → verBad x = true → piecePost [w.heap.size + 2, w.heap.size + 2 + 1, w.heap.size + 2 + 2] (fun pre W => W.heap[w.heap.size]? = some (.cells #[.bool false] 4 (0, 0)) ∧ W.heap[w.heap.size + 1]? = some (.cells #[.int .i64 (pre.length : Int)] 3 (0, 0)) ∧ (∀ x ∈ pre, verBad x = false) ∧ Below w.heap.size w W) (fun pre W => W.heap[w.heap.size]? = some (.cells #[.bool false] 4 (0, 0)) ∧ (∃ x ∈ pre, verBad x = true) ∧ Below w.heap.size w W) (pre ++ [x]) W .ret ⟨#[], []⟩ (W2.setCell ⟨w.heap.size, 0, none⟩ (.bool false)) := by
      intro W2 h2 hv
      have hc2 := (h2.block _ (Array.getElem?_eq_some_iff.1 hc0).1).trans hc0
      have hk2 : KeepsOthers W1 W2 := ⟨h2.size, fun k o hk _ => (h2.block k (Array.getElem?_eq_some_iff.1 hk).1).trans hk⟩
      exact ⟨(hko.trans hk2).trans (KeepsOthers.setCell _ _ _), by simpa using blk_set hc2 0 (.bool false), ⟨x, by simp, hv⟩, (hb1.trans (h2.mono hb1.size)).setCell (p := ⟨w.heap.size, 0, none⟩) (Nat.le_refl _) _⟩
    have fin0 : ∀ W2, Below W1.heap.size W1 W2 → verBad x = false → piecePost [w.heap.size + 2, w.heap.size + 2 + 1, w.heap.size + 2 + 2] (fun pre W => W.heap[w.heap.size]? = some (.cells #[.bool false] 4 (0, 0)) ∧ W.heap[w.heap.size + 1]? = some (.cells #[.int .i64 (pre.length : Int)] 3 (0, 0)) ∧ (∀ x ∈ pre, verBad x = false) ∧ Below w.heap.size w W) (fun pre W => W.heap[w.heap.size]? = some (.cells #[.bool false] 4 (0, 0)) ∧ (∃ x ∈ pre, verBad x = true) ∧ Below w.heap.size w W) (pre ++ [x]) W .normal ⟨#[], []⟩ W2 := by
      intro W2 h2 hv
      have hc2 := (h2.block _ (Array.getElem?_eq_some_iff.1 hc0).1).trans hc0
      have hd2 := (h2.block _ (Array.getElem?_eq_some_iff.1 hd1).1).trans hd1
      have hk2 : KeepsOthers W1 W2 := ⟨h2.size, fun k o hk _ => (h2.block k (Array.getElem?_eq_some_iff.1 hk).1).trans hk⟩
      refine ⟨hko.trans hk2, hbx.trans ⟨h2.size, fun k _ hk => h2.block k hk⟩, hc2, by rw [show (((pre ++ [x]).length : Nat) : Int) = (pre.length : Int) + 1 from by simp]; exact hd2, fun y hy => ?_, hb1.trans (h2.mono hb1.size)⟩
      rcases List.mem_append.1 hy with h | h
      · exact hq y h
      · rw [List.mem_singleton.1 h]; exact hv
    have hcf : ∀ W2, Below W1.heap.size W1 W2 → W2.cell? ⟨w.heap.size, 0, none⟩ = some (.bool false) ∧ W2.frozen? ⟨w.heap.size, 0, none⟩ = false := fun W2 h2 => by
      have hc2 := (h2.block _ (Array.getElem?_eq_some_iff.1 hc0).1).trans hc0
      exact ⟨(blk_cell hc2 0).trans rfl, blk_frozen hc2 0⟩
    have hcw := hcf W1 (Below.refl _ _)
    obtain ⟨hcw1, hcw2⟩ := hcw
    cases e0 : (x.toList == ([] : List UInt8)) with
    | true =>
      gi_wp2
      refine ⟨trivial, ?_⟩
      gi_wp2
      exact fin1 W1 (Below.refl _ _) (by simp [verBad, e0])
    | false =>
      have hz : 0 < x.size := by
        rcases Nat.eq_zero_or_pos x.size with h | h
        · rw [beq_iff_eq.2 ((str_empty x).2 h)] at e0; cases e0
        · exact h
      have hx7 : ∀ h : 0 < x.size, ((x[0]'h).toNat : Int) = bt x 0 := bt_at x 0
      have qi7 : ((0 : Int) < (x.size : Int)) = True := eq_true (by omega)
      have q7 : (0 < x.size) = True := eq_true hz
      cases e1 : ((trimmed x).toList != ([] : List UInt8)) with
      | true =>
        have e1' : ((trimmed x).toList == ([] : List UInt8)) = false := by simpa using e1
        gi_wp2
        refine ⟨trivial, (hct _).mono ?_⟩
        rintro e W2 ⟨rfl, hb2⟩
        obtain ⟨hcv1, hcv2⟩ := hcf W2 hb2
        gi_wp2
        exact fin1 W2 hb2 (by simp [verBad, e0, e1])
      | false =>
        have e1' : ((trimmed x).toList == ([] : List UInt8)) = true := by simpa using e1
        cases e2 : (decide ((1 : Int) < (x.size : Int)) && bt x 0 == 48) with
        | true =>
          have e3 : decide ((1 : Int) < (x.size : Int)) = true := by revert e2; cases decide ((1 : Int) < (x.size : Int)) <;> simp
          have e4 : (bt x 0 == 48) = true := by revert e2; cases (bt x 0 == 48) <;> simp
          gi_wp2
          refine ⟨trivial, (hct _).mono ?_⟩
          rintro e W2 ⟨rfl, hb2⟩
          obtain ⟨hcv1, hcv2⟩ := hcf W2 hb2
          gi_wp2
          exact fin1 W2 hb2 (by unfold verBad; rw [e0, e1, show (decide ((x.size : Int) > 1) && bt x 0 == 48) = true from e2]; rfl)
        | false =>
          cases e5 : decide ((9 : Int) < (x.size : Int)) with
          | true =>
            gi_wp2
            refine ⟨trivial, (hct _).mono ?_⟩
            rintro e W2 ⟨rfl, hb2⟩
            obtain ⟨hcv1, hcv2⟩ := hcf W2 hb2
            have e3 : decide ((1 : Int) < (x.size : Int)) = true := decide_eq_true (by have := of_decide_eq_true e5; omega)
            have e4 : (bt x 0 == 48) = false := by rw [e3, Bool.true_and] at e2; exact e2
            gi_wp2
            exact fin1 W2 hb2 (by unfold verBad; rw [e0, e1, show (decide ((x.size : Int) > 1) && bt x 0 == 48) = false from e2, show decide ((x.size : Int) > 9) = true from e5]; rfl)
          | false =>
            have hv : verBad x = false := by unfold verBad; rw [e0, e1, show (decide ((x.size : Int) > 1) && bt x 0 == 48) = false from e2, show decide ((x.size : Int) > 9) = false from e5]; rfl
            cases e3 : decide ((1 : Int) < (x.size : Int)) with
            | true =>
              have e4 : (bt x 0 == 48) = false := by rw [e3, Bool.true_and] at e2; exact e2
              gi_wp2
              refine ⟨trivial, (hct _).mono ?_⟩
              rintro e W2 ⟨rfl, hb2⟩
              obtain ⟨hcv1, hcv2⟩ := hcf W2 hb2
              gi_wp2
              exact fin0 W2 hb2 hv
            | false =>
              gi_wp2
              refine ⟨trivial, (hct _).mono ?_⟩
              rintro e W2 ⟨rfl, hb2⟩
              obtain ⟨hcv1, hcv2⟩ := hcf W2 hb2
              gi_wp2
              exact fin0 W2 hb2 hv
  case done =>
    rintro D W hD ⟨hc, hd, hq, hb⟩ hK
    have hcc : W.cell? ⟨w.heap.size, 0, none⟩ = some (.bool false) := (blk_cell hc 0).trans rfl
    have hff := blk_frozen hc 0
    have hdd : W.cell? ⟨w.heap.size + 1, 0, none⟩ = some (.int .i64 ((piecesF 46 a0.size a0).length : Int)) := (blk_cell hd 0).trans rfl
    gi_wp2
    obtain ⟨v, hv⟩ : ∃ v : Bool, (((piecesF 46 a0.size a0).length : Int) == 3) = v := ⟨_, rfl⟩
    rw [hv]
    have hc2 : (W.setCell ⟨w.heap.size, 0, none⟩ (.bool v)).heap[w.heap.size]? = some (.cells #[.bool v] 4 (0, 0)) := by simpa using blk_set hc 0 (.bool v)
    have hK2 := (KeepsOthers.setCell W ⟨w.heap.size, 0, none⟩ (.bool v)).same D _ hK rfl
    have hb2 := hb.setCell (p := ⟨w.heap.size, 0, none⟩) (Nat.le_refl _) (.bool v)
    refine ⟨by simp, .inl ⟨_, _, rfl, run_takeDeferred hK2, ?_⟩⟩
    have hc5 := cell_kept (a := ⟨w.heap.size, 0, none⟩) ((blk_cell hc2 0).trans rfl) (grownBy_putObj' _ D (.deferred none)) (fun r e => by cases e; exact ⟨_, hK2, rfl⟩)
    refine ⟨.bool v, ?_, ?_, hb2.trans (belowK_b (w := w) (Nat.le_refl _) _ D _ _ (by omega) hK2 rfl rfl)⟩
    · simp [results, Tryd.f15, go_sem, hc5]
    · rw [show (piecesF 46 a0.size a0).all (fun x => !verBad x) = true from List.all_eq_true.2 fun x hx => by rw [hq x hx]; rfl, Bool.true_and, ← hv]
      congr 2
      rw [Bool.eq_iff_iff]
      simp only [beq_iff_eq]
      omega
  case stop =>
    rintro D pre W hD hpx ⟨hc, ⟨x, hx, hf⟩, hb⟩ hK
    gi_wp2
    refine ⟨by simp, .inl ⟨_, _, rfl, run_takeDeferred hK, ?_⟩⟩
    have hc5 := cell_kept (a := ⟨w.heap.size, 0, none⟩) ((blk_cell hc 0).trans rfl) (grownBy_putObj' _ D (.deferred none)) (fun r e => by cases e; exact ⟨_, hK, rfl⟩)
    refine ⟨.bool false, ?_, ?_, hb.trans (belowK_b (w := w) (Nat.le_refl _) _ D _ _ (by omega) hK rfl rfl)⟩
    · simp [results, Tryd.f15, go_sem, hc5]
    · rw [show (piecesF 46 a0.size a0).all (fun x => !verBad x) = false from List.all_eq_false.2 ⟨x, hpx.subset hx, by simp [hf]⟩]; rfl
theorem lex_Version.calls (a0 : ByteArray) (r : Bool) (w : World) (h : lex_Version.f a0 = some r) :
    Calls Tryd.prog 15 #[.string a0] w fun e w' => e = .returned (.bool r) ∧ Below w.heap.size w w' := by
  unfold lex_Version.f at h
  by_cases hs : a0.size ≤ 140737488355328
  · rw [if_pos hs] at h
    cases h
    exact lex_Version.main a0 w hs
  · rw [if_neg hs] at h
    cases h
def lex_one.j0 : Nat → ByteArray → Int → Bool → Option (Int × ByteArray × Int × Int)
  | 0, _, _, _ => none
  | k + 1, x0, x4, x30 => if x30 = true then ((lex_row.f x0 33).bind fun t129 => (if 0 ≤ t129 then (if t129 ≤ (x0.size : Int) then ((lex_Name.f (x0.extract 0 (t129 : Int).toNat)).bind fun t130 => (if t130 = true then (some (1, x0.extract 0 (t129 : Int).toNat, 0, t129)) else (some (0, (⟨#[]⟩ : ByteArray), 0, 0)))) else (none)) else (none))) else ((lex_digit.f x4).bind fun t131 => (if t131 = true then ((lex_row.f x0 37).bind fun t132 => (if 0 ≤ t132 then (if t132 ≤ (x0.size : Int) then ((lex_Version.f (x0.extract 0 (t132 : Int).toNat)).bind fun t133 => (if t133 = true then (some (3, x0.extract 0 (t132 : Int).toNat, 0, t132)) else (some (0, (⟨#[]⟩ : ByteArray), 0, 0)))) else (none)) else (none))) else ((strings_HasPrefix.f x0 (⟨#[45, 62]⟩ : ByteArray)).bind fun t134 => (if t134 = true then (some (4, (⟨#[45, 62]⟩ : ByteArray), 0, 2)) else ((strings_IndexByte.f (⟨#[58, 59, 44, 46, 47, 123, 125, 40, 41, 60, 62, 61, 64, 95]⟩ : ByteArray) x4).bind fun t135 => (if t135 ≥ 0 then (if 0 ≤ 1 then (if 1 ≤ (x0.size : Int) then (some (4, x0.extract 0 1, 0, 1)) else (none)) else (none)) else (some (0, (⟨#[]⟩ : ByteArray), 0, 0))))))))
def lex_one.f (k : Nat) (a0 : ByteArray) : Option (Int × ByteArray × Int × Int) := if 0 < (a0.size : Int) then (if (bt a0 0) = 37 then (if 1 ≤ (a0.size : Int) then ((lex_row.f (a0.extract 1 a0.size) 33).bind fun t125 => (if 1 ≤ (wrap64 (1 + t125)) then (if (wrap64 (1 + t125)) ≤ (a0.size : Int) then ((lex_Name.f (a0.extract 1 ((wrap64 (1 + t125)) : Int).toNat)).bind fun t126 => (if t126 = true then (some (2, a0.extract 1 ((wrap64 (1 + t125)) : Int).toNat, 0, wrap64 (1 + t125))) else (some (0, (⟨#[]⟩ : ByteArray), 0, 0)))) else (none)) else (none))) else (none)) else ((lex_lower.f (bt a0 0)).bind fun t127 => (if t127 = true then (lex_one.j0 k a0 (bt a0 0) true) else ((lex_upper.f (bt a0 0)).bind fun t128 => (lex_one.j0 k a0 (bt a0 0) t128))))) else (none)
theorem lex_one.mono_l : ∀ k, (∀ y0 y1 y2, LeO (lex_one.j0 k y0 y1 y2) (lex_one.j0 (k + 1) y0 y1 y2))
  | 0 => fun _ _ _ r h => by simp [lex_one.j0] at h
  | k + 1 => by
    have ih0 := lex_one.mono_l k
    · intro y0 y1 y2
      unfold lex_one.j0
      repeat' first
      | (with_reducible exact ih0 _ _ _)
      | (with_reducible exact LeO.refl _)
      | (with_reducible exact LeO.none _)
      | (with_reducible refine LeO.ite ?_ ?_)
      | (with_reducible refine LeO.bind ?_ (fun _ => ?_))
      | exact ih0 _ _ _
      | exact LeO.none _
      | refine LeO.ite ?_ ?_
      | refine LeO.bind ?_ (fun _ => ?_)
theorem lex_one.mono : ∀ a0 k, LeO (lex_one.f k a0) (lex_one.f (k + 1) a0) := by
  intro a0 k
  have ih0 := lex_one.mono_l k
  unfold lex_one.f
  repeat' first
      | (with_reducible exact ih0 _ _ _)
      | (with_reducible exact LeO.refl _)
      | (with_reducible exact LeO.none _)
      | (with_reducible refine LeO.ite ?_ ?_)
      | (with_reducible refine LeO.bind ?_ (fun _ => ?_))
      | exact ih0 _ _ _
      | exact LeO.none _
      | refine LeO.ite ?_ ?_
      | refine LeO.bind ?_ (fun _ => ?_)
set_option maxHeartbeats 8000000 in
set_option maxRecDepth 100000 in
theorem lex_one.calls (k : Nat) (a0 : ByteArray) (r1 : Int) (r2 : ByteArray) (r3 : Int) (r4 : Int) (w : World) (h : lex_one.f k a0 = some (r1, r2, r3, r4)) :
    Calls Tryd.prog 21 #[.string a0] w fun e w' => e = .returned (.tuple #[.agg #[.int .i64 r1, .string r2, .int .i64 r3], .int .i64 r4]) ∧ Below w.heap.size w w' := by
  have hu33 := Tryd.underlying33
  have HB := Aside0.mk (Below.refl w.heap.size w)
  have H : (if 0 < (a0.size : Int) then (if (bt a0 0) = 37 then (if 1 ≤ (a0.size : Int) then ((lex_row.f (a0.extract 1 a0.size) 33).bind fun t125 => (if 1 ≤ (wrap64 (1 + t125)) then (if (wrap64 (1 + t125)) ≤ (a0.size : Int) then ((lex_Name.f (a0.extract 1 ((wrap64 (1 + t125)) : Int).toNat)).bind fun t126 => (if t126 = true then (some (2, a0.extract 1 ((wrap64 (1 + t125)) : Int).toNat, 0, wrap64 (1 + t125))) else (some (0, (⟨#[]⟩ : ByteArray), 0, 0)))) else (none)) else (none))) else (none)) else ((lex_lower.f (bt a0 0)).bind fun t127 => (if t127 = true then (lex_one.j0 k a0 (bt a0 0) true) else ((lex_upper.f (bt a0 0)).bind fun t128 => (lex_one.j0 k a0 (bt a0 0) t128))))) else (none)) = some (r1, r2, r3, r4) := h
  clear h
  by_cases c2 : 0 < (a0.size : Int)
  · rw [if_pos c2] at H
    have c2b0 : decide (0 < (a0.size : Int)) = true := decide_eq_true c2
    have c2b1 : decide (0 < a0.size) = true := decide_eq_true (by omega)
    clear c2
    by_cases c4 : (bt a0 0) = 37
    · rw [if_pos c4] at H
      have c4b0 : ((bt a0 0) == 37) = true := beq_iff_eq.mpr c4
      have c4b1 : ((bt a0 0) != 37) = false := bne_eq_false_iff_eq.mpr c4
      clear c4
      by_cases c5 : 1 ≤ (a0.size : Int)
      · rw [if_pos c5] at H
        have c5b0 := eq_true c5
        have c5b1 : decide (1 ≤ (a0.size : Int)) = true := decide_eq_true c5
        clear c5
        replace H := Option.bind_eq_some_iff.mp H
        obtain ⟨t125, A60, H⟩ := H
        replace H : (if 1 ≤ (wrap64 (1 + t125)) then (if (wrap64 (1 + t125)) ≤ (a0.size : Int) then ((lex_Name.f (a0.extract 1 ((wrap64 (1 + t125)) : Int).toNat)).bind fun t126 => (if t126 = true then (some (2, a0.extract 1 ((wrap64 (1 + t125)) : Int).toNat, 0, wrap64 (1 + t125))) else (some (0, (⟨#[]⟩ : ByteArray), 0, 0)))) else (none)) else (none)) = some (r1, r2, r3, r4) := H
        have A6 := Aside0.mk A60
        clear A60
        by_cases c7 : 1 ≤ (wrap64 (1 + t125))
        · rw [if_pos c7] at H
          have c7b0 := eq_true c7
          have c7b1 : decide (1 ≤ (wrap64 (1 + t125))) = true := decide_eq_true c7
          by_cases c8 : (wrap64 (1 + t125)) ≤ (a0.size : Int)
          · rw [if_pos c8] at H
            have c8b0 := eq_true c8
            have c8b1 : decide ((wrap64 (1 + t125)) ≤ (a0.size : Int)) = true := decide_eq_true c8
            replace H := Option.bind_eq_some_iff.mp H
            obtain ⟨t126, A90, H⟩ := H
            replace H : (if t126 = true then (some (2, a0.extract 1 ((wrap64 (1 + t125)) : Int).toNat, 0, wrap64 (1 + t125))) else (some (0, (⟨#[]⟩ : ByteArray), 0, 0))) = some (r1, r2, r3, r4) := H
            have A9 := Aside0.mk A90
            clear A90
            by_cases c10 : t126 = true
            · subst c10
              have H1 : (some (2, a0.extract 1 ((wrap64 (1 + t125)) : Int).toNat, 0, wrap64 (1 + t125))) = some (r1, r2, r3, r4) := by rw [if_pos rfl] at H; exact H
              clear H
              have H := H1
              clear H1
              have c11b0 := eq_true (of_decide_eq_true (by first | (with_reducible assumption) | assumption) : 1 ≤ (wrap64 (1 + t125)))
              have c12b0 := eq_true (of_decide_eq_true (by first | (with_reducible assumption) | assumption) : (wrap64 (1 + t125)) ≤ (a0.size : Int))
              simp only [Option.some.injEq, Prod.mk.injEq] at H
              obtain ⟨rfl, rfl, rfl, rfl⟩ := H
              go_enter Tryd.func21, Tryd.ntmps21
              go_wp2_with (first | ((with_reducible refine gate_dst (N := 2) rfl ?_); refine box_event ?hg (N := 2) ?hd (cs := #[.int .i64 0, .string (⟨#[]⟩ : ByteArray), .int .i64 0]) (t := 33) ?hr ?_; (case hd => rfl); (case hg => rfl); (case hr => first | (go_simp; done) | (go_simp; rfl)); intro gb124 hg w13 hbox hb; have n0_ := Aside0.mk (below_step (by repeat (first | (with_reducible first | exact HB.out | apply below_alloc | apply pw_below_drewN | apply below_drew1) | exact HB.out)) hb); have n1_ := Aside0.mk (hbox); have n2_ := Aside0.mk ((by rw [hg]; exact (below_size (by repeat (first | (with_reducible first | exact HB.out | apply below_alloc | apply pw_below_drewN | apply below_drew1) | exact HB.out))) : w.heap.size ≤ gb124)); have n3_ := Aside0.mk ((by rw [hg]; exact (below_size (by repeat (first | (with_reducible first | exact HB.out | apply below_alloc | apply pw_below_drewN | apply below_drew1) | exact HB.out))) : w.heap.size ≤ gb124)); clear HB; have HB := n0_; have BK124 := n1_; have GW124 := n2_; have GE124 := n3_; clear n0_ n1_ n2_ n3_; clear hb hbox hg; have p3 : 0 ≤ (0 : Int) := (by omega); have q3 : 0 < a0.size := (by have : (0 : Int) < (a0.size : Int) := of_decide_eq_true (by first | (with_reducible assumption) | assumption); omega); have hx3 : ∀ h : 0 < a0.size, ((a0[0]'h).toNat : Int) = bt a0 0 := bt_at a0 0; clear p3; have qi3 : (0 < (a0.size : Int)) = True := eq_true (of_decide_eq_true (by first | (with_reducible assumption) | assumption)); replace q3 := eq_true q3) | ((with_reducible refine gate_callee (f := 32) rfl ?_); refine goesL_ (some 15) rfl rfl Tryd.func32 (by kernel_rfl) rfl #[.string (a0.extract 1 a0.size), .func (.func (33 : Int).toNat) #[] #[]] rfl (by (try simp only [List.map_toArray, List.map_cons, List.map_nil]); first | done | rfl | (simp only [List.length_drop, List.length_take]; rfl)) ?_; (with_reducible refine (lex_row.calls (a0.extract 1 a0.size) 33 t125 _ A6.out).mono ?_); rintro e w' ⟨rfl, ⟨nd, rfl⟩⟩; refine ⟨_, rfl, ?_⟩; (try (rw [drewN_self w13]; generalize hq_ : World.drewN w13 _ = w13; have n0_ : Aside0 (w13.heap[gb124]? = some (.cells #[.int .i64 0, .string (⟨#[]⟩ : ByteArray), .int .i64 0] 33 (0, 0))) := ⟨by rw [← hq_]; exact (by (with_reducible repeat (first | refine blk_drewN ?_ _ | refine blk_drew ?_ | refine blk_alloc ?_ _)); exact BK124.out)⟩; have n1_ : Aside0 (Below w.heap.size w w13) := ⟨by rw [← hq_]; exact (by repeat (first | (with_reducible first | exact HB.out | apply below_alloc | apply pw_below_drewN | apply below_drew1 | refine below_set ?_ GE124.out) | exact HB.out))⟩; clear BK124 HB hq_; have BK124 := n0_; have HB := n1_; clear n0_ n1_))) | ((with_reducible refine gate_callee (f := 13) rfl ?_); refine goesL_ (some 20) rfl rfl Tryd.func13 (by kernel_rfl) rfl #[.string (a0.extract 1 ((wrap64 (1 + t125)) : Int).toNat)] rfl (by (try simp only [List.map_toArray, List.map_cons, List.map_nil]); first | done | rfl | (simp only [List.length_drop, List.length_take]; rfl)) ?_; (with_reducible refine (lex_Name.calls (a0.extract 1 ((wrap64 (1 + t125)) : Int).toNat) true _ A9.out).mono ?_); rintro e w14 ⟨rfl, hb⟩; refine ⟨_, rfl, ?_⟩; have n0_ := Aside0.mk (blk_below (g := gb124) (o := .cells #[.int .i64 0, .string (⟨#[]⟩ : ByteArray), .int .i64 0] 33 (0, 0)) (by (with_reducible repeat (first | refine blk_drewN ?_ _ | refine blk_drew ?_ | refine blk_alloc ?_ _)); exact BK124.out) hb); have n1_ := Aside0.mk (below_step (by repeat (first | (with_reducible first | exact HB.out | apply below_alloc | apply pw_below_drewN | apply below_drew1 | refine below_set ?_ GE124.out) | exact HB.out)) hb); clear BK124; clear HB; have BK124 := n0_; have HB := n1_; clear n0_ n1_; (try clear hb); (try clear hb2); (try clear hk); (try clear hi); have hcz15_0 : w14.cell? ⟨gb124, 0, none⟩ = some (.int .i64 0) := (blk_cell BK124.out 0).trans rfl; have hcz15_1 : w14.cell? ⟨gb124, 1, none⟩ = some (.string (⟨#[]⟩ : ByteArray)) := (blk_cell BK124.out 1).trans rfl; have hcz15_2 : w14.cell? ⟨gb124, 2, none⟩ = some (.int .i64 0) := (blk_cell BK124.out 2).trans rfl; have hfz15_0 := blk_frozen BK124.out 0; have hfz15_1 := blk_frozen BK124.out 1; have hfz15_2 := blk_frozen BK124.out 2))
              refine bodyPost_ret (results_ct rfl _ _ gb124 33 #[.int .i64 2, .string (a0.extract 1 ((wrap64 (1 + t125)) : Int).toNat), .int .i64 0] (0, 0) _ rfl (by (with_reducible repeat (first | refine blk_drewN ?_ _ | refine blk_drew ?_ | refine blk_alloc ?_ _)); refine blk_put (cs := #[.int .i64 2, .string (a0.extract 1 ((wrap64 (1 + t125)) : Int).toNat), .int .i64 0]) ?_ 2 _ rfl; (with_reducible repeat (first | refine blk_drewN ?_ _ | refine blk_drew ?_ | refine blk_alloc ?_ _)); refine blk_put (cs := #[.int .i64 2, .string (⟨#[]⟩ : ByteArray), .int .i64 0]) ?_ 1 _ rfl; (with_reducible repeat (first | refine blk_drewN ?_ _ | refine blk_drew ?_ | refine blk_alloc ?_ _)); refine blk_put (cs := #[.int .i64 0, .string (⟨#[]⟩ : ByteArray), .int .i64 0]) ?_ 0 _ rfl; (with_reducible repeat (first | refine blk_drewN ?_ _ | refine blk_drew ?_ | refine blk_alloc ?_ _)); exact BK124.out) Tryd.underlying33 rfl (by kernel_rfl)) rfl ?_
              exact ⟨by first | rfl | (simp [errW_none, errW_some] <;> rfl) | (simp [*, errW_none, errW_some] <;> rfl), by repeat (first | (with_reducible first | exact HB.out | apply below_alloc | apply pw_below_drewN | apply below_drew1 | refine below_set ?_ GE124.out) | exact HB.out)⟩
            · replace c10 := Bool.eq_false_iff.mpr c10
              subst c10
              have H1 : (some (0, (⟨#[]⟩ : ByteArray), 0, 0)) = some (r1, r2, r3, r4) := by rw [if_neg (show ¬ (false = true) by decide)] at H; exact H
              clear H
              have H := H1
              clear H1
              simp only [Option.some.injEq, Prod.mk.injEq] at H
              obtain ⟨rfl, rfl, rfl, rfl⟩ := H
              go_enter Tryd.func21, Tryd.ntmps21
              go_wp2_with (first | ((with_reducible refine gate_dst (N := 2) rfl ?_); refine box_event ?hg (N := 2) ?hd (cs := #[.int .i64 0, .string (⟨#[]⟩ : ByteArray), .int .i64 0]) (t := 33) ?hr ?_; (case hd => rfl); (case hg => rfl); (case hr => first | (go_simp; done) | (go_simp; rfl)); intro gb124 hg w16 hbox hb; have n0_ := Aside0.mk (below_step (by repeat (first | (with_reducible first | exact HB.out | apply below_alloc | apply pw_below_drewN | apply below_drew1) | exact HB.out)) hb); have n1_ := Aside0.mk (hbox); have n2_ := Aside0.mk ((by rw [hg]; exact (below_size (by repeat (first | (with_reducible first | exact HB.out | apply below_alloc | apply pw_below_drewN | apply below_drew1) | exact HB.out))) : w.heap.size ≤ gb124)); have n3_ := Aside0.mk ((by rw [hg]; exact (below_size (by repeat (first | (with_reducible first | exact HB.out | apply below_alloc | apply pw_below_drewN | apply below_drew1) | exact HB.out))) : w.heap.size ≤ gb124)); clear HB; have HB := n0_; have BK124 := n1_; have GW124 := n2_; have GE124 := n3_; clear n0_ n1_ n2_ n3_; clear hb hbox hg; have p3 : 0 ≤ (0 : Int) := (by omega); have q3 : 0 < a0.size := (by have : (0 : Int) < (a0.size : Int) := of_decide_eq_true (by first | (with_reducible assumption) | assumption); omega); have hx3 : ∀ h : 0 < a0.size, ((a0[0]'h).toNat : Int) = bt a0 0 := bt_at a0 0; clear p3; have qi3 : (0 < (a0.size : Int)) = True := eq_true (of_decide_eq_true (by first | (with_reducible assumption) | assumption)); replace q3 := eq_true q3) | ((with_reducible refine gate_callee (f := 32) rfl ?_); refine goesL_ (some 15) rfl rfl Tryd.func32 (by kernel_rfl) rfl #[.string (a0.extract 1 a0.size), .func (.func (33 : Int).toNat) #[] #[]] rfl (by (try simp only [List.map_toArray, List.map_cons, List.map_nil]); first | done | rfl | (simp only [List.length_drop, List.length_take]; rfl)) ?_; (with_reducible refine (lex_row.calls (a0.extract 1 a0.size) 33 t125 _ A6.out).mono ?_); rintro e w' ⟨rfl, ⟨nd, rfl⟩⟩; refine ⟨_, rfl, ?_⟩; (try (rw [drewN_self w16]; generalize hq_ : World.drewN w16 _ = w16; have n0_ : Aside0 (w16.heap[gb124]? = some (.cells #[.int .i64 0, .string (⟨#[]⟩ : ByteArray), .int .i64 0] 33 (0, 0))) := ⟨by rw [← hq_]; exact (by (with_reducible repeat (first | refine blk_drewN ?_ _ | refine blk_drew ?_ | refine blk_alloc ?_ _)); exact BK124.out)⟩; have n1_ : Aside0 (Below w.heap.size w w16) := ⟨by rw [← hq_]; exact (by repeat (first | (with_reducible first | exact HB.out | apply below_alloc | apply pw_below_drewN | apply below_drew1 | refine below_set ?_ GE124.out) | exact HB.out))⟩; clear BK124 HB hq_; have BK124 := n0_; have HB := n1_; clear n0_ n1_))) | ((with_reducible refine gate_callee (f := 13) rfl ?_); refine goesL_ (some 20) rfl rfl Tryd.func13 (by kernel_rfl) rfl #[.string (a0.extract 1 ((wrap64 (1 + t125)) : Int).toNat)] rfl (by (try simp only [List.map_toArray, List.map_cons, List.map_nil]); first | done | rfl | (simp only [List.length_drop, List.length_take]; rfl)) ?_; (with_reducible refine (lex_Name.calls (a0.extract 1 ((wrap64 (1 + t125)) : Int).toNat) false _ A9.out).mono ?_); rintro e w17 ⟨rfl, hb⟩; refine ⟨_, rfl, ?_⟩; have n0_ := Aside0.mk (blk_below (g := gb124) (o := .cells #[.int .i64 0, .string (⟨#[]⟩ : ByteArray), .int .i64 0] 33 (0, 0)) (by (with_reducible repeat (first | refine blk_drewN ?_ _ | refine blk_drew ?_ | refine blk_alloc ?_ _)); exact BK124.out) hb); have n1_ := Aside0.mk (below_step (by repeat (first | (with_reducible first | exact HB.out | apply below_alloc | apply pw_below_drewN | apply below_drew1 | refine below_set ?_ GE124.out) | exact HB.out)) hb); clear BK124; clear HB; have BK124 := n0_; have HB := n1_; clear n0_ n1_; (try clear hb); (try clear hb2); (try clear hk); (try clear hi); have hcz18_0 : w17.cell? ⟨gb124, 0, none⟩ = some (.int .i64 0) := (blk_cell BK124.out 0).trans rfl; have hcz18_1 : w17.cell? ⟨gb124, 1, none⟩ = some (.string (⟨#[]⟩ : ByteArray)) := (blk_cell BK124.out 1).trans rfl; have hcz18_2 : w17.cell? ⟨gb124, 2, none⟩ = some (.int .i64 0) := (blk_cell BK124.out 2).trans rfl; have hfz18_0 := blk_frozen BK124.out 0; have hfz18_1 := blk_frozen BK124.out 1; have hfz18_2 := blk_frozen BK124.out 2))
              refine bodyPost_ret (results_ct rfl _ _ gb124 33 #[.int .i64 0, .string (⟨#[]⟩ : ByteArray), .int .i64 0] (0, 0) _ rfl (by (with_reducible repeat (first | refine blk_drewN ?_ _ | refine blk_drew ?_ | refine blk_alloc ?_ _)); refine blk_put (cs := #[.int .i64 0, .string (⟨#[]⟩ : ByteArray), .int .i64 0]) ?_ 2 _ rfl; (with_reducible repeat (first | refine blk_drewN ?_ _ | refine blk_drew ?_ | refine blk_alloc ?_ _)); refine blk_put (cs := #[.int .i64 0, .string (⟨#[]⟩ : ByteArray), .int .i64 0]) ?_ 1 _ rfl; (with_reducible repeat (first | refine blk_drewN ?_ _ | refine blk_drew ?_ | refine blk_alloc ?_ _)); refine blk_put (cs := #[.int .i64 0, .string (⟨#[]⟩ : ByteArray), .int .i64 0]) ?_ 0 _ rfl; (with_reducible repeat (first | refine blk_drewN ?_ _ | refine blk_drew ?_ | refine blk_alloc ?_ _)); exact BK124.out) Tryd.underlying33 rfl (by kernel_rfl)) rfl ?_
              exact ⟨by first | rfl | (simp [errW_none, errW_some] <;> rfl) | (simp [*, errW_none, errW_some] <;> rfl), by repeat (first | (with_reducible first | exact HB.out | apply below_alloc | apply pw_below_drewN | apply below_drew1 | refine below_set ?_ GE124.out) | exact HB.out)⟩
          · rw [if_neg c8] at H
            exact absurd H (by simp)
        · rw [if_neg c7] at H
          exact absurd H (by simp)
      · rw [if_neg c5] at H
        exact absurd H (by simp)
    · rw [if_neg c4] at H
      have c4b0 : ((bt a0 0) == 37) = false := beq_eq_false_iff_ne.mpr c4
      have c4b1 : ((bt a0 0) != 37) = true := bne_iff_ne.mpr c4
      have HC19 := Aside0.mk H
      clear H
      go_enter Tryd.func21, Tryd.ntmps21
      go_upto_region 7 with (first | ((with_reducible refine gate_dst (N := 2) rfl ?_); refine box_event ?hg (N := 2) ?hd (cs := #[.int .i64 0, .string (⟨#[]⟩ : ByteArray), .int .i64 0]) (t := 33) ?hr ?_; (case hd => rfl); (case hg => rfl); (case hr => first | (go_simp; done) | (go_simp; rfl)); intro gb124 hg w20 hbox hb; have n0_ := Aside0.mk (below_step (by repeat (first | (with_reducible first | exact HB.out | apply below_alloc | apply pw_below_drewN | apply below_drew1) | exact HB.out)) hb); have n1_ := Aside0.mk (hbox); have n2_ := Aside0.mk ((by rw [hg]; exact (below_size (by repeat (first | (with_reducible first | exact HB.out | apply below_alloc | apply pw_below_drewN | apply below_drew1) | exact HB.out))) : w.heap.size ≤ gb124)); have n3_ := Aside0.mk ((by rw [hg]; exact (below_size (by repeat (first | (with_reducible first | exact HB.out | apply below_alloc | apply pw_below_drewN | apply below_drew1) | exact HB.out))) : w.heap.size ≤ gb124)); clear HB; have HB := n0_; have BK124 := n1_; have GW124 := n2_; have GE124 := n3_; clear n0_ n1_ n2_ n3_; clear hb hbox hg; have p3 : 0 ≤ (0 : Int) := (by omega); have q3 : 0 < a0.size := (by have : (0 : Int) < (a0.size : Int) := of_decide_eq_true (by first | (with_reducible assumption) | assumption); omega); have hx3 : ∀ h : 0 < a0.size, ((a0[0]'h).toNat : Int) = bt a0 0 := bt_at a0 0; clear p3; have qi3 : (0 < (a0.size : Int)) = True := eq_true (of_decide_eq_true (by first | (with_reducible assumption) | assumption)); replace q3 := eq_true q3))
      (try simp only [Act.put, List.setIfInBounds_toArray, List.set_cons_zero, List.set_cons_succ])
      go_cut [30] (fun v30 wc => ∃ (kq : Nat) (x30_18 : Bool), v30 = .bool x30_18 ∧ Aside0 (lex_one.j0 kq a0 (bt a0 0) x30_18 = some (r1, r2, r3, r4)) ∧ Aside0 (kq ≤ k) ∧ Aside0 (wc.heap[gb124]? = some (.cells #[.int .i64 0, .string (⟨#[]⟩ : ByteArray), .int .i64 0] 33 (0, 0))) ∧ Aside0 (Below w.heap.size w wc))
      case first =>
        have H := HC19.out
        clear HC19
        replace H := Option.bind_eq_some_iff.mp H
        obtain ⟨t127, A210, H⟩ := H
        replace H : (if t127 = true then (lex_one.j0 k a0 (bt a0 0) true) else ((lex_upper.f (bt a0 0)).bind fun t128 => (lex_one.j0 k a0 (bt a0 0) t128))) = some (r1, r2, r3, r4) := H
        have A21 := Aside0.mk A210
        clear A210
        by_cases c22 : t127 = true
        · subst c22
          have H1 : (lex_one.j0 k a0 (bt a0 0) true) = some (r1, r2, r3, r4) := by rw [if_pos rfl] at H; exact H
          clear H
          have H := H1
          clear H1
          have H' := Aside0.mk H
          clear H
          go_wp2_with (first | ((with_reducible refine gate_callee (f := 34) rfl ?_); refine goesL_ (some 32) rfl rfl Tryd.func34 (by kernel_rfl) rfl #[.int .u8 (bt a0 0)] rfl (by (try simp only [List.map_toArray, List.map_cons, List.map_nil]); first | done | rfl | (simp only [List.length_drop, List.length_take]; rfl)) ?_; (with_reducible refine (lex_lower.calls (bt a0 0) true _ A21.out).mono ?_); rintro e w' ⟨rfl, ⟨nd, rfl⟩⟩; refine ⟨_, rfl, ?_⟩))
          go_meet
          case rel => exact ⟨_, (true), (by first | rfl | (simp; done) | (simp [*]; done)), H', ⟨by first | omega | exact Nat.le_refl _⟩, ⟨by (with_reducible repeat (first | refine blk_drewN ?_ _ | refine blk_drew ?_ | refine blk_alloc ?_ _)); exact BK124.out⟩, ⟨by repeat (first | (with_reducible first | exact HB.out | apply below_alloc | apply pw_below_drewN | apply below_drew1 | refine below_set ?_ GE124.out) | exact HB.out)⟩⟩
        · replace c22 := Bool.eq_false_iff.mpr c22
          subst c22
          have H1 : ((lex_upper.f (bt a0 0)).bind fun t128 => (lex_one.j0 k a0 (bt a0 0) t128)) = some (r1, r2, r3, r4) := by rw [if_neg (show ¬ (false = true) by decide)] at H; exact H
          clear H
          have H := H1
          clear H1
          replace H := Option.bind_eq_some_iff.mp H
          obtain ⟨t128, A230, H⟩ := H
          replace H : (lex_one.j0 k a0 (bt a0 0) t128) = some (r1, r2, r3, r4) := H
          have A23 := Aside0.mk A230
          clear A230
          have H' := Aside0.mk H
          clear H
          go_wp2_with (first | ((with_reducible refine gate_callee (f := 34) rfl ?_); refine goesL_ (some 32) rfl rfl Tryd.func34 (by kernel_rfl) rfl #[.int .u8 (bt a0 0)] rfl (by (try simp only [List.map_toArray, List.map_cons, List.map_nil]); first | done | rfl | (simp only [List.length_drop, List.length_take]; rfl)) ?_; (with_reducible refine (lex_lower.calls (bt a0 0) false _ A21.out).mono ?_); rintro e w' ⟨rfl, ⟨nd, rfl⟩⟩; refine ⟨_, rfl, ?_⟩) | (go_at_call 35; (with_reducible refine (lex_upper.calls (bt a0 0) t128 _ A23.out).mono ?_); rintro e w' ⟨rfl, ⟨nd, rfl⟩⟩))
          go_meet
          case rel => exact ⟨_, (t128), (by first | rfl | (simp; done) | (simp [*]; done)), H', ⟨by first | omega | exact Nat.le_refl _⟩, ⟨by (with_reducible repeat (first | refine blk_drewN ?_ _ | refine blk_drew ?_ | refine blk_alloc ?_ _)); exact BK124.out⟩, ⟨by repeat (first | (with_reducible first | exact HB.out | apply below_alloc | apply pw_below_drewN | apply below_drew1 | refine below_set ?_ GE124.out) | exact HB.out)⟩⟩
      case rest =>
        clear HC19
        try clear c1
        try clear c2
        try clear c2b0
        try clear c2b1
        try clear p2
        try clear c3
        try clear p3
        try clear q3
        try clear hx3
        try clear qi3
        try clear c4
        try clear c4b0
        try clear c4b1
        try clear c5
        try clear c5b0
        try clear c5b1
        try clear p6
        try clear c7
        try clear c7b0
        try clear c7b1
        try clear c8
        try clear c8b0
        try clear c8b1
        try clear c10
        try clear c11
        try clear c11b0
        try clear c12
        try clear c12b0
        try clear c13
        try clear c21
        try clear c22
        try clear hcz15_0
        try clear hcz15_1
        try clear hcz15_2
        try clear hcz18_0
        try clear hcz18_1
        try clear hcz18_2
        try clear hfz15_0
        try clear hfz15_1
        try clear hfz15_2
        try clear hfz18_0
        try clear hfz18_1
        try clear hfz18_2
        try clear p3
        try clear q3
        obtain ⟨kq, x30_18, rfl, HA, HJ18, BK124, HB⟩ := hcut
        cases kq with
        | zero => exact absurd HA.out (by simp [lex_one.j0])
        | succ kj18 =>
          have H := HA.out
          clear HA
          simp only [lex_one.j0] at H
          by_cases c24 : x30_18 = true
          · subst c24
            have H1 : ((lex_row.f a0 33).bind fun t129 => (if 0 ≤ t129 then (if t129 ≤ (a0.size : Int) then ((lex_Name.f (a0.extract 0 (t129 : Int).toNat)).bind fun t130 => (if t130 = true then (some (1, a0.extract 0 (t129 : Int).toNat, 0, t129)) else (some (0, (⟨#[]⟩ : ByteArray), 0, 0)))) else (none)) else (none))) = some (r1, r2, r3, r4) := by rw [if_pos rfl] at H; exact H
            clear H
            have H := H1
            clear H1
            replace H := Option.bind_eq_some_iff.mp H
            obtain ⟨t129, A250, H⟩ := H
            replace H : (if 0 ≤ t129 then (if t129 ≤ (a0.size : Int) then ((lex_Name.f (a0.extract 0 (t129 : Int).toNat)).bind fun t130 => (if t130 = true then (some (1, a0.extract 0 (t129 : Int).toNat, 0, t129)) else (some (0, (⟨#[]⟩ : ByteArray), 0, 0)))) else (none)) else (none)) = some (r1, r2, r3, r4) := H
            have A25 := Aside0.mk A250
            clear A250
            by_cases c26 : 0 ≤ t129
            · rw [if_pos c26] at H
              have c26b0 := eq_true c26
              have c26b1 : decide (0 ≤ t129) = true := decide_eq_true c26
              clear c26
              by_cases c27 : t129 ≤ (a0.size : Int)
              · rw [if_pos c27] at H
                have c27b0 := eq_true c27
                have c27b1 : decide (t129 ≤ (a0.size : Int)) = true := decide_eq_true c27
                clear c27
                replace H := Option.bind_eq_some_iff.mp H
                obtain ⟨t130, A280, H⟩ := H
                replace H : (if t130 = true then (some (1, a0.extract 0 (t129 : Int).toNat, 0, t129)) else (some (0, (⟨#[]⟩ : ByteArray), 0, 0))) = some (r1, r2, r3, r4) := H
                have A28 := Aside0.mk A280
                clear A280
                by_cases c29 : t130 = true
                · subst c29
                  have H1 : (some (1, a0.extract 0 (t129 : Int).toNat, 0, t129)) = some (r1, r2, r3, r4) := by rw [if_pos rfl] at H; exact H
                  clear H
                  have H := H1
                  clear H1
                  have c30b0 := eq_true (of_decide_eq_true (by first | (with_reducible assumption) | assumption) : 0 ≤ t129)
                  have c31b0 := eq_true (of_decide_eq_true (by first | (with_reducible assumption) | assumption) : t129 ≤ (a0.size : Int))
                  simp only [Option.some.injEq, Prod.mk.injEq] at H
                  obtain ⟨rfl, rfl, rfl, rfl⟩ := H
                  go_wp2_with (first | ((with_reducible refine gate_callee (f := 32) rfl ?_); refine goesL_ (some 38) rfl rfl Tryd.func32 (by kernel_rfl) rfl #[.string a0, .func (.func (33 : Int).toNat) #[] #[]] rfl (by (try simp only [List.map_toArray, List.map_cons, List.map_nil]); first | done | rfl | (simp only [List.length_drop, List.length_take]; rfl)) ?_; (with_reducible refine (lex_row.calls a0 33 t129 _ A25.out).mono ?_); rintro e w' ⟨rfl, ⟨nd, rfl⟩⟩; refine ⟨_, rfl, ?_⟩; (try (rw [drewN_self wc]; generalize hq_ : World.drewN wc _ = wc; have n0_ : Aside0 (wc.heap[gb124]? = some (.cells #[.int .i64 0, .string (⟨#[]⟩ : ByteArray), .int .i64 0] 33 (0, 0))) := ⟨by rw [← hq_]; exact (by (with_reducible repeat (first | refine blk_drewN ?_ _ | refine blk_drew ?_ | refine blk_alloc ?_ _)); exact BK124.out)⟩; have n1_ : Aside0 (Below w.heap.size w wc) := ⟨by rw [← hq_]; exact (by repeat (first | (with_reducible first | exact HB.out | apply below_alloc | apply pw_below_drewN | apply below_drew1 | refine below_set ?_ GE124.out) | exact HB.out))⟩; clear BK124 HB hq_; have BK124 := n0_; have HB := n1_; clear n0_ n1_))) | ((with_reducible refine gate_callee (f := 13) rfl ?_); refine goesL_ (some 42) rfl rfl Tryd.func13 (by kernel_rfl) rfl #[.string (a0.extract 0 (t129 : Int).toNat)] rfl (by (try simp only [List.map_toArray, List.map_cons, List.map_nil]); first | done | rfl | (simp only [List.length_drop, List.length_take]; rfl)) ?_; (with_reducible refine (lex_Name.calls (a0.extract 0 (t129 : Int).toNat) true _ A28.out).mono ?_); rintro e w32 ⟨rfl, hb⟩; refine ⟨_, rfl, ?_⟩; have n0_ := Aside0.mk (blk_below (g := gb124) (o := .cells #[.int .i64 0, .string (⟨#[]⟩ : ByteArray), .int .i64 0] 33 (0, 0)) (by (with_reducible repeat (first | refine blk_drewN ?_ _ | refine blk_drew ?_ | refine blk_alloc ?_ _)); exact BK124.out) hb); have n1_ := Aside0.mk (below_step (by repeat (first | (with_reducible first | exact HB.out | apply below_alloc | apply pw_below_drewN | apply below_drew1 | refine below_set ?_ GE124.out) | exact HB.out)) hb); clear BK124; clear HB; have BK124 := n0_; have HB := n1_; clear n0_ n1_; (try clear hb); (try clear hb2); (try clear hk); (try clear hi); have hcz33_0 : w32.cell? ⟨gb124, 0, none⟩ = some (.int .i64 0) := (blk_cell BK124.out 0).trans rfl; have hcz33_1 : w32.cell? ⟨gb124, 1, none⟩ = some (.string (⟨#[]⟩ : ByteArray)) := (blk_cell BK124.out 1).trans rfl; have hcz33_2 : w32.cell? ⟨gb124, 2, none⟩ = some (.int .i64 0) := (blk_cell BK124.out 2).trans rfl; have hfz33_0 := blk_frozen BK124.out 0; have hfz33_1 := blk_frozen BK124.out 1; have hfz33_2 := blk_frozen BK124.out 2))
                  refine bodyPost_ret (results_ct rfl _ _ gb124 33 #[.int .i64 1, .string (a0.extract 0 (t129 : Int).toNat), .int .i64 0] (0, 0) _ rfl (by (with_reducible repeat (first | refine blk_drewN ?_ _ | refine blk_drew ?_ | refine blk_alloc ?_ _)); refine blk_put (cs := #[.int .i64 1, .string (a0.extract 0 (t129 : Int).toNat), .int .i64 0]) ?_ 2 _ rfl; (with_reducible repeat (first | refine blk_drewN ?_ _ | refine blk_drew ?_ | refine blk_alloc ?_ _)); refine blk_put (cs := #[.int .i64 1, .string (⟨#[]⟩ : ByteArray), .int .i64 0]) ?_ 1 _ rfl; (with_reducible repeat (first | refine blk_drewN ?_ _ | refine blk_drew ?_ | refine blk_alloc ?_ _)); refine blk_put (cs := #[.int .i64 0, .string (⟨#[]⟩ : ByteArray), .int .i64 0]) ?_ 0 _ rfl; (with_reducible repeat (first | refine blk_drewN ?_ _ | refine blk_drew ?_ | refine blk_alloc ?_ _)); exact BK124.out) Tryd.underlying33 rfl (by kernel_rfl)) rfl ?_
                  exact ⟨by first | rfl | (simp [errW_none, errW_some] <;> rfl) | (simp [*, errW_none, errW_some] <;> rfl), by repeat (first | (with_reducible first | exact HB.out | apply below_alloc | apply pw_below_drewN | apply below_drew1 | refine below_set ?_ GE124.out) | exact HB.out)⟩
                · replace c29 := Bool.eq_false_iff.mpr c29
                  subst c29
                  have H1 : (some (0, (⟨#[]⟩ : ByteArray), 0, 0)) = some (r1, r2, r3, r4) := by rw [if_neg (show ¬ (false = true) by decide)] at H; exact H
                  clear H
                  have H := H1
                  clear H1
                  simp only [Option.some.injEq, Prod.mk.injEq] at H
                  obtain ⟨rfl, rfl, rfl, rfl⟩ := H
                  go_wp2_with (first | ((with_reducible refine gate_callee (f := 32) rfl ?_); refine goesL_ (some 38) rfl rfl Tryd.func32 (by kernel_rfl) rfl #[.string a0, .func (.func (33 : Int).toNat) #[] #[]] rfl (by (try simp only [List.map_toArray, List.map_cons, List.map_nil]); first | done | rfl | (simp only [List.length_drop, List.length_take]; rfl)) ?_; (with_reducible refine (lex_row.calls a0 33 t129 _ A25.out).mono ?_); rintro e w' ⟨rfl, ⟨nd, rfl⟩⟩; refine ⟨_, rfl, ?_⟩; (try (rw [drewN_self wc]; generalize hq_ : World.drewN wc _ = wc; have n0_ : Aside0 (wc.heap[gb124]? = some (.cells #[.int .i64 0, .string (⟨#[]⟩ : ByteArray), .int .i64 0] 33 (0, 0))) := ⟨by rw [← hq_]; exact (by (with_reducible repeat (first | refine blk_drewN ?_ _ | refine blk_drew ?_ | refine blk_alloc ?_ _)); exact BK124.out)⟩; have n1_ : Aside0 (Below w.heap.size w wc) := ⟨by rw [← hq_]; exact (by repeat (first | (with_reducible first | exact HB.out | apply below_alloc | apply pw_below_drewN | apply below_drew1 | refine below_set ?_ GE124.out) | exact HB.out))⟩; clear BK124 HB hq_; have BK124 := n0_; have HB := n1_; clear n0_ n1_))) | ((with_reducible refine gate_callee (f := 13) rfl ?_); refine goesL_ (some 42) rfl rfl Tryd.func13 (by kernel_rfl) rfl #[.string (a0.extract 0 (t129 : Int).toNat)] rfl (by (try simp only [List.map_toArray, List.map_cons, List.map_nil]); first | done | rfl | (simp only [List.length_drop, List.length_take]; rfl)) ?_; (with_reducible refine (lex_Name.calls (a0.extract 0 (t129 : Int).toNat) false _ A28.out).mono ?_); rintro e w34 ⟨rfl, hb⟩; refine ⟨_, rfl, ?_⟩; have n0_ := Aside0.mk (blk_below (g := gb124) (o := .cells #[.int .i64 0, .string (⟨#[]⟩ : ByteArray), .int .i64 0] 33 (0, 0)) (by (with_reducible repeat (first | refine blk_drewN ?_ _ | refine blk_drew ?_ | refine blk_alloc ?_ _)); exact BK124.out) hb); have n1_ := Aside0.mk (below_step (by repeat (first | (with_reducible first | exact HB.out | apply below_alloc | apply pw_below_drewN | apply below_drew1 | refine below_set ?_ GE124.out) | exact HB.out)) hb); clear BK124; clear HB; have BK124 := n0_; have HB := n1_; clear n0_ n1_; (try clear hb); (try clear hb2); (try clear hk); (try clear hi); have hcz35_0 : w34.cell? ⟨gb124, 0, none⟩ = some (.int .i64 0) := (blk_cell BK124.out 0).trans rfl; have hcz35_1 : w34.cell? ⟨gb124, 1, none⟩ = some (.string (⟨#[]⟩ : ByteArray)) := (blk_cell BK124.out 1).trans rfl; have hcz35_2 : w34.cell? ⟨gb124, 2, none⟩ = some (.int .i64 0) := (blk_cell BK124.out 2).trans rfl; have hfz35_0 := blk_frozen BK124.out 0; have hfz35_1 := blk_frozen BK124.out 1; have hfz35_2 := blk_frozen BK124.out 2))
                  refine bodyPost_ret (results_ct rfl _ _ gb124 33 #[.int .i64 0, .string (⟨#[]⟩ : ByteArray), .int .i64 0] (0, 0) _ rfl (by (with_reducible repeat (first | refine blk_drewN ?_ _ | refine blk_drew ?_ | refine blk_alloc ?_ _)); refine blk_put (cs := #[.int .i64 0, .string (⟨#[]⟩ : ByteArray), .int .i64 0]) ?_ 2 _ rfl; (with_reducible repeat (first | refine blk_drewN ?_ _ | refine blk_drew ?_ | refine blk_alloc ?_ _)); refine blk_put (cs := #[.int .i64 0, .string (⟨#[]⟩ : ByteArray), .int .i64 0]) ?_ 1 _ rfl; (with_reducible repeat (first | refine blk_drewN ?_ _ | refine blk_drew ?_ | refine blk_alloc ?_ _)); refine blk_put (cs := #[.int .i64 0, .string (⟨#[]⟩ : ByteArray), .int .i64 0]) ?_ 0 _ rfl; (with_reducible repeat (first | refine blk_drewN ?_ _ | refine blk_drew ?_ | refine blk_alloc ?_ _)); exact BK124.out) Tryd.underlying33 rfl (by kernel_rfl)) rfl ?_
                  exact ⟨by first | rfl | (simp [errW_none, errW_some] <;> rfl) | (simp [*, errW_none, errW_some] <;> rfl), by repeat (first | (with_reducible first | exact HB.out | apply below_alloc | apply pw_below_drewN | apply below_drew1 | refine below_set ?_ GE124.out) | exact HB.out)⟩
              · rw [if_neg c27] at H
                exact absurd H (by simp)
            · rw [if_neg c26] at H
              exact absurd H (by simp)
          · replace c24 := Bool.eq_false_iff.mpr c24
            subst c24
            have H1 : ((lex_digit.f (bt a0 0)).bind fun t131 => (if t131 = true then ((lex_row.f a0 37).bind fun t132 => (if 0 ≤ t132 then (if t132 ≤ (a0.size : Int) then ((lex_Version.f (a0.extract 0 (t132 : Int).toNat)).bind fun t133 => (if t133 = true then (some (3, a0.extract 0 (t132 : Int).toNat, 0, t132)) else (some (0, (⟨#[]⟩ : ByteArray), 0, 0)))) else (none)) else (none))) else ((strings_HasPrefix.f a0 (⟨#[45, 62]⟩ : ByteArray)).bind fun t134 => (if t134 = true then (some (4, (⟨#[45, 62]⟩ : ByteArray), 0, 2)) else ((strings_IndexByte.f (⟨#[58, 59, 44, 46, 47, 123, 125, 40, 41, 60, 62, 61, 64, 95]⟩ : ByteArray) (bt a0 0)).bind fun t135 => (if t135 ≥ 0 then (if 0 ≤ 1 then (if 1 ≤ (a0.size : Int) then (some (4, a0.extract 0 1, 0, 1)) else (none)) else (none)) else (some (0, (⟨#[]⟩ : ByteArray), 0, 0)))))))) = some (r1, r2, r3, r4) := by rw [if_neg (show ¬ (false = true) by decide)] at H; exact H
            clear H
            have H := H1
            clear H1
            replace H := Option.bind_eq_some_iff.mp H
            obtain ⟨t131, A360, H⟩ := H
            replace H : (if t131 = true then ((lex_row.f a0 37).bind fun t132 => (if 0 ≤ t132 then (if t132 ≤ (a0.size : Int) then ((lex_Version.f (a0.extract 0 (t132 : Int).toNat)).bind fun t133 => (if t133 = true then (some (3, a0.extract 0 (t132 : Int).toNat, 0, t132)) else (some (0, (⟨#[]⟩ : ByteArray), 0, 0)))) else (none)) else (none))) else ((strings_HasPrefix.f a0 (⟨#[45, 62]⟩ : ByteArray)).bind fun t134 => (if t134 = true then (some (4, (⟨#[45, 62]⟩ : ByteArray), 0, 2)) else ((strings_IndexByte.f (⟨#[58, 59, 44, 46, 47, 123, 125, 40, 41, 60, 62, 61, 64, 95]⟩ : ByteArray) (bt a0 0)).bind fun t135 => (if t135 ≥ 0 then (if 0 ≤ 1 then (if 1 ≤ (a0.size : Int) then (some (4, a0.extract 0 1, 0, 1)) else (none)) else (none)) else (some (0, (⟨#[]⟩ : ByteArray), 0, 0))))))) = some (r1, r2, r3, r4) := H
            have A36 := Aside0.mk A360
            clear A360
            by_cases c37 : t131 = true
            · subst c37
              have H1 : ((lex_row.f a0 37).bind fun t132 => (if 0 ≤ t132 then (if t132 ≤ (a0.size : Int) then ((lex_Version.f (a0.extract 0 (t132 : Int).toNat)).bind fun t133 => (if t133 = true then (some (3, a0.extract 0 (t132 : Int).toNat, 0, t132)) else (some (0, (⟨#[]⟩ : ByteArray), 0, 0)))) else (none)) else (none))) = some (r1, r2, r3, r4) := by rw [if_pos rfl] at H; exact H
              clear H
              have H := H1
              clear H1
              replace H := Option.bind_eq_some_iff.mp H
              obtain ⟨t132, A380, H⟩ := H
              replace H : (if 0 ≤ t132 then (if t132 ≤ (a0.size : Int) then ((lex_Version.f (a0.extract 0 (t132 : Int).toNat)).bind fun t133 => (if t133 = true then (some (3, a0.extract 0 (t132 : Int).toNat, 0, t132)) else (some (0, (⟨#[]⟩ : ByteArray), 0, 0)))) else (none)) else (none)) = some (r1, r2, r3, r4) := H
              have A38 := Aside0.mk A380
              clear A380
              by_cases c39 : 0 ≤ t132
              · rw [if_pos c39] at H
                have c39b0 := eq_true c39
                have c39b1 : decide (0 ≤ t132) = true := decide_eq_true c39
                clear c39
                by_cases c40 : t132 ≤ (a0.size : Int)
                · rw [if_pos c40] at H
                  have c40b0 := eq_true c40
                  have c40b1 : decide (t132 ≤ (a0.size : Int)) = true := decide_eq_true c40
                  clear c40
                  replace H := Option.bind_eq_some_iff.mp H
                  obtain ⟨t133, A410, H⟩ := H
                  replace H : (if t133 = true then (some (3, a0.extract 0 (t132 : Int).toNat, 0, t132)) else (some (0, (⟨#[]⟩ : ByteArray), 0, 0))) = some (r1, r2, r3, r4) := H
                  have A41 := Aside0.mk A410
                  clear A410
                  by_cases c42 : t133 = true
                  · subst c42
                    have H1 : (some (3, a0.extract 0 (t132 : Int).toNat, 0, t132)) = some (r1, r2, r3, r4) := by rw [if_pos rfl] at H; exact H
                    clear H
                    have H := H1
                    clear H1
                    have c43b0 := eq_true (of_decide_eq_true (by first | (with_reducible assumption) | assumption) : 0 ≤ t132)
                    have c44b0 := eq_true (of_decide_eq_true (by first | (with_reducible assumption) | assumption) : t132 ≤ (a0.size : Int))
                    simp only [Option.some.injEq, Prod.mk.injEq] at H
                    obtain ⟨rfl, rfl, rfl, rfl⟩ := H
                    go_wp2_with (first | ((with_reducible refine gate_callee (f := 36) rfl ?_); refine goesL_ (some 52) rfl rfl Tryd.func36 (by kernel_rfl) rfl #[.int .u8 (bt a0 0)] rfl (by (try simp only [List.map_toArray, List.map_cons, List.map_nil]); first | done | rfl | (simp only [List.length_drop, List.length_take]; rfl)) ?_; (with_reducible refine (lex_digit.calls (bt a0 0) true _ A36.out).mono ?_); rintro e w' ⟨rfl, ⟨nd, rfl⟩⟩; refine ⟨_, rfl, ?_⟩; (try (rw [drewN_self wc]; generalize hq_ : World.drewN wc _ = wc; have n0_ : Aside0 (wc.heap[gb124]? = some (.cells #[.int .i64 0, .string (⟨#[]⟩ : ByteArray), .int .i64 0] 33 (0, 0))) := ⟨by rw [← hq_]; exact (by (with_reducible repeat (first | refine blk_drewN ?_ _ | refine blk_drew ?_ | refine blk_alloc ?_ _)); exact BK124.out)⟩; have n1_ : Aside0 (Below w.heap.size w wc) := ⟨by rw [← hq_]; exact (by repeat (first | (with_reducible first | exact HB.out | apply below_alloc | apply pw_below_drewN | apply below_drew1 | refine below_set ?_ GE124.out) | exact HB.out))⟩; clear BK124 HB hq_; have BK124 := n0_; have HB := n1_; clear n0_ n1_))) | ((with_reducible refine gate_callee (f := 32) rfl ?_); refine goesL_ (some 54) rfl rfl Tryd.func32 (by kernel_rfl) rfl #[.string a0, .func (.func (37 : Int).toNat) #[] #[]] rfl (by (try simp only [List.map_toArray, List.map_cons, List.map_nil]); first | done | rfl | (simp only [List.length_drop, List.length_take]; rfl)) ?_; (with_reducible refine (lex_row.calls a0 37 t132 _ A38.out).mono ?_); rintro e w' ⟨rfl, ⟨nd, rfl⟩⟩; refine ⟨_, rfl, ?_⟩; (try (rw [drewN_self wc]; generalize hq_ : World.drewN wc _ = wc; have n0_ : Aside0 (wc.heap[gb124]? = some (.cells #[.int .i64 0, .string (⟨#[]⟩ : ByteArray), .int .i64 0] 33 (0, 0))) := ⟨by rw [← hq_]; exact (by (with_reducible repeat (first | refine blk_drewN ?_ _ | refine blk_drew ?_ | refine blk_alloc ?_ _)); exact BK124.out)⟩; have n1_ : Aside0 (Below w.heap.size w wc) := ⟨by rw [← hq_]; exact (by repeat (first | (with_reducible first | exact HB.out | apply below_alloc | apply pw_below_drewN | apply below_drew1 | refine below_set ?_ GE124.out) | exact HB.out))⟩; clear BK124 HB hq_; have BK124 := n0_; have HB := n1_; clear n0_ n1_))) | ((with_reducible refine gate_callee (f := 15) rfl ?_); refine goesL_ (some 58) rfl rfl Tryd.func15 (by kernel_rfl) rfl #[.string (a0.extract 0 (t132 : Int).toNat)] rfl (by (try simp only [List.map_toArray, List.map_cons, List.map_nil]); first | done | rfl | (simp only [List.length_drop, List.length_take]; rfl)) ?_; (with_reducible refine (lex_Version.calls (a0.extract 0 (t132 : Int).toNat) true _ A41.out).mono ?_); rintro e w45 ⟨rfl, hb⟩; refine ⟨_, rfl, ?_⟩; have n0_ := Aside0.mk (blk_below (g := gb124) (o := .cells #[.int .i64 0, .string (⟨#[]⟩ : ByteArray), .int .i64 0] 33 (0, 0)) (by (with_reducible repeat (first | refine blk_drewN ?_ _ | refine blk_drew ?_ | refine blk_alloc ?_ _)); exact BK124.out) hb); have n1_ := Aside0.mk (below_step (by repeat (first | (with_reducible first | exact HB.out | apply below_alloc | apply pw_below_drewN | apply below_drew1 | refine below_set ?_ GE124.out) | exact HB.out)) hb); clear BK124; clear HB; have BK124 := n0_; have HB := n1_; clear n0_ n1_; (try clear hb); (try clear hb2); (try clear hk); (try clear hi); have hcz46_0 : w45.cell? ⟨gb124, 0, none⟩ = some (.int .i64 0) := (blk_cell BK124.out 0).trans rfl; have hcz46_1 : w45.cell? ⟨gb124, 1, none⟩ = some (.string (⟨#[]⟩ : ByteArray)) := (blk_cell BK124.out 1).trans rfl; have hcz46_2 : w45.cell? ⟨gb124, 2, none⟩ = some (.int .i64 0) := (blk_cell BK124.out 2).trans rfl; have hfz46_0 := blk_frozen BK124.out 0; have hfz46_1 := blk_frozen BK124.out 1; have hfz46_2 := blk_frozen BK124.out 2))
                    refine bodyPost_ret (results_ct rfl _ _ gb124 33 #[.int .i64 3, .string (a0.extract 0 (t132 : Int).toNat), .int .i64 0] (0, 0) _ rfl (by (with_reducible repeat (first | refine blk_drewN ?_ _ | refine blk_drew ?_ | refine blk_alloc ?_ _)); refine blk_put (cs := #[.int .i64 3, .string (a0.extract 0 (t132 : Int).toNat), .int .i64 0]) ?_ 2 _ rfl; (with_reducible repeat (first | refine blk_drewN ?_ _ | refine blk_drew ?_ | refine blk_alloc ?_ _)); refine blk_put (cs := #[.int .i64 3, .string (⟨#[]⟩ : ByteArray), .int .i64 0]) ?_ 1 _ rfl; (with_reducible repeat (first | refine blk_drewN ?_ _ | refine blk_drew ?_ | refine blk_alloc ?_ _)); refine blk_put (cs := #[.int .i64 0, .string (⟨#[]⟩ : ByteArray), .int .i64 0]) ?_ 0 _ rfl; (with_reducible repeat (first | refine blk_drewN ?_ _ | refine blk_drew ?_ | refine blk_alloc ?_ _)); exact BK124.out) Tryd.underlying33 rfl (by kernel_rfl)) rfl ?_
                    exact ⟨by first | rfl | (simp [errW_none, errW_some] <;> rfl) | (simp [*, errW_none, errW_some] <;> rfl), by repeat (first | (with_reducible first | exact HB.out | apply below_alloc | apply pw_below_drewN | apply below_drew1 | refine below_set ?_ GE124.out) | exact HB.out)⟩
                  · replace c42 := Bool.eq_false_iff.mpr c42
                    subst c42
                    have H1 : (some (0, (⟨#[]⟩ : ByteArray), 0, 0)) = some (r1, r2, r3, r4) := by rw [if_neg (show ¬ (false = true) by decide)] at H; exact H
                    clear H
                    have H := H1
                    clear H1
                    simp only [Option.some.injEq, Prod.mk.injEq] at H
                    obtain ⟨rfl, rfl, rfl, rfl⟩ := H
                    go_wp2_with (first | ((with_reducible refine gate_callee (f := 36) rfl ?_); refine goesL_ (some 52) rfl rfl Tryd.func36 (by kernel_rfl) rfl #[.int .u8 (bt a0 0)] rfl (by (try simp only [List.map_toArray, List.map_cons, List.map_nil]); first | done | rfl | (simp only [List.length_drop, List.length_take]; rfl)) ?_; (with_reducible refine (lex_digit.calls (bt a0 0) true _ A36.out).mono ?_); rintro e w' ⟨rfl, ⟨nd, rfl⟩⟩; refine ⟨_, rfl, ?_⟩; (try (rw [drewN_self wc]; generalize hq_ : World.drewN wc _ = wc; have n0_ : Aside0 (wc.heap[gb124]? = some (.cells #[.int .i64 0, .string (⟨#[]⟩ : ByteArray), .int .i64 0] 33 (0, 0))) := ⟨by rw [← hq_]; exact (by (with_reducible repeat (first | refine blk_drewN ?_ _ | refine blk_drew ?_ | refine blk_alloc ?_ _)); exact BK124.out)⟩; have n1_ : Aside0 (Below w.heap.size w wc) := ⟨by rw [← hq_]; exact (by repeat (first | (with_reducible first | exact HB.out | apply below_alloc | apply pw_below_drewN | apply below_drew1 | refine below_set ?_ GE124.out) | exact HB.out))⟩; clear BK124 HB hq_; have BK124 := n0_; have HB := n1_; clear n0_ n1_))) | ((with_reducible refine gate_callee (f := 32) rfl ?_); refine goesL_ (some 54) rfl rfl Tryd.func32 (by kernel_rfl) rfl #[.string a0, .func (.func (37 : Int).toNat) #[] #[]] rfl (by (try simp only [List.map_toArray, List.map_cons, List.map_nil]); first | done | rfl | (simp only [List.length_drop, List.length_take]; rfl)) ?_; (with_reducible refine (lex_row.calls a0 37 t132 _ A38.out).mono ?_); rintro e w' ⟨rfl, ⟨nd, rfl⟩⟩; refine ⟨_, rfl, ?_⟩; (try (rw [drewN_self wc]; generalize hq_ : World.drewN wc _ = wc; have n0_ : Aside0 (wc.heap[gb124]? = some (.cells #[.int .i64 0, .string (⟨#[]⟩ : ByteArray), .int .i64 0] 33 (0, 0))) := ⟨by rw [← hq_]; exact (by (with_reducible repeat (first | refine blk_drewN ?_ _ | refine blk_drew ?_ | refine blk_alloc ?_ _)); exact BK124.out)⟩; have n1_ : Aside0 (Below w.heap.size w wc) := ⟨by rw [← hq_]; exact (by repeat (first | (with_reducible first | exact HB.out | apply below_alloc | apply pw_below_drewN | apply below_drew1 | refine below_set ?_ GE124.out) | exact HB.out))⟩; clear BK124 HB hq_; have BK124 := n0_; have HB := n1_; clear n0_ n1_))) | ((with_reducible refine gate_callee (f := 15) rfl ?_); refine goesL_ (some 58) rfl rfl Tryd.func15 (by kernel_rfl) rfl #[.string (a0.extract 0 (t132 : Int).toNat)] rfl (by (try simp only [List.map_toArray, List.map_cons, List.map_nil]); first | done | rfl | (simp only [List.length_drop, List.length_take]; rfl)) ?_; (with_reducible refine (lex_Version.calls (a0.extract 0 (t132 : Int).toNat) false _ A41.out).mono ?_); rintro e w47 ⟨rfl, hb⟩; refine ⟨_, rfl, ?_⟩; have n0_ := Aside0.mk (blk_below (g := gb124) (o := .cells #[.int .i64 0, .string (⟨#[]⟩ : ByteArray), .int .i64 0] 33 (0, 0)) (by (with_reducible repeat (first | refine blk_drewN ?_ _ | refine blk_drew ?_ | refine blk_alloc ?_ _)); exact BK124.out) hb); have n1_ := Aside0.mk (below_step (by repeat (first | (with_reducible first | exact HB.out | apply below_alloc | apply pw_below_drewN | apply below_drew1 | refine below_set ?_ GE124.out) | exact HB.out)) hb); clear BK124; clear HB; have BK124 := n0_; have HB := n1_; clear n0_ n1_; (try clear hb); (try clear hb2); (try clear hk); (try clear hi); have hcz48_0 : w47.cell? ⟨gb124, 0, none⟩ = some (.int .i64 0) := (blk_cell BK124.out 0).trans rfl; have hcz48_1 : w47.cell? ⟨gb124, 1, none⟩ = some (.string (⟨#[]⟩ : ByteArray)) := (blk_cell BK124.out 1).trans rfl; have hcz48_2 : w47.cell? ⟨gb124, 2, none⟩ = some (.int .i64 0) := (blk_cell BK124.out 2).trans rfl; have hfz48_0 := blk_frozen BK124.out 0; have hfz48_1 := blk_frozen BK124.out 1; have hfz48_2 := blk_frozen BK124.out 2))
                    refine bodyPost_ret (results_ct rfl _ _ gb124 33 #[.int .i64 0, .string (⟨#[]⟩ : ByteArray), .int .i64 0] (0, 0) _ rfl (by (with_reducible repeat (first | refine blk_drewN ?_ _ | refine blk_drew ?_ | refine blk_alloc ?_ _)); refine blk_put (cs := #[.int .i64 0, .string (⟨#[]⟩ : ByteArray), .int .i64 0]) ?_ 2 _ rfl; (with_reducible repeat (first | refine blk_drewN ?_ _ | refine blk_drew ?_ | refine blk_alloc ?_ _)); refine blk_put (cs := #[.int .i64 0, .string (⟨#[]⟩ : ByteArray), .int .i64 0]) ?_ 1 _ rfl; (with_reducible repeat (first | refine blk_drewN ?_ _ | refine blk_drew ?_ | refine blk_alloc ?_ _)); refine blk_put (cs := #[.int .i64 0, .string (⟨#[]⟩ : ByteArray), .int .i64 0]) ?_ 0 _ rfl; (with_reducible repeat (first | refine blk_drewN ?_ _ | refine blk_drew ?_ | refine blk_alloc ?_ _)); exact BK124.out) Tryd.underlying33 rfl (by kernel_rfl)) rfl ?_
                    exact ⟨by first | rfl | (simp [errW_none, errW_some] <;> rfl) | (simp [*, errW_none, errW_some] <;> rfl), by repeat (first | (with_reducible first | exact HB.out | apply below_alloc | apply pw_below_drewN | apply below_drew1 | refine below_set ?_ GE124.out) | exact HB.out)⟩
                · rw [if_neg c40] at H
                  exact absurd H (by simp)
              · rw [if_neg c39] at H
                exact absurd H (by simp)
            · replace c37 := Bool.eq_false_iff.mpr c37
              subst c37
              have H1 : ((strings_HasPrefix.f a0 (⟨#[45, 62]⟩ : ByteArray)).bind fun t134 => (if t134 = true then (some (4, (⟨#[45, 62]⟩ : ByteArray), 0, 2)) else ((strings_IndexByte.f (⟨#[58, 59, 44, 46, 47, 123, 125, 40, 41, 60, 62, 61, 64, 95]⟩ : ByteArray) (bt a0 0)).bind fun t135 => (if t135 ≥ 0 then (if 0 ≤ 1 then (if 1 ≤ (a0.size : Int) then (some (4, a0.extract 0 1, 0, 1)) else (none)) else (none)) else (some (0, (⟨#[]⟩ : ByteArray), 0, 0)))))) = some (r1, r2, r3, r4) := by rw [if_neg (show ¬ (false = true) by decide)] at H; exact H
              clear H
              have H := H1
              clear H1
              replace H := Option.bind_eq_some_iff.mp H
              obtain ⟨t134, A490, H⟩ := H
              replace H : (if t134 = true then (some (4, (⟨#[45, 62]⟩ : ByteArray), 0, 2)) else ((strings_IndexByte.f (⟨#[58, 59, 44, 46, 47, 123, 125, 40, 41, 60, 62, 61, 64, 95]⟩ : ByteArray) (bt a0 0)).bind fun t135 => (if t135 ≥ 0 then (if 0 ≤ 1 then (if 1 ≤ (a0.size : Int) then (some (4, a0.extract 0 1, 0, 1)) else (none)) else (none)) else (some (0, (⟨#[]⟩ : ByteArray), 0, 0))))) = some (r1, r2, r3, r4) := H
              have A49 := Aside0.mk A490
              clear A490
              by_cases c50 : t134 = true
              · subst c50
                have H1 : (some (4, (⟨#[45, 62]⟩ : ByteArray), 0, 2)) = some (r1, r2, r3, r4) := by rw [if_pos rfl] at H; exact H
                clear H
                have H := H1
                clear H1
                simp only [Option.some.injEq, Prod.mk.injEq] at H
                obtain ⟨rfl, rfl, rfl, rfl⟩ := H
                go_wp2_with (first | ((with_reducible refine gate_callee (f := 36) rfl ?_); refine goesL_ (some 52) rfl rfl Tryd.func36 (by kernel_rfl) rfl #[.int .u8 (bt a0 0)] rfl (by (try simp only [List.map_toArray, List.map_cons, List.map_nil]); first | done | rfl | (simp only [List.length_drop, List.length_take]; rfl)) ?_; (with_reducible refine (lex_digit.calls (bt a0 0) false _ A36.out).mono ?_); rintro e w' ⟨rfl, ⟨nd, rfl⟩⟩; refine ⟨_, rfl, ?_⟩; (try (rw [drewN_self wc]; generalize hq_ : World.drewN wc _ = wc; have n0_ : Aside0 (wc.heap[gb124]? = some (.cells #[.int .i64 0, .string (⟨#[]⟩ : ByteArray), .int .i64 0] 33 (0, 0))) := ⟨by rw [← hq_]; exact (by (with_reducible repeat (first | refine blk_drewN ?_ _ | refine blk_drew ?_ | refine blk_alloc ?_ _)); exact BK124.out)⟩; have n1_ : Aside0 (Below w.heap.size w wc) := ⟨by rw [← hq_]; exact (by repeat (first | (with_reducible first | exact HB.out | apply below_alloc | apply pw_below_drewN | apply below_drew1 | refine below_set ?_ GE124.out) | exact HB.out))⟩; clear BK124 HB hq_; have BK124 := n0_; have HB := n1_; clear n0_ n1_))) | ((with_reducible refine gate_callee (f := 29) rfl ?_); refine goesL_ (some 68) rfl rfl Tryd.func29 (by kernel_rfl) rfl #[.string a0, .string (⟨#[45, 62]⟩ : ByteArray)] rfl (by (try simp only [List.map_toArray, List.map_cons, List.map_nil]); first | done | rfl | (simp only [List.length_drop, List.length_take]; rfl)) ?_; (with_reducible refine (strings_HasPrefix.calls a0 (⟨#[45, 62]⟩ : ByteArray) true _ A49.out).mono ?_); rintro e w' ⟨rfl, ⟨nd, rfl⟩⟩; refine ⟨_, rfl, ?_⟩; (try (rw [drewN_self wc]; generalize hq_ : World.drewN wc _ = wc; have n0_ : Aside0 (wc.heap[gb124]? = some (.cells #[.int .i64 0, .string (⟨#[]⟩ : ByteArray), .int .i64 0] 33 (0, 0))) := ⟨by rw [← hq_]; exact (by (with_reducible repeat (first | refine blk_drewN ?_ _ | refine blk_drew ?_ | refine blk_alloc ?_ _)); exact BK124.out)⟩; have n1_ : Aside0 (Below w.heap.size w wc) := ⟨by rw [← hq_]; exact (by repeat (first | (with_reducible first | exact HB.out | apply below_alloc | apply pw_below_drewN | apply below_drew1 | refine below_set ?_ GE124.out) | exact HB.out))⟩; clear BK124 HB hq_; have BK124 := n0_; have HB := n1_; clear n0_ n1_)); have hcz51_0 : wc.cell? ⟨gb124, 0, none⟩ = some (.int .i64 0) := (blk_cell BK124.out 0).trans rfl; have hcz51_1 : wc.cell? ⟨gb124, 1, none⟩ = some (.string (⟨#[]⟩ : ByteArray)) := (blk_cell BK124.out 1).trans rfl; have hcz51_2 : wc.cell? ⟨gb124, 2, none⟩ = some (.int .i64 0) := (blk_cell BK124.out 2).trans rfl; have hfz51_0 := blk_frozen BK124.out 0; have hfz51_1 := blk_frozen BK124.out 1; have hfz51_2 := blk_frozen BK124.out 2))
                refine bodyPost_ret (results_ct rfl _ _ gb124 33 #[.int .i64 4, .string (⟨#[45, 62]⟩ : ByteArray), .int .i64 0] (0, 0) _ rfl (by (with_reducible repeat (first | refine blk_drewN ?_ _ | refine blk_drew ?_ | refine blk_alloc ?_ _)); refine blk_put (cs := #[.int .i64 4, .string (⟨#[45, 62]⟩ : ByteArray), .int .i64 0]) ?_ 2 _ rfl; (with_reducible repeat (first | refine blk_drewN ?_ _ | refine blk_drew ?_ | refine blk_alloc ?_ _)); refine blk_put (cs := #[.int .i64 4, .string (⟨#[]⟩ : ByteArray), .int .i64 0]) ?_ 1 _ rfl; (with_reducible repeat (first | refine blk_drewN ?_ _ | refine blk_drew ?_ | refine blk_alloc ?_ _)); refine blk_put (cs := #[.int .i64 0, .string (⟨#[]⟩ : ByteArray), .int .i64 0]) ?_ 0 _ rfl; (with_reducible repeat (first | refine blk_drewN ?_ _ | refine blk_drew ?_ | refine blk_alloc ?_ _)); exact BK124.out) Tryd.underlying33 rfl (by kernel_rfl)) rfl ?_
                exact ⟨by first | rfl | (simp [errW_none, errW_some] <;> rfl) | (simp [*, errW_none, errW_some] <;> rfl), by repeat (first | (with_reducible first | exact HB.out | apply below_alloc | apply pw_below_drewN | apply below_drew1 | refine below_set ?_ GE124.out) | exact HB.out)⟩
              · replace c50 := Bool.eq_false_iff.mpr c50
                subst c50
                have H1 : ((strings_IndexByte.f (⟨#[58, 59, 44, 46, 47, 123, 125, 40, 41, 60, 62, 61, 64, 95]⟩ : ByteArray) (bt a0 0)).bind fun t135 => (if t135 ≥ 0 then (if 0 ≤ 1 then (if 1 ≤ (a0.size : Int) then (some (4, a0.extract 0 1, 0, 1)) else (none)) else (none)) else (some (0, (⟨#[]⟩ : ByteArray), 0, 0)))) = some (r1, r2, r3, r4) := by rw [if_neg (show ¬ (false = true) by decide)] at H; exact H
                clear H
                have H := H1
                clear H1
                replace H := Option.bind_eq_some_iff.mp H
                obtain ⟨t135, A520, H⟩ := H
                replace H : (if t135 ≥ 0 then (if 0 ≤ 1 then (if 1 ≤ (a0.size : Int) then (some (4, a0.extract 0 1, 0, 1)) else (none)) else (none)) else (some (0, (⟨#[]⟩ : ByteArray), 0, 0))) = some (r1, r2, r3, r4) := H
                have A52 := Aside0.mk A520
                clear A520
                by_cases c53 : t135 ≥ 0
                · rw [if_pos c53] at H
                  have c53b0 : decide (0 ≤ t135) = true := decide_eq_true c53
                  clear c53
                  by_cases c54 : 0 ≤ 1
                  · rw [if_pos c54] at H
                    have c54b0 := eq_true c54
                    have c54b1 : decide (0 ≤ 1) = true := decide_eq_true c54
                    clear c54
                    by_cases c55 : 1 ≤ (a0.size : Int)
                    · rw [if_pos c55] at H
                      have c55b0 := eq_true c55
                      have c55b1 : decide (1 ≤ (a0.size : Int)) = true := decide_eq_true c55
                      clear c55
                      simp only [Option.some.injEq, Prod.mk.injEq] at H
                      obtain ⟨rfl, rfl, rfl, rfl⟩ := H
                      go_wp2_with (first | ((with_reducible refine gate_callee (f := 36) rfl ?_); refine goesL_ (some 52) rfl rfl Tryd.func36 (by kernel_rfl) rfl #[.int .u8 (bt a0 0)] rfl (by (try simp only [List.map_toArray, List.map_cons, List.map_nil]); first | done | rfl | (simp only [List.length_drop, List.length_take]; rfl)) ?_; (with_reducible refine (lex_digit.calls (bt a0 0) false _ A36.out).mono ?_); rintro e w' ⟨rfl, ⟨nd, rfl⟩⟩; refine ⟨_, rfl, ?_⟩; (try (rw [drewN_self wc]; generalize hq_ : World.drewN wc _ = wc; have n0_ : Aside0 (wc.heap[gb124]? = some (.cells #[.int .i64 0, .string (⟨#[]⟩ : ByteArray), .int .i64 0] 33 (0, 0))) := ⟨by rw [← hq_]; exact (by (with_reducible repeat (first | refine blk_drewN ?_ _ | refine blk_drew ?_ | refine blk_alloc ?_ _)); exact BK124.out)⟩; have n1_ : Aside0 (Below w.heap.size w wc) := ⟨by rw [← hq_]; exact (by repeat (first | (with_reducible first | exact HB.out | apply below_alloc | apply pw_below_drewN | apply below_drew1 | refine below_set ?_ GE124.out) | exact HB.out))⟩; clear BK124 HB hq_; have BK124 := n0_; have HB := n1_; clear n0_ n1_))) | ((with_reducible refine gate_callee (f := 29) rfl ?_); refine goesL_ (some 68) rfl rfl Tryd.func29 (by kernel_rfl) rfl #[.string a0, .string (⟨#[45, 62]⟩ : ByteArray)] rfl (by (try simp only [List.map_toArray, List.map_cons, List.map_nil]); first | done | rfl | (simp only [List.length_drop, List.length_take]; rfl)) ?_; (with_reducible refine (strings_HasPrefix.calls a0 (⟨#[45, 62]⟩ : ByteArray) false _ A49.out).mono ?_); rintro e w' ⟨rfl, ⟨nd, rfl⟩⟩; refine ⟨_, rfl, ?_⟩; (try (rw [drewN_self wc]; generalize hq_ : World.drewN wc _ = wc; have n0_ : Aside0 (wc.heap[gb124]? = some (.cells #[.int .i64 0, .string (⟨#[]⟩ : ByteArray), .int .i64 0] 33 (0, 0))) := ⟨by rw [← hq_]; exact (by (with_reducible repeat (first | refine blk_drewN ?_ _ | refine blk_drew ?_ | refine blk_alloc ?_ _)); exact BK124.out)⟩; have n1_ : Aside0 (Below w.heap.size w wc) := ⟨by rw [← hq_]; exact (by repeat (first | (with_reducible first | exact HB.out | apply below_alloc | apply pw_below_drewN | apply below_drew1 | refine below_set ?_ GE124.out) | exact HB.out))⟩; clear BK124 HB hq_; have BK124 := n0_; have HB := n1_; clear n0_ n1_))) | ((with_reducible refine gate_callee (f := 30) rfl ?_); refine goesL_ (some 72) rfl rfl Tryd.func30 (by kernel_rfl) rfl #[.string (⟨#[58, 59, 44, 46, 47, 123, 125, 40, 41, 60, 62, 61, 64, 95]⟩ : ByteArray), .int .u8 (bt a0 0)] rfl (by (try simp only [List.map_toArray, List.map_cons, List.map_nil]); first | done | rfl | (simp only [List.length_drop, List.length_take]; rfl)) ?_; (with_reducible refine (strings_IndexByte.calls (⟨#[58, 59, 44, 46, 47, 123, 125, 40, 41, 60, 62, 61, 64, 95]⟩ : ByteArray) (bt a0 0) t135 _ A52.out).mono ?_); rintro e w' ⟨rfl, ⟨nd, rfl⟩⟩; refine ⟨_, rfl, ?_⟩; (try (rw [drewN_self wc]; generalize hq_ : World.drewN wc _ = wc; have n0_ : Aside0 (wc.heap[gb124]? = some (.cells #[.int .i64 0, .string (⟨#[]⟩ : ByteArray), .int .i64 0] 33 (0, 0))) := ⟨by rw [← hq_]; exact (by (with_reducible repeat (first | refine blk_drewN ?_ _ | refine blk_drew ?_ | refine blk_alloc ?_ _)); exact BK124.out)⟩; have n1_ : Aside0 (Below w.heap.size w wc) := ⟨by rw [← hq_]; exact (by repeat (first | (with_reducible first | exact HB.out | apply below_alloc | apply pw_below_drewN | apply below_drew1 | refine below_set ?_ GE124.out) | exact HB.out))⟩; clear BK124 HB hq_; have BK124 := n0_; have HB := n1_; clear n0_ n1_)); have hcz56_0 : wc.cell? ⟨gb124, 0, none⟩ = some (.int .i64 0) := (blk_cell BK124.out 0).trans rfl; have hcz56_1 : wc.cell? ⟨gb124, 1, none⟩ = some (.string (⟨#[]⟩ : ByteArray)) := (blk_cell BK124.out 1).trans rfl; have hcz56_2 : wc.cell? ⟨gb124, 2, none⟩ = some (.int .i64 0) := (blk_cell BK124.out 2).trans rfl; have hfz56_0 := blk_frozen BK124.out 0; have hfz56_1 := blk_frozen BK124.out 1; have hfz56_2 := blk_frozen BK124.out 2))
                      refine bodyPost_ret (results_ct rfl _ _ gb124 33 #[.int .i64 4, .string (a0.extract 0 1), .int .i64 0] (0, 0) _ rfl (by (with_reducible repeat (first | refine blk_drewN ?_ _ | refine blk_drew ?_ | refine blk_alloc ?_ _)); refine blk_put (cs := #[.int .i64 4, .string (a0.extract 0 1), .int .i64 0]) ?_ 2 _ rfl; (with_reducible repeat (first | refine blk_drewN ?_ _ | refine blk_drew ?_ | refine blk_alloc ?_ _)); refine blk_put (cs := #[.int .i64 4, .string (⟨#[]⟩ : ByteArray), .int .i64 0]) ?_ 1 _ rfl; (with_reducible repeat (first | refine blk_drewN ?_ _ | refine blk_drew ?_ | refine blk_alloc ?_ _)); refine blk_put (cs := #[.int .i64 0, .string (⟨#[]⟩ : ByteArray), .int .i64 0]) ?_ 0 _ rfl; (with_reducible repeat (first | refine blk_drewN ?_ _ | refine blk_drew ?_ | refine blk_alloc ?_ _)); exact BK124.out) Tryd.underlying33 rfl (by kernel_rfl)) rfl ?_
                      exact ⟨by first | rfl | (simp [errW_none, errW_some] <;> rfl) | (simp [*, errW_none, errW_some] <;> rfl), by repeat (first | (with_reducible first | exact HB.out | apply below_alloc | apply pw_below_drewN | apply below_drew1 | refine below_set ?_ GE124.out) | exact HB.out)⟩
                    · rw [if_neg c55] at H
                      exact absurd H (by simp)
                  · rw [if_neg c54] at H
                    exact absurd H (by simp)
                · rw [if_neg c53] at H
                  have c53b0 : decide (0 ≤ t135) = false := decide_eq_false c53
                  clear c53
                  simp only [Option.some.injEq, Prod.mk.injEq] at H
                  obtain ⟨rfl, rfl, rfl, rfl⟩ := H
                  go_wp2_with (first | ((with_reducible refine gate_callee (f := 36) rfl ?_); refine goesL_ (some 52) rfl rfl Tryd.func36 (by kernel_rfl) rfl #[.int .u8 (bt a0 0)] rfl (by (try simp only [List.map_toArray, List.map_cons, List.map_nil]); first | done | rfl | (simp only [List.length_drop, List.length_take]; rfl)) ?_; (with_reducible refine (lex_digit.calls (bt a0 0) false _ A36.out).mono ?_); rintro e w' ⟨rfl, ⟨nd, rfl⟩⟩; refine ⟨_, rfl, ?_⟩; (try (rw [drewN_self wc]; generalize hq_ : World.drewN wc _ = wc; have n0_ : Aside0 (wc.heap[gb124]? = some (.cells #[.int .i64 0, .string (⟨#[]⟩ : ByteArray), .int .i64 0] 33 (0, 0))) := ⟨by rw [← hq_]; exact (by (with_reducible repeat (first | refine blk_drewN ?_ _ | refine blk_drew ?_ | refine blk_alloc ?_ _)); exact BK124.out)⟩; have n1_ : Aside0 (Below w.heap.size w wc) := ⟨by rw [← hq_]; exact (by repeat (first | (with_reducible first | exact HB.out | apply below_alloc | apply pw_below_drewN | apply below_drew1 | refine below_set ?_ GE124.out) | exact HB.out))⟩; clear BK124 HB hq_; have BK124 := n0_; have HB := n1_; clear n0_ n1_))) | ((with_reducible refine gate_callee (f := 29) rfl ?_); refine goesL_ (some 68) rfl rfl Tryd.func29 (by kernel_rfl) rfl #[.string a0, .string (⟨#[45, 62]⟩ : ByteArray)] rfl (by (try simp only [List.map_toArray, List.map_cons, List.map_nil]); first | done | rfl | (simp only [List.length_drop, List.length_take]; rfl)) ?_; (with_reducible refine (strings_HasPrefix.calls a0 (⟨#[45, 62]⟩ : ByteArray) false _ A49.out).mono ?_); rintro e w' ⟨rfl, ⟨nd, rfl⟩⟩; refine ⟨_, rfl, ?_⟩; (try (rw [drewN_self wc]; generalize hq_ : World.drewN wc _ = wc; have n0_ : Aside0 (wc.heap[gb124]? = some (.cells #[.int .i64 0, .string (⟨#[]⟩ : ByteArray), .int .i64 0] 33 (0, 0))) := ⟨by rw [← hq_]; exact (by (with_reducible repeat (first | refine blk_drewN ?_ _ | refine blk_drew ?_ | refine blk_alloc ?_ _)); exact BK124.out)⟩; have n1_ : Aside0 (Below w.heap.size w wc) := ⟨by rw [← hq_]; exact (by repeat (first | (with_reducible first | exact HB.out | apply below_alloc | apply pw_below_drewN | apply below_drew1 | refine below_set ?_ GE124.out) | exact HB.out))⟩; clear BK124 HB hq_; have BK124 := n0_; have HB := n1_; clear n0_ n1_))) | ((with_reducible refine gate_callee (f := 30) rfl ?_); refine goesL_ (some 72) rfl rfl Tryd.func30 (by kernel_rfl) rfl #[.string (⟨#[58, 59, 44, 46, 47, 123, 125, 40, 41, 60, 62, 61, 64, 95]⟩ : ByteArray), .int .u8 (bt a0 0)] rfl (by (try simp only [List.map_toArray, List.map_cons, List.map_nil]); first | done | rfl | (simp only [List.length_drop, List.length_take]; rfl)) ?_; (with_reducible refine (strings_IndexByte.calls (⟨#[58, 59, 44, 46, 47, 123, 125, 40, 41, 60, 62, 61, 64, 95]⟩ : ByteArray) (bt a0 0) t135 _ A52.out).mono ?_); rintro e w' ⟨rfl, ⟨nd, rfl⟩⟩; refine ⟨_, rfl, ?_⟩; (try (rw [drewN_self wc]; generalize hq_ : World.drewN wc _ = wc; have n0_ : Aside0 (wc.heap[gb124]? = some (.cells #[.int .i64 0, .string (⟨#[]⟩ : ByteArray), .int .i64 0] 33 (0, 0))) := ⟨by rw [← hq_]; exact (by (with_reducible repeat (first | refine blk_drewN ?_ _ | refine blk_drew ?_ | refine blk_alloc ?_ _)); exact BK124.out)⟩; have n1_ : Aside0 (Below w.heap.size w wc) := ⟨by rw [← hq_]; exact (by repeat (first | (with_reducible first | exact HB.out | apply below_alloc | apply pw_below_drewN | apply below_drew1 | refine below_set ?_ GE124.out) | exact HB.out))⟩; clear BK124 HB hq_; have BK124 := n0_; have HB := n1_; clear n0_ n1_)); have hcz57_0 : wc.cell? ⟨gb124, 0, none⟩ = some (.int .i64 0) := (blk_cell BK124.out 0).trans rfl; have hcz57_1 : wc.cell? ⟨gb124, 1, none⟩ = some (.string (⟨#[]⟩ : ByteArray)) := (blk_cell BK124.out 1).trans rfl; have hcz57_2 : wc.cell? ⟨gb124, 2, none⟩ = some (.int .i64 0) := (blk_cell BK124.out 2).trans rfl; have hfz57_0 := blk_frozen BK124.out 0; have hfz57_1 := blk_frozen BK124.out 1; have hfz57_2 := blk_frozen BK124.out 2))
                  refine bodyPost_ret (results_ct rfl _ _ gb124 33 #[.int .i64 0, .string (⟨#[]⟩ : ByteArray), .int .i64 0] (0, 0) _ rfl (by (with_reducible repeat (first | refine blk_drewN ?_ _ | refine blk_drew ?_ | refine blk_alloc ?_ _)); refine blk_put (cs := #[.int .i64 0, .string (⟨#[]⟩ : ByteArray), .int .i64 0]) ?_ 2 _ rfl; (with_reducible repeat (first | refine blk_drewN ?_ _ | refine blk_drew ?_ | refine blk_alloc ?_ _)); refine blk_put (cs := #[.int .i64 0, .string (⟨#[]⟩ : ByteArray), .int .i64 0]) ?_ 1 _ rfl; (with_reducible repeat (first | refine blk_drewN ?_ _ | refine blk_drew ?_ | refine blk_alloc ?_ _)); refine blk_put (cs := #[.int .i64 0, .string (⟨#[]⟩ : ByteArray), .int .i64 0]) ?_ 0 _ rfl; (with_reducible repeat (first | refine blk_drewN ?_ _ | refine blk_drew ?_ | refine blk_alloc ?_ _)); exact BK124.out) Tryd.underlying33 rfl (by kernel_rfl)) rfl ?_
                  exact ⟨by first | rfl | (simp [errW_none, errW_some] <;> rfl) | (simp [*, errW_none, errW_some] <;> rfl), by repeat (first | (with_reducible first | exact HB.out | apply below_alloc | apply pw_below_drewN | apply below_drew1 | refine below_set ?_ GE124.out) | exact HB.out)⟩
  · rw [if_neg c2] at H
    exact absurd H (by simp)
def lex_Cut.l0 : Nat → ByteArray → List (S33) → Int → Option ((List (S33)) × Int × Int)
  | 0, _, _, _ => none
  | k + 1, x0, x5, x6 => if 0 ≤ x6 then (if x6 ≤ (x0.size : Int) then ((lex_blank.f k (x0.extract (x6 : Int).toNat x0.size)).bind fun bt136 => (if bt136.2 = true then (if (wrap64 (x6 + bt136.1)) = (x0.size : Int) then (some (x5, 0, 0)) else (if 0 ≤ (wrap64 (x6 + bt136.1)) then (if (wrap64 (x6 + bt136.1)) ≤ (x0.size : Int) then ((lex_one.f k (x0.extract ((wrap64 (x6 + bt136.1)) : Int).toNat x0.size)).bind fun bt138 => (if bt138.2.2.2 = 0 then (some (([] : List (S33)), wrap64 (x6 + bt136.1), 2)) else (if x5.length < 4398046511104 then (lex_Cut.l0 k x0 (x5 ++ [(⟨bt138.1, bt138.2.1, wrap64 (x6 + bt136.1)⟩ : S33)]) (wrap64 ((wrap64 (x6 + bt136.1)) + bt138.2.2.2))) else (none)))) else (none)) else (none))) else (some (([] : List (S33)), x6, 2)))) else (none)) else (none)
def lex_Cut.f (k : Nat) (a0 : ByteArray) : Option ((List (S33)) × Int × Int) := if (a0.size : Int) > 8192 then (some (([] : List (S33)), 0, 14)) else (lex_Cut.l0 k a0 ([] : List (S33)) 0)
theorem lex_Cut.mono_l : ∀ k, (∀ y0 y1 y2, LeO (lex_Cut.l0 k y0 y1 y2) (lex_Cut.l0 (k + 1) y0 y1 y2))
  | 0 => fun _ _ _ r h => by simp [lex_Cut.l0] at h
  | k + 1 => by
    have ih0 := lex_Cut.mono_l k
    · intro y0 y1 y2
      unfold lex_Cut.l0
      repeat' first
      | (with_reducible exact ih0 _ _ _)
      | (with_reducible exact lex_blank.mono _ _)
      | (with_reducible exact lex_one.mono _ _)
      | (with_reducible exact LeO.refl _)
      | (with_reducible exact LeO.none _)
      | (with_reducible refine LeO.ite ?_ ?_)
      | (with_reducible refine LeO.bind ?_ (fun _ => ?_))
      | exact ih0 _ _ _
      | exact lex_blank.mono _ _
      | exact lex_one.mono _ _
      | exact LeO.none _
      | refine LeO.ite ?_ ?_
      | refine LeO.bind ?_ (fun _ => ?_)
theorem lex_Cut.mono : ∀ a0 k, LeO (lex_Cut.f k a0) (lex_Cut.f (k + 1) a0) := by
  intro a0 k
  have ih0 := lex_Cut.mono_l k
  unfold lex_Cut.f
  repeat' first
      | (with_reducible exact ih0 _ _ _)
      | (with_reducible exact lex_blank.mono _ _)
      | (with_reducible exact lex_one.mono _ _)
      | (with_reducible exact LeO.refl _)
      | (with_reducible exact LeO.none _)
      | (with_reducible refine LeO.ite ?_ ?_)
      | (with_reducible refine LeO.bind ?_ (fun _ => ?_))
      | exact ih0 _ _ _
      | exact lex_blank.mono _ _
      | exact lex_one.mono _ _
      | exact LeO.none _
      | refine LeO.ite ?_ ?_
      | refine LeO.bind ?_ (fun _ => ?_)
set_option maxHeartbeats 8000000 in
set_option maxRecDepth 100000 in
theorem lex_Cut.calls (k : Nat) (a0 : ByteArray) (r1 : List (S33)) (r2 : Int) (r3 : Int) (w : World) (h : lex_Cut.f k a0 = some (r1, r2, r3)) :
    Calls Tryd.prog 8 #[.string a0] w fun e w' => ∃ v0_ : Value, e = .returned (.tuple #[v0_, .int .i64 r2, .int .i64 r3]) ∧ Kd.R k33 33 w' w.heap.size (fun _ => True) v0_ r1 ∧ Below w.heap.size w w' := by
  have hu33 := Tryd.underlying33
  have HB := Aside0.mk (Below.refl w.heap.size w)
  have H : (if (a0.size : Int) > 8192 then (some (([] : List (S33)), 0, 14)) else (lex_Cut.l0 k a0 ([] : List (S33)) 0)) = some (r1, r2, r3) := h
  clear h
  by_cases c2 : (a0.size : Int) > 8192
  · rw [if_pos c2] at H
    have c2b0 : decide (8192 < (a0.size : Int)) = true := decide_eq_true c2
    have c2b1 : decide (8192 < a0.size) = true := decide_eq_true (by omega)
    clear c2
    simp only [Option.some.injEq, Prod.mk.injEq] at H
    obtain ⟨rfl, rfl, rfl⟩ := H
    go_enter Tryd.func8, Tryd.ntmps8
    go_wp2
    go_ret3
    exact ⟨_, by first | rfl | (simp [errW_none, errW_some] <;> rfl) | (simp [*, errW_none, errW_some] <;> rfl), by first | exact Kd.R_nil _ _ _ _ _ | exact Kd.N_nil _ _ _ _ _ | exact Kd.V_nil _ _ _ _ _ | exact Kd.Q_nil _ _ _ _ _ | exact Kd.S_nil _ _ _ _ _, by repeat (first | (with_reducible first | exact HB.out | apply below_alloc | apply pw_below_drewN | apply below_drew1) | exact HB.out)⟩
  · rw [if_neg c2] at H
    have c2b0 : decide (8192 < (a0.size : Int)) = false := decide_eq_false c2
    have c2b1 : decide (8192 < a0.size) = false := decide_eq_false (by omega)
    clear c2
    have H' := Aside0.mk H
    clear H
    go_enter Tryd.func8, Tryd.ntmps8
    go_wp2
    go_loopg [5, 6] k (fun kq v5 v6 w' => ∃ (x5_1 : List (S33)) (x6_1 : Int), v6 = .int .i64 x6_1 ∧ Aside0 (lex_Cut.l0 kq a0 x5_1 x6_1 = some (r1, r2, r3)) ∧ Aside0 (kq ≤ k) ∧ Aside0 (Kd.R k33 33 w' w.heap.size (fun _ => True) v5 x5_1) ∧ Aside0 (Below w.heap.size w w'))
    case atStart => exact ⟨(([] : List (S33))), (0), (by first | rfl | (simp; done) | (simp [*]; done)), H', ⟨Nat.le_refl _⟩, ⟨by first | exact Kd.R_nil _ _ _ _ _ | exact Kd.N_nil _ _ _ _ _ | exact Kd.V_nil _ _ _ _ _ | exact Kd.Q_nil _ _ _ _ _ | exact Kd.S_nil _ _ _ _ _⟩, ⟨by repeat (first | (with_reducible first | exact HB.out | apply below_alloc | apply pw_below_drewN | apply below_drew1) | exact HB.out)⟩⟩
    case round =>
      clear H'
      try clear c2
      try clear c2b0
      try clear c2b1
      try clear p2
      obtain ⟨x5_1, x6_1, rfl, HA, HK1, HO_5, HB⟩ := hrel
      cases gk with
      | zero => exact absurd HA.out (by simp [lex_Cut.l0])
      | succ k1 =>
        have H := HA.out
        clear HA
        simp only [lex_Cut.l0] at H
        by_cases c3 : 0 ≤ x6_1
        · rw [if_pos c3] at H
          have c3b0 := eq_true c3
          have c3b1 : decide (0 ≤ x6_1) = true := decide_eq_true c3
          clear c3
          by_cases c4 : x6_1 ≤ (a0.size : Int)
          · rw [if_pos c4] at H
            have c4b0 := eq_true c4
            have c4b1 : decide (x6_1 ≤ (a0.size : Int)) = true := decide_eq_true c4
            clear c4
            replace H := Option.bind_eq_some_iff.mp H
            obtain ⟨⟨t136, t137⟩, A50, H⟩ := H
            replace H : (if t137 = true then (if (wrap64 (x6_1 + t136)) = (a0.size : Int) then (some (x5_1, 0, 0)) else (if 0 ≤ (wrap64 (x6_1 + t136)) then (if (wrap64 (x6_1 + t136)) ≤ (a0.size : Int) then ((lex_one.f k1 (a0.extract ((wrap64 (x6_1 + t136)) : Int).toNat a0.size)).bind fun bt138 => (if bt138.2.2.2 = 0 then (some (([] : List (S33)), wrap64 (x6_1 + t136), 2)) else (if x5_1.length < 4398046511104 then (lex_Cut.l0 k1 a0 (x5_1 ++ [(⟨bt138.1, bt138.2.1, wrap64 (x6_1 + t136)⟩ : S33)]) (wrap64 ((wrap64 (x6_1 + t136)) + bt138.2.2.2))) else (none)))) else (none)) else (none))) else (some (([] : List (S33)), x6_1, 2))) = some (r1, r2, r3) := H
            have A5 := Aside0.mk A50
            clear A50
            by_cases c6 : t137 = true
            · subst c6
              have H1 : (if (wrap64 (x6_1 + t136)) = (a0.size : Int) then (some (x5_1, 0, 0)) else (if 0 ≤ (wrap64 (x6_1 + t136)) then (if (wrap64 (x6_1 + t136)) ≤ (a0.size : Int) then ((lex_one.f k1 (a0.extract ((wrap64 (x6_1 + t136)) : Int).toNat a0.size)).bind fun bt138 => (if bt138.2.2.2 = 0 then (some (([] : List (S33)), wrap64 (x6_1 + t136), 2)) else (if x5_1.length < 4398046511104 then (lex_Cut.l0 k1 a0 (x5_1 ++ [(⟨bt138.1, bt138.2.1, wrap64 (x6_1 + t136)⟩ : S33)]) (wrap64 ((wrap64 (x6_1 + t136)) + bt138.2.2.2))) else (none)))) else (none)) else (none))) = some (r1, r2, r3) := by rw [if_pos rfl] at H; exact H
              clear H
              have H := H1
              clear H1
              by_cases c7 : (wrap64 (x6_1 + t136)) = (a0.size : Int)
              · rw [if_pos c7] at H
                have c7b0 : ((wrap64 (x6_1 + t136)) == (a0.size : Int)) = true := beq_iff_eq.mpr c7
                have c7b1 : ((wrap64 (x6_1 + t136)) != (a0.size : Int)) = false := bne_eq_false_iff_eq.mpr c7
                clear c7
                simp only [Option.some.injEq, Prod.mk.injEq] at H
                obtain ⟨rfl, rfl, rfl⟩ := H
                go_wp2_with (first | ((with_reducible refine gate_callee (f := 20) rfl ?_); refine goesL_ (some 17) rfl rfl Tryd.func20 (by kernel_rfl) rfl #[.string (a0.extract (x6_1 : Int).toNat a0.size)] rfl (by (try simp only [List.map_toArray, List.map_cons, List.map_nil]); first | done | rfl | (simp only [List.length_drop, List.length_take]; rfl)) ?_; (with_reducible refine (lex_blank.calls k1 (a0.extract (x6_1 : Int).toNat a0.size) t136 true _ A5.out).mono ?_); rintro e w' ⟨rfl, ⟨nd, rfl⟩⟩; refine ⟨_, rfl, ?_⟩))
                go_ret3
                exact ⟨_, by first | rfl | (simp [errW_none, errW_some] <;> rfl) | (simp [*, errW_none, errW_some] <;> rfl), by (with_reducible repeat (first | apply Kd.R_alloc | apply Kd.R_drewN | apply Kd.R_drew)); exact HO_5.out, by repeat (first | (with_reducible first | exact HB.out | apply below_alloc | apply pw_below_drewN | apply below_drew1) | exact HB.out)⟩
              · rw [if_neg c7] at H
                have c7b0 : ((wrap64 (x6_1 + t136)) == (a0.size : Int)) = false := beq_eq_false_iff_ne.mpr c7
                have c7b1 : ((wrap64 (x6_1 + t136)) != (a0.size : Int)) = true := bne_iff_ne.mpr c7
                obtain ⟨ji8, hji8⟩ : ∃ j_ : Int, (wrap64 (x6_1 + t136)) = j_ := ⟨_, rfl⟩
                replace H : (if 0 ≤ (ji8) then (if (ji8) ≤ (a0.size : Int) then ((lex_one.f k1 (a0.extract ((ji8) : Int).toNat a0.size)).bind fun bt138 => (if bt138.2.2.2 = 0 then (some (([] : List (S33)), ji8, 2)) else (if x5_1.length < 4398046511104 then (lex_Cut.l0 k1 a0 (x5_1 ++ [(⟨bt138.1, bt138.2.1, ji8⟩ : S33)]) (wrap64 ((ji8) + bt138.2.2.2))) else (none)))) else (none)) else (none)) = some (r1, r2, r3) := by first | (rw [hji8] at H; exact H) | (simp only [hji8] at H ⊢; exact H)
                (try rw [hji8] at c7b0)
                (try rw [hji8] at c7b1)
                (try rw [hji8] at A5)
                have hji8w : (IntKind.i64.wrap (x6_1 + t136)) = ji8 := (i64_w _).trans hji8
                by_cases c9 : 0 ≤ (ji8)
                · rw [if_pos c9] at H
                  have c9b0 := eq_true c9
                  have c9b1 : decide (0 ≤ (ji8)) = true := decide_eq_true c9
                  clear c9
                  by_cases c10 : (ji8) ≤ (a0.size : Int)
                  · rw [if_pos c10] at H
                    have c10b0 := eq_true c10
                    have c10b1 : decide ((ji8) ≤ (a0.size : Int)) = true := decide_eq_true c10
                    clear c10
                    replace H := Option.bind_eq_some_iff.mp H
                    obtain ⟨⟨t138, t139, t140, t141⟩, A110, H⟩ := H
                    replace H : (if t141 = 0 then (some (([] : List (S33)), ji8, 2)) else (if x5_1.length < 4398046511104 then (lex_Cut.l0 k1 a0 (x5_1 ++ [(⟨t138, t139, ji8⟩ : S33)]) (wrap64 ((ji8) + t141))) else (none))) = some (r1, r2, r3) := H
                    have A11 := Aside0.mk A110
                    clear A110
                    by_cases c12 : t141 = 0
                    · rw [if_pos c12] at H
                      have c12b0 : (t141 == 0) = true := beq_iff_eq.mpr c12
                      have c12b1 : (t141 != 0) = false := bne_eq_false_iff_eq.mpr c12
                      clear c12
                      simp only [Option.some.injEq, Prod.mk.injEq] at H
                      obtain ⟨rfl, rfl, rfl⟩ := H
                      go_wp2_with (first | ((with_reducible refine gate_callee (f := 20) rfl ?_); refine goesL_ (some 17) rfl rfl Tryd.func20 (by kernel_rfl) rfl #[.string (a0.extract (x6_1 : Int).toNat a0.size)] rfl (by (try simp only [List.map_toArray, List.map_cons, List.map_nil]); first | done | rfl | (simp only [List.length_drop, List.length_take]; rfl)) ?_; (with_reducible refine (lex_blank.calls k1 (a0.extract (x6_1 : Int).toNat a0.size) t136 true _ A5.out).mono ?_); rintro e w' ⟨rfl, ⟨nd, rfl⟩⟩; refine ⟨_, rfl, ?_⟩; (try (rw [drewN_self wr]; generalize hq_ : World.drewN wr _ = wr; have n0_ : Aside0 (Kd.R k33 33 wr w.heap.size (fun _ => True) u5 x5_1) := ⟨by rw [← hq_]; exact (by (with_reducible repeat (first | apply Kd.R_alloc | apply Kd.R_drewN | apply Kd.R_drew)); exact HO_5.out)⟩; have n1_ : Aside0 (Below w.heap.size w wr) := ⟨by rw [← hq_]; exact (by repeat (first | (with_reducible first | exact HB.out | apply below_alloc | apply pw_below_drewN | apply below_drew1) | exact HB.out))⟩; clear HO_5 HB hq_; have HO_5 := n0_; have HB := n1_; clear n0_ n1_))) | ((with_reducible refine gate_callee (f := 21) rfl ?_); refine goesL_ (some 35) rfl rfl Tryd.func21 (by kernel_rfl) rfl #[.string (a0.extract ((ji8) : Int).toNat a0.size)] rfl (by (try simp only [List.map_toArray, List.map_cons, List.map_nil]); first | done | (simp only [hji8]; rfl) | rfl | (simp only [List.length_drop, List.length_take]; rfl)) ?_; (with_reducible refine (lex_one.calls k1 (a0.extract ((ji8) : Int).toNat a0.size) t138 t139 t140 t141 _ A11.out).mono ?_); rintro e w13 ⟨rfl, hb⟩; refine ⟨_, rfl, ?_⟩; have n0_ := Aside0.mk (Kd.R_below (by (with_reducible repeat (first | apply Kd.R_alloc | apply Kd.R_drewN | apply Kd.R_drew)); exact HO_5.out) hb); have n1_ := Aside0.mk (below_step (by repeat (first | (with_reducible first | exact HB.out | apply below_alloc | apply pw_below_drewN | apply below_drew1) | exact HB.out)) hb); clear HO_5; clear HB; have HO_5 := n0_; have HB := n1_; clear n0_ n1_; (try clear hb); (try clear hb2); (try clear hk); (try clear hi)) | ((with_reducible refine gate_dst (N := 9) rfl ?_); refine box_event ?hg (N := 9) ?hd (cs := #[.int .i64 0, .string (⟨#[]⟩ : ByteArray), .int .i64 0]) (t := 33) ?hr ?_; (case hd => rfl); (case hg => rfl); (case hr => first | (go_simp; done) | (go_simp; rfl)); intro gb142 hg w14 hbox hb; have n0_ := Aside0.mk (Kd.R_below (Kd.R_elderB (by (with_reducible repeat (first | apply Kd.R_alloc | apply Kd.R_drewN | apply Kd.R_drew)); exact HO_5.out) gb142 (Nat.le_of_eq hg.symm)) hb); have n1_ := Aside0.mk (below_step (by repeat (first | (with_reducible first | exact HB.out | apply below_alloc | apply pw_below_drewN | apply below_drew1) | exact HB.out)) hb); have n2_ := Aside0.mk (hbox); have n3_ := Aside0.mk ((by rw [hg]; exact (below_size (by repeat (first | (with_reducible first | exact HB.out | apply below_alloc | apply pw_below_drewN | apply below_drew1) | exact HB.out))) : w.heap.size ≤ gb142)); have n4_ := Aside0.mk ((by rw [hg]; exact (below_size (by repeat (first | (with_reducible first | exact HB.out | apply below_alloc | apply pw_below_drewN | apply below_drew1) | exact HB.out))) : w.heap.size ≤ gb142)); clear HO_5; clear HB; have HO_5 := n0_; have HB := n1_; have BK142 := n2_; have GW142 := n3_; have GE142 := n4_; clear n0_ n1_ n2_ n3_ n4_; clear hb hbox hg; have hcz15_0 : w14.cell? ⟨gb142, 0, none⟩ = some (.int .i64 0) := (blk_cell BK142.out 0).trans rfl; have hcz15_1 : w14.cell? ⟨gb142, 1, none⟩ = some (.string (⟨#[]⟩ : ByteArray)) := (blk_cell BK142.out 1).trans rfl; have hcz15_2 : w14.cell? ⟨gb142, 2, none⟩ = some (.int .i64 0) := (blk_cell BK142.out 2).trans rfl; have hfz15_0 := blk_frozen BK142.out 0; have hfz15_1 := blk_frozen BK142.out 1; have hfz15_2 := blk_frozen BK142.out 2))
                      go_ret3
                      exact ⟨_, by first | rfl | (simp [errW_none, errW_some] <;> rfl) | (simp only [← hji8]; first | rfl | (simp [errW_none, errW_some] <;> rfl)) | (simp [*, errW_none, errW_some] <;> rfl), by first | exact Kd.R_nil _ _ _ _ _ | exact Kd.N_nil _ _ _ _ _ | exact Kd.V_nil _ _ _ _ _ | exact Kd.Q_nil _ _ _ _ _ | exact Kd.S_nil _ _ _ _ _, by repeat (first | (with_reducible first | exact HB.out | apply below_alloc | apply pw_below_drewN | apply below_drew1 | refine below_set ?_ GE142.out) | exact HB.out)⟩
                    · rw [if_neg c12] at H
                      have c12b0 : (t141 == 0) = false := beq_eq_false_iff_ne.mpr c12
                      have c12b1 : (t141 != 0) = true := bne_iff_ne.mpr c12
                      by_cases c16 : x5_1.length < 4398046511104
                      · rw [if_pos c16] at H
                        have LMc16 := Aside0.mk c16
                        clear c16
                        obtain ⟨y143, hy143⟩ : ∃ y_ : List (S33), y_ = (x5_1 ++ [(⟨t138, t139, ji8⟩ : S33)]) := ⟨_, rfl⟩
                        replace H : (lex_Cut.l0 k1 a0 y143 (wrap64 ((ji8) + t141))) = some (r1, r2, r3) := by first | (rw [hy143]; with_reducible exact H) | (have H2_ := (Option.bind_some _ _).symm.trans H; rw [hy143]; with_reducible exact H2_) | (have H2_ := (Option.bind_some _ _).symm.trans H; with_reducible exact H2_) | with_reducible exact H | (rw [hy143]; exact H) | exact H
                        have Ny143 := Aside0.mk hy143
                        clear hy143
                        have H' := Aside0.mk H
                        clear H
                        go_wp2_with (first | ((with_reducible refine gate_callee (f := 20) rfl ?_); refine goesL_ (some 17) rfl rfl Tryd.func20 (by kernel_rfl) rfl #[.string (a0.extract (x6_1 : Int).toNat a0.size)] rfl (by (try simp only [List.map_toArray, List.map_cons, List.map_nil]); first | done | rfl | (simp only [List.length_drop, List.length_take]; rfl)) ?_; (with_reducible refine (lex_blank.calls k1 (a0.extract (x6_1 : Int).toNat a0.size) t136 true _ A5.out).mono ?_); rintro e w' ⟨rfl, ⟨nd, rfl⟩⟩; refine ⟨_, rfl, ?_⟩; (try (rw [drewN_self wr]; generalize hq_ : World.drewN wr _ = wr; have n0_ : Aside0 (Kd.R k33 33 wr w.heap.size (fun _ => True) u5 x5_1) := ⟨by rw [← hq_]; exact (by (with_reducible repeat (first | apply Kd.R_alloc | apply Kd.R_drewN | apply Kd.R_drew)); exact HO_5.out)⟩; have n1_ : Aside0 (Below w.heap.size w wr) := ⟨by rw [← hq_]; exact (by repeat (first | (with_reducible first | exact HB.out | apply below_alloc | apply pw_below_drewN | apply below_drew1) | exact HB.out))⟩; clear HO_5 HB hq_; have HO_5 := n0_; have HB := n1_; clear n0_ n1_))) | ((with_reducible refine gate_callee (f := 21) rfl ?_); refine goesL_ (some 35) rfl rfl Tryd.func21 (by kernel_rfl) rfl #[.string (a0.extract ((ji8) : Int).toNat a0.size)] rfl (by (try simp only [List.map_toArray, List.map_cons, List.map_nil]); first | done | (simp only [hji8]; rfl) | rfl | (simp only [List.length_drop, List.length_take]; rfl)) ?_; (with_reducible refine (lex_one.calls k1 (a0.extract ((ji8) : Int).toNat a0.size) t138 t139 t140 t141 _ A11.out).mono ?_); rintro e w17 ⟨rfl, hb⟩; refine ⟨_, rfl, ?_⟩; have n0_ := Aside0.mk (Kd.R_below (by (with_reducible repeat (first | apply Kd.R_alloc | apply Kd.R_drewN | apply Kd.R_drew)); exact HO_5.out) hb); have n1_ := Aside0.mk (below_step (by repeat (first | (with_reducible first | exact HB.out | apply below_alloc | apply pw_below_drewN | apply below_drew1) | exact HB.out)) hb); clear HO_5; clear HB; have HO_5 := n0_; have HB := n1_; clear n0_ n1_; (try clear hb); (try clear hb2); (try clear hk); (try clear hi)) | ((with_reducible refine gate_dst (N := 9) rfl ?_); refine box_event ?hg (N := 9) ?hd (cs := #[.int .i64 0, .string (⟨#[]⟩ : ByteArray), .int .i64 0]) (t := 33) ?hr ?_; (case hd => rfl); (case hg => rfl); (case hr => first | (go_simp; done) | (go_simp; rfl)); intro gb142 hg w18 hbox hb; have n0_ := Aside0.mk (Kd.R_below (Kd.R_elderB (by (with_reducible repeat (first | apply Kd.R_alloc | apply Kd.R_drewN | apply Kd.R_drew)); exact HO_5.out) gb142 (Nat.le_of_eq hg.symm)) hb); have n1_ := Aside0.mk (below_step (by repeat (first | (with_reducible first | exact HB.out | apply below_alloc | apply pw_below_drewN | apply below_drew1) | exact HB.out)) hb); have n2_ := Aside0.mk (hbox); have n3_ := Aside0.mk ((by rw [hg]; exact (below_size (by repeat (first | (with_reducible first | exact HB.out | apply below_alloc | apply pw_below_drewN | apply below_drew1) | exact HB.out))) : w.heap.size ≤ gb142)); have n4_ := Aside0.mk ((by rw [hg]; exact (below_size (by repeat (first | (with_reducible first | exact HB.out | apply below_alloc | apply pw_below_drewN | apply below_drew1) | exact HB.out))) : w.heap.size ≤ gb142)); clear HO_5; clear HB; have HO_5 := n0_; have HB := n1_; have BK142 := n2_; have GW142 := n3_; have GE142 := n4_; clear n0_ n1_ n2_ n3_ n4_; clear hb hbox hg; have hcz19_0 : w18.cell? ⟨gb142, 0, none⟩ = some (.int .i64 0) := (blk_cell BK142.out 0).trans rfl; have hcz19_1 : w18.cell? ⟨gb142, 1, none⟩ = some (.string (⟨#[]⟩ : ByteArray)) := (blk_cell BK142.out 1).trans rfl; have hcz19_2 : w18.cell? ⟨gb142, 2, none⟩ = some (.int .i64 0) := (blk_cell BK142.out 2).trans rfl; have hfz19_0 := blk_frozen BK142.out 0; have hfz19_1 := blk_frozen BK142.out 1; have hfz19_2 := blk_frozen BK142.out 2; have hcc_ : ((((w18.setCell ⟨gb142, 0, none⟩ (.int .i64 t138)).setCell ⟨gb142, 1, none⟩ (.string t139)).setCell ⟨gb142, 2, none⟩ (.int .i64 t140)).setCell ⟨gb142, 2, none⟩ (.int .i64 ji8)).cell? ⟨gb142, 2, none⟩ = some (.int .i64 ji8) := (blk_cell (show ((((w18.setCell ⟨gb142, 0, none⟩ (.int .i64 t138)).setCell ⟨gb142, 1, none⟩ (.string t139)).setCell ⟨gb142, 2, none⟩ (.int .i64 t140)).setCell ⟨gb142, 2, none⟩ (.int .i64 ji8)).heap[gb142]? = some (.cells #[.int .i64 t138, .string t139, .int .i64 ji8] 33 (0, 0)) from by refine blk_put (cs := #[.int .i64 t138, .string t139, .int .i64 t140]) ?_ 2 _ rfl; refine blk_put (cs := #[.int .i64 t138, .string t139, .int .i64 0]) ?_ 2 _ rfl; refine blk_put (cs := #[.int .i64 t138, .string (⟨#[]⟩ : ByteArray), .int .i64 0]) ?_ 1 _ rfl; refine blk_put (cs := #[.int .i64 0, .string (⟨#[]⟩ : ByteArray), .int .i64 0]) ?_ 0 _ rfl; exact BK142.out) 2).trans rfl) | ((with_reducible refine gate_builtin (b := .append) (xs := #[.tmp 43, .tmp 45]) rfl ?_); at_builtin; refine Kd.R_append k33 (w0 := w) w.heap.size rfl (.tmp 43) (.tmp 45) 22 33 (.agg #[(.int .i64 0), (.string ⟨#[]⟩), (.int .i64 0)]) 32 rfl Tryd.underlying22 info33 rfl (by decide) (by omega) u5 x5_1 (⟨t138, t139, ji8⟩ : S33) [.int .i64 t138, .string t139, .int .i64 ji8] (fun k_ => k_ ≠ gb142) (fun _ => False) rfl (by first | (go_simp; done) | (go_simp; rfl)) ?aP (fun _ hk => hk.elim) ?aF ?aO ?aB ?aS ?aL ?_; (case aP => exact k33_mkM _ _ _ (⟨t138, t139, ji8⟩ : S33)); (case aB => exact (by repeat (first | (with_reducible first | exact HB.out | apply below_alloc | apply pw_below_drewN | apply below_drew1 | refine below_set ?_ GE142.out) | exact HB.out))); (case aF => exact (fun k_ hk => Kd.freshB (g := gb142) (o := .cells #[.int .i64 t138, .string t139, .int .i64 ji8] 33 (0, 0)) (by (with_reducible repeat (first | refine blk_drewN ?_ _ | refine blk_drew ?_ | refine blk_alloc ?_ _)); refine blk_put (cs := #[.int .i64 t138, .string t139, .int .i64 t140]) ?_ 2 _ rfl; (with_reducible repeat (first | refine blk_drewN ?_ _ | refine blk_drew ?_ | refine blk_alloc ?_ _)); refine blk_put (cs := #[.int .i64 t138, .string t139, .int .i64 0]) ?_ 2 _ rfl; (with_reducible repeat (first | refine blk_drewN ?_ _ | refine blk_drew ?_ | refine blk_alloc ?_ _)); refine blk_put (cs := #[.int .i64 t138, .string (⟨#[]⟩ : ByteArray), .int .i64 0]) ?_ 1 _ rfl; (with_reducible repeat (first | refine blk_drewN ?_ _ | refine blk_drew ?_ | refine blk_alloc ?_ _)); refine blk_put (cs := #[.int .i64 0, .string (⟨#[]⟩ : ByteArray), .int .i64 0]) ?_ 0 _ rfl; (with_reducible repeat (first | refine blk_drewN ?_ _ | refine blk_drew ?_ | refine blk_alloc ?_ _)); exact BK142.out) k_ hk)); (case aO => exact (by (with_reducible repeat (first | apply Kd.R_alloc | apply Kd.R_drewN | apply Kd.R_drew)); exact Kd.R_mono (Kd.R_far (p := ⟨gb142, 2, none⟩) (Kd.R_far (p := ⟨gb142, 2, none⟩) (Kd.R_far (p := ⟨gb142, 1, none⟩) (Kd.R_far (p := ⟨gb142, 0, none⟩) (Kd.R_mono HO_5.out (fun k_ hk => (⟨hk, hk.2⟩ : _ ∧ k_ ≠ gb142))) (fun _ hk => hk.2) (.int .i64 t138)) (fun _ hk => hk.2) (.string t139)) (fun _ hk => hk.2) (.int .i64 t140)) (fun _ hk => hk.2) (.int .i64 ji8)) (fun _ hk => hk.1.2))); (case aS => exact (below_size (by repeat (first | (with_reducible first | exact HB.out | apply below_alloc | apply pw_below_drewN | apply below_drew1 | refine below_set ?_ GE142.out) | exact HB.out)))); (case aL => have := LMc16.out; omega); intro v144 w20 ho hb hg hat; rw [← Ny143.out] at ho; have n0_ := Aside0.mk (blk_grown (g := gb142) (o := .cells #[.int .i64 t138, .string t139, .int .i64 ji8] 33 (0, 0)) (by (with_reducible repeat (first | refine blk_drewN ?_ _ | refine blk_drew ?_ | refine blk_alloc ?_ _)); refine blk_put (cs := #[.int .i64 t138, .string t139, .int .i64 t140]) ?_ 2 _ rfl; (with_reducible repeat (first | refine blk_drewN ?_ _ | refine blk_drew ?_ | refine blk_alloc ?_ _)); refine blk_put (cs := #[.int .i64 t138, .string t139, .int .i64 0]) ?_ 2 _ rfl; (with_reducible repeat (first | refine blk_drewN ?_ _ | refine blk_drew ?_ | refine blk_alloc ?_ _)); refine blk_put (cs := #[.int .i64 t138, .string (⟨#[]⟩ : ByteArray), .int .i64 0]) ?_ 1 _ rfl; (with_reducible repeat (first | refine blk_drewN ?_ _ | refine blk_drew ?_ | refine blk_alloc ?_ _)); refine blk_put (cs := #[.int .i64 0, .string (⟨#[]⟩ : ByteArray), .int .i64 0]) ?_ 0 _ rfl; (with_reducible repeat (first | refine blk_drewN ?_ _ | refine blk_drew ?_ | refine blk_alloc ?_ _)); exact BK142.out) hg (Kd.R_away HO_5.out (fun _ hk => hk.2))); have n1_ := Aside0.mk (hb); have n2_ := Aside0.mk (ho); clear BK142; clear HB; clear HO_5; have BK142 := n0_; have HB := n1_; have HO145 := n2_; clear n0_ n1_ n2_; clear ho hb hg hat))
                        go_roundg k1
                        case measure => have := HK1.out; omega
                        case rel => exact ⟨(y143), (wrap64 ((ji8) + t141)), (by first | rfl | (simp; done) | (simp only [← hji8] <;> (first | rfl | simp)) | (simp [*]; done)), H', ⟨by have := HK1.out; omega⟩, ⟨by (with_reducible repeat (first | apply Kd.R_alloc | apply Kd.R_drewN | apply Kd.R_drew)); exact Kd.R_mono HO145.out (fun _ hk => trivial)⟩, ⟨by repeat (first | (with_reducible first | exact HB.out | apply below_alloc | apply pw_below_drewN | apply below_drew1 | refine below_set ?_ GE142.out) | exact HB.out)⟩⟩
                      · rw [if_neg c16] at H
                        exact absurd H (by simp)
                  · rw [if_neg c10] at H
                    exact absurd H (by simp)
                · rw [if_neg c9] at H
                  exact absurd H (by simp)
            · replace c6 := Bool.eq_false_iff.mpr c6
              subst c6
              have H1 : (some (([] : List (S33)), x6_1, 2)) = some (r1, r2, r3) := by rw [if_neg (show ¬ (false = true) by decide)] at H; exact H
              clear H
              have H := H1
              clear H1
              simp only [Option.some.injEq, Prod.mk.injEq] at H
              obtain ⟨rfl, rfl, rfl⟩ := H
              go_wp2_with (first | ((with_reducible refine gate_callee (f := 20) rfl ?_); refine goesL_ (some 17) rfl rfl Tryd.func20 (by kernel_rfl) rfl #[.string (a0.extract (x6_1 : Int).toNat a0.size)] rfl (by (try simp only [List.map_toArray, List.map_cons, List.map_nil]); first | done | rfl | (simp only [List.length_drop, List.length_take]; rfl)) ?_; (with_reducible refine (lex_blank.calls k1 (a0.extract (x6_1 : Int).toNat a0.size) t136 false _ A5.out).mono ?_); rintro e w' ⟨rfl, ⟨nd, rfl⟩⟩; refine ⟨_, rfl, ?_⟩))
              go_ret3
              exact ⟨_, by first | rfl | (simp [errW_none, errW_some] <;> rfl) | (simp [*, errW_none, errW_some] <;> rfl), by first | exact Kd.R_nil _ _ _ _ _ | exact Kd.N_nil _ _ _ _ _ | exact Kd.V_nil _ _ _ _ _ | exact Kd.Q_nil _ _ _ _ _ | exact Kd.S_nil _ _ _ _ _, by repeat (first | (with_reducible first | exact HB.out | apply below_alloc | apply pw_below_drewN | apply below_drew1) | exact HB.out)⟩
          · rw [if_neg c4] at H
            exact absurd H (by simp)
        · rw [if_neg c3] at H
          exact absurd H (by simp)
theorem eqA33 (d : Nat) (w : World) (x0 y0 : Int) (x1 y1 : ByteArray) (x2 y2 : Int) :
    (Op.equalIn (d + 2) 33 (.agg #[.int .i64 x0, .string x1, .int .i64 x2]) (.agg #[.int .i64 y0, .string y1, .int .i64 y2])).run Tryd.prog w = .ok (x0 == y0 && (x1.toList == y1.toList && (x2 == y2))) w := by
  refine eqA_of Tryd.underlying33 (by kernel_rfl) ?_
  refine eqf_cons (by rfl) (by go_simp; rfl) (by go_simp; rfl) (by go_simp) ?_
  refine eqf_cons (by rfl) (by go_simp; rfl) (by go_simp; rfl) (by go_simp) ?_
  exact eqf_last (by rfl) (by go_simp; rfl) (by go_simp; rfl) (by go_simp)
end Go.Proofs.YtlggjgpdiffajaaDoor.PA
