/- Several texts of this session, laid into one for a claim: PBx40, PBx41, PBx42, PBx43, Str. -/
import Derived.Test.YtckhlbpjehbnlaaGInstrShapes0
import Derived.Test.YtckhlbpjehbnlaaGInstrShapes1
import Derived.Test.YtckhlbpjehbnlaaGInstrShapes4
import Derived.Test.YtckhlbpjehbnlaaGInstrShapes5
import Derived.Test.YtckhlbpjehbnlaaGInstrShapes6
import Derived.Test.YtckhlbpjehbnlaaGInstrShapes3
import Derived.Test.YtckhlbpjehbnlaaWMore
namespace Go.Proofs.Ytckhlbpjehbnlaa.PB
open Go.RowKit Go.Proofs.YtckhlbpjehbnlaaW.PrintWords Go.Proofs.YtckhlbpjehbnlaaW.PrintLast Go.Proofs.YtckhlbpjehbnlaaW.PrintMore
attribute [local go_sem] max2_int min2_int max_two min_two max_three min_three max_four min_four   -- for this text's walks alone
set_option linter.unusedVariables false
set_option linter.unusedSimpArgs false
abbrev RS := ByteArray × Int × Int
def rU (t : RS) : Option (Int × RS) := instr_reader_u.f 40 t.1 t.2.1 t.2.2
def rFail (t : RS) (e : Int) : Option RS := instr_reader_fail.f t.1 t.2.1 t.2.2 e
def rByte (t : RS) : Option (Int × RS) := instr_reader_byte.f t.1 t.2.1 t.2.2
def rSigned (t : RS) (n : Int) : Option (Int × RS) := instr_reader_signed.f 40 t.1 t.2.1 t.2.2 n
def rBlock (t : RS) : Option (Int × RS) := instr_reader_block.f 40 t.1 t.2.1 t.2.2
def rLabels (t : RS) : Option (List Int × RS) := instr_reader_labels.f 1100 t.1 t.2.1 t.2.2
/-- The block of an instruction's numbers. -/
def Box (w : World) (b : Nat) (op a bb m : Int) (vN vL vE : Value) : Prop := w.heap[b]? = some (.cells #[.int .i64 op, .int .i64 a, .int .i64 bb, .int .i64 m, vN, vL, vE] 54 (0, 0))
/-- What a call leaves as it stood: all but two blocks. -/
def Keep2 (w w' : World) (g b : Nat) : Prop := w.heap.size ≤ w'.heap.size ∧ ∀ i, i < w.heap.size → i ≠ g → i ≠ b → w'.heap[i]? = w.heap[i]?
theorem Keep2.refl (w : World) (g b : Nat) : Keep2 w w g b := ⟨Nat.le_refl _, fun _ _ _ _ => rfl⟩
theorem Keep2.trans {w w1 w2 : World} {g b : Nat} (h : Keep2 w w1 g b) (k : Keep2 w1 w2 g b) : Keep2 w w2 g b := ⟨Nat.le_trans h.1 k.1, fun i hi hg hb => (k.2 i (Nat.lt_of_lt_of_le hi h.1) hg hb).trans (h.2 i hi hg hb)⟩
theorem Keep2.of_but {w w1 : World} {g : Nat} (b : Nat) (h : KeepBut w w1 g none) : Keep2 w w1 g b := ⟨h.1, fun i hi hg _ => h.2 i hi hg (by simp)⟩
theorem Keep2.of_below {w w1 : World} (g b : Nat) (h : Below w.heap.size w w1) : Keep2 w w1 g b := ⟨h.size, fun i hi _ _ => h.block i hi⟩
theorem Keep2.set {w w1 : World} {g b : Nat} (h : Keep2 w w1 g b) (j : Nat) (u : Value) : Keep2 w (w1.setCell ⟨b, j, none⟩ u) g b :=
  ⟨by simpa [World.setCell] using h.1, fun i hi hg hb => (Below.heap_setCell w1 ⟨b, j, none⟩ u i hb).trans (h.2 i hi hg hb)⟩
theorem Box.set1 {w : World} {b : Nat} {op a bb m : Int} {vN vL vE : Value} (h : Box w b op a bb m vN vL vE) (x : Int) : Box (w.setCell ⟨b, 1, none⟩ (.int .i64 x)) b op x bb m vN vL vE := set7_1 h (.int .i64 x)
theorem Box.set2 {w : World} {b : Nat} {op a bb m : Int} {vN vL vE : Value} (h : Box w b op a bb m vN vL vE) (x : Int) : Box (w.setCell ⟨b, 2, none⟩ (.int .i64 x)) b op a x m vN vL vE := set7_2 h (.int .i64 x)
theorem Box.set3 {w : World} {b : Nat} {op a bb m : Int} {vN vL vE : Value} (h : Box w b op a bb m vN vL vE) (x : Int) : Box (w.setCell ⟨b, 3, none⟩ (.int .i64 x)) b op a bb x vN vL vE := set7_3 h (.int .i64 x)
theorem Box.set4 {w : World} {b : Nat} {op a bb m : Int} {vN vL vE : Value} (h : Box w b op a bb m vN vL vE) (v : Value) : Box (w.setCell ⟨b, 4, none⟩ v) b op a bb m v vL vE := set7_4 h v
theorem Box.set5 {w : World} {b : Nat} {op a bb m : Int} {vN vL vE : Value} (h : Box w b op a bb m vN vL vE) (v : Value) : Box (w.setCell ⟨b, 5, none⟩ v) b op a bb m vN v vE := set7_5 h v
theorem Box.set6 {w : World} {b : Nat} {op a bb m : Int} {vN vL vE : Value} (h : Box w b op a bb m vN vL vE) (v : Value) : Box (w.setCell ⟨b, 6, none⟩ v) b op a bb m vN vL v := set7_6 h v
theorem Box.set0 {w : World} {b : Nat} {op a bb m : Int} {vN vL vE : Value} (h : Box w b op a bb m vN vL vE) (x : Int) : Box (w.setCell ⟨b, 0, none⟩ (.int .i64 x)) b x a bb m vN vL vE := by have := blk_set h 0 (.int .i64 x); unfold Box; simpa using this
theorem Box.keep {w w1 : World} {g b : Nat} {op a bb m : Int} {vN vL vE : Value} (h : Box w b op a bb m vN vL vE) (k : KeepBut w w1 g none) (hb : b ≠ g) : Box w1 b op a bb m vN vL vE := k.blk h hb (by simp)
/-- What is held of a reader and of an instruction's block. -/
structure At (w0 w : World) (g b : Nat) (t : RS) (op a bb m : Int) (vN vL vE : Value) : Prop where
  st : IsS69 w0 w g t.1 t.2.1 t.2.2
  below : Below w0.heap.size w0 w
  box : Box w b op a bb m vN vL vE
  ne : b ≠ g
  ge : w0.heap.size ≤ b
theorem At.call {w0 w w1 : World} {g b : Nat} {t t1 : RS} {op a bb m : Int} {vN vL vE : Value} (h : At w0 w g b t op a bb m vN vL vE) (hI : IsS69 w0 w1 g t1.1 t1.2.1 t1.2.2) (hB : Below w0.heap.size w0 w1) (hk : KeepBut w w1 g none) : At w0 w1 g b t1 op a bb m vN vL vE := ⟨hI, hB, h.box.keep hk h.ne, h.ne, h.ge⟩
theorem At.set1 {w0 w : World} {g b : Nat} {t : RS} {op a bb m : Int} {vN vL vE : Value} (h : At w0 w g b t op a bb m vN vL vE) (x : Int) : At w0 (w.setCell ⟨b, 1, none⟩ (.int .i64 x)) g b t op x bb m vN vL vE := ⟨h.st.far (Ne.symm h.ne) _, below_set h.below h.ge, h.box.set1 x, h.ne, h.ge⟩
theorem At.set2 {w0 w : World} {g b : Nat} {t : RS} {op a bb m : Int} {vN vL vE : Value} (h : At w0 w g b t op a bb m vN vL vE) (x : Int) : At w0 (w.setCell ⟨b, 2, none⟩ (.int .i64 x)) g b t op a x m vN vL vE := ⟨h.st.far (Ne.symm h.ne) _, below_set h.below h.ge, h.box.set2 x, h.ne, h.ge⟩
theorem At.set3 {w0 w : World} {g b : Nat} {t : RS} {op a bb m : Int} {vN vL vE : Value} (h : At w0 w g b t op a bb m vN vL vE) (x : Int) : At w0 (w.setCell ⟨b, 3, none⟩ (.int .i64 x)) g b t op a bb x vN vL vE := ⟨h.st.far (Ne.symm h.ne) _, below_set h.below h.ge, h.box.set3 x, h.ne, h.ge⟩
theorem At.set4 {w0 w : World} {g b : Nat} {t : RS} {op a bb m : Int} {vN vL vE : Value} (h : At w0 w g b t op a bb m vN vL vE) (v : Value) : At w0 (w.setCell ⟨b, 4, none⟩ v) g b t op a bb m v vL vE := ⟨h.st.far (Ne.symm h.ne) _, below_set h.below h.ge, h.box.set4 v, h.ne, h.ge⟩
theorem At.drewN {w0 w : World} {g b : Nat} {t : RS} {op a bb m : Int} {vN vL vE : Value} (h : At w0 w g b t op a bb m vN vL vE) (q : Nat) : At w0 (w.drewN q) g b t op a bb m vN vL vE := ⟨h.st.drewN q, pw_below_drewN h.below q, h.box, h.ne, h.ge⟩
def placeF (t : RS) : Option (Int × Int × Int × RS) :=
  (rU t).bind fun x => (if x.1 ≥ 128 then rFail x.2 2 else some x.2).bind fun t2 =>
    if x.1 ≥ 64 then (rU t2).bind fun y => (rU y.2).bind fun z => some (z.1, wrap64 (x.1 - 64), y.1, z.2)
    else (rU t2).bind fun z => some (z.1, x.1, 0, z.2)
theorem rU_calls {w0 w : World} {g b : Nat} {t t1 : RS} {r : Int} {op a bb m : Int} {vN vL vE : Value} (h : At w0 w g b t op a bb m vN vL vE) (hr : rU t = some (r, t1)) :
    Calls Try.prog 49 #[.pointer (some ⟨g, 0, none⟩)] w fun e w' => e = .returned (.int .i64 r) ∧ At w0 w' g b t1 op a bb m vN vL vE ∧ Keep2 w w' g b := by
  refine (instr_reader_u.calls 40 g _ _ _ r t1.1 t1.2.1 t1.2.2 w0 w h.st h.below hr).mono ?_
  rintro e w' ⟨rfl, hI, hB, hk⟩
  exact ⟨rfl, h.call hI hB hk, .of_but b hk⟩
theorem rFail_calls {w0 w : World} {g b : Nat} {t t1 : RS} {c : Int} {op a bb m : Int} {vN vL vE : Value} (h : At w0 w g b t op a bb m vN vL vE) (hr : rFail t c = some t1) :
    Calls Try.prog 36 #[.pointer (some ⟨g, 0, none⟩), .int .i64 c] w fun e w' => e = .returned (.tuple #[]) ∧ At w0 w' g b t1 op a bb m vN vL vE ∧ Keep2 w w' g b := by
  refine (instr_reader_fail.calls g _ _ _ c t1.1 t1.2.1 t1.2.2 w0 w h.st h.below hr).mono ?_
  rintro e w' ⟨rfl, hI, hB, hk⟩
  exact ⟨rfl, h.call hI hB hk, .of_but b hk⟩
set_option maxHeartbeats 8000000 in
set_option maxRecDepth 100000 in
theorem place_calls {w0 w : World} {g b : Nat} {t t1 : RS} {op x y z : Int} {vN vL vE : Value} (h : At w0 w g b t op 0 0 0 vN vL vE) (hp : placeF t = some (x, y, z, t1)) :
    Calls Try.prog 60 #[.pointer (some ⟨g, 0, none⟩), .pointer (some ⟨b, 0, none⟩)] w fun e w' => e = .returned (.tuple #[]) ∧ At w0 w' g b t1 op x y z vN vL vE ∧ Keep2 w w' g b := by
  obtain ⟨⟨v, t2⟩, hv, hp1⟩ := Option.bind_eq_some_iff.mp hp
  obtain ⟨t3, ht3, hp2⟩ := Option.bind_eq_some_iff.mp hp1
  clear hp hp1
  replace hp2 : (if v ≥ 64 then (rU t3).bind fun y => (rU y.2).bind fun z => some (z.1, wrap64 (v - 64), y.1, z.2) else (rU t3).bind fun z => some (z.1, v, (0 : Int), z.2)) = some (x, y, z, t1) := hp2
  replace ht3 : (if v ≥ 128 then rFail t2 2 else some t2) = some t3 := ht3
  go_enter Try.func60, Try.ntmps60
  have hF := h.box
  go_upto_region 1 with (first
    | (go_at_call 49; (with_reducible refine (rU_calls h hv).mono ?_); rintro e w1 ⟨rfl, h1, k1⟩; have c1 : w1.cell? ⟨b, 2, none⟩ = some (.int .i64 0) := blk_cell h1.box 2; have f1 : w1.frozen? ⟨b, 2, none⟩ = false := blk_frozen h1.box 2))
  have h2 := h1.set2 v
  have k2 := k1.set 2 (.int .i64 v)
  clear h hv hF c1 f1 h1 k1
  generalize w1.setCell ⟨b, 2, none⟩ (.int .i64 v) = W1 at h2 k2 ⊢
  have d2 : W1.cell? ⟨b, 2, none⟩ = some (.int .i64 v) := blk_cell h2.box 2
  have stage : ∀ (P : Prop), ((v ≥ 128 → P) ∧ (¬ v ≥ 128 → P)) → P := fun P hp => (Classical.em (v ≥ 128)).elim hp.1 hp.2
  apply stage
  constructor
  · intro c128
    rw [if_pos c128] at ht3
    have e128 : decide (v ≥ 128) = true := decide_eq_true c128
    have e128' : decide (128 ≤ v) = true := e128
    go_upto_region 3 with (first
      | (go_at_call 36; (with_reducible refine (rFail_calls h2 ht3).mono ?_); rintro e w3 ⟨rfl, h3, k3'⟩; have k3 := k2.trans k3'))
    have d3 : w3.cell? ⟨b, 2, none⟩ = some (.int .i64 v) := blk_cell h3.box 2
    have f3 : w3.frozen? ⟨b, 2, none⟩ = false := blk_frozen h3.box 2
    clear d2 h2 k2 k3' stage e128 e128'
    have c64 : v ≥ 64 := by omega
    rw [if_pos c64] at hp2
    obtain ⟨⟨y1, t4⟩, hy, hp3⟩ := Option.bind_eq_some_iff.mp hp2
    obtain ⟨⟨z1, t5⟩, hz, hp4⟩ := Option.bind_eq_some_iff.mp hp3
    simp only [Option.some.injEq, Prod.mk.injEq] at hp4
    obtain ⟨rfl, rfl, rfl, rfl⟩ := hp4
    have e64 : decide (v ≥ 64) = true := decide_eq_true c64
    have e64' : decide (64 ≤ v) = true := e64
    go_upto_region 5 with (fail)
    have h4 := h3.set2 (wrap64 (v - 64))
    have k4 := k3.set 2 (.int .i64 (wrap64 (v - 64)))
    go_upto_region 6 with (first | (go_at_call 49; (with_reducible refine (rU_calls h4 hy).mono ?_); rintro e w1 ⟨rfl, h5, k5⟩; have c1 : w1.cell? ⟨b, 3, none⟩ = some (.int .i64 0) := blk_cell h5.box 3; have f1 : w1.frozen? ⟨b, 3, none⟩ = false := blk_frozen h5.box 3))
    have h6 := h5.set3 y1
    have k6 := (k4.trans k5).set 3 (.int .i64 y1)
    go_wp2_with (first | (go_at_call 49; (with_reducible refine (rU_calls h6 hz).mono ?_); rintro e w1 ⟨rfl, h7, k7⟩; have c1 : w1.cell? ⟨b, 1, none⟩ = some (.int .i64 0) := blk_cell h7.box 1; have f1 : w1.frozen? ⟨b, 1, none⟩ = false := blk_frozen h7.box 1))
    first | go_end0 | ((try simp only [Exit.inBlock, Exit.then]); refine bodyPost_ret (results_none rfl _ _ _) rfl ?_)
    exact ⟨rfl, h7.set1 z1, (k6.trans k7).set 1 _⟩
  · intro c128
    rw [if_neg c128] at ht3
    obtain rfl := Option.some.inj ht3
    have e128 : decide (v ≥ 128) = false := decide_eq_false c128
    have e128' : decide (128 ≤ v) = false := e128
    go_upto_region 3 with (fail)
    have h3 := h2
    have k3 := k2
    have f2 : W1.frozen? ⟨b, 2, none⟩ = false := blk_frozen h2.box 2
    clear stage e128 e128'
    generalize W1 = w3 at *
    by_cases c64 : v ≥ 64
    · rw [if_pos c64] at hp2
      obtain ⟨⟨y1, t4⟩, hy, hp3⟩ := Option.bind_eq_some_iff.mp hp2
      obtain ⟨⟨z1, t5⟩, hz, hp4⟩ := Option.bind_eq_some_iff.mp hp3
      rw [show wrap64 (v - 64) = v - 64 by unfold wrap64; omega] at hp4
      simp only [Option.some.injEq, Prod.mk.injEq] at hp4
      obtain ⟨rfl, rfl, rfl, rfl⟩ := hp4
      have e64 : decide (v ≥ 64) = true := decide_eq_true c64
      have e64' : decide (64 ≤ v) = true := e64
      go_upto_region 5 with (fail)
      have h4 := h3.set2 (v - 64)
      have k4 := k3.set 2 (.int .i64 (v - 64))
      go_upto_region 6 with (first | (go_at_call 49; (with_reducible refine (rU_calls h4 hy).mono ?_); rintro e w1 ⟨rfl, h5, k5⟩; have c1 : w1.cell? ⟨b, 3, none⟩ = some (.int .i64 0) := blk_cell h5.box 3; have f1 : w1.frozen? ⟨b, 3, none⟩ = false := blk_frozen h5.box 3))
      have h6 := h5.set3 y1
      have k6 := (k4.trans k5).set 3 (.int .i64 y1)
      go_wp2_with (first | (go_at_call 49; (with_reducible refine (rU_calls h6 hz).mono ?_); rintro e w1 ⟨rfl, h7, k7⟩; have c1 : w1.cell? ⟨b, 1, none⟩ = some (.int .i64 0) := blk_cell h7.box 1; have f1 : w1.frozen? ⟨b, 1, none⟩ = false := blk_frozen h7.box 1))
      first | go_end0 | ((try simp only [Exit.inBlock, Exit.then]); refine bodyPost_ret (results_none rfl _ _ _) rfl ?_)
      exact ⟨rfl, h7.set1 z1, (k6.trans k7).set 1 _⟩
    · rw [if_neg c64] at hp2
      obtain ⟨⟨z1, t5⟩, hz, hp4⟩ := Option.bind_eq_some_iff.mp hp2
      simp only [Option.some.injEq, Prod.mk.injEq] at hp4
      obtain ⟨rfl, rfl, rfl, rfl⟩ := hp4
      have e64 : decide (v ≥ 64) = false := decide_eq_false c64
      have e64' : decide (64 ≤ v) = false := e64
      go_wp2_with (first | (go_at_call 49; (with_reducible refine (rU_calls h3 hz).mono ?_); rintro e w1 ⟨rfl, h7, k7⟩; have c1 : w1.cell? ⟨b, 1, none⟩ = some (.int .i64 0) := blk_cell h7.box 1; have f1 : w1.frozen? ⟨b, 1, none⟩ = false := blk_frozen h7.box 1))
      first | go_end0 | ((try simp only [Exit.inBlock, Exit.then]); refine bodyPost_ret (results_none rfl _ _ _) rfl ?_)
      exact ⟨rfl, h7.set1 z1, (k3.trans k7).set 1 _⟩
def numF (t : RS) (op : Int) : Option (Int × Int × Int × List Int × RS) :=
  (instr_Shape.f 40 op).bind fun sh => (rFail t sh.2).bind fun t0 =>
    if sh.1 = 2 then (rBlock t0).bind fun x => some (x.1, 0, 0, [], x.2)
    else if sh.1 = 3 then (rU t0).bind fun x => some (x.1, 0, 0, [], x.2)
    else if sh.1 = 4 then (rLabels t0).bind fun x => (rU x.2).bind fun y => some (y.1, 0, 0, x.1, y.2)
    else if sh.1 = 5 then (rU t0).bind fun x => (rU x.2).bind fun y => some (x.1, 0, y.1, [], y.2)
    else if sh.1 = 6 then (rU t0).bind fun x => (if x.1 = 1 then some x.2 else rFail x.2 2).bind fun t2 => (rByte t2).bind fun y => (instr_Type.f 5 y.1).bind fun z => (rFail y.2 z.2).bind fun t3 => some (z.1, 0, 0, [], t3)
    else if sh.1 = 7 then (placeF t0).bind fun x => some (x.1, x.2.1, x.2.2.1, [], x.2.2.2)
    else if sh.1 = 8 then (rU t0).bind fun x => some (0, 0, x.1, [], x.2)
    else if sh.1 = 9 then (rU t0).bind fun x => (rU x.2).bind fun y => some (y.1, 0, x.1, [], y.2)
    else if sh.1 = 10 then (rSigned t0 (wrap64 (32 + wrap64 (32 * wrap64 (op - 65))))).bind fun x => some (x.1, 0, 0, [], x.2)
    else if sh.1 = 11 then (rByte t0).bind fun y => (instr_Type.f 5 y.1).bind fun z => (rFail y.2 z.2).bind fun t3 => (if z.1 = 112 then some t3 else rFail t3 2).bind fun t4 => some (0, 0, 0, [], t4)
    else some (0, 0, 0, [], t0)
theorem rByte_calls {w0 w : World} {g b : Nat} {t t1 : RS} {r : Int} {op a bb m : Int} {vN vL vE : Value} (h : At w0 w g b t op a bb m vN vL vE) (hr : rByte t = some (r, t1)) :
    Calls Try.prog 48 #[.pointer (some ⟨g, 0, none⟩)] w fun e w' => e = .returned (.int .i64 r) ∧ At w0 w' g b t1 op a bb m vN vL vE ∧ Keep2 w w' g b := by
  refine (instr_reader_byte.calls g _ _ _ r t1.1 t1.2.1 t1.2.2 w0 w h.st h.below hr).mono ?_
  rintro e w' ⟨rfl, hI, hB, hk⟩
  exact ⟨rfl, h.call hI hB hk, .of_but b hk⟩
theorem rBlock_calls {w0 w : World} {g b : Nat} {t t1 : RS} {r : Int} {op a bb m : Int} {vN vL vE : Value} (h : At w0 w g b t op a bb m vN vL vE) (hr : rBlock t = some (r, t1)) :
    Calls Try.prog 58 #[.pointer (some ⟨g, 0, none⟩)] w fun e w' => e = .returned (.int .i64 r) ∧ At w0 w' g b t1 op a bb m vN vL vE ∧ Keep2 w w' g b := by
  refine (instr_reader_block.calls 40 g _ _ _ r t1.1 t1.2.1 t1.2.2 w0 w h.st h.below hr).mono ?_
  rintro e w' ⟨rfl, hI, hB, hk⟩
  exact ⟨rfl, h.call hI hB hk, .of_but b hk⟩
theorem rSigned_calls {w0 w : World} {g b : Nat} {t t1 : RS} {r c : Int} {op a bb m : Int} {vN vL vE : Value} (h : At w0 w g b t op a bb m vN vL vE) (hr : rSigned t c = some (r, t1)) :
    Calls Try.prog 61 #[.pointer (some ⟨g, 0, none⟩), .int .i64 c] w fun e w' => e = .returned (.int .i64 r) ∧ At w0 w' g b t1 op a bb m vN vL vE ∧ Keep2 w w' g b := by
  refine (instr_reader_signed.calls 40 g _ _ _ c r t1.1 t1.2.1 t1.2.2 w0 w h.st h.below hr).mono ?_
  rintro e w' ⟨rfl, hI, hB, hk⟩
  exact ⟨rfl, h.call hI hB hk, .of_but b hk⟩
theorem rLabels_calls {w0 w : World} {g b : Nat} {t t1 : RS} {r : List Int} {op a bb m : Int} {vN vL vE : Value} (h : At w0 w g b t op a bb m vN vL vE) (hr : rLabels t = some (r, t1)) :
    Calls Try.prog 59 #[.pointer (some ⟨g, 0, none⟩)] w fun e w' => ∃ v, e = .returned v ∧ At w0 w' g b t1 op a bb m vN vL vE ∧ Keep2 w w' g b ∧ Kd.R (Kd.int .i64) 3 w' w.heap.size (fun _ => True) v r := by
  refine (instr_reader_labels.calls 1100 g _ _ _ r t1.1 t1.2.1 t1.2.2 w0 w h.st h.below hr).mono ?_
  rintro e w' ⟨v, rfl, hR, hI, hB, hk⟩
  exact ⟨v, rfl, h.call hI hB hk, .of_but b hk, hR⟩
theorem rU_callsR {w0 w : World} {g b : Nat} {t t1 : RS} {r : Int} {op a bb m : Int} {vN vL vE : Value} {base : Nat} {v : Value} {xs : List Int} (h : At w0 w g b t op a bb m vN vL vE) (hr : rU t = some (r, t1)) (hR : Kd.R (Kd.int .i64) 3 w base (fun _ => True) v xs) :
    Calls Try.prog 49 #[.pointer (some ⟨g, 0, none⟩)] w fun e w' => e = .returned (.int .i64 r) ∧ At w0 w' g b t1 op a bb m vN vL vE ∧ Keep2 w w' g b ∧ Kd.R (Kd.int .i64) 3 w' base (fun _ => True) v xs := by
  refine (instr_reader_u.calls 40 g _ _ _ r t1.1 t1.2.1 t1.2.2 w0 w h.st h.below hr).mono ?_
  rintro e w' ⟨rfl, hI, hB, hk⟩
  exact ⟨rfl, h.call hI hB hk, .of_but b hk, Kd.R_drop (Kd.R_keep (h.st.apart hR (by decide)) hk (fun _ hq => hq.2))⟩
set_option maxHeartbeats 8000000 in
set_option maxRecDepth 100000 in
theorem numbers_calls {w0 w : World} {g b : Nat} {t t1 : RS} {op a bb m : Int} {N : List Int} {vL vE : Value} (h : At w0 w g b t op 0 0 0 (.slice none 0 0) vL vE) (hn : numF t op = some (a, bb, m, N, t1)) :
    Calls Try.prog 50 #[.pointer (some ⟨g, 0, none⟩), .pointer (some ⟨b, 0, none⟩)] w fun e w' => e = .returned (.tuple #[]) ∧ ∃ vN, At w0 w' g b t1 op a bb m vN vL vE ∧ Kd.R (Kd.int .i64) 3 w' w.heap.size (fun _ => True) vN N ∧ Keep2 w w' g b := by
  obtain ⟨⟨s1, s2⟩, hs, hn1⟩ := Option.bind_eq_some_iff.mp hn
  obtain ⟨t0, ht0, hn2⟩ := Option.bind_eq_some_iff.mp hn1
  clear hn hn1
  go_enter Try.func50, Try.ntmps50
  have c0 : w.cell? ⟨b, 0, none⟩ = some (.int .i64 op) := blk_cell h.box 0
  go_upto_block 0 with (first
    | (go_at_call 10; (with_reducible refine (instr_Shape.calls 40 op s1 s2 _ hs).mono ?_); rintro e w' ⟨rfl, ⟨nd, rfl⟩⟩; have h1 := h.drewN nd; have k1 : Keep2 w (w.drewN nd) g b := ⟨Nat.le_refl _, fun _ _ _ _ => rfl⟩)
    | (go_at_call 36; (with_reducible refine (rFail_calls h1 ht0).mono ?_); rintro e w3 ⟨rfl, h3, k3'⟩; have k3 := k1.trans k3'))
  have c3 : w3.cell? ⟨b, 0, none⟩ = some (.int .i64 op) := blk_cell h3.box 0
  have hle := k3.1
  clear h1 k1 k3' c0
  by_cases hs2 : s1 = 2
  · subst hs2
    obtain ⟨⟨x1, t2⟩, hx, hn3⟩ := Option.bind_eq_some_iff.mp (show (rBlock t0).bind (fun x => some (x.1, 0, 0, [], x.2)) = some (a, bb, m, N, t1) from hn2)
    simp only [Option.some.injEq, Prod.mk.injEq] at hn3
    obtain ⟨rfl, rfl, rfl, rfl, rfl⟩ := hn3
    go_wp2_with (first | (go_at_call 58; (with_reducible refine (rBlock_calls h3 hx).mono ?_); rintro e w1 ⟨rfl, h4, k4⟩; have c1 : w1.cell? ⟨b, 1, none⟩ = some (.int .i64 0) := blk_cell h4.box 1; have f1 : w1.frozen? ⟨b, 1, none⟩ = false := blk_frozen h4.box 1))
    first | go_end0 | ((try simp only [Exit.inBlock, Exit.then]); refine bodyPost_ret (results_none rfl _ _ _) rfl ?_)
    exact ⟨rfl, _, h4.set1 _, Kd.R_nil _ _ _ _ _, (k3.trans k4).set 1 _⟩
  have e2 : (s1 == 2) = false := beq_eq_false_iff_ne.mpr hs2
  by_cases hs3 : s1 = 3
  · subst hs3
    obtain ⟨⟨x1, t2⟩, hx, hn3⟩ := Option.bind_eq_some_iff.mp (show (rU t0).bind (fun x => some (x.1, 0, 0, [], x.2)) = some (a, bb, m, N, t1) from hn2)
    simp only [Option.some.injEq, Prod.mk.injEq] at hn3
    obtain ⟨rfl, rfl, rfl, rfl, rfl⟩ := hn3
    go_wp2_with (first | (go_at_call 49; (with_reducible refine (rU_calls h3 hx).mono ?_); rintro e w1 ⟨rfl, h4, k4⟩; have c1 : w1.cell? ⟨b, 1, none⟩ = some (.int .i64 0) := blk_cell h4.box 1; have f1 : w1.frozen? ⟨b, 1, none⟩ = false := blk_frozen h4.box 1))
    first | go_end0 | ((try simp only [Exit.inBlock, Exit.then]); refine bodyPost_ret (results_none rfl _ _ _) rfl ?_)
    exact ⟨rfl, _, h4.set1 _, Kd.R_nil _ _ _ _ _, (k3.trans k4).set 1 _⟩
  have e3 : (s1 == 3) = false := beq_eq_false_iff_ne.mpr hs3
  by_cases hs5 : s1 = 5
  · subst hs5
    obtain ⟨⟨x1, t2⟩, hx, hn3⟩ := Option.bind_eq_some_iff.mp (show (rU t0).bind (fun x => (rU x.2).bind fun y => some (x.1, 0, y.1, [], y.2)) = some (a, bb, m, N, t1) from hn2)
    obtain ⟨⟨y1, t4⟩, hy, hn4⟩ := Option.bind_eq_some_iff.mp hn3
    simp only [Option.some.injEq, Prod.mk.injEq] at hn4
    obtain ⟨rfl, rfl, rfl, rfl, rfl⟩ := hn4
    go_upto_region 12 with (first | (go_at_call 49; (with_reducible refine (rU_calls h3 hx).mono ?_); rintro e w1 ⟨rfl, h4, k4⟩; have c1 : w1.cell? ⟨b, 1, none⟩ = some (.int .i64 0) := blk_cell h4.box 1; have f1 : w1.frozen? ⟨b, 1, none⟩ = false := blk_frozen h4.box 1))
    have h5 := h4.set1 x1
    have k5 := (k3.trans k4).set 1 (.int .i64 x1)
    go_wp2_with (first | (go_at_call 49; (with_reducible refine (rU_calls h5 hy).mono ?_); rintro e w1 ⟨rfl, h6, k6⟩; have c1 : w1.cell? ⟨b, 3, none⟩ = some (.int .i64 0) := blk_cell h6.box 3; have f1 : w1.frozen? ⟨b, 3, none⟩ = false := blk_frozen h6.box 3))
    first | go_end0 | ((try simp only [Exit.inBlock, Exit.then]); refine bodyPost_ret (results_none rfl _ _ _) rfl ?_)
    exact ⟨rfl, _, h6.set3 _, Kd.R_nil _ _ _ _ _, (k5.trans k6).set 3 _⟩
  have e5 : (s1 == 5) = false := beq_eq_false_iff_ne.mpr hs5
  by_cases hs8 : s1 = 8
  · subst hs8
    obtain ⟨⟨x1, t2⟩, hx, hn3⟩ := Option.bind_eq_some_iff.mp (show (rU t0).bind (fun x => some (0, 0, x.1, [], x.2)) = some (a, bb, m, N, t1) from hn2)
    simp only [Option.some.injEq, Prod.mk.injEq] at hn3
    obtain ⟨rfl, rfl, rfl, rfl, rfl⟩ := hn3
    go_wp2_with (first | (go_at_call 49; (with_reducible refine (rU_calls h3 hx).mono ?_); rintro e w1 ⟨rfl, h4, k4⟩; have c1 : w1.cell? ⟨b, 3, none⟩ = some (.int .i64 0) := blk_cell h4.box 3; have f1 : w1.frozen? ⟨b, 3, none⟩ = false := blk_frozen h4.box 3))
    first | go_end0 | ((try simp only [Exit.inBlock, Exit.then]); refine bodyPost_ret (results_none rfl _ _ _) rfl ?_)
    exact ⟨rfl, _, h4.set3 _, Kd.R_nil _ _ _ _ _, (k3.trans k4).set 3 _⟩
  have e8 : (s1 == 8) = false := beq_eq_false_iff_ne.mpr hs8
  by_cases hs9 : s1 = 9
  · subst hs9
    obtain ⟨⟨x1, t2⟩, hx, hn3⟩ := Option.bind_eq_some_iff.mp (show (rU t0).bind (fun x => (rU x.2).bind fun y => some (y.1, 0, x.1, [], y.2)) = some (a, bb, m, N, t1) from hn2)
    obtain ⟨⟨y1, t4⟩, hy, hn4⟩ := Option.bind_eq_some_iff.mp hn3
    simp only [Option.some.injEq, Prod.mk.injEq] at hn4
    obtain ⟨rfl, rfl, rfl, rfl, rfl⟩ := hn4
    go_upto_region 25 with (first | (go_at_call 49; (with_reducible refine (rU_calls h3 hx).mono ?_); rintro e w1 ⟨rfl, h4, k4⟩; have c1 : w1.cell? ⟨b, 3, none⟩ = some (.int .i64 0) := blk_cell h4.box 3; have f1 : w1.frozen? ⟨b, 3, none⟩ = false := blk_frozen h4.box 3))
    have h5 := h4.set3 x1
    have k5 := (k3.trans k4).set 3 (.int .i64 x1)
    go_wp2_with (first | (go_at_call 49; (with_reducible refine (rU_calls h5 hy).mono ?_); rintro e w1 ⟨rfl, h6, k6⟩; have c1 : w1.cell? ⟨b, 1, none⟩ = some (.int .i64 0) := blk_cell h6.box 1; have f1 : w1.frozen? ⟨b, 1, none⟩ = false := blk_frozen h6.box 1))
    first | go_end0 | ((try simp only [Exit.inBlock, Exit.then]); refine bodyPost_ret (results_none rfl _ _ _) rfl ?_)
    exact ⟨rfl, _, h6.set1 _, Kd.R_nil _ _ _ _ _, (k5.trans k6).set 1 _⟩
  have e9 : (s1 == 9) = false := beq_eq_false_iff_ne.mpr hs9
  by_cases hs10 : s1 = 10
  · subst hs10
    obtain ⟨⟨x1, t2⟩, hx, hn3⟩ := Option.bind_eq_some_iff.mp (show (rSigned t0 (wrap64 (32 + wrap64 (32 * wrap64 (op - 65))))).bind (fun x => some (x.1, 0, 0, [], x.2)) = some (a, bb, m, N, t1) from hn2)
    simp only [Option.some.injEq, Prod.mk.injEq] at hn3
    obtain ⟨rfl, rfl, rfl, rfl, rfl⟩ := hn3
    go_wp2_with (first | (go_at_call 61; (with_reducible refine (rSigned_calls h3 hx).mono ?_); rintro e w1 ⟨rfl, h4, k4⟩; have c1 : w1.cell? ⟨b, 1, none⟩ = some (.int .i64 0) := blk_cell h4.box 1; have f1 : w1.frozen? ⟨b, 1, none⟩ = false := blk_frozen h4.box 1))
    first | go_end0 | ((try simp only [Exit.inBlock, Exit.then]); refine bodyPost_ret (results_none rfl _ _ _) rfl ?_)
    exact ⟨rfl, _, h4.set1 _, Kd.R_nil _ _ _ _ _, (k3.trans k4).set 1 _⟩
  have e10 : (s1 == 10) = false := beq_eq_false_iff_ne.mpr hs10
  by_cases hs7 : s1 = 7
  · subst hs7
    obtain ⟨⟨x1, y1, z1, t2⟩, hx, hn3⟩ := Option.bind_eq_some_iff.mp (show (placeF t0).bind (fun x => some (x.1, x.2.1, x.2.2.1, ([] : List Int), x.2.2.2)) = some (a, bb, m, N, t1) from hn2)
    simp only [Option.some.injEq, Prod.mk.injEq] at hn3
    obtain ⟨rfl, rfl, rfl, rfl, rfl⟩ := hn3
    go_wp2_with (first | (go_at_call 60; (with_reducible refine (place_calls h3 hx).mono ?_); rintro e w1 ⟨rfl, h4, k4⟩))
    first | go_end0 | ((try simp only [Exit.inBlock, Exit.then]); refine bodyPost_ret (results_none rfl _ _ _) rfl ?_)
    exact ⟨rfl, _, h4, Kd.R_nil _ _ _ _ _, k3.trans k4⟩
  have e7 : (s1 == 7) = false := beq_eq_false_iff_ne.mpr hs7
  by_cases hs4 : s1 = 4
  · subst hs4
    obtain ⟨⟨x1, t2⟩, hx, hn3⟩ := Option.bind_eq_some_iff.mp (show (rLabels t0).bind (fun x => (rU x.2).bind fun y => some (y.1, 0, 0, x.1, y.2)) = some (a, bb, m, N, t1) from hn2)
    obtain ⟨⟨y1, t4⟩, hy, hn4⟩ := Option.bind_eq_some_iff.mp hn3
    simp only [Option.some.injEq, Prod.mk.injEq] at hn4
    obtain ⟨rfl, rfl, rfl, rfl, rfl⟩ := hn4
    go_upto_region 9 with (first | (go_at_call 59; (with_reducible refine (rLabels_calls h3 hx).mono ?_); rintro e w4 ⟨vN, rfl, h4, k4, hR4⟩; have c1 : w4.cell? ⟨b, 4, none⟩ = some (.slice none 0 0) := blk_cell h4.box 4; have f1 : w4.frozen? ⟨b, 4, none⟩ = false := blk_frozen h4.box 4; obtain ⟨AN, cN, rfl⟩ := Kd.R_slice hR4))
    have h5 := h4.set4 (.slice AN x1.length cN)
    have k5 := (k3.trans k4).set 4 (.slice AN x1.length cN)
    have hR5 := Kd.R_set hR4 h4.box (by decide) 4 (.slice AN x1.length cN)
    go_wp2_with (first | (go_at_call 49; (with_reducible refine (rU_callsR h5 hy hR5).mono ?_); rintro e w6 ⟨rfl, h6, k6, hR6⟩; have c2 : w6.cell? ⟨b, 1, none⟩ = some (.int .i64 0) := blk_cell h6.box 1; have f2 : w6.frozen? ⟨b, 1, none⟩ = false := blk_frozen h6.box 1))
    first | go_end0 | ((try simp only [Exit.inBlock, Exit.then]); refine bodyPost_ret (results_none rfl _ _ _) rfl ?_)
    exact ⟨rfl, _, h6.set1 _, Kd.R_lower (Kd.R_set hR6 h6.box (by decide) 1 _) hle, (k5.trans k6).set 1 _⟩
  have e4 : (s1 == 4) = false := beq_eq_false_iff_ne.mpr hs4
  by_cases hs6 : s1 = 6
  · subst hs6
    obtain ⟨⟨x1, t2⟩, hx, hn3⟩ := Option.bind_eq_some_iff.mp (show (rU t0).bind (fun x => (if x.1 = 1 then some x.2 else rFail x.2 2).bind fun t2 => (rByte t2).bind fun y => (instr_Type.f 5 y.1).bind fun z => (rFail y.2 z.2).bind fun t3 => some (z.1, 0, 0, ([] : List Int), t3)) = some (a, bb, m, N, t1) from hn2)
    obtain ⟨t4, ht4, hn4⟩ := Option.bind_eq_some_iff.mp hn3
    obtain ⟨⟨y1, t5⟩, hy, hn5⟩ := Option.bind_eq_some_iff.mp hn4
    obtain ⟨⟨z1, z2⟩, hz, hn6⟩ := Option.bind_eq_some_iff.mp hn5
    obtain ⟨t6, ht3, hn7⟩ := Option.bind_eq_some_iff.mp hn6
    simp only [Option.some.injEq, Prod.mk.injEq] at hn7
    obtain ⟨rfl, rfl, rfl, rfl, rfl⟩ := hn7
    clear hn2 hn3 hn4 hn5 hn6
    by_cases hx1 : x1 = 1
    · have ht4 : (if x1 = 1 then some t2 else rFail t2 2) = some t4 := ht4
      rw [if_pos hx1] at ht4
      obtain rfl := Option.some.inj ht4
      have q1 : (x1 != 1) = false := by rw [hx1]; rfl
      go_upto_region 16 with (first | (go_at_call 49; (with_reducible refine (rU_calls h3 hx).mono ?_); rintro e w5 ⟨rfl, h5, k5⟩))
      go_upto_region 17 with (first
        | (go_at_call 48; (with_reducible refine (rByte_calls h5 hy).mono ?_); rintro e w6 ⟨rfl, h6, k6⟩)
        | (go_at_call 12; (with_reducible refine (instr_Type.calls 5 y1 z1 z2 _ hz).mono ?_); rintro e w' ⟨rfl, ⟨nd, rfl⟩⟩; have h7 := h6.drewN nd))
      have k7 : Keep2 w _ g b := ((k3.trans k5).trans k6)
      go_upto_region 18 with (first | (go_at_call 36; (with_reducible refine (rFail_calls h7 ht3).mono ?_); rintro e w8 ⟨rfl, h8, k8⟩))
      have k8' : Keep2 w w8 g b := k7.trans k8
      have c8 : w8.cell? ⟨b, 1, none⟩ = some (.int .i64 0) := blk_cell h8.box 1
      have f8 : w8.frozen? ⟨b, 1, none⟩ = false := blk_frozen h8.box 1
      go_wp2
      first | go_end0 | ((try simp only [Exit.inBlock, Exit.then]); refine bodyPost_ret (results_none rfl _ _ _) rfl ?_)
      exact ⟨rfl, _, h8.set1 _, Kd.R_nil _ _ _ _ _, k8'.set 1 _⟩
    · have ht4 : (if x1 = 1 then some t2 else rFail t2 2) = some t4 := ht4
      have hf4 : rFail t2 2 = some t4 := by rw [if_neg hx1] at ht4; exact ht4
      have q1 : (x1 != 1) = true := by simp [hx1]
      go_upto_region 16 with (first | (go_at_call 49; (with_reducible refine (rU_calls h3 hx).mono ?_); rintro e w4 ⟨rfl, h4, k4⟩) | (go_at_call 36; (with_reducible refine (rFail_calls h4 hf4).mono ?_); rintro e w5 ⟨rfl, h5, k5⟩))
      go_upto_region 17 with (first
        | (go_at_call 48; (with_reducible refine (rByte_calls h5 hy).mono ?_); rintro e w6 ⟨rfl, h6, k6⟩)
        | (go_at_call 12; (with_reducible refine (instr_Type.calls 5 y1 z1 z2 _ hz).mono ?_); rintro e w' ⟨rfl, ⟨nd, rfl⟩⟩; have h7 := h6.drewN nd))
      have k7 : Keep2 w _ g b := (((k3.trans k4).trans k5).trans k6)
      go_upto_region 18 with (first | (go_at_call 36; (with_reducible refine (rFail_calls h7 ht3).mono ?_); rintro e w8 ⟨rfl, h8, k8⟩))
      have k8' : Keep2 w w8 g b := k7.trans k8
      have c8 : w8.cell? ⟨b, 1, none⟩ = some (.int .i64 0) := blk_cell h8.box 1
      have f8 : w8.frozen? ⟨b, 1, none⟩ = false := blk_frozen h8.box 1
      go_wp2
      first | go_end0 | ((try simp only [Exit.inBlock, Exit.then]); refine bodyPost_ret (results_none rfl _ _ _) rfl ?_)
      exact ⟨rfl, _, h8.set1 _, Kd.R_nil _ _ _ _ _, k8'.set 1 _⟩
  have e6 : (s1 == 6) = false := beq_eq_false_iff_ne.mpr hs6
  by_cases hs11 : s1 = 11
  · subst hs11
    obtain ⟨⟨y1, t5⟩, hy, hn5⟩ := Option.bind_eq_some_iff.mp (show (rByte t0).bind (fun y => (instr_Type.f 5 y.1).bind fun z => (rFail y.2 z.2).bind fun t3 => (if z.1 = 112 then some t3 else rFail t3 2).bind fun t4 => some (0, 0, 0, ([] : List Int), t4)) = some (a, bb, m, N, t1) from hn2)
    obtain ⟨⟨z1, z2⟩, hz, hn6⟩ := Option.bind_eq_some_iff.mp hn5
    obtain ⟨t6, ht3, hn7⟩ := Option.bind_eq_some_iff.mp hn6
    obtain ⟨t7, ht7, hn8⟩ := Option.bind_eq_some_iff.mp hn7
    simp only [Option.some.injEq, Prod.mk.injEq] at hn8
    obtain ⟨rfl, rfl, rfl, rfl, rfl⟩ := hn8
    replace ht7 : (if z1 = 112 then some t6 else rFail t6 2) = some t7 := ht7
    clear hn2 hn5 hn6 hn7
    go_upto_region 30 with (first
      | (go_at_call 48; (with_reducible refine (rByte_calls h3 hy).mono ?_); rintro e w6 ⟨rfl, h6, k6⟩)
      | (go_at_call 12; (with_reducible refine (instr_Type.calls 5 y1 z1 z2 _ hz).mono ?_); rintro e w' ⟨rfl, ⟨nd, rfl⟩⟩; have h7 := h6.drewN nd))
    have k7 : Keep2 w _ g b := k3.trans k6
    go_upto_region 31 with (first | (go_at_call 36; (with_reducible refine (rFail_calls h7 ht3).mono ?_); rintro e w8 ⟨rfl, h8, k8⟩))
    have k8' : Keep2 w w8 g b := k7.trans k8
    by_cases hz1 : z1 = 112
    · rw [if_pos hz1] at ht7
      obtain rfl := Option.some.inj ht7
      have q1 : (z1 != 112) = false := by rw [hz1]; rfl
      go_wp2
      first | go_end0 | ((try simp only [Exit.inBlock, Exit.then]); refine bodyPost_ret (results_none rfl _ _ _) rfl ?_)
      exact ⟨rfl, _, h8, Kd.R_nil _ _ _ _ _, k8'⟩
    · rw [if_neg hz1] at ht7
      have q1 : (z1 != 112) = true := by simp [hz1]
      go_wp2_with (first | (go_at_call 36; (with_reducible refine (rFail_calls h8 ht7).mono ?_); rintro e w9 ⟨rfl, h9, k9⟩))
      first | go_end0 | ((try simp only [Exit.inBlock, Exit.then]); refine bodyPost_ret (results_none rfl _ _ _) rfl ?_)
      exact ⟨rfl, _, h9, Kd.R_nil _ _ _ _ _, k8'.trans k9⟩
  have e11 : (s1 == 11) = false := beq_eq_false_iff_ne.mpr hs11
  have hn3 : some ((0 : Int), (0 : Int), (0 : Int), ([] : List Int), t0) = some (a, bb, m, N, t1) := by
    rw [← hn2, if_neg hs2, if_neg hs3, if_neg hs4, if_neg hs5, if_neg hs6, if_neg hs7, if_neg hs8, if_neg hs9, if_neg hs10, if_neg hs11]
  simp only [Option.some.injEq, Prod.mk.injEq] at hn3
  obtain ⟨rfl, rfl, rfl, rfl, rfl⟩ := hn3
  go_wp2
  first | go_end0 | ((try simp only [Exit.inBlock, Exit.then]); refine bodyPost_ret (results_none rfl _ _ _) rfl ?_)
  exact ⟨rfl, _, h3, Kd.R_nil _ _ _ _ _, k3⟩
theorem At.set0 {w0 w : World} {g b : Nat} {t : RS} {op a bb m : Int} {vN vL vE : Value} (h : At w0 w g b t op a bb m vN vL vE) (x : Int) : At w0 (w.setCell ⟨b, 0, none⟩ (.int .i64 x)) g b t x a bb m vN vL vE := ⟨h.st.far (Ne.symm h.ne) _, below_set h.below h.ge, h.box.set0 x, h.ne, h.ge⟩
theorem At.set5 {w0 w : World} {g b : Nat} {t : RS} {op a bb m : Int} {vN vL vE : Value} (h : At w0 w g b t op a bb m vN vL vE) (v : Value) : At w0 (w.setCell ⟨b, 5, none⟩ v) g b t op a bb m vN v vE := ⟨h.st.far (Ne.symm h.ne) _, below_set h.below h.ge, h.box.set5 v, h.ne, h.ge⟩
theorem At.set6 {w0 w : World} {g b : Nat} {t : RS} {op a bb m : Int} {vN vL vE : Value} (h : At w0 w g b t op a bb m vN vL vE) (v : Value) : At w0 (w.setCell ⟨b, 6, none⟩ v) g b t op a bb m vN vL v := ⟨h.st.far (Ne.symm h.ne) _, below_set h.below h.ge, h.box.set6 v, h.ne, h.ge⟩
theorem At.setn {w0 w : World} {g b : Nat} {t : RS} {op a bb m : Int} {vN vL vE : Value} (h : At w0 w g b t op a bb m vN vL vE) (x : Int) : At w0 (w.setCell ⟨g, 1, none⟩ (.int .i64 x)) g b (t.1, x, t.2.2) op a bb m vN vL vE := ⟨h.st.set_1 x, below_set h.below h.st.ge, blk_far h.box h.ne _, h.ne, h.ge⟩
/-- A row of the call's own that lies between two bounds: a call that leaves all but the reader and the block b keeps it. -/
theorem R_keep2 {α : Type} {d : Kd α} {e base : Nat} {ok : Nat → Prop} {w w1 : World} {v : Value} {xs : List α} {g b : Nat} (h : d.R e w base ok v xs) (hk : Keep2 w w1 g b) (hg : g < base) (hb : ∀ k, ok k → base ≤ k → k ≠ b) : d.R e w1 base ok v xs :=
  Kd.R_mono (Kd.R_step (Kd.R_bound h) (fun k ho hlt => hk.2 k hlt (by have := ho.2.1; omega) (hb k ho.1 ho.2.1))) (fun _ hk => hk.1)
theorem R_farb {α : Type} {d : Kd α} {e base : Nat} {ok : Nat → Prop} {w : World} {v : Value} {xs : List α} {b : Nat} (h : d.R e w base ok v xs) (hb : ∀ k, ok k → base ≤ k → k ≠ b) (j : Nat) (u : Value) : d.R e (w.setCell ⟨b, j, none⟩ u) base ok v xs :=
  Kd.R_mono (Kd.R_far (p := ⟨b, j, none⟩) (Kd.R_bound h) (fun k ho => hb k ho.1 ho.2.1) u) (fun _ hk => hk.1)
/-- Which opcodes have instructions within. -/
def blk (op : Int) : Bool := decide (2 ≤ op) && decide (op ≤ 4)
theorem blk_at (op : Int) : instr_isBlock.f op = some (blk op) := by
  unfold instr_isBlock.f blk
  by_cases h : op ≥ 2
  · have h' : 2 ≤ op := h
    rw [if_pos h]; simp [h']
  · have h' : ¬ 2 ≤ op := h
    rw [if_neg h]; simp [h']
theorem blk_calls (a : Int) (w : World) : Calls Try.prog 46 #[.int .i64 a] w fun e w' => e = .returned (.bool (blk a)) ∧ Drawn0 w w' := instr_isBlock.calls a _ w (blk_at a)
/-- What is read up to an end, or an else: behind what was read. -/
def listL : Nat → RS → Int → List S54 → Option (List S54 × Int × RS)
  | 0, _, _, _ => none
  | k + 1, t, deep, acc =>
    if t.2.2 = 0 then
      (rByte t).bind fun x =>
        if x.1 = 11 ∨ x.1 = 5 then some (acc, x.1, x.2)
        else (if x.1 = 252 then (rU x.2).bind fun y => some (wrap64 (64512 + y.1), y.2) else some (x.1, x.2)).bind fun o =>
          (numF o.2 o.1).bind fun q =>
            (if q.2.2.2.2.2.2 = 0 ∧ (wrap64 (q.2.2.2.2.2.1 + 1) > 8192 ∨ (blk o.1 = true ∧ deep = 32)) then rFail (q.2.2.2.2.1, wrap64 (q.2.2.2.2.2.1 + 1), q.2.2.2.2.2.2) 14 else some (q.2.2.2.2.1, wrap64 (q.2.2.2.2.2.1 + 1), q.2.2.2.2.2.2)).bind fun t5 =>
              (if t5.2.2 = 0 ∧ blk o.1 = true then
                (listL k t5 (wrap64 (deep + 1)) []).bind fun L =>
                  if L.2.1 = 5 then
                    (if o.1 = 4 then some L.2.2 else rFail L.2.2 2).bind fun t7 =>
                      (listL k t7 (wrap64 (deep + 1)) []).bind fun E =>
                        (if E.2.1 = 5 then rFail E.2.2 2 else some E.2.2).bind fun t9 => some (L.1, E.1, t9)
                  else some (L.1, [], L.2.2)
              else some ([], [], t5)).bind fun z =>
                if (acc.length + 1) * 104 ≤ 140737488355328 then listL k z.2.2 deep (acc ++ [⟨o.1, q.1, q.2.1, q.2.2.1, q.2.2.2.1, z.1, z.2.1⟩]) else none
    else some ([], 11, t)
theorem Keep2.setg (w : World) (g b j : Nat) (u : Value) : Keep2 w (w.setCell ⟨g, j, none⟩ u) g b := ⟨by simp [World.setCell], fun i _ hg _ => Below.heap_setCell w ⟨g, j, none⟩ u i hg⟩
/-- What is held while an instruction is read: the reader, the instruction's block b, its rows, and the list so far. -/
structure Hold (w w0 wc : World) (g b : Nat) (t : RS) (op a bb m : Int) (vN vL vE vA : Value) (N : List Int) (L E acc : List S54) : Prop where
  at_ : At w0 wc g b t op a bb m vN vL vE
  keep : KeepBut w wc g none
  acc : Kd.R k54 54 wc w.heap.size (fun k => k < b) vA acc
  rN : Kd.R (Kd.int .i64) 3 wc w.heap.size (fun k => b < k) vN N
  rL : Kd.R k54 54 wc w.heap.size (fun k => b < k) vL L
  rE : Kd.R k54 54 wc w.heap.size (fun k => b < k) vE E
  hb : w.heap.size ≤ b
  hg : g < w.heap.size
theorem Hold.lt {w w0 wc : World} {g b : Nat} {t : RS} {op a bb m : Int} {vN vL vE vA : Value} {N : List Int} {L E acc : List S54} (h : Hold w w0 wc g b t op a bb m vN vL vE vA N L E acc) : b < wc.heap.size := blk_lt h.at_.box
theorem keep_two {w w1 w2 : World} {g b : Nat} (h : KeepBut w w1 g none) (k : Keep2 w1 w2 g b) (hb : w.heap.size ≤ b) : KeepBut w w2 g none :=
  ⟨Nat.le_trans h.1 k.1, fun i hi hg hr => (k.2 i (Nat.lt_of_lt_of_le hi h.1) hg (by omega)).trans (h.2 i hi hg hr)⟩
theorem Hold.step {w w0 wc wd : World} {g b : Nat} {t t' : RS} {op a bb m op' a' bb' m' : Int} {vN vL vE vA : Value} {N : List Int} {L E acc : List S54} (h : Hold w w0 wc g b t op a bb m vN vL vE vA N L E acc)
    (ha : At w0 wd g b t' op' a' bb' m' vN vL vE) (hk : Keep2 wc wd g b) : Hold w w0 wd g b t' op' a' bb' m' vN vL vE vA N L E acc :=
  ⟨ha, keep_two h.keep hk h.hb, R_keep2 h.acc hk h.hg (fun k hk _ => by omega), R_keep2 h.rN hk h.hg (fun k hk _ => by omega), R_keep2 h.rL hk h.hg (fun k hk _ => by omega), R_keep2 h.rE hk h.hg (fun k hk _ => by omega), h.hb, h.hg⟩
theorem R_new {α : Type} {d : Kd α} {e base b : Nat} {w w1 : World} {v : Value} {xs : List α} (h : d.R e w1 w.heap.size (fun _ => True) v xs) (hb : b < w.heap.size) (hl : base ≤ w.heap.size) : d.R e w1 base (fun k => b < k) v xs :=
  Kd.R_mono (Kd.R_bound (Kd.R_lower (Kd.R_mono (Kd.R_bound h) (ok' := fun k => b < k) (fun k hk => by have := hk.2.1; omega)) hl)) (fun _ hk => hk.1)
theorem Hold.setN {w w0 wc wd : World} {g b : Nat} {t t' : RS} {op a bb m op' a' bb' m' : Int} {vN vN' vL vE vA : Value} {N N' : List Int} {L E acc : List S54} (h : Hold w w0 wc g b t op a bb m vN vL vE vA N L E acc)
    (ha : At w0 wd g b t' op' a' bb' m' vN' vL vE) (hR : Kd.R (Kd.int .i64) 3 wd wc.heap.size (fun _ => True) vN' N') (hk : Keep2 wc wd g b) : Hold w w0 wd g b t' op' a' bb' m' vN' vL vE vA N' L E acc :=
  ⟨ha, keep_two h.keep hk h.hb, R_keep2 h.acc hk h.hg (fun k hk _ => by omega), R_new hR h.lt h.keep.1, R_keep2 h.rL hk h.hg (fun k hk _ => by omega), R_keep2 h.rE hk h.hg (fun k hk _ => by omega), h.hb, h.hg⟩
theorem Hold.setL {w w0 wc wd : World} {g b : Nat} {t t' : RS} {op a bb m : Int} {vN vL vL' vE vA : Value} {N : List Int} {L L' E acc : List S54} (h : Hold w w0 wc g b t op a bb m vN vL vE vA N L E acc)
    (hI : IsS69 w0 wd g t'.1 t'.2.1 t'.2.2) (hB : Below w0.heap.size w0 wd) (hk : KeepBut wc wd g none) (hR : Kd.R k54 54 wd wc.heap.size (fun _ => True) vL' L') : Hold w w0 (wd.setCell ⟨b, 5, none⟩ vL') g b t' op a bb m vN vL' vE vA N L' E acc := by
  have h1 := h.step (h.at_.call hI hB hk) (.of_but b hk)
  have hR1 := R_new hR h.lt h.keep.1
  exact ⟨h1.at_.set5 vL', keep_two h1.keep ((Keep2.refl wd g b).set 5 vL') h.hb, R_farb h1.acc (fun k hk _ => by omega) _ _, R_farb h1.rN (fun k hk _ => by omega) _ _, R_farb hR1 (fun k hk _ => by omega) _ _, R_farb h1.rE (fun k hk _ => by omega) _ _, h.hb, h.hg⟩
theorem Hold.setE {w w0 wc wd : World} {g b : Nat} {t t' : RS} {op a bb m : Int} {vN vL vE vE' vA : Value} {N : List Int} {L E E' acc : List S54} (h : Hold w w0 wc g b t op a bb m vN vL vE vA N L E acc)
    (hI : IsS69 w0 wd g t'.1 t'.2.1 t'.2.2) (hB : Below w0.heap.size w0 wd) (hk : KeepBut wc wd g none) (hR : Kd.R k54 54 wd wc.heap.size (fun _ => True) vE' E') : Hold w w0 (wd.setCell ⟨b, 6, none⟩ vE') g b t' op a bb m vN vL vE' vA N L E' acc := by
  have h1 := h.step (h.at_.call hI hB hk) (.of_but b hk)
  have hR1 := R_new hR h.lt h.keep.1
  exact ⟨h1.at_.set6 vE', keep_two h1.keep ((Keep2.refl wd g b).set 6 vE') h.hb, R_farb h1.acc (fun k hk _ => by omega) _ _, R_farb h1.rN (fun k hk _ => by omega) _ _, R_farb h1.rL (fun k hk _ => by omega) _ _, R_farb hR1 (fun k hk _ => by omega) _ _, h.hb, h.hg⟩
theorem Hold.new {w w0 wc : World} {g : Nat} {t : RS} {vA : Value} {acc : List S54} (op : Int) (hI : IsS69 w0 wc g t.1 t.2.1 t.2.2) (hB : Below w0.heap.size w0 wc) (hk : KeepBut w wc g none) (hA : Kd.R k54 54 wc w.heap.size (fun _ => True) vA acc) (hg : g < w.heap.size) :
    Hold w w0 (wc.alloc (.cells #[.int .i64 op, .int .i64 0, .int .i64 0, .int .i64 0, .slice none 0 0, .slice none 0 0, .slice none 0 0] 54)) g wc.heap.size t op 0 0 0 (.slice none 0 0) (.slice none 0 0) (.slice none 0 0) vA [] [] [] acc := by
  have hk2 : Below wc.heap.size wc (wc.alloc (.cells #[.int .i64 op, .int .i64 0, .int .i64 0, .int .i64 0, .slice none 0 0, .slice none 0 0, .slice none 0 0] 54)) := below_alloc (Below.refl _ _) _
  have hw0 := hB.size
  have hsz := hk.1
  refine ⟨⟨hI.alloc _, below_alloc hB _, ?_, ?_, ?_⟩, ?_, ?_, Kd.R_nil _ _ _ _ _, Kd.R_nil _ _ _ _ _, Kd.R_nil _ _ _ _ _, hsz, hg⟩
  · exact heap_alloc_new wc _
  · omega
  · omega
  · exact hk.trans (KeepBut.of_below hk2 g none) (.inl rfl)
  · exact Kd.R_mono (Kd.R_step (Kd.R_mono (Kd.R_bound hA) (ok' := fun k => k < wc.heap.size) (fun k hk => hk.2.2.1)) (fun k ho hlt => hk2.block k hlt)) (fun _ hk => hk)
/-- What a call hands back. -/
def Ret (w w0 wc : World) (g : Nat) (t1 : RS) (v : Value) (r1 : List S54) : Prop := Kd.R k54 54 wc w.heap.size (fun _ => True) v r1 ∧ IsS69 w0 wc g t1.1 t1.2.1 t1.2.2 ∧ Below w0.heap.size w0 wc ∧ KeepBut w wc g none
theorem Hold.ret {w w0 wc : World} {g b : Nat} {t : RS} {op a bb m : Int} {vN vL vE vA : Value} {N : List Int} {L E acc : List S54} (h : Hold w w0 wc g b t op a bb m vN vL vE vA N L E acc) : Ret w w0 wc.drew g t vA acc := ⟨Kd.R_drew (Kd.R_mono h.acc (fun _ _ => trivial)), h.at_.st.drew, below_drew1 h.at_.below, h.keep⟩
theorem byte0_calls {w0 w : World} {g : Nat} {t t1 : RS} {r : Int} (hI : IsS69 w0 w g t.1 t.2.1 t.2.2) (hB : Below w0.heap.size w0 w) (hr : rByte t = some (r, t1)) :
    Calls Try.prog 48 #[.pointer (some ⟨g, 0, none⟩)] w fun e w' => e = .returned (.int .i64 r) ∧ IsS69 w0 w' g t1.1 t1.2.1 t1.2.2 ∧ Below w0.heap.size w0 w' ∧ KeepBut w w' g none :=
  instr_reader_byte.calls g _ _ _ r t1.1 t1.2.1 t1.2.2 w0 w hI hB hr
set_option maxHeartbeats 8000000 in
set_option maxRecDepth 100000 in
theorem list_calls (k : Nat) : ∀ (g : Nat) (t : RS) (deep : Int) (r1 : List S54) (r2 : Int) (t1 : RS) (w0 w : World), IsS69 w0 w g t.1 t.2.1 t.2.2 → Below w0.heap.size w0 w → listL k t deep [] = some (r1, r2, t1) →
    Calls Try.prog 35 #[.pointer (some ⟨g, 0, none⟩), .int .i64 deep] w fun e w' => ∃ v : Value, e = .returned (.tuple #[v, .int .i64 r2]) ∧ Kd.R k54 54 w' w.heap.size (fun _ => True) v r1 ∧ IsS69 w0 w' g t1.1 t1.2.1 t1.2.2 ∧ Below w0.heap.size w0 w' ∧ KeepBut w w' g none := by
  induction k using Nat.strongRecOn with
  | _ k ih =>
    intro g t deep r1 r2 t1 w0 w hI hB h
    have hgl : g < w.heap.size := hI.lt
    have hw0 : w0.heap.size ≤ w.heap.size := hB.size
    go_enter Try.func35, Try.ntmps35
    go_wp2
    go_loopg [6] k (fun kq v6 w' => ∃ (acc : List S54) (tq : RS), Aside0 (listL kq tq deep acc = some (r1, r2, t1)) ∧ Aside0 (kq ≤ k) ∧ Aside0 (Kd.R k54 54 w' w.heap.size (fun _ => True) v6 acc) ∧ Aside0 (IsS69 w0 w' g tq.1 tq.2.1 tq.2.2) ∧ Aside0 (Below w0.heap.size w0 w') ∧ Aside0 (KeepBut w w' g none))
    case atStart => exact ⟨[], t, ⟨h⟩, ⟨Nat.le_refl _⟩, ⟨Kd.R_nil _ _ _ _ _⟩, ⟨hI⟩, ⟨hB⟩, ⟨KeepBut.refl _ _ _⟩⟩
    case round =>
      obtain ⟨acc, tq, hA, hK, HR, HI, HB, HK⟩ := hrel
      cases gk with
      | zero => exact absurd hA.out (by simp [listL])
      | succ k1 =>
        have H := hA.out
        clear hA h
        simp only [listL] at H
        have cg2 : wr.cell? ⟨g, 2, none⟩ = some (.int .i64 tq.2.2) := blk_cell HI.out.1 2
        by_cases ce : tq.2.2 = 0
        · rw [if_pos ce] at H
          have ce' : (tq.2.2 == 0) = true := by rw [ce]; rfl
          obtain ⟨⟨x1, t2⟩, hx, H⟩ := Option.bind_eq_some_iff.mp H
          go_upto_region 4 with (first | (go_at_call 48; (with_reducible refine (byte0_calls HI.out HB.out hx).mono ?_); rintro e w3 ⟨rfl, hI3, hB3, hk3⟩))
          have hR3 : Kd.R k54 54 w3 w.heap.size (fun _ => True) u6 acc := Kd.R_drop (Kd.R_keep (HI.out.apart HR.out (by decide)) hk3 (fun _ hq => hq.2))
          have h4 := Hold.new x1 hI3 hB3 (HK.out.trans hk3 (.inl rfl)) hR3 hgl
          clear HI HB HK HR hI3 hB3 hk3 hR3 hI hB cg2 ce'
          generalize w3.alloc (.cells #[.int .i64 x1, .int .i64 0, .int .i64 0, .int .i64 0, .slice none 0 0, .slice none 0 0, .slice none 0 0] 54) = W4 at h4 ⊢
          generalize w3.heap.size = b at h4 ⊢
          have c4 : W4.cell? ⟨b, 0, none⟩ = some (.int .i64 x1) := blk_cell h4.at_.box 0
          by_cases c115 : x1 = 11 ∨ x1 = 5
          · rw [if_pos c115] at H
            have H1 := Option.some.inj H
            have e1 : acc = r1 := congrArg Prod.fst H1
            have e2 : x1 = r2 := congrArg (fun q => q.2.1) H1
            have e3 : t2 = t1 := congrArg (fun q => q.2.2) H1
            clear H H1
            subst e1 e2 e3
            have hret := h4.ret
            clear h4
            by_cases c11 : x1 = 11
            · have e11 : (x1 == 11) = true := by rw [c11]; rfl
              clear c115 c11
              go_upto_region 5 with (fail)
              go_region_held3 (fun w' => w'.cell? ⟨b, 0, none⟩ = some (.int .i64 x1)) (first | assumption | go_keep) (fail)
              go_wp2
              refine bodyPost_ret (results_list (rs := [.tmp 4, .tmp 5]) rfl (by simp) (.tmp (.tmp .nil))) rfl ?_
              exact ⟨u6, rfl, hret⟩
            · have e11 : (x1 == 11) = false := beq_eq_false_iff_ne.mpr c11
              have e5 : (x1 == 5) = true := by rw [c115.resolve_left c11]; rfl
              clear c115 c11
              go_upto_region 5 with (fail)
              go_region_held3 (fun w' => w'.cell? ⟨b, 0, none⟩ = some (.int .i64 x1)) (first | assumption | go_keep) (fail)
              go_wp2
              refine bodyPost_ret (results_list (rs := [.tmp 4, .tmp 5]) rfl (by simp) (.tmp (.tmp .nil))) rfl ?_
              exact ⟨u6, rfl, hret⟩
          · rw [if_neg c115] at H
            have e11 : (x1 == 11) = false := beq_eq_false_iff_ne.mpr (fun q => c115 (.inl q))
            have e5 : (x1 == 5) = false := beq_eq_false_iff_ne.mpr (fun q => c115 (.inr q))
            clear c115
            obtain ⟨⟨op, t3⟩, ho, H⟩ := Option.bind_eq_some_iff.mp H
            obtain ⟨⟨a1, b1, m1, N1, t4⟩, hq, H⟩ := Option.bind_eq_some_iff.mp H
            obtain ⟨t5, h5, H⟩ := Option.bind_eq_some_iff.mp H
            obtain ⟨⟨LL, EE, t9⟩, hz, H⟩ := Option.bind_eq_some_iff.mp H
            replace ho : (if x1 = 252 then (rU t2).bind fun y => some (wrap64 (64512 + y.1), y.2) else some (x1, t2)) = some (op, t3) := ho
            replace hq : numF t3 op = some (a1, b1, m1, N1, t4) := hq
            replace h5 : (if t4.2.2 = 0 ∧ (wrap64 (t4.2.1 + 1) > 8192 ∨ (blk op = true ∧ deep = 32)) then rFail (t4.1, wrap64 (t4.2.1 + 1), t4.2.2) 14 else some (t4.1, wrap64 (t4.2.1 + 1), t4.2.2)) = some t5 := h5
            replace H : (if (acc.length + 1) * 104 ≤ 140737488355328 then listL k1 t9 deep (acc ++ [⟨op, a1, b1, m1, N1, LL, EE⟩]) else none) = some (r1, r2, t1) := H
            have hcap : (acc.length + 1) * 104 ≤ 140737488355328 := by
              by_cases q : (acc.length + 1) * 104 ≤ 140737488355328
              · exact q
              · rw [if_neg q] at H; cases H
            rw [if_pos hcap] at H
            have HF := H
            go_upto_if 30 with (fail)
            go_cut [8] (fun _ wc => Aside0 (Hold w w0 wc g b t3 op 0 0 0 (.slice none 0 0) (.slice none 0 0) (.slice none 0 0) u6 [] [] [] acc))
            case first =>
              by_cases c252 : x1 = 252
              · rw [if_pos c252] at ho
                obtain ⟨⟨y1, t2'⟩, hy, ho⟩ := Option.bind_eq_some_iff.mp ho
                simp only [Option.some.injEq, Prod.mk.injEq] at ho
                obtain ⟨rfl, rfl⟩ := ho
                have e252 : (x1 == 252) = true := by rw [c252]; rfl
                have f4 : W4.frozen? ⟨b, 0, none⟩ = false := blk_frozen h4.at_.box 0
                go_wp2_with (first | (go_at_call 49; (with_reducible refine (rU_calls h4.at_ hy).mono ?_); rintro e w5 ⟨rfl, ha5, hk5⟩; have c5 : w5.cell? ⟨b, 0, none⟩ = some (.int .i64 x1) := blk_cell ha5.box 0; have f5 : w5.frozen? ⟨b, 0, none⟩ = false := blk_frozen ha5.box 0))
                go_meet
                case rel => exact ⟨(h4.step ha5 hk5).step (ha5.set0 _) ((Keep2.refl w5 g b).set 0 _)⟩
              · rw [if_neg c252] at ho
                simp only [Option.some.injEq, Prod.mk.injEq] at ho
                obtain ⟨rfl, rfl⟩ := ho
                have e252 : (x1 == 252) = false := beq_eq_false_iff_ne.mpr c252
                go_wp2
                go_meet
                case rel => exact ⟨h4⟩
            case rest =>
              have hh := hcut.out
              clear hcut h4 c4 e11 e5 ho
              generalize wc = W5 at hh ⊢
              go_upto_region 9 with (first | (go_at_call 50; (with_reducible refine (numbers_calls hh.at_ hq).mono ?_); rintro e w6 ⟨rfl, vN, ha6, hR6, hk6⟩))
              have h6 := hh.setN ha6 hR6 hk6
              clear hh ha6 hR6 hk6 hq
              have g1 : w6.cell? ⟨g, 1, none⟩ = some (.int .i64 t4.2.1) := blk_cell h6.at_.st.1 1
              have fg1 : w6.frozen? ⟨g, 1, none⟩ = false := blk_frozen h6.at_.st.1 1
              go_upto_region 10 with (fail)
              have h7 := h6.step (h6.at_.setn (wrap64 (t4.2.1 + 1))) (Keep2.setg w6 g b 1 (.int .i64 (wrap64 (t4.2.1 + 1))))
              clear h6 g1 fg1
              generalize w6.setCell ⟨g, 1, none⟩ (.int .i64 (wrap64 (t4.2.1 + 1))) = W7 at h7 ⊢
              generalize wrap64 (t4.2.1 + 1) = n7 at h5 h7
              have g1 : W7.cell? ⟨g, 1, none⟩ = some (.int .i64 n7) := blk_cell h7.at_.st.1 1
              have g2 : W7.cell? ⟨g, 2, none⟩ = some (.int .i64 t4.2.2) := blk_cell h7.at_.st.1 2
              have c0 : W7.cell? ⟨b, 0, none⟩ = some (.int .i64 op) := blk_cell h7.at_.box 0
              go_cut [64] (fun v64 wc => v64 = .bool (decide (t4.2.2 = 0 ∧ (n7 > 8192 ∨ (blk op = true ∧ deep = 32)))) ∧ Aside0 (Hold w w0 wc g b (t4.1, n7, t4.2.2) op a1 b1 m1 vN (.slice none 0 0) (.slice none 0 0) u6 N1 [] [] acc))
              case first =>
                have hD : ∀ q, Hold w w0 (W7.drewN q) g b (t4.1, n7, t4.2.2) op a1 b1 m1 vN (.slice none 0 0) (.slice none 0 0) u6 N1 [] [] acc := fun q => h7.step (h7.at_.drewN q) ⟨Nat.le_refl _, fun _ _ _ _ => rfl⟩
                by_cases x1 : t4.2.2 = 0
                · have x1' : (t4.2.2 == 0) = true := by rw [x1]; rfl
                  by_cases x2 : n7 > 8192
                  · have x2' : decide (n7 > 8192) = true := decide_eq_true x2
                    go_wp2
                    go_meet
                    case rel => exact ⟨by simp [x1, x2], ⟨h7⟩⟩
                  · have x2' : decide (n7 > 8192) = false := decide_eq_false x2
                    cases x3 : blk op
                    · go_wp2_with (first | (go_at_call 46; (with_reducible refine (blk_calls op _).mono ?_); rintro e w' ⟨rfl, ⟨nd, rfl⟩⟩))
                      go_meet
                      case rel => exact ⟨by simp [x1, x2, x3], ⟨hD _⟩⟩
                    · by_cases x4 : deep = 32
                      · have x4' : (deep == 32) = true := by rw [x4]; rfl
                        clear x4
                        go_wp2_with (first | (go_at_call 46; (with_reducible refine (blk_calls op _).mono ?_); rintro e w' ⟨rfl, ⟨nd, rfl⟩⟩))
                        go_meet
                        case rel => exact ⟨by have x4 := eq_of_beq x4'; simp [x1, x2, x3, x4], ⟨hD _⟩⟩
                      · have x4' : (deep == 32) = false := beq_eq_false_iff_ne.mpr x4
                        go_wp2_with (first | (go_at_call 46; (with_reducible refine (blk_calls op _).mono ?_); rintro e w' ⟨rfl, ⟨nd, rfl⟩⟩))
                        go_meet
                        case rel => exact ⟨by simp [x1, x2, x3, x4], ⟨hD _⟩⟩
                · have x1' : (t4.2.2 == 0) = false := beq_eq_false_iff_ne.mpr x1
                  go_wp2
                  go_meet
                  case rel => exact ⟨by simp [x1], ⟨h7⟩⟩
              case rest =>
                obtain ⟨rfl, hh⟩ := hcut
                replace hh := hh.out
                clear h7 g1 g2 c0
                generalize wc = W8 at hh ⊢
                go_upto_if 64 with (fail)
                go_cut [8] (fun _ wc => Aside0 (Hold w w0 wc g b t5 op a1 b1 m1 vN (.slice none 0 0) (.slice none 0 0) u6 N1 [] [] acc))
                case first =>
                  by_cases q : t4.2.2 = 0 ∧ (n7 > 8192 ∨ (blk op = true ∧ deep = 32))
                  · rw [if_pos q] at h5
                    have q' : decide (t4.2.2 = 0 ∧ (n7 > 8192 ∨ (blk op = true ∧ deep = 32))) = true := decide_eq_true q
                    go_wp2_with (first | (go_at_call 36; (with_reducible refine (rFail_calls hh.at_ h5).mono ?_); rintro e w9 ⟨rfl, ha9, hk9⟩))
                    go_meet
                    case rel => exact ⟨hh.step ha9 hk9⟩
                  · rw [if_neg q] at h5
                    have q' : decide (t4.2.2 = 0 ∧ (n7 > 8192 ∨ (blk op = true ∧ deep = 32))) = false := decide_eq_false q
                    obtain rfl := Option.some.inj h5
                    go_wp2
                    go_meet
                    case rel => exact ⟨hh⟩
                case rest =>
                  replace hh := hcut.out
                  clear hcut h5
                  generalize wc = W9 at hh ⊢
                  have g2 : W9.cell? ⟨g, 2, none⟩ = some (.int .i64 t5.2.2) := blk_cell hh.at_.st.1 2
                  have c0 : W9.cell? ⟨b, 0, none⟩ = some (.int .i64 op) := blk_cell hh.at_.box 0
                  have hlt : k1 < k := by have := hK.out; omega
                  replace hz : (if t5.2.2 = 0 ∧ blk op = true then
                      (listL k1 t5 (wrap64 (deep + 1)) []).bind fun L =>
                        if L.2.1 = 5 then
                          (if op = 4 then some L.2.2 else rFail L.2.2 2).bind fun t7 =>
                            (listL k1 t7 (wrap64 (deep + 1)) []).bind fun E =>
                              (if E.2.1 = 5 then rFail E.2.2 2 else some E.2.2).bind fun t9 => some (L.1, E.1, t9)
                        else some (L.1, [], L.2.2)
                    else some ([], [], t5)) = some (LL, EE, t9) := hz
                  go_upto_region 12 with (fail)
                  go_cut [76] (fun v76 wc => v76 = .bool (decide (t5.2.2 = 0 ∧ blk op = true)) ∧ Aside0 (Hold w w0 wc g b t5 op a1 b1 m1 vN (.slice none 0 0) (.slice none 0 0) u6 N1 [] [] acc))
                  case first =>
                    have hD : ∀ q, Hold w w0 (W9.drewN q) g b t5 op a1 b1 m1 vN (.slice none 0 0) (.slice none 0 0) u6 N1 [] [] acc := fun q => hh.step (hh.at_.drewN q) ⟨Nat.le_refl _, fun _ _ _ _ => rfl⟩
                    by_cases x1 : t5.2.2 = 0
                    · have x1' : (t5.2.2 == 0) = true := by rw [x1]; rfl
                      cases x3 : blk op
                      · go_wp2_with (first | (go_at_call 46; (with_reducible refine (blk_calls op _).mono ?_); rintro e w' ⟨rfl, ⟨nd, rfl⟩⟩))
                        go_meet
                        case rel => exact ⟨by simp [x1, x3], ⟨hD _⟩⟩
                      · go_wp2_with (first | (go_at_call 46; (with_reducible refine (blk_calls op _).mono ?_); rintro e w' ⟨rfl, ⟨nd, rfl⟩⟩))
                        go_meet
                        case rel => exact ⟨by simp [x1, x3], ⟨hD _⟩⟩
                    · have x1' : (t5.2.2 == 0) = false := beq_eq_false_iff_ne.mpr x1
                      go_wp2
                      go_meet
                      case rel => exact ⟨by simp [x1], ⟨hh⟩⟩
                  case rest =>
                    obtain ⟨rfl, hh'⟩ := hcut
                    replace hh := hh'.out
                    clear g2 c0 hh'
                    generalize wc = W10 at hh ⊢
                    go_upto_if 76 with (fail)
                    go_cut [8] (fun _ wc => ∃ vL vE, Aside0 (Hold w w0 wc g b t9 op a1 b1 m1 vN vL vE u6 N1 LL EE acc))
                    case first =>
                      by_cases q : t5.2.2 = 0 ∧ blk op = true
                      · rw [if_pos q] at hz
                        have q' : decide (t5.2.2 = 0 ∧ blk op = true) = true := decide_eq_true q
                        obtain ⟨⟨L1, L2, tL⟩, hL, hz⟩ := Option.bind_eq_some_iff.mp hz
                        replace hz : (if L2 = 5 then
                          (if op = 4 then some tL else rFail tL 2).bind fun t7 =>
                            (listL k1 t7 (wrap64 (deep + 1)) []).bind fun E =>
                              (if E.2.1 = 5 then rFail E.2.2 2 else some E.2.2).bind fun t9 => some (L1, E.1, t9)
                          else some (L1, [], tL)) = some (LL, EE, t9) := hz
                        go_upto_region 15 with (first | (go_at_call 35; (with_reducible refine (ih k1 hlt g t5 (wrap64 (deep + 1)) L1 L2 tL w0 _ hh.at_.st hh.at_.below hL).mono ?_); rintro e w11 ⟨vL, rfl, hR, hI', hB', hk'⟩; obtain ⟨AL, cL, rfl⟩ := Kd.R_slice hR; have hb11 := (hh.at_.call hI' hB' hk').box; have c5 : w11.cell? ⟨b, 5, none⟩ = some (.slice none 0 0) := blk_cell hb11 5; have f5 : w11.frozen? ⟨b, 5, none⟩ = false := blk_frozen hb11 5))
                        have h11 := hh.setL hI' hB' hk' hR
                        clear hh hI' hB' hk' hR hb11 c5 f5 hL q' q
                        generalize w11.setCell ⟨b, 5, none⟩ (.slice AL L1.length cL) = W11 at h11 ⊢
                        by_cases cL5 : L2 = 5
                        · rw [if_pos cL5] at hz
                          have eL5 : (L2 == 5) = true := by rw [cL5]; rfl
                          clear cL5
                          obtain ⟨t7, h7, hz⟩ := Option.bind_eq_some_iff.mp hz
                          obtain ⟨⟨E1, E2, tE⟩, hE, hz⟩ := Option.bind_eq_some_iff.mp hz
                          replace hz : (if E2 = 5 then rFail tE 2 else some tE).bind (fun t9 => some (L1, E1, t9)) = some (LL, EE, t9) := hz
                          obtain ⟨t9', h9, hz⟩ := Option.bind_eq_some_iff.mp hz
                          simp only [Option.some.injEq, Prod.mk.injEq] at hz
                          obtain ⟨rfl, rfl, rfl⟩ := hz
                          have c0 : W11.cell? ⟨b, 0, none⟩ = some (.int .i64 op) := blk_cell h11.at_.box 0
                          go_upto_if 89 with (fail)
                          go_cut [8] (fun _ wc => Aside0 (Hold w w0 wc g b t7 op a1 b1 m1 vN (.slice AL L1.length cL) (.slice none 0 0) u6 N1 L1 [] acc))
                          case first =>
                            by_cases c4 : op = 4
                            · rw [if_pos c4] at h7
                              obtain rfl := Option.some.inj h7
                              have e4 : (op != 4) = false := by rw [c4]; rfl
                              clear c4
                              go_wp2
                              go_meet
                              case rel => exact ⟨h11⟩
                            · rw [if_neg c4] at h7
                              have e4 : (op != 4) = true := by simp [c4]
                              clear c4
                              go_wp2_with (first | (go_at_call 36; (with_reducible refine (rFail_calls h11.at_ h7).mono ?_); rintro e w12 ⟨rfl, ha12, hk12⟩))
                              go_meet
                              case rel => exact ⟨h11.step ha12 hk12⟩
                          case rest =>
                            have hh := hcut.out
                            clear hcut h11 c0 h7
                            generalize wc = W13 at hh ⊢
                            go_upto_region 19 with (first | (go_at_call 35; (with_reducible refine (ih k1 hlt g t7 (wrap64 (deep + 1)) E1 E2 tE w0 _ hh.at_.st hh.at_.below hE).mono ?_); rintro e w14 ⟨vE, rfl, hR, hI', hB', hk'⟩; obtain ⟨AE, cE, rfl⟩ := Kd.R_slice hR; have hb11 := (hh.at_.call hI' hB' hk').box; have c5 : w14.cell? ⟨b, 6, none⟩ = some (.slice none 0 0) := blk_cell hb11 6; have f5 : w14.frozen? ⟨b, 6, none⟩ = false := blk_frozen hb11 6))
                            have h14 := hh.setE hI' hB' hk' hR
                            clear hh hI' hB' hk' hR hb11 c5 f5 hE
                            generalize w14.setCell ⟨b, 6, none⟩ (.slice AE E1.length cE) = W14 at h14 ⊢
                            by_cases cE5 : E2 = 5
                            · rw [if_pos cE5] at h9
                              have eE5 : (E2 == 5) = true := by rw [cE5]; rfl
                              clear cE5
                              go_wp2_with (first | (go_at_call 36; (with_reducible refine (rFail_calls h14.at_ h9).mono ?_); rintro e w15 ⟨rfl, ha15, hk15⟩))
                              go_meet
                              case rel => exact ⟨_, _, ⟨h14.step ha15 hk15⟩⟩
                            · rw [if_neg cE5] at h9
                              obtain rfl := Option.some.inj h9
                              have eE5 : (E2 == 5) = false := beq_eq_false_iff_ne.mpr cE5
                              clear cE5
                              go_wp2
                              go_meet
                              case rel => exact ⟨_, _, ⟨h14⟩⟩
                        · rw [if_neg cL5] at hz
                          have eL5 : (L2 == 5) = false := beq_eq_false_iff_ne.mpr cL5
                          clear cL5
                          simp only [Option.some.injEq, Prod.mk.injEq] at hz
                          obtain ⟨rfl, rfl, rfl⟩ := hz
                          go_wp2
                          go_meet
                          case rel => exact ⟨_, _, ⟨h11⟩⟩
                      · rw [if_neg q] at hz
                        have q' : decide (t5.2.2 = 0 ∧ blk op = true) = false := decide_eq_false q
                        simp only [Option.some.injEq, Prod.mk.injEq] at hz
                        obtain ⟨rfl, rfl, rfl⟩ := hz
                        go_wp2
                        go_meet
                        case rel => exact ⟨_, _, ⟨hh⟩⟩
                    case rest =>
                      obtain ⟨vL, vE, hh'⟩ := hcut
                      replace hh := hh'.out
                      clear hh'
                      generalize wc = W12 at hh ⊢
                      have hRA : Kd.R k54 54 W12 w.heap.size (fun _ => True) u6 acc := Kd.R_mono hh.acc (fun _ _ => trivial)
                      have hown : ∀ q, u6.ownBlock = some q → q < b := hh.acc.1
                      have hM := k54_mkM W12 w.heap.size (fun k => b < k) ⟨op, a1, b1, m1, N1, LL, EE⟩ hh.rN hh.rL hh.rE
                      have hokp : ∀ q, b < q → True ∧ some q ≠ u6.ownBlock := fun q hq => ⟨trivial, fun e => by have := hown q e.symm; omega⟩
                      have l0 : W12.cell? ⟨b, 0, none⟩ = some (.int .i64 op) := blk_cell hh.at_.box 0
                      have l1 : W12.cell? ⟨b, 1, none⟩ = some (.int .i64 a1) := blk_cell hh.at_.box 1
                      have l2 : W12.cell? ⟨b, 2, none⟩ = some (.int .i64 b1) := blk_cell hh.at_.box 2
                      have l3 : W12.cell? ⟨b, 3, none⟩ = some (.int .i64 m1) := blk_cell hh.at_.box 3
                      have l4 : W12.cell? ⟨b, 4, none⟩ = some vN := blk_cell hh.at_.box 4
                      have l5 : W12.cell? ⟨b, 5, none⟩ = some vL := blk_cell hh.at_.box 5
                      have l6 : W12.cell? ⟨b, 6, none⟩ = some vE := blk_cell hh.at_.box 6
                      go_wp2_with (first | ((with_reducible refine gate_builtin (b := .append) (xs := #[.tmp 104, .tmp 106]) rfl ?_); at_builtin; refine Kd.R_append k54 (w0 := W12) w.heap.size rfl (.tmp 104) (.tmp 106) 29 54 (.agg #[(.int .i64 0), (.int .i64 0), (.int .i64 0), (.int .i64 0), (.slice none 0 0), (.slice none 0 0), (.slice none 0 0)]) 104 rfl Try.underlying29 info54 rfl (by decide) (by omega) u6 acc ⟨op, a1, b1, m1, N1, LL, EE⟩ _ (fun _ => True) (fun k => b < k) rfl rfl hM hokp (fun _ _ => trivial) hRA (Below.refl w.heap.size W12) hh.keep.1 hcap ?_; intro v21 w13 hR13 hB13 hg13 hat13))
                      have hgo : some g ≠ u6.ownBlock := fun e => by have := (Kd.R_bound hh.acc).1 g e.symm; omega
                      go_roundg k1
                      case measure => omega
                      case rel =>
                        refine ⟨acc ++ [⟨op, a1, b1, m1, N1, LL, EE⟩], t9, ⟨HF⟩, ⟨by have := hK.out; omega⟩, ⟨hR13⟩, ⟨hh.at_.st.grown hg13 hgo⟩, ⟨hh.at_.below.trans ⟨hB13.os, hB13.tape, hB13.output, hB13.size, fun i hi => hB13.block i (Nat.lt_of_lt_of_le hi hw0)⟩⟩, ⟨⟨Nat.le_trans hh.keep.1 hB13.size, fun i hi hg hr => (hB13.block i hi).trans (hh.keep.2 i hi hg hr)⟩⟩⟩
        · rw [if_neg ce] at H
          have ce' : (tq.2.2 == 0) = false := beq_eq_false_iff_ne.mpr ce
          have H1 := Option.some.inj H
          have e1 : ([] : List S54) = r1 := congrArg Prod.fst H1
          have e2 : (11 : Int) = r2 := congrArg (fun q => q.2.1) H1
          have e3 : tq = t1 := congrArg (fun q => q.2.2) H1
          clear H H1
          subst e1 e2 e3
          go_wp2
          refine bodyPost_ret (results_list (rs := [.tmp 4, .tmp 5]) rfl (by simp) (.tmp (.tmp .nil))) rfl ?_
          exact ⟨_, rfl, Kd.R_nil _ _ _ _ _, HI.out, HB.out, HK.out⟩
/-- What Take makes of a text. -/
def takeF (k : Nat) (a0 : ByteArray) : Option (List S54 × ByteArray × Int) :=
  (listL k (a0, 0, 0) 0 []).bind fun L => (if L.2.1 = 5 then rFail L.2.2 2 else some L.2.2).bind fun t => if t.2.2 = 0 then some (L.1, t.1, 0) else some ([], ⟨#[]⟩, t.2.2)
def instr_Take.f (a0 : ByteArray) : Option ((List (S54)) × ByteArray × Int) := takeF (a0.size + 10) a0
theorem fail0_calls {w0 w : World} {g : Nat} {t t1 : RS} {c : Int} (hI : IsS69 w0 w g t.1 t.2.1 t.2.2) (hB : Below w0.heap.size w0 w) (hr : rFail t c = some t1) :
    Calls Try.prog 36 #[.pointer (some ⟨g, 0, none⟩), .int .i64 c] w fun e w' => e = .returned (.tuple #[]) ∧ IsS69 w0 w' g t1.1 t1.2.1 t1.2.2 ∧ Below w0.heap.size w0 w' ∧ KeepBut w w' g none :=
  instr_reader_fail.calls g _ _ _ c t1.1 t1.2.1 t1.2.2 w0 w hI hB hr
set_option maxHeartbeats 8000000 in
set_option maxRecDepth 100000 in
theorem instr_Take.calls (a0 : ByteArray) (r1 : List (S54)) (r2 : ByteArray) (r3 : Int) (w : World) (h : instr_Take.f a0 = some (r1, r2, r3)) :
    Calls Try.prog 19 #[.string a0] w fun e w' => ∃ v0_ : Value, e = .returned (.tuple #[v0_, .string r2, .int .i64 r3]) ∧ Kd.R k54 54 w' w.heap.size (fun _ => True) v0_ r1 ∧ Below w.heap.size w w' := by
  obtain ⟨⟨L1, L2, t1⟩, hL, h⟩ := Option.bind_eq_some_iff.mp h
  obtain ⟨t2, ht, h⟩ := Option.bind_eq_some_iff.mp h
  replace ht : (if L2 = 5 then rFail t1 2 else some t1) = some t2 := ht
  have HF : (if t2.2.2 = 0 then some (L1, t2.1, (0 : Int)) else some ([], ⟨#[]⟩, t2.2.2)) = some (r1, r2, r3) := h
  clear h
  go_enter Try.func19, Try.ntmps19
  have HI := IsS69.new w w a0 0 0 (Below.refl _ _)
  have HB : Below w.heap.size w (w.alloc (.cells #[.string a0, .int .i64 0, .int .i64 0] 69)) := below_alloc (Below.refl _ _) _
  have hsz : (w.alloc (.cells #[.string a0, .int .i64 0, .int .i64 0] 69)).heap.size = w.heap.size + 1 := Array.size_push _
  generalize hW : w.alloc (.cells #[.string a0, .int .i64 0, .int .i64 0] 69) = W1 at HI HB hsz
  go_upto_region 3 with (first | (go_at_call 35; (with_reducible refine (list_calls _ w.heap.size (a0, 0, 0) 0 L1 L2 t1 w W1 HI HB hL).mono ?_); rintro e w2 ⟨v, rfl, hR, HI2, HB2, hk2⟩; obtain ⟨AL, cL, rfl⟩ := Kd.R_slice hR))
  replace hR := Kd.R_lower hR (Nat.le_of_lt (by omega : w.heap.size < W1.heap.size))
  go_upto_if 17 with (fail)
  go_cut [8] (fun _ wc => Aside0 (Kd.R k54 54 wc w.heap.size (fun _ => True) (.slice AL L1.length cL) L1) ∧ Aside0 (IsS69 w wc w.heap.size t2.1 t2.2.1 t2.2.2) ∧ Aside0 (Below w.heap.size w wc))
  case first =>
    by_cases q : L2 = 5
    · rw [if_pos q] at ht
      have q' : (L2 == 5) = true := by rw [q]; rfl
      clear q
      go_wp2_with (first | (go_at_call 36; (with_reducible refine (fail0_calls HI2 HB2 ht).mono ?_); rintro e w3 ⟨rfl, HI3, HB3, hk3⟩))
      go_meet
      case rel => exact ⟨⟨Kd.R_drop (Kd.R_keep (HI2.apart hR (by decide)) hk3 (fun _ hq => hq.2))⟩, ⟨HI3⟩, ⟨HB3⟩⟩
    · rw [if_neg q] at ht
      obtain rfl := Option.some.inj ht
      have q' : (L2 == 5) = false := beq_eq_false_iff_ne.mpr q
      clear q
      go_wp2
      go_meet
      case rel => exact ⟨⟨hR⟩, ⟨HI2⟩, ⟨HB2⟩⟩
  case rest =>
    obtain ⟨⟨hR3⟩, ⟨HI3⟩, ⟨HB3⟩⟩ := hcut
    clear hR HI2 HB2 hk2 HI HB hsz hW
    generalize wc = W3 at hR3 HI3 HB3 ⊢
    have g0 : W3.cell? ⟨w.heap.size, 0, none⟩ = some (.string t2.1) := blk_cell HI3.1 0
    have g2 : W3.cell? ⟨w.heap.size, 2, none⟩ = some (.int .i64 t2.2.2) := blk_cell HI3.1 2
    by_cases q : t2.2.2 = 0
    · rw [if_pos q] at HF
      obtain ⟨e1, HG⟩ := Prod.mk.inj (Option.some.inj HF)
      obtain ⟨e2, e3⟩ := Prod.mk.inj HG
      clear HG HF
      subst e1 e2 e3
      have q' : (t2.2.2 == 0) = true := by rw [q]; rfl
      have q'' : (t2.2.2 != 0) = false := by rw [q]; rfl
      clear q
      go_upto_region 7 with (fail)
      go_region_held3 (fun w' => w'.cell? ⟨w.heap.size, 0, none⟩ = some (.string t2.1)) (first | assumption | go_keep) (fail)
      go_wp2
      refine bodyPost_ret (results_list (rs := [.tmp 2, .tmp 3, .tmp 4]) rfl (by simp) (.tmp (.tmp (.tmp .nil)))) rfl ?_
      exact ⟨_, rfl, Kd.R_drew hR3, below_drew1 HB3⟩
    · rw [if_neg q] at HF
      obtain ⟨e1, HG⟩ := Prod.mk.inj (Option.some.inj HF)
      obtain ⟨e2, e3⟩ := Prod.mk.inj HG
      clear HG HF
      subst e1 e2 e3
      have q' : (t2.2.2 == 0) = false := beq_eq_false_iff_ne.mpr q
      have q'' : (t2.2.2 != 0) = true := by simp [q]
      clear q
      go_upto_region 6 with (fail)
      go_region_held3 (fun w' => w'.cell? ⟨w.heap.size, 2, none⟩ = some (.int .i64 t2.2.2)) (first | assumption | go_keep) (fail)
      go_wp2
      refine bodyPost_ret (results_list (rs := [.tmp 2, .tmp 3, .tmp 4]) rfl (by simp) (.tmp (.tmp (.tmp .nil)))) rfl ?_
      exact ⟨_, rfl, Kd.R_nil _ _ _ _ _, below_drew1 HB3⟩
def scarflaw05_awake.j0 : Nat → Bool → Option (Bool)
  | 0, _ => none
  | k + 1, x0 => some x0
def scarflaw05_awake.f (k : Nat)  : Option (Bool) := (instr_Put.f (([(⟨65, (-1), 0, 0, ([] : List Int), ([] : List (S54)), ([] : List (S54))⟩ : S54), (⟨26, 0, 0, 0, ([] : List Int), ([] : List (S54)), ([] : List (S54))⟩ : S54)] : List (S54)))).bind fun bt244 => ((instr_Put.f (([(⟨4, (-64), 0, 0, ([] : List Int), (([(⟨1, 0, 0, 0, ([] : List Int), ([] : List (S54)), ([] : List (S54))⟩ : S54)] : List (S54))), (([(⟨15, 0, 0, 0, ([] : List Int), ([] : List (S54)), ([] : List (S54))⟩ : S54)] : List (S54)))⟩ : S54)] : List (S54)))).bind fun bt255 => ((instr_Take.f (⟨#[67, 0, 0, 0, 0, 11]⟩ : ByteArray)).bind fun bt257 => (if bt244.1.size + 1 ≤ 9223372036854775807 then ((instr_Take.f (bt244.1 ++ (⟨#[122]⟩ : ByteArray))).bind fun bt262 => (if bt244.1.toList = ([65, 127, 26, 11] : List UInt8) then (if bt244.2 = 0 then (if bt255.1.toList = ([4, 64, 1, 5, 15, 11, 11] : List UInt8) then (if bt255.2 = 0 then (if bt257.2.2 = 3 then (if (bt262.1.length : Int) = 2 then (if bt262.2.1.toList = ([122] : List UInt8) then (scarflaw05_awake.j0 k (bt262.2.2 == 0)) else (scarflaw05_awake.j0 k false)) else (scarflaw05_awake.j0 k false)) else (scarflaw05_awake.j0 k false)) else (scarflaw05_awake.j0 k false)) else (scarflaw05_awake.j0 k false)) else (scarflaw05_awake.j0 k false)) else (scarflaw05_awake.j0 k false))) else (none))))
theorem scarflaw05_awake.mono_l : ∀ k, (∀ y0, LeO (scarflaw05_awake.j0 k y0) (scarflaw05_awake.j0 (k + 1) y0))
  | 0 => fun _ r h => by simp [scarflaw05_awake.j0] at h
  | k + 1 => by
    have ih0 := scarflaw05_awake.mono_l k
    · intro y0
      unfold scarflaw05_awake.j0
      repeat' first
      | (with_reducible exact ih0 _)
      | (with_reducible exact LeO.refl _)
      | (with_reducible exact LeO.none _)
      | (with_reducible refine LeO.ite ?_ ?_)
      | (with_reducible refine LeO.bind ?_ (fun _ => ?_))
      | exact ih0 _
      | exact LeO.none _
      | refine LeO.ite ?_ ?_
      | refine LeO.bind ?_ (fun _ => ?_)
theorem scarflaw05_awake.mono : ∀ k, LeO (scarflaw05_awake.f k ) (scarflaw05_awake.f (k + 1) ) := by
  intro  k
  have ih0 := scarflaw05_awake.mono_l k
  unfold scarflaw05_awake.f
  repeat' first
      | (with_reducible exact ih0 _)
      | (with_reducible exact LeO.refl _)
      | (with_reducible exact LeO.none _)
      | (with_reducible refine LeO.ite ?_ ?_)
      | (with_reducible refine LeO.bind ?_ (fun _ => ?_))
      | exact ih0 _
      | exact LeO.none _
      | refine LeO.ite ?_ ?_
      | refine LeO.bind ?_ (fun _ => ?_)
set_option maxHeartbeats 8000000 in
set_option maxRecDepth 100000 in
theorem scarflaw05_awake.calls (k : Nat)  (r : Bool) (w : World) (h : scarflaw05_awake.f k  = some r) :
    Calls Try.prog 14 #[] w fun e w' => e = .returned (.bool r) ∧ Below w.heap.size w w' := by
  have hu54 := Try.underlying54
  have HB := Aside0.mk (Below.refl w.heap.size w)
  have H : ((instr_Put.f (([(⟨65, (-1), 0, 0, ([] : List Int), ([] : List (S54)), ([] : List (S54))⟩ : S54), (⟨26, 0, 0, 0, ([] : List Int), ([] : List (S54)), ([] : List (S54))⟩ : S54)] : List (S54)))).bind fun bt244 => ((instr_Put.f (([(⟨4, (-64), 0, 0, ([] : List Int), (([(⟨1, 0, 0, 0, ([] : List Int), ([] : List (S54)), ([] : List (S54))⟩ : S54)] : List (S54))), (([(⟨15, 0, 0, 0, ([] : List Int), ([] : List (S54)), ([] : List (S54))⟩ : S54)] : List (S54)))⟩ : S54)] : List (S54)))).bind fun bt255 => ((instr_Take.f (⟨#[67, 0, 0, 0, 0, 11]⟩ : ByteArray)).bind fun bt257 => (if bt244.1.size + 1 ≤ 9223372036854775807 then ((instr_Take.f (bt244.1 ++ (⟨#[122]⟩ : ByteArray))).bind fun bt262 => (if bt244.1.toList = ([65, 127, 26, 11] : List UInt8) then (if bt244.2 = 0 then (if bt255.1.toList = ([4, 64, 1, 5, 15, 11, 11] : List UInt8) then (if bt255.2 = 0 then (if bt257.2.2 = 3 then (if (bt262.1.length : Int) = 2 then (if bt262.2.1.toList = ([122] : List UInt8) then (scarflaw05_awake.j0 k (bt262.2.2 == 0)) else (scarflaw05_awake.j0 k false)) else (scarflaw05_awake.j0 k false)) else (scarflaw05_awake.j0 k false)) else (scarflaw05_awake.j0 k false)) else (scarflaw05_awake.j0 k false)) else (scarflaw05_awake.j0 k false)) else (scarflaw05_awake.j0 k false))) else (none))))) = some r := h
  clear h
  obtain ⟨y241, hy241⟩ : ∃ y_ : List (S54), y_ = (([(⟨65, (-1), 0, 0, ([] : List Int), ([] : List (S54)), ([] : List (S54))⟩ : S54), (⟨26, 0, 0, 0, ([] : List Int), ([] : List (S54)), ([] : List (S54))⟩ : S54)] : List (S54))) := ⟨_, rfl⟩
  replace H : ((instr_Put.f y241).bind fun bt244 => ((instr_Put.f (([(⟨4, (-64), 0, 0, ([] : List Int), (([(⟨1, 0, 0, 0, ([] : List Int), ([] : List (S54)), ([] : List (S54))⟩ : S54)] : List (S54))), (([(⟨15, 0, 0, 0, ([] : List Int), ([] : List (S54)), ([] : List (S54))⟩ : S54)] : List (S54)))⟩ : S54)] : List (S54)))).bind fun bt255 => ((instr_Take.f (⟨#[67, 0, 0, 0, 0, 11]⟩ : ByteArray)).bind fun bt257 => (if bt244.1.size + 1 ≤ 9223372036854775807 then ((instr_Take.f (bt244.1 ++ (⟨#[122]⟩ : ByteArray))).bind fun bt262 => (if bt244.1.toList = ([65, 127, 26, 11] : List UInt8) then (if bt244.2 = 0 then (if bt255.1.toList = ([4, 64, 1, 5, 15, 11, 11] : List UInt8) then (if bt255.2 = 0 then (if bt257.2.2 = 3 then (if (bt262.1.length : Int) = 2 then (if bt262.2.1.toList = ([122] : List UInt8) then (scarflaw05_awake.j0 k (bt262.2.2 == 0)) else (scarflaw05_awake.j0 k false)) else (scarflaw05_awake.j0 k false)) else (scarflaw05_awake.j0 k false)) else (scarflaw05_awake.j0 k false)) else (scarflaw05_awake.j0 k false)) else (scarflaw05_awake.j0 k false)) else (scarflaw05_awake.j0 k false))) else (none))))) = some r := by first | (rw [hy241]; with_reducible exact H) | (have H2_ := (Option.bind_some _ _).symm.trans H; rw [hy241]; with_reducible exact H2_) | (have H2_ := (Option.bind_some _ _).symm.trans H; with_reducible exact H2_) | with_reducible exact H | (rw [hy241]; exact H) | exact H
  have Ny241 := Aside0.mk hy241
  clear hy241
  replace H := Option.bind_eq_some_iff.mp H
  obtain ⟨⟨t244, t245⟩, A10, H⟩ := H
  replace H : ((instr_Put.f (([(⟨4, (-64), 0, 0, ([] : List Int), (([(⟨1, 0, 0, 0, ([] : List Int), ([] : List (S54)), ([] : List (S54))⟩ : S54)] : List (S54))), (([(⟨15, 0, 0, 0, ([] : List Int), ([] : List (S54)), ([] : List (S54))⟩ : S54)] : List (S54)))⟩ : S54)] : List (S54)))).bind fun bt255 => ((instr_Take.f (⟨#[67, 0, 0, 0, 0, 11]⟩ : ByteArray)).bind fun bt257 => (if t244.size + 1 ≤ 9223372036854775807 then ((instr_Take.f (t244 ++ (⟨#[122]⟩ : ByteArray))).bind fun bt262 => (if t244.toList = ([65, 127, 26, 11] : List UInt8) then (if t245 = 0 then (if bt255.1.toList = ([4, 64, 1, 5, 15, 11, 11] : List UInt8) then (if bt255.2 = 0 then (if bt257.2.2 = 3 then (if (bt262.1.length : Int) = 2 then (if bt262.2.1.toList = ([122] : List UInt8) then (scarflaw05_awake.j0 k (bt262.2.2 == 0)) else (scarflaw05_awake.j0 k false)) else (scarflaw05_awake.j0 k false)) else (scarflaw05_awake.j0 k false)) else (scarflaw05_awake.j0 k false)) else (scarflaw05_awake.j0 k false)) else (scarflaw05_awake.j0 k false)) else (scarflaw05_awake.j0 k false))) else (none)))) = some r := H
  have A1 := Aside0.mk A10
  clear A10
  obtain ⟨y246, hy246⟩ : ∃ y_ : List (S54), y_ = (([(⟨1, 0, 0, 0, ([] : List Int), ([] : List (S54)), ([] : List (S54))⟩ : S54)] : List (S54))) := ⟨_, rfl⟩
  replace H : ((instr_Put.f (([(⟨4, (-64), 0, 0, ([] : List Int), y246, (([(⟨15, 0, 0, 0, ([] : List Int), ([] : List (S54)), ([] : List (S54))⟩ : S54)] : List (S54)))⟩ : S54)] : List (S54)))).bind fun bt255 => ((instr_Take.f (⟨#[67, 0, 0, 0, 0, 11]⟩ : ByteArray)).bind fun bt257 => (if t244.size + 1 ≤ 9223372036854775807 then ((instr_Take.f (t244 ++ (⟨#[122]⟩ : ByteArray))).bind fun bt262 => (if t244.toList = ([65, 127, 26, 11] : List UInt8) then (if t245 = 0 then (if bt255.1.toList = ([4, 64, 1, 5, 15, 11, 11] : List UInt8) then (if bt255.2 = 0 then (if bt257.2.2 = 3 then (if (bt262.1.length : Int) = 2 then (if bt262.2.1.toList = ([122] : List UInt8) then (scarflaw05_awake.j0 k (bt262.2.2 == 0)) else (scarflaw05_awake.j0 k false)) else (scarflaw05_awake.j0 k false)) else (scarflaw05_awake.j0 k false)) else (scarflaw05_awake.j0 k false)) else (scarflaw05_awake.j0 k false)) else (scarflaw05_awake.j0 k false)) else (scarflaw05_awake.j0 k false))) else (none)))) = some r := by first | (rw [hy246]; with_reducible exact H) | (have H2_ := (Option.bind_some _ _).symm.trans H; rw [hy246]; with_reducible exact H2_) | (have H2_ := (Option.bind_some _ _).symm.trans H; with_reducible exact H2_) | with_reducible exact H | (rw [hy246]; exact H) | exact H
  have Ny246 := Aside0.mk hy246
  clear hy246
  obtain ⟨y249, hy249⟩ : ∃ y_ : List (S54), y_ = (([(⟨15, 0, 0, 0, ([] : List Int), ([] : List (S54)), ([] : List (S54))⟩ : S54)] : List (S54))) := ⟨_, rfl⟩
  replace H : ((instr_Put.f (([(⟨4, (-64), 0, 0, ([] : List Int), y246, y249⟩ : S54)] : List (S54)))).bind fun bt255 => ((instr_Take.f (⟨#[67, 0, 0, 0, 0, 11]⟩ : ByteArray)).bind fun bt257 => (if t244.size + 1 ≤ 9223372036854775807 then ((instr_Take.f (t244 ++ (⟨#[122]⟩ : ByteArray))).bind fun bt262 => (if t244.toList = ([65, 127, 26, 11] : List UInt8) then (if t245 = 0 then (if bt255.1.toList = ([4, 64, 1, 5, 15, 11, 11] : List UInt8) then (if bt255.2 = 0 then (if bt257.2.2 = 3 then (if (bt262.1.length : Int) = 2 then (if bt262.2.1.toList = ([122] : List UInt8) then (scarflaw05_awake.j0 k (bt262.2.2 == 0)) else (scarflaw05_awake.j0 k false)) else (scarflaw05_awake.j0 k false)) else (scarflaw05_awake.j0 k false)) else (scarflaw05_awake.j0 k false)) else (scarflaw05_awake.j0 k false)) else (scarflaw05_awake.j0 k false)) else (scarflaw05_awake.j0 k false))) else (none)))) = some r := by first | (rw [hy249]; with_reducible exact H) | (have H2_ := (Option.bind_some _ _).symm.trans H; rw [hy249]; with_reducible exact H2_) | (have H2_ := (Option.bind_some _ _).symm.trans H; with_reducible exact H2_) | with_reducible exact H | (rw [hy249]; exact H) | exact H
  have Ny249 := Aside0.mk hy249
  clear hy249
  obtain ⟨y252, hy252⟩ : ∃ y_ : List (S54), y_ = (([(⟨4, (-64), 0, 0, ([] : List Int), y246, y249⟩ : S54)] : List (S54))) := ⟨_, rfl⟩
  replace H : ((instr_Put.f y252).bind fun bt255 => ((instr_Take.f (⟨#[67, 0, 0, 0, 0, 11]⟩ : ByteArray)).bind fun bt257 => (if t244.size + 1 ≤ 9223372036854775807 then ((instr_Take.f (t244 ++ (⟨#[122]⟩ : ByteArray))).bind fun bt262 => (if t244.toList = ([65, 127, 26, 11] : List UInt8) then (if t245 = 0 then (if bt255.1.toList = ([4, 64, 1, 5, 15, 11, 11] : List UInt8) then (if bt255.2 = 0 then (if bt257.2.2 = 3 then (if (bt262.1.length : Int) = 2 then (if bt262.2.1.toList = ([122] : List UInt8) then (scarflaw05_awake.j0 k (bt262.2.2 == 0)) else (scarflaw05_awake.j0 k false)) else (scarflaw05_awake.j0 k false)) else (scarflaw05_awake.j0 k false)) else (scarflaw05_awake.j0 k false)) else (scarflaw05_awake.j0 k false)) else (scarflaw05_awake.j0 k false)) else (scarflaw05_awake.j0 k false))) else (none)))) = some r := by first | (rw [hy252]; with_reducible exact H) | (have H2_ := (Option.bind_some _ _).symm.trans H; rw [hy252]; with_reducible exact H2_) | (have H2_ := (Option.bind_some _ _).symm.trans H; with_reducible exact H2_) | with_reducible exact H | (rw [hy252]; exact H) | exact H
  have Ny252 := Aside0.mk hy252
  clear hy252
  replace H := Option.bind_eq_some_iff.mp H
  obtain ⟨⟨t255, t256⟩, A20, H⟩ := H
  replace H : ((instr_Take.f (⟨#[67, 0, 0, 0, 0, 11]⟩ : ByteArray)).bind fun bt257 => (if t244.size + 1 ≤ 9223372036854775807 then ((instr_Take.f (t244 ++ (⟨#[122]⟩ : ByteArray))).bind fun bt262 => (if t244.toList = ([65, 127, 26, 11] : List UInt8) then (if t245 = 0 then (if t255.toList = ([4, 64, 1, 5, 15, 11, 11] : List UInt8) then (if t256 = 0 then (if bt257.2.2 = 3 then (if (bt262.1.length : Int) = 2 then (if bt262.2.1.toList = ([122] : List UInt8) then (scarflaw05_awake.j0 k (bt262.2.2 == 0)) else (scarflaw05_awake.j0 k false)) else (scarflaw05_awake.j0 k false)) else (scarflaw05_awake.j0 k false)) else (scarflaw05_awake.j0 k false)) else (scarflaw05_awake.j0 k false)) else (scarflaw05_awake.j0 k false)) else (scarflaw05_awake.j0 k false))) else (none))) = some r := H
  have A2 := Aside0.mk A20
  clear A20
  replace H := Option.bind_eq_some_iff.mp H
  obtain ⟨⟨t257, t258, t259⟩, A30, H⟩ := H
  replace H : (if t244.size + 1 ≤ 9223372036854775807 then ((instr_Take.f (t244 ++ (⟨#[122]⟩ : ByteArray))).bind fun bt262 => (if t244.toList = ([65, 127, 26, 11] : List UInt8) then (if t245 = 0 then (if t255.toList = ([4, 64, 1, 5, 15, 11, 11] : List UInt8) then (if t256 = 0 then (if t259 = 3 then (if (bt262.1.length : Int) = 2 then (if bt262.2.1.toList = ([122] : List UInt8) then (scarflaw05_awake.j0 k (bt262.2.2 == 0)) else (scarflaw05_awake.j0 k false)) else (scarflaw05_awake.j0 k false)) else (scarflaw05_awake.j0 k false)) else (scarflaw05_awake.j0 k false)) else (scarflaw05_awake.j0 k false)) else (scarflaw05_awake.j0 k false)) else (scarflaw05_awake.j0 k false))) else (none)) = some r := H
  have A3 := Aside0.mk A30
  clear A30
  by_cases c4 : t244.size + 1 ≤ 9223372036854775807
  · rw [if_pos c4] at H
    have c4b0 := eq_true c4
    have c4b1 : decide (t244.size + 1 ≤ 9223372036854775807) = true := decide_eq_true c4
    try have c4b2 : (9223372036854775807 < t244.size + 1) = False := eq_false (Nat.not_lt.2 c4)
    replace H := Option.bind_eq_some_iff.mp H
    obtain ⟨⟨t262, t263, t264⟩, A50, H⟩ := H
    replace H : (if t244.toList = ([65, 127, 26, 11] : List UInt8) then (if t245 = 0 then (if t255.toList = ([4, 64, 1, 5, 15, 11, 11] : List UInt8) then (if t256 = 0 then (if t259 = 3 then (if (t262.length : Int) = 2 then (if t263.toList = ([122] : List UInt8) then (scarflaw05_awake.j0 k (t264 == 0)) else (scarflaw05_awake.j0 k false)) else (scarflaw05_awake.j0 k false)) else (scarflaw05_awake.j0 k false)) else (scarflaw05_awake.j0 k false)) else (scarflaw05_awake.j0 k false)) else (scarflaw05_awake.j0 k false)) else (scarflaw05_awake.j0 k false)) = some r := H
    have A5 := Aside0.mk A50
    clear A50
    have HC6 := Aside0.mk H
    clear H
    go_enter Try.func14, Try.ntmps14
    go_upto_region 5 with (first | ((with_reducible refine gate_dst (N := 14) rfl ?_); (try (refine gate_guard (by rfl) ?_; dsimp only)); refine Kd.N_lit k54 _ 54 ?hg (N' := 14) ?hd (xs := ([(⟨65, (-1), 0, 0, ([] : List Int), ([] : List (S54)), ([] : List (S54))⟩ : S54), (⟨26, 0, 0, 0, ([] : List Int), ([] : List (S54)), ([] : List (S54))⟩ : S54)] : List (S54))) (inner := [.int .i64 65, .int .i64 (-1), .int .i64 0, .int .i64 0, .slice none 0 0, .slice none 0 0, .slice none 0 0, .int .i64 26, .int .i64 0, .int .i64 0, .int .i64 0, .slice none 0 0, .slice none 0 0, .slice none 0 0]) (ok := (fun _ => True)) (okp := (fun _ => True)) ?hr ?hp (fun _ hk => hk) ((show ∀ k_, w.heap.size ≤ k_ → (fun _ => True) k_ from fun k_ hk => trivial) _ (Nat.le_refl _)) (Below.refl _ _) (Nat.le_refl _) (by simp) ?_; (case hd => rfl); (case hg => rfl); (case hr => first | (go_simp; done) | (go_simp; rfl)); (case hp => exact (Reps.c7 (show Kd.FK k54 _ _ (⟨65, (-1), 0, 0, ([] : List Int), ([] : List (S54)), ([] : List (S54))⟩ : S54) [.int .i64 65, .int .i64 (-1), .int .i64 0, .int .i64 0, .slice none 0 0, .slice none 0 0, .slice none 0 0] from (k54_mkF _ _ (⟨65, (-1), 0, 0, ([] : List Int), ([] : List (S54)), ([] : List (S54))⟩ : S54) (Nat.le_refl _) (Kd.F_nil _ _ _) (Nat.le_refl _) (Kd.F_nil _ _ _) (Nat.le_refl _) (Kd.F_nil _ _ _))) (Reps.c7 (show Kd.FK k54 _ _ (⟨26, 0, 0, 0, ([] : List Int), ([] : List (S54)), ([] : List (S54))⟩ : S54) [.int .i64 26, .int .i64 0, .int .i64 0, .int .i64 0, .slice none 0 0, .slice none 0 0, .slice none 0 0] from (k54_mkF _ _ (⟨26, 0, 0, 0, ([] : List Int), ([] : List (S54)), ([] : List (S54))⟩ : S54) (Nat.le_refl _) (Kd.F_nil _ _ _) (Nat.le_refl _) (Kd.F_nil _ _ _) (Nat.le_refl _) (Kd.F_nil _ _ _))) (Reps.none _ _)))); intro v242 w7 ho8 hb hg_ hnew_; clear hg_ hnew_; (first | rw [← Ny241.out] at ho8 | (simp only [Int.reduceToNat] at ho8; rw [← Ny241.out] at ho8)); have n0_ := Aside0.mk (Kd.N_lower ho8 (below_size (by repeat (first | (with_reducible first | exact HB.out | apply below_alloc | apply pw_below_drewN | apply below_drew1) | exact HB.out)))); have n1_ := Aside0.mk (below_step (by repeat (first | (with_reducible first | exact HB.out | apply below_alloc | apply pw_below_drewN | apply below_drew1) | exact HB.out)) hb); clear HB; have HO243 := n0_; have HB := n1_; clear n0_ n1_; clear hb ho8; obtain ⟨Ao9, co9, eo9⟩ := Kd.N_slice HO243.out; subst eo9) | ((with_reducible refine gate_callee (f := 15) rfl ?_); refine goesL_ (some 15) rfl rfl Try.func15 (by kernel_rfl) rfl #[.slice Ao9 y241.length co9] rfl (by (try simp only [List.map_toArray, List.map_cons, List.map_nil]); first | done | rfl | (simp only [List.length_drop, List.length_take]; rfl)) ?_; (with_reducible refine (instr_Put.calls _ _ y241 t244 t245 _ ?side1 ?side2 A1.out).mono ?_); (case side1 => repeat (first | exact (Kd.N_reads' HO243.out).2.2 | (with_reducible refine Kd.C_alloc ?_ _) | (with_reducible refine Kd.C_drewN ?_ _) | (with_reducible refine Kd.C_drew ?_))); (case side2 => exact (Kd.N_reads' HO243.out).2.1); rintro e w10 ⟨rfl, hb⟩; refine ⟨_, rfl, ?_⟩; have n0_ := Aside0.mk (Kd.N_below (by (with_reducible repeat (first | apply Kd.N_alloc | apply Kd.N_drewN | apply Kd.N_drew)); exact HO243.out) hb); have n1_ := Aside0.mk (below_step (by repeat (first | (with_reducible first | exact HB.out | apply below_alloc | apply pw_below_drewN | apply below_drew1) | exact HB.out)) hb); clear HO243; clear HB; have HO243 := n0_; have HB := n1_; clear n0_ n1_; (try clear hb); (try clear hb2); (try clear hk); (try clear hi)) | ((with_reducible refine gate_dst (N := 20) rfl ?_); (try (refine gate_guard (by rfl) ?_; dsimp only)); refine Kd.N_lit k54 _ 54 ?hg (N' := 20) ?hd (xs := ([(⟨1, 0, 0, 0, ([] : List Int), ([] : List (S54)), ([] : List (S54))⟩ : S54)] : List (S54))) (inner := [.int .i64 1, .int .i64 0, .int .i64 0, .int .i64 0, .slice none 0 0, .slice none 0 0, .slice none 0 0]) (ok := (fun k_ => some k_ ≠ (.slice Ao9 y241.length co9 : Value).ownBlock)) (okp := (fun k_ => some k_ ≠ (.slice Ao9 y241.length co9 : Value).ownBlock)) ?hr ?hp (fun _ hk => hk) ((show ∀ k_, w10.heap.size ≤ k_ → (fun k_ => some k_ ≠ (.slice Ao9 y241.length co9 : Value).ownBlock) k_ from fun k_ hk => Kd.fresh' (Kd.N_lt (by (with_reducible repeat (first | apply Kd.N_alloc | apply Kd.N_drewN | apply Kd.N_drew)); exact HO243.out)) k_ hk) _ (Nat.le_refl _)) (Below.refl _ _) (Nat.le_refl _) (by simp) ?_; (case hd => rfl); (case hg => rfl); (case hr => first | (go_simp; done) | (go_simp; rfl)); (case hp => exact (Reps.c7 (show Kd.FK k54 _ _ (⟨1, 0, 0, 0, ([] : List Int), ([] : List (S54)), ([] : List (S54))⟩ : S54) [.int .i64 1, .int .i64 0, .int .i64 0, .int .i64 0, .slice none 0 0, .slice none 0 0, .slice none 0 0] from (k54_mkF _ _ (⟨1, 0, 0, 0, ([] : List Int), ([] : List (S54)), ([] : List (S54))⟩ : S54) (Nat.le_refl _) (Kd.F_nil _ _ _) (Nat.le_refl _) (Kd.F_nil _ _ _) (Nat.le_refl _) (Kd.F_nil _ _ _))) (Reps.none _ _))); intro v247 w11 ho12 hb hg_ hnew_; clear hg_ hnew_; (first | rw [← Ny246.out] at ho12 | (simp only [Int.reduceToNat] at ho12; rw [← Ny246.out] at ho12)); have n0_ := Aside0.mk (Kd.N_elder' (by (with_reducible repeat (first | apply Kd.N_alloc | apply Kd.N_drewN | apply Kd.N_drew)); exact HO243.out) (by first | exact Kd.N_base ho12 | exact Kd.R_base ho12) hb); have n1_ := Aside0.mk (Kd.N_lower ho12 (below_size (by repeat (first | (with_reducible first | exact HB.out | apply below_alloc | apply pw_below_drewN | apply below_drew1) | exact HB.out)))); have n2_ := Aside0.mk (below_step (by repeat (first | (with_reducible first | exact HB.out | apply below_alloc | apply pw_below_drewN | apply below_drew1) | exact HB.out)) hb); clear HO243; clear HB; have HO243 := n0_; have HO248 := n1_; have HB := n2_; clear n0_ n1_ n2_; clear hb ho12) | ((with_reducible refine gate_dst (N := 22) rfl ?_); (try (refine gate_guard (by rfl) ?_; dsimp only)); refine Kd.N_lit k54 _ 54 ?hg (N' := 22) ?hd (xs := ([(⟨15, 0, 0, 0, ([] : List Int), ([] : List (S54)), ([] : List (S54))⟩ : S54)] : List (S54))) (inner := [.int .i64 15, .int .i64 0, .int .i64 0, .int .i64 0, .slice none 0 0, .slice none 0 0, .slice none 0 0]) (ok := (fun k_ => some k_ ≠ (.slice Ao9 y241.length co9 : Value).ownBlock ∧ some k_ ≠ (v247 : Value).ownBlock)) (okp := (fun k_ => some k_ ≠ (.slice Ao9 y241.length co9 : Value).ownBlock ∧ some k_ ≠ (v247 : Value).ownBlock)) ?hr ?hp (fun _ hk => hk) ((show ∀ k_, w11.heap.size ≤ k_ → (fun k_ => some k_ ≠ (.slice Ao9 y241.length co9 : Value).ownBlock ∧ some k_ ≠ (v247 : Value).ownBlock) k_ from fun k_ hk => ⟨Kd.fresh' (Kd.N_lt (by (with_reducible repeat (first | apply Kd.N_alloc | apply Kd.N_drewN | apply Kd.N_drew)); exact HO243.out)) k_ hk, Kd.fresh' (Kd.N_lt (by (with_reducible repeat (first | apply Kd.N_alloc | apply Kd.N_drewN | apply Kd.N_drew)); exact HO248.out)) k_ hk⟩) _ (Nat.le_refl _)) (Below.refl _ _) (Nat.le_refl _) (by simp) ?_; (case hd => rfl); (case hg => rfl); (case hr => first | (go_simp; done) | (go_simp; rfl)); (case hp => exact (Reps.c7 (show Kd.FK k54 _ _ (⟨15, 0, 0, 0, ([] : List Int), ([] : List (S54)), ([] : List (S54))⟩ : S54) [.int .i64 15, .int .i64 0, .int .i64 0, .int .i64 0, .slice none 0 0, .slice none 0 0, .slice none 0 0] from (k54_mkF _ _ (⟨15, 0, 0, 0, ([] : List Int), ([] : List (S54)), ([] : List (S54))⟩ : S54) (Nat.le_refl _) (Kd.F_nil _ _ _) (Nat.le_refl _) (Kd.F_nil _ _ _) (Nat.le_refl _) (Kd.F_nil _ _ _))) (Reps.none _ _))); intro v250 w13 ho14 hb hg_ hnew_; clear hg_ hnew_; (first | rw [← Ny249.out] at ho14 | (simp only [Int.reduceToNat] at ho14; rw [← Ny249.out] at ho14)); have n0_ := Aside0.mk (Kd.N_elder' (by (with_reducible repeat (first | apply Kd.N_alloc | apply Kd.N_drewN | apply Kd.N_drew)); exact HO243.out) (by first | exact Kd.N_base ho14 | exact Kd.R_base ho14) hb); have n1_ := Aside0.mk (Kd.N_elder' (by (with_reducible repeat (first | apply Kd.N_alloc | apply Kd.N_drewN | apply Kd.N_drew)); exact HO248.out) (by first | exact Kd.N_base ho14 | exact Kd.R_base ho14) hb); have n2_ := Aside0.mk (Kd.N_lower ho14 (below_size (by repeat (first | (with_reducible first | exact HB.out | apply below_alloc | apply pw_below_drewN | apply below_drew1) | exact HB.out)))); have n3_ := Aside0.mk (below_step (by repeat (first | (with_reducible first | exact HB.out | apply below_alloc | apply pw_below_drewN | apply below_drew1) | exact HB.out)) hb); clear HO243; clear HO248; clear HB; have HO243 := n0_; have HO248 := n1_; have HO251 := n2_; have HB := n3_; clear n0_ n1_ n2_ n3_; clear hb ho14; obtain ⟨Ao15, co15, eo15⟩ := Kd.N_slice HO251.out; subst eo15; obtain ⟨Ao16, co16, eo16⟩ := Kd.N_slice HO248.out; subst eo16) | ((with_reducible refine gate_dst (N := 24) rfl ?_); (try (refine gate_guard (by rfl) ?_; dsimp only)); refine Kd.N_lit k54 _ 54 ?hg (N' := 24) ?hd (xs := ([(⟨4, (-64), 0, 0, ([] : List Int), y246, y249⟩ : S54)] : List (S54))) (inner := [.int .i64 4, .int .i64 (-64), .int .i64 0, .int .i64 0, .slice none 0 0, .slice Ao16 y246.length co16, .slice Ao15 y249.length co15]) (ok := (fun k_ => some k_ ≠ (.slice Ao9 y241.length co9 : Value).ownBlock)) (okp := (fun k_ => some k_ ≠ (.slice Ao9 y241.length co9 : Value).ownBlock)) ?hr ?hp (fun _ hk => hk) ((show ∀ k_, w13.heap.size ≤ k_ → (fun k_ => some k_ ≠ (.slice Ao9 y241.length co9 : Value).ownBlock) k_ from fun k_ hk => Kd.fresh' (Kd.N_lt (by (with_reducible repeat (first | apply Kd.N_alloc | apply Kd.N_drewN | apply Kd.N_drew)); exact HO243.out)) k_ hk) _ (Nat.le_refl _)) (Below.refl _ _) (Nat.le_refl _) (by simp) ?_; (case hd => rfl); (case hg => rfl); (case hr => first | (go_simp; done) | (go_simp; rfl)); (case hp => exact (Reps.c7 (show Kd.FK k54 _ _ (⟨4, (-64), 0, 0, ([] : List Int), y246, y249⟩ : S54) [.int .i64 4, .int .i64 (-64), .int .i64 0, .int .i64 0, .slice none 0 0, .slice Ao16 y246.length co16, .slice Ao15 y249.length co15] from (k54_mkF _ _ (⟨4, (-64), 0, 0, ([] : List Int), y246, y249⟩ : S54) (Nat.le_refl _) (Kd.F_nil _ _ _) (Kd.N_reads' (Kd.N_mono (ok' := (fun k_ => some k_ ≠ (.slice Ao9 y241.length co9 : Value).ownBlock)) (HO248.out) (fun k_ hk => hk.1))).2.1 (Kd.N_F (Kd.N_mono (ok' := (fun k_ => some k_ ≠ (.slice Ao9 y241.length co9 : Value).ownBlock)) (HO248.out) (fun k_ hk => hk.1))) (Kd.N_reads' (Kd.N_mono (ok' := (fun k_ => some k_ ≠ (.slice Ao9 y241.length co9 : Value).ownBlock)) (HO251.out) (fun k_ hk => hk.1))).2.1 (Kd.N_F (Kd.N_mono (ok' := (fun k_ => some k_ ≠ (.slice Ao9 y241.length co9 : Value).ownBlock)) (HO251.out) (fun k_ hk => hk.1))))) (Reps.none _ _))); intro v253 w17 ho18 hb hg_ hnew_; clear hg_ hnew_; (first | rw [← Ny252.out] at ho18 | (simp only [Int.reduceToNat] at ho18; rw [← Ny252.out] at ho18)); have n0_ := Aside0.mk (Kd.N_elder' (by (with_reducible repeat (first | apply Kd.N_alloc | apply Kd.N_drewN | apply Kd.N_drew)); exact HO243.out) (by first | exact Kd.N_base ho18 | exact Kd.R_base ho18) hb); have n1_ := Aside0.mk (Kd.N_lower ho18 (below_size (by repeat (first | (with_reducible first | exact HB.out | apply below_alloc | apply pw_below_drewN | apply below_drew1) | exact HB.out)))); have n2_ := Aside0.mk (below_step (by repeat (first | (with_reducible first | exact HB.out | apply below_alloc | apply pw_below_drewN | apply below_drew1) | exact HB.out)) hb); clear HO243; clear HB; clear HO248; clear HO251; have HO243 := n0_; have HO254 := n1_; have HB := n2_; clear n0_ n1_ n2_; clear hb ho18; obtain ⟨Ao19, co19, eo19⟩ := Kd.N_slice HO254.out; subst eo19) | ((with_reducible refine gate_callee (f := 15) rfl ?_); refine goesL_ (some 25) rfl rfl Try.func15 (by kernel_rfl) rfl #[.slice Ao19 y252.length co19] rfl (by (try simp only [List.map_toArray, List.map_cons, List.map_nil]); first | done | rfl | (simp only [List.length_drop, List.length_take]; rfl)) ?_; (with_reducible refine (instr_Put.calls _ _ y252 t255 t256 _ ?side1 ?side2 A2.out).mono ?_); (case side1 => repeat (first | exact (Kd.N_reads' HO254.out).2.2 | (with_reducible refine Kd.C_alloc ?_ _) | (with_reducible refine Kd.C_drewN ?_ _) | (with_reducible refine Kd.C_drew ?_))); (case side2 => exact (Kd.N_reads' HO254.out).2.1); rintro e w20 ⟨rfl, hb⟩; refine ⟨_, rfl, ?_⟩; have n0_ := Aside0.mk (Kd.N_below (by (with_reducible repeat (first | apply Kd.N_alloc | apply Kd.N_drewN | apply Kd.N_drew)); exact HO243.out) hb); have n1_ := Aside0.mk (Kd.N_below (by (with_reducible repeat (first | apply Kd.N_alloc | apply Kd.N_drewN | apply Kd.N_drew)); exact HO254.out) hb); have n2_ := Aside0.mk (below_step (by repeat (first | (with_reducible first | exact HB.out | apply below_alloc | apply pw_below_drewN | apply below_drew1) | exact HB.out)) hb); clear HO243; clear HO254; clear HB; have HO243 := n0_; have HO254 := n1_; have HB := n2_; clear n0_ n1_ n2_; (try clear hb); (try clear hb2); (try clear hk); (try clear hi)) | ((with_reducible refine gate_callee (f := 19) rfl ?_); refine goesL_ (some 29) rfl rfl Try.func19 (by kernel_rfl) rfl #[.string (⟨#[67, 0, 0, 0, 0, 11]⟩ : ByteArray)] rfl (by (try simp only [List.map_toArray, List.map_cons, List.map_nil]); first | done | rfl | (simp only [List.length_drop, List.length_take]; rfl)) ?_; (with_reducible refine (instr_Take.calls (⟨#[67, 0, 0, 0, 0, 11]⟩ : ByteArray) t257 t258 t259 _ A3.out).mono ?_); rintro e w21 ⟨v260, rfl, ho0, hb⟩; refine ⟨_, rfl, ?_⟩; have n0_ := Aside0.mk (Kd.N_elder' (by (with_reducible repeat (first | apply Kd.N_alloc | apply Kd.N_drewN | apply Kd.N_drew)); exact HO243.out) (by first | exact Kd.N_base ho0 | exact Kd.R_base ho0) hb); have n1_ := Aside0.mk (Kd.N_elder' (by (with_reducible repeat (first | apply Kd.N_alloc | apply Kd.N_drewN | apply Kd.N_drew)); exact HO254.out) (by first | exact Kd.N_base ho0 | exact Kd.R_base ho0) hb); have n2_ := Aside0.mk (Kd.N_lower (Kd.N_mono (ok' := fun k_ => some k_ ≠ (.slice Ao9 y241.length co9 : Value).ownBlock ∧ some k_ ≠ (.slice Ao19 y252.length co19 : Value).ownBlock) (Kd.R_N (Kd.R_bound ho0)) (fun k_ hk_ => ⟨(Kd.fresh' (Kd.N_lt (by (with_reducible repeat (first | apply Kd.N_alloc | apply Kd.N_drewN | apply Kd.N_drew)); exact HO243.out)) k_ hk_.2.1), (Kd.fresh' (Kd.N_lt (by (with_reducible repeat (first | apply Kd.N_alloc | apply Kd.N_drewN | apply Kd.N_drew)); exact HO254.out)) k_ hk_.2.1)⟩)) (below_size (by repeat (first | (with_reducible first | exact HB.out | apply below_alloc | apply pw_below_drewN | apply below_drew1) | exact HB.out)))); have n3_ := Aside0.mk (below_step (by repeat (first | (with_reducible first | exact HB.out | apply below_alloc | apply pw_below_drewN | apply below_drew1) | exact HB.out)) hb); clear HO243; clear HO254; clear HB; have HO243 := n0_; have HO254 := n1_; have HO261 := n2_; have HB := n3_; clear n0_ n1_ n2_ n3_; (try clear hb); (try clear hb2); (try clear hk); (try clear hi); (try clear ho0)) | ((with_reducible refine gate_callee (f := 19) rfl ?_); refine goesL_ (some 36) rfl rfl Try.func19 (by kernel_rfl) rfl #[.string (t244 ++ (⟨#[122]⟩ : ByteArray))] rfl (by (try simp only [List.map_toArray, List.map_cons, List.map_nil]); first | done | rfl | (simp only [List.length_drop, List.length_take]; rfl)) ?_; (with_reducible refine (instr_Take.calls (t244 ++ (⟨#[122]⟩ : ByteArray)) t262 t263 t264 _ A5.out).mono ?_); rintro e w22 ⟨v265, rfl, ho0, hb⟩; refine ⟨_, rfl, ?_⟩; have n0_ := Aside0.mk (Kd.N_elder' (by (with_reducible repeat (first | apply Kd.N_alloc | apply Kd.N_drewN | apply Kd.N_drew)); exact HO243.out) (by first | exact Kd.N_base ho0 | exact Kd.R_base ho0) hb); have n1_ := Aside0.mk (Kd.N_elder' (by (with_reducible repeat (first | apply Kd.N_alloc | apply Kd.N_drewN | apply Kd.N_drew)); exact HO254.out) (by first | exact Kd.N_base ho0 | exact Kd.R_base ho0) hb); have n2_ := Aside0.mk (Kd.N_elder' (by (with_reducible repeat (first | apply Kd.N_alloc | apply Kd.N_drewN | apply Kd.N_drew)); exact HO261.out) (by first | exact Kd.N_base ho0 | exact Kd.R_base ho0) hb); have n3_ := Aside0.mk (Kd.N_lower (Kd.N_mono (ok' := fun k_ => some k_ ≠ (.slice Ao9 y241.length co9 : Value).ownBlock ∧ some k_ ≠ (.slice Ao19 y252.length co19 : Value).ownBlock ∧ some k_ ≠ (v260 : Value).ownBlock) (Kd.R_N (Kd.R_bound ho0)) (fun k_ hk_ => ⟨(Kd.fresh' (Kd.N_lt (by (with_reducible repeat (first | apply Kd.N_alloc | apply Kd.N_drewN | apply Kd.N_drew)); exact HO243.out)) k_ hk_.2.1), (Kd.fresh' (Kd.N_lt (by (with_reducible repeat (first | apply Kd.N_alloc | apply Kd.N_drewN | apply Kd.N_drew)); exact HO254.out)) k_ hk_.2.1), (Kd.fresh' (Kd.N_lt (by (with_reducible repeat (first | apply Kd.N_alloc | apply Kd.N_drewN | apply Kd.N_drew)); exact HO261.out)) k_ hk_.2.1)⟩)) (below_size (by repeat (first | (with_reducible first | exact HB.out | apply below_alloc | apply pw_below_drewN | apply below_drew1) | exact HB.out)))); have n4_ := Aside0.mk (below_step (by repeat (first | (with_reducible first | exact HB.out | apply below_alloc | apply pw_below_drewN | apply below_drew1) | exact HB.out)) hb); clear HO243; clear HO254; clear HO261; clear HB; have HO243 := n0_; have HO254 := n1_; have HO261 := n2_; have HO266 := n3_; have HB := n4_; clear n0_ n1_ n2_ n3_ n4_; (try clear hb); (try clear hb2); (try clear hk); (try clear hi); (try clear ho0)))
    (try simp only [Act.put, List.setIfInBounds_toArray, List.set_cons_zero, List.set_cons_succ])
    go_cut [0] (fun v0 wc => ∃ (kq : Nat) (x0_5 : Bool), v0 = .bool x0_5 ∧ Aside0 (scarflaw05_awake.j0 kq x0_5 = some r) ∧ Aside0 (kq ≤ k) ∧ Aside0 (Below w.heap.size w wc))
    case first =>
      have H := HC6.out
      clear HC6
      by_cases c23 : t244.toList = ([65, 127, 26, 11] : List UInt8)
      · rw [if_pos c23] at H
        have c23b0 : (t244.toList == ([65, 127, 26, 11] : List UInt8)) = true := beq_iff_eq.mpr c23
        have c23b1 : (t244.toList != ([65, 127, 26, 11] : List UInt8)) = false := bne_eq_false_iff_eq.mpr c23
        clear c23
        (first | rw [c23b0] | (simp only [i64_w, i32_w]; rw [c23b0]) | skip)
        by_cases c24 : t245 = 0
        · rw [if_pos c24] at H
          have c24b0 : (t245 == 0) = true := beq_iff_eq.mpr c24
          have c24b1 : (t245 != 0) = false := bne_eq_false_iff_eq.mpr c24
          clear c24
          by_cases c25 : t255.toList = ([4, 64, 1, 5, 15, 11, 11] : List UInt8)
          · rw [if_pos c25] at H
            have c25b0 : (t255.toList == ([4, 64, 1, 5, 15, 11, 11] : List UInt8)) = true := beq_iff_eq.mpr c25
            have c25b1 : (t255.toList != ([4, 64, 1, 5, 15, 11, 11] : List UInt8)) = false := bne_eq_false_iff_eq.mpr c25
            clear c25
            by_cases c26 : t256 = 0
            · rw [if_pos c26] at H
              have c26b0 : (t256 == 0) = true := beq_iff_eq.mpr c26
              have c26b1 : (t256 != 0) = false := bne_eq_false_iff_eq.mpr c26
              clear c26
              by_cases c27 : t259 = 3
              · rw [if_pos c27] at H
                have c27b0 : (t259 == 3) = true := beq_iff_eq.mpr c27
                have c27b1 : (t259 != 3) = false := bne_eq_false_iff_eq.mpr c27
                clear c27
                by_cases c28 : (t262.length : Int) = 2
                · rw [if_pos c28] at H
                  have c28b0 : ((t262.length : Int) == 2) = true := beq_iff_eq.mpr c28
                  have c28b1 : ((t262.length : Int) != 2) = false := bne_eq_false_iff_eq.mpr c28
                  clear c28
                  by_cases c29 : t263.toList = ([122] : List UInt8)
                  · rw [if_pos c29] at H
                    have c29b0 : (t263.toList == ([122] : List UInt8)) = true := beq_iff_eq.mpr c29
                    have c29b1 : (t263.toList != ([122] : List UInt8)) = false := bne_eq_false_iff_eq.mpr c29
                    clear c29
                    have H' := Aside0.mk H
                    clear H
                    obtain ⟨Ao30, co30, eo30⟩ := Kd.N_slice HO266.out
                    subst eo30
                    go_wp2
                    go_meet
                    case rel => exact ⟨_, ((t264 == 0)), (by first | rfl | (simp; done) | (simp [*]; done)), H', ⟨by first | omega | exact Nat.le_refl _⟩, ⟨by repeat (first | (with_reducible first | exact HB.out | apply below_alloc | apply pw_below_drewN | apply below_drew1) | exact HB.out)⟩⟩
                  · rw [if_neg c29] at H
                    have c29b0 : (t263.toList == ([122] : List UInt8)) = false := beq_eq_false_iff_ne.mpr c29
                    have c29b1 : (t263.toList != ([122] : List UInt8)) = true := bne_iff_ne.mpr c29
                    have H' := Aside0.mk H
                    clear H
                    obtain ⟨Ao31, co31, eo31⟩ := Kd.N_slice HO266.out
                    subst eo31
                    go_wp2
                    go_meet
                    case rel => exact ⟨_, (false), (by first | rfl | (simp; done) | (simp [*]; done)), H', ⟨by first | omega | exact Nat.le_refl _⟩, ⟨by repeat (first | (with_reducible first | exact HB.out | apply below_alloc | apply pw_below_drewN | apply below_drew1) | exact HB.out)⟩⟩
                · rw [if_neg c28] at H
                  have c28b0 : ((t262.length : Int) == 2) = false := beq_eq_false_iff_ne.mpr c28
                  have c28b1 : ((t262.length : Int) != 2) = true := bne_iff_ne.mpr c28
                  have H' := Aside0.mk H
                  clear H
                  obtain ⟨Ao32, co32, eo32⟩ := Kd.N_slice HO266.out
                  subst eo32
                  go_wp2
                  go_meet
                  case rel => exact ⟨_, (false), (by first | rfl | (simp; done) | (simp [*]; done)), H', ⟨by first | omega | exact Nat.le_refl _⟩, ⟨by repeat (first | (with_reducible first | exact HB.out | apply below_alloc | apply pw_below_drewN | apply below_drew1) | exact HB.out)⟩⟩
              · rw [if_neg c27] at H
                have c27b0 : (t259 == 3) = false := beq_eq_false_iff_ne.mpr c27
                have c27b1 : (t259 != 3) = true := bne_iff_ne.mpr c27
                have H' := Aside0.mk H
                clear H
                go_wp2
                go_meet
                case rel => exact ⟨_, (false), (by first | rfl | (simp; done) | (simp [*]; done)), H', ⟨by first | omega | exact Nat.le_refl _⟩, ⟨by repeat (first | (with_reducible first | exact HB.out | apply below_alloc | apply pw_below_drewN | apply below_drew1) | exact HB.out)⟩⟩
            · rw [if_neg c26] at H
              have c26b0 : (t256 == 0) = false := beq_eq_false_iff_ne.mpr c26
              have c26b1 : (t256 != 0) = true := bne_iff_ne.mpr c26
              have H' := Aside0.mk H
              clear H
              go_wp2
              go_meet
              case rel => exact ⟨_, (false), (by first | rfl | (simp; done) | (simp [*]; done)), H', ⟨by first | omega | exact Nat.le_refl _⟩, ⟨by repeat (first | (with_reducible first | exact HB.out | apply below_alloc | apply pw_below_drewN | apply below_drew1) | exact HB.out)⟩⟩
          · rw [if_neg c25] at H
            have c25b0 : (t255.toList == ([4, 64, 1, 5, 15, 11, 11] : List UInt8)) = false := beq_eq_false_iff_ne.mpr c25
            have c25b1 : (t255.toList != ([4, 64, 1, 5, 15, 11, 11] : List UInt8)) = true := bne_iff_ne.mpr c25
            have H' := Aside0.mk H
            clear H
            go_wp2
            go_meet
            case rel => exact ⟨_, (false), (by first | rfl | (simp; done) | (simp [*]; done)), H', ⟨by first | omega | exact Nat.le_refl _⟩, ⟨by repeat (first | (with_reducible first | exact HB.out | apply below_alloc | apply pw_below_drewN | apply below_drew1) | exact HB.out)⟩⟩
        · rw [if_neg c24] at H
          have c24b0 : (t245 == 0) = false := beq_eq_false_iff_ne.mpr c24
          have c24b1 : (t245 != 0) = true := bne_iff_ne.mpr c24
          have H' := Aside0.mk H
          clear H
          go_wp2
          go_meet
          case rel => exact ⟨_, (false), (by first | rfl | (simp; done) | (simp [*]; done)), H', ⟨by first | omega | exact Nat.le_refl _⟩, ⟨by repeat (first | (with_reducible first | exact HB.out | apply below_alloc | apply pw_below_drewN | apply below_drew1) | exact HB.out)⟩⟩
      · rw [if_neg c23] at H
        have c23b0 : (t244.toList == ([65, 127, 26, 11] : List UInt8)) = false := beq_eq_false_iff_ne.mpr c23
        have c23b1 : (t244.toList != ([65, 127, 26, 11] : List UInt8)) = true := bne_iff_ne.mpr c23
        (first | rw [c23b0] | (simp only [i64_w, i32_w]; rw [c23b0]) | skip)
        have H' := Aside0.mk H
        clear H
        go_wp2
        go_meet
        case rel => exact ⟨_, (false), (by first | rfl | (simp; done) | (simp [*]; done)), H', ⟨by first | omega | exact Nat.le_refl _⟩, ⟨by repeat (first | (with_reducible first | exact HB.out | apply below_alloc | apply pw_below_drewN | apply below_drew1) | exact HB.out)⟩⟩
    case rest =>
      clear HC6
      try clear c1
      try clear c2
      try clear p2
      try clear c4
      try clear c4b0
      try clear c4b1
      try clear c4b2
      try clear c7
      try clear c14
      try clear c15
      try clear c19
      try clear c23
      try clear c23b0
      try clear c23b1
      try clear c24
      try clear c24b0
      try clear c24b1
      try clear c25
      try clear c25b0
      try clear c25b1
      try clear c26
      try clear c26b0
      try clear c26b1
      try clear c27
      try clear c27b0
      try clear c27b1
      try clear c28
      try clear c28b0
      try clear c28b1
      try clear c29
      try clear c29b0
      try clear c29b1
      obtain ⟨kq, x0_5, rfl, HA, HJ5, HB⟩ := hcut
      cases kq with
      | zero => exact absurd HA.out (by simp [scarflaw05_awake.j0])
      | succ kj5 =>
        have H := HA.out
        clear HA
        simp only [scarflaw05_awake.j0] at H
        obtain rfl := Option.some.inj H
        go_wp2
        go_ret
        exact ⟨by first | rfl | (simp [errW_none, errW_some] <;> rfl) | (simp [*, errW_none, errW_some] <;> rfl), by repeat (first | (with_reducible first | exact HB.out | apply below_alloc | apply pw_below_drewN | apply below_drew1) | exact HB.out)⟩
  · rw [if_neg c4] at H
    exact absurd H (by simp)
def scarflaw05_InstrShapes.f (k : Nat) (a0 : Int) : Option (Bool) := (instr_Shape.f k a0).bind fun bt267 => ((scarfref05_Shape.f k a0).bind fun bt269 => ((instr_Type.f k a0).bind fun bt271 => ((scarfref05_Type.f k a0).bind fun bt273 => (if bt267.1 = bt269.1 then (if bt267.2 = bt269.2 then (if bt271.1 = bt273.1 then (if bt271.2 = bt273.2 then ((scarflaw05_awake.f k).bind fun t275 => (some t275)) else (some false)) else (some false)) else (some false)) else (some false)))))
theorem scarflaw05_InstrShapes.mono : ∀ a0 k, LeO (scarflaw05_InstrShapes.f k a0) (scarflaw05_InstrShapes.f (k + 1) a0) := by
  intro a0 k
  unfold scarflaw05_InstrShapes.f
  repeat' first
      | (with_reducible exact instr_Shape.mono _ _)
      | (with_reducible exact instr_Type.mono _ _)
      | (with_reducible exact scarflaw05_awake.mono _)
      | (with_reducible exact scarfref05_Shape.mono _ _)
      | (with_reducible exact scarfref05_Type.mono _ _)
      | (with_reducible exact LeO.refl _)
      | (with_reducible exact LeO.none _)
      | (with_reducible refine LeO.ite ?_ ?_)
      | (with_reducible refine LeO.bind ?_ (fun _ => ?_))
      | exact instr_Shape.mono _ _
      | exact instr_Type.mono _ _
      | exact scarflaw05_awake.mono _
      | exact scarfref05_Shape.mono _ _
      | exact scarfref05_Type.mono _ _
      | exact LeO.none _
      | refine LeO.ite ?_ ?_
      | refine LeO.bind ?_ (fun _ => ?_)
set_option maxHeartbeats 8000000 in
set_option maxRecDepth 100000 in
theorem scarflaw05_InstrShapes.calls (k : Nat) (a0 : Int) (r : Bool) (w : World) (h : scarflaw05_InstrShapes.f k a0 = some r) :
    Calls Try.prog 3 #[.int .i64 a0] w fun e w' => e = .returned (.bool r) ∧ Below w.heap.size w w' := by
  have HB := Aside0.mk (Below.refl w.heap.size w)
  have H : ((instr_Shape.f k a0).bind fun bt267 => ((scarfref05_Shape.f k a0).bind fun bt269 => ((instr_Type.f k a0).bind fun bt271 => ((scarfref05_Type.f k a0).bind fun bt273 => (if bt267.1 = bt269.1 then (if bt267.2 = bt269.2 then (if bt271.1 = bt273.1 then (if bt271.2 = bt273.2 then ((scarflaw05_awake.f k).bind fun t275 => (some t275)) else (some false)) else (some false)) else (some false)) else (some false)))))) = some r := h
  clear h
  replace H := Option.bind_eq_some_iff.mp H
  obtain ⟨⟨t267, t268⟩, A20, H⟩ := H
  replace H : ((scarfref05_Shape.f k a0).bind fun bt269 => ((instr_Type.f k a0).bind fun bt271 => ((scarfref05_Type.f k a0).bind fun bt273 => (if t267 = bt269.1 then (if t268 = bt269.2 then (if bt271.1 = bt273.1 then (if bt271.2 = bt273.2 then ((scarflaw05_awake.f k).bind fun t275 => (some t275)) else (some false)) else (some false)) else (some false)) else (some false))))) = some r := H
  have A2 := Aside0.mk A20
  clear A20
  replace H := Option.bind_eq_some_iff.mp H
  obtain ⟨⟨t269, t270⟩, A30, H⟩ := H
  replace H : ((instr_Type.f k a0).bind fun bt271 => ((scarfref05_Type.f k a0).bind fun bt273 => (if t267 = t269 then (if t268 = t270 then (if bt271.1 = bt273.1 then (if bt271.2 = bt273.2 then ((scarflaw05_awake.f k).bind fun t275 => (some t275)) else (some false)) else (some false)) else (some false)) else (some false)))) = some r := H
  have A3 := Aside0.mk A30
  clear A30
  replace H := Option.bind_eq_some_iff.mp H
  obtain ⟨⟨t271, t272⟩, A40, H⟩ := H
  replace H : ((scarfref05_Type.f k a0).bind fun bt273 => (if t267 = t269 then (if t268 = t270 then (if t271 = bt273.1 then (if t272 = bt273.2 then ((scarflaw05_awake.f k).bind fun t275 => (some t275)) else (some false)) else (some false)) else (some false)) else (some false))) = some r := H
  have A4 := Aside0.mk A40
  clear A40
  replace H := Option.bind_eq_some_iff.mp H
  obtain ⟨⟨t273, t274⟩, A50, H⟩ := H
  replace H : (if t267 = t269 then (if t268 = t270 then (if t271 = t273 then (if t272 = t274 then ((scarflaw05_awake.f k).bind fun t275 => (some t275)) else (some false)) else (some false)) else (some false)) else (some false)) = some r := H
  have A5 := Aside0.mk A50
  clear A50
  by_cases c6 : t267 = t269
  · rw [if_pos c6] at H
    have c6b0 : (t267 == t269) = true := beq_iff_eq.mpr c6
    have c6b1 : (t267 != t269) = false := bne_eq_false_iff_eq.mpr c6
    clear c6
    by_cases c7 : t268 = t270
    · rw [if_pos c7] at H
      have c7b0 : (t268 == t270) = true := beq_iff_eq.mpr c7
      have c7b1 : (t268 != t270) = false := bne_eq_false_iff_eq.mpr c7
      clear c7
      by_cases c8 : t271 = t273
      · rw [if_pos c8] at H
        have c8b0 : (t271 == t273) = true := beq_iff_eq.mpr c8
        have c8b1 : (t271 != t273) = false := bne_eq_false_iff_eq.mpr c8
        clear c8
        by_cases c9 : t272 = t274
        · rw [if_pos c9] at H
          have c9b0 : (t272 == t274) = true := beq_iff_eq.mpr c9
          have c9b1 : (t272 != t274) = false := bne_eq_false_iff_eq.mpr c9
          clear c9
          replace H := Option.bind_eq_some_iff.mp H
          obtain ⟨t275, A100, H⟩ := H
          replace H : (some t275) = some r := H
          have A10 := Aside0.mk A100
          clear A100
          obtain rfl := Option.some.inj H
          go_enter Try.func3, Try.ntmps3
          go_wp2_with (first | ((with_reducible refine gate_callee (f := 10) rfl ?_); refine goesL_ (some 13) rfl rfl Try.func10 (by kernel_rfl) rfl #[.int .i64 a0] rfl (by (try simp only [List.map_toArray, List.map_cons, List.map_nil]); first | done | rfl | (simp only [List.length_drop, List.length_take]; rfl)) ?_; (with_reducible refine (instr_Shape.calls k a0 t267 t268 _ A2.out).mono ?_); rintro e w' ⟨rfl, ⟨nd, rfl⟩⟩; refine ⟨_, rfl, ?_⟩) | ((with_reducible refine gate_callee (f := 11) rfl ?_); refine goesL_ (some 18) rfl rfl Try.func11 (by kernel_rfl) rfl #[.int .i64 a0] rfl (by (try simp only [List.map_toArray, List.map_cons, List.map_nil]); first | done | rfl | (simp only [List.length_drop, List.length_take]; rfl)) ?_; (with_reducible refine (scarfref05_Shape.calls k a0 t269 t270 _ A3.out).mono ?_); rintro e w11 ⟨rfl, hb⟩; refine ⟨_, rfl, ?_⟩; have n0_ := Aside0.mk (below_step (by repeat (first | (with_reducible first | exact HB.out | apply below_alloc | apply pw_below_drewN | apply below_drew1) | exact HB.out)) hb); clear HB; have HB := n0_; clear n0_; (try clear hb); (try clear hb2); (try clear hk); (try clear hi)) | ((with_reducible refine gate_callee (f := 12) rfl ?_); refine goesL_ (some 23) rfl rfl Try.func12 (by kernel_rfl) rfl #[.int .i64 a0] rfl (by (try simp only [List.map_toArray, List.map_cons, List.map_nil]); first | done | rfl | (simp only [List.length_drop, List.length_take]; rfl)) ?_; (with_reducible refine (instr_Type.calls k a0 t271 t272 _ A4.out).mono ?_); rintro e w' ⟨rfl, ⟨nd, rfl⟩⟩; refine ⟨_, rfl, ?_⟩) | ((with_reducible refine gate_callee (f := 13) rfl ?_); refine goesL_ (some 28) rfl rfl Try.func13 (by kernel_rfl) rfl #[.int .i64 a0] rfl (by (try simp only [List.map_toArray, List.map_cons, List.map_nil]); first | done | rfl | (simp only [List.length_drop, List.length_take]; rfl)) ?_; (with_reducible refine (scarfref05_Type.calls k a0 t273 t274 _ A5.out).mono ?_); rintro e w12 ⟨rfl, hb⟩; refine ⟨_, rfl, ?_⟩; have n0_ := Aside0.mk (below_step (by repeat (first | (with_reducible first | exact HB.out | apply below_alloc | apply pw_below_drewN | apply below_drew1) | exact HB.out)) hb); clear HB; have HB := n0_; clear n0_; (try clear hb); (try clear hb2); (try clear hk); (try clear hi)) | (go_at_call 14; (with_reducible refine (scarflaw05_awake.calls k  t275 _ A10.out).mono ?_); rintro e w13 ⟨rfl, hb⟩; have n0_ := Aside0.mk (below_step (by repeat (first | (with_reducible first | exact HB.out | apply below_alloc | apply pw_below_drewN | apply below_drew1) | exact HB.out)) hb); clear HB; have HB := n0_; clear n0_; (try clear hb); (try clear hb2); (try clear hk); (try clear hi)))
          go_ret
          exact ⟨by first | rfl | (simp [errW_none, errW_some] <;> rfl) | (simp [*, errW_none, errW_some] <;> rfl), by repeat (first | (with_reducible first | exact HB.out | apply below_alloc | apply pw_below_drewN | apply below_drew1) | exact HB.out)⟩
        · rw [if_neg c9] at H
          have c9b0 : (t272 == t274) = false := beq_eq_false_iff_ne.mpr c9
          have c9b1 : (t272 != t274) = true := bne_iff_ne.mpr c9
          obtain rfl := Option.some.inj H
          go_enter Try.func3, Try.ntmps3
          go_wp2_with (first | ((with_reducible refine gate_callee (f := 10) rfl ?_); refine goesL_ (some 13) rfl rfl Try.func10 (by kernel_rfl) rfl #[.int .i64 a0] rfl (by (try simp only [List.map_toArray, List.map_cons, List.map_nil]); first | done | rfl | (simp only [List.length_drop, List.length_take]; rfl)) ?_; (with_reducible refine (instr_Shape.calls k a0 t267 t268 _ A2.out).mono ?_); rintro e w' ⟨rfl, ⟨nd, rfl⟩⟩; refine ⟨_, rfl, ?_⟩) | ((with_reducible refine gate_callee (f := 11) rfl ?_); refine goesL_ (some 18) rfl rfl Try.func11 (by kernel_rfl) rfl #[.int .i64 a0] rfl (by (try simp only [List.map_toArray, List.map_cons, List.map_nil]); first | done | rfl | (simp only [List.length_drop, List.length_take]; rfl)) ?_; (with_reducible refine (scarfref05_Shape.calls k a0 t269 t270 _ A3.out).mono ?_); rintro e w14 ⟨rfl, hb⟩; refine ⟨_, rfl, ?_⟩; have n0_ := Aside0.mk (below_step (by repeat (first | (with_reducible first | exact HB.out | apply below_alloc | apply pw_below_drewN | apply below_drew1) | exact HB.out)) hb); clear HB; have HB := n0_; clear n0_; (try clear hb); (try clear hb2); (try clear hk); (try clear hi)) | ((with_reducible refine gate_callee (f := 12) rfl ?_); refine goesL_ (some 23) rfl rfl Try.func12 (by kernel_rfl) rfl #[.int .i64 a0] rfl (by (try simp only [List.map_toArray, List.map_cons, List.map_nil]); first | done | rfl | (simp only [List.length_drop, List.length_take]; rfl)) ?_; (with_reducible refine (instr_Type.calls k a0 t271 t272 _ A4.out).mono ?_); rintro e w' ⟨rfl, ⟨nd, rfl⟩⟩; refine ⟨_, rfl, ?_⟩) | ((with_reducible refine gate_callee (f := 13) rfl ?_); refine goesL_ (some 28) rfl rfl Try.func13 (by kernel_rfl) rfl #[.int .i64 a0] rfl (by (try simp only [List.map_toArray, List.map_cons, List.map_nil]); first | done | rfl | (simp only [List.length_drop, List.length_take]; rfl)) ?_; (with_reducible refine (scarfref05_Type.calls k a0 t273 t274 _ A5.out).mono ?_); rintro e w15 ⟨rfl, hb⟩; refine ⟨_, rfl, ?_⟩; have n0_ := Aside0.mk (below_step (by repeat (first | (with_reducible first | exact HB.out | apply below_alloc | apply pw_below_drewN | apply below_drew1) | exact HB.out)) hb); clear HB; have HB := n0_; clear n0_; (try clear hb); (try clear hb2); (try clear hk); (try clear hi)))
          go_ret
          exact ⟨by first | rfl | (simp [errW_none, errW_some] <;> rfl) | (simp [*, errW_none, errW_some] <;> rfl), by repeat (first | (with_reducible first | exact HB.out | apply below_alloc | apply pw_below_drewN | apply below_drew1) | exact HB.out)⟩
      · rw [if_neg c8] at H
        have c8b0 : (t271 == t273) = false := beq_eq_false_iff_ne.mpr c8
        have c8b1 : (t271 != t273) = true := bne_iff_ne.mpr c8
        obtain rfl := Option.some.inj H
        go_enter Try.func3, Try.ntmps3
        go_wp2_with (first | ((with_reducible refine gate_callee (f := 10) rfl ?_); refine goesL_ (some 13) rfl rfl Try.func10 (by kernel_rfl) rfl #[.int .i64 a0] rfl (by (try simp only [List.map_toArray, List.map_cons, List.map_nil]); first | done | rfl | (simp only [List.length_drop, List.length_take]; rfl)) ?_; (with_reducible refine (instr_Shape.calls k a0 t267 t268 _ A2.out).mono ?_); rintro e w' ⟨rfl, ⟨nd, rfl⟩⟩; refine ⟨_, rfl, ?_⟩) | ((with_reducible refine gate_callee (f := 11) rfl ?_); refine goesL_ (some 18) rfl rfl Try.func11 (by kernel_rfl) rfl #[.int .i64 a0] rfl (by (try simp only [List.map_toArray, List.map_cons, List.map_nil]); first | done | rfl | (simp only [List.length_drop, List.length_take]; rfl)) ?_; (with_reducible refine (scarfref05_Shape.calls k a0 t269 t270 _ A3.out).mono ?_); rintro e w16 ⟨rfl, hb⟩; refine ⟨_, rfl, ?_⟩; have n0_ := Aside0.mk (below_step (by repeat (first | (with_reducible first | exact HB.out | apply below_alloc | apply pw_below_drewN | apply below_drew1) | exact HB.out)) hb); clear HB; have HB := n0_; clear n0_; (try clear hb); (try clear hb2); (try clear hk); (try clear hi)) | ((with_reducible refine gate_callee (f := 12) rfl ?_); refine goesL_ (some 23) rfl rfl Try.func12 (by kernel_rfl) rfl #[.int .i64 a0] rfl (by (try simp only [List.map_toArray, List.map_cons, List.map_nil]); first | done | rfl | (simp only [List.length_drop, List.length_take]; rfl)) ?_; (with_reducible refine (instr_Type.calls k a0 t271 t272 _ A4.out).mono ?_); rintro e w' ⟨rfl, ⟨nd, rfl⟩⟩; refine ⟨_, rfl, ?_⟩) | ((with_reducible refine gate_callee (f := 13) rfl ?_); refine goesL_ (some 28) rfl rfl Try.func13 (by kernel_rfl) rfl #[.int .i64 a0] rfl (by (try simp only [List.map_toArray, List.map_cons, List.map_nil]); first | done | rfl | (simp only [List.length_drop, List.length_take]; rfl)) ?_; (with_reducible refine (scarfref05_Type.calls k a0 t273 t274 _ A5.out).mono ?_); rintro e w17 ⟨rfl, hb⟩; refine ⟨_, rfl, ?_⟩; have n0_ := Aside0.mk (below_step (by repeat (first | (with_reducible first | exact HB.out | apply below_alloc | apply pw_below_drewN | apply below_drew1) | exact HB.out)) hb); clear HB; have HB := n0_; clear n0_; (try clear hb); (try clear hb2); (try clear hk); (try clear hi)))
        go_ret
        exact ⟨by first | rfl | (simp [errW_none, errW_some] <;> rfl) | (simp [*, errW_none, errW_some] <;> rfl), by repeat (first | (with_reducible first | exact HB.out | apply below_alloc | apply pw_below_drewN | apply below_drew1) | exact HB.out)⟩
    · rw [if_neg c7] at H
      have c7b0 : (t268 == t270) = false := beq_eq_false_iff_ne.mpr c7
      have c7b1 : (t268 != t270) = true := bne_iff_ne.mpr c7
      obtain rfl := Option.some.inj H
      go_enter Try.func3, Try.ntmps3
      go_wp2_with (first | ((with_reducible refine gate_callee (f := 10) rfl ?_); refine goesL_ (some 13) rfl rfl Try.func10 (by kernel_rfl) rfl #[.int .i64 a0] rfl (by (try simp only [List.map_toArray, List.map_cons, List.map_nil]); first | done | rfl | (simp only [List.length_drop, List.length_take]; rfl)) ?_; (with_reducible refine (instr_Shape.calls k a0 t267 t268 _ A2.out).mono ?_); rintro e w' ⟨rfl, ⟨nd, rfl⟩⟩; refine ⟨_, rfl, ?_⟩) | ((with_reducible refine gate_callee (f := 11) rfl ?_); refine goesL_ (some 18) rfl rfl Try.func11 (by kernel_rfl) rfl #[.int .i64 a0] rfl (by (try simp only [List.map_toArray, List.map_cons, List.map_nil]); first | done | rfl | (simp only [List.length_drop, List.length_take]; rfl)) ?_; (with_reducible refine (scarfref05_Shape.calls k a0 t269 t270 _ A3.out).mono ?_); rintro e w18 ⟨rfl, hb⟩; refine ⟨_, rfl, ?_⟩; have n0_ := Aside0.mk (below_step (by repeat (first | (with_reducible first | exact HB.out | apply below_alloc | apply pw_below_drewN | apply below_drew1) | exact HB.out)) hb); clear HB; have HB := n0_; clear n0_; (try clear hb); (try clear hb2); (try clear hk); (try clear hi)) | ((with_reducible refine gate_callee (f := 12) rfl ?_); refine goesL_ (some 23) rfl rfl Try.func12 (by kernel_rfl) rfl #[.int .i64 a0] rfl (by (try simp only [List.map_toArray, List.map_cons, List.map_nil]); first | done | rfl | (simp only [List.length_drop, List.length_take]; rfl)) ?_; (with_reducible refine (instr_Type.calls k a0 t271 t272 _ A4.out).mono ?_); rintro e w' ⟨rfl, ⟨nd, rfl⟩⟩; refine ⟨_, rfl, ?_⟩) | ((with_reducible refine gate_callee (f := 13) rfl ?_); refine goesL_ (some 28) rfl rfl Try.func13 (by kernel_rfl) rfl #[.int .i64 a0] rfl (by (try simp only [List.map_toArray, List.map_cons, List.map_nil]); first | done | rfl | (simp only [List.length_drop, List.length_take]; rfl)) ?_; (with_reducible refine (scarfref05_Type.calls k a0 t273 t274 _ A5.out).mono ?_); rintro e w19 ⟨rfl, hb⟩; refine ⟨_, rfl, ?_⟩; have n0_ := Aside0.mk (below_step (by repeat (first | (with_reducible first | exact HB.out | apply below_alloc | apply pw_below_drewN | apply below_drew1) | exact HB.out)) hb); clear HB; have HB := n0_; clear n0_; (try clear hb); (try clear hb2); (try clear hk); (try clear hi)))
      go_ret
      exact ⟨by first | rfl | (simp [errW_none, errW_some] <;> rfl) | (simp [*, errW_none, errW_some] <;> rfl), by repeat (first | (with_reducible first | exact HB.out | apply below_alloc | apply pw_below_drewN | apply below_drew1) | exact HB.out)⟩
  · rw [if_neg c6] at H
    have c6b0 : (t267 == t269) = false := beq_eq_false_iff_ne.mpr c6
    have c6b1 : (t267 != t269) = true := bne_iff_ne.mpr c6
    obtain rfl := Option.some.inj H
    go_enter Try.func3, Try.ntmps3
    go_wp2_with (first | ((with_reducible refine gate_callee (f := 10) rfl ?_); refine goesL_ (some 13) rfl rfl Try.func10 (by kernel_rfl) rfl #[.int .i64 a0] rfl (by (try simp only [List.map_toArray, List.map_cons, List.map_nil]); first | done | rfl | (simp only [List.length_drop, List.length_take]; rfl)) ?_; (with_reducible refine (instr_Shape.calls k a0 t267 t268 _ A2.out).mono ?_); rintro e w' ⟨rfl, ⟨nd, rfl⟩⟩; refine ⟨_, rfl, ?_⟩) | ((with_reducible refine gate_callee (f := 11) rfl ?_); refine goesL_ (some 18) rfl rfl Try.func11 (by kernel_rfl) rfl #[.int .i64 a0] rfl (by (try simp only [List.map_toArray, List.map_cons, List.map_nil]); first | done | rfl | (simp only [List.length_drop, List.length_take]; rfl)) ?_; (with_reducible refine (scarfref05_Shape.calls k a0 t269 t270 _ A3.out).mono ?_); rintro e w20 ⟨rfl, hb⟩; refine ⟨_, rfl, ?_⟩; have n0_ := Aside0.mk (below_step (by repeat (first | (with_reducible first | exact HB.out | apply below_alloc | apply pw_below_drewN | apply below_drew1) | exact HB.out)) hb); clear HB; have HB := n0_; clear n0_; (try clear hb); (try clear hb2); (try clear hk); (try clear hi)) | ((with_reducible refine gate_callee (f := 12) rfl ?_); refine goesL_ (some 23) rfl rfl Try.func12 (by kernel_rfl) rfl #[.int .i64 a0] rfl (by (try simp only [List.map_toArray, List.map_cons, List.map_nil]); first | done | rfl | (simp only [List.length_drop, List.length_take]; rfl)) ?_; (with_reducible refine (instr_Type.calls k a0 t271 t272 _ A4.out).mono ?_); rintro e w' ⟨rfl, ⟨nd, rfl⟩⟩; refine ⟨_, rfl, ?_⟩) | ((with_reducible refine gate_callee (f := 13) rfl ?_); refine goesL_ (some 28) rfl rfl Try.func13 (by kernel_rfl) rfl #[.int .i64 a0] rfl (by (try simp only [List.map_toArray, List.map_cons, List.map_nil]); first | done | rfl | (simp only [List.length_drop, List.length_take]; rfl)) ?_; (with_reducible refine (scarfref05_Type.calls k a0 t273 t274 _ A5.out).mono ?_); rintro e w21 ⟨rfl, hb⟩; refine ⟨_, rfl, ?_⟩; have n0_ := Aside0.mk (below_step (by repeat (first | (with_reducible first | exact HB.out | apply below_alloc | apply pw_below_drewN | apply below_drew1) | exact HB.out)) hb); clear HB; have HB := n0_; clear n0_; (try clear hb); (try clear hb2); (try clear hk); (try clear hi)))
    go_ret
    exact ⟨by first | rfl | (simp [errW_none, errW_some] <;> rfl) | (simp [*, errW_none, errW_some] <;> rfl), by repeat (first | (with_reducible first | exact HB.out | apply below_alloc | apply pw_below_drewN | apply below_drew1) | exact HB.out)⟩
/-- THE ONE PURE STATEMENT of scarflaw05_InstrShapes: yours. -/
def scarflaw05_InstrShapes.Pure : Prop := ∀ (a0 : Int), (Lit.int .i64 a0).wf = true → ∃ k, scarflaw05_InstrShapes.f k a0 = some true
theorem scarflaw05_InstrShapes.walk (P : scarflaw05_InstrShapes.Pure) (a0 : Int) (w : World) (w0 : (Lit.int .i64 a0).wf = true) :
    Calls Try.prog 3 #[.int .i64 a0] w fun e w' => e = .returned (.bool true) ∧ Below w.heap.size w w' := by
  obtain ⟨k, h⟩ := P a0 w0
  refine (scarflaw05_InstrShapes.calls k a0 true w h).mono ?_
  rintro e w' ⟨rfl, hd⟩
  exact ⟨rfl, hd⟩
end Go.Proofs.Ytckhlbpjehbnlaa.PB
namespace Go.Proofs.Ytckhlbpjehbnlaa.Str
set_option linter.unusedVariables false
set_option linter.unusedSimpArgs false
open Go.RowKit Go.Proofs.YtckhlbpjehbnlaaW.PrintWords Go.Proofs.YtckhlbpjehbnlaaW.PrintLast Go.Proofs.YtckhlbpjehbnlaaW.PrintMore
theorem data_inj {s t : ByteArray} (h : s.data.toList = t.data.toList) : s = t := by
  cases s; cases t
  simp only [ByteArray.mk.injEq]
  exact Array.toList_inj.1 h
theorem bytes_inj {s t : ByteArray} (h : bytesOf s = bytesOf t) : s = t := by
  apply data_inj
  unfold bytesOf at h
  have inj : ∀ (l m : List UInt8), l.map (fun b => (b.toNat : Int)) = m.map (fun b => (b.toNat : Int)) → l = m := by
    intro l
    induction l with
    | nil => intro m h; cases m with
      | nil => rfl
      | cons => simp at h
    | cons a l ih => intro m h; cases m with
      | nil => simp at h
      | cons b m =>
        simp only [List.map_cons, List.cons.injEq] at h
        have e : a = b := UInt8.toNat_inj.1 (by have := h.1; omega)
        rw [e, ih m h.2]
  exact inj _ _ h
theorem toList_iff {s t : ByteArray} : s.toList = t.toList ↔ s = t := by
  constructor
  · intro h
    rw [ByteArray.toList_eq, ByteArray.toList_eq] at h
    exact data_inj h
  · rintro rfl; rfl
theorem size_bytes (s : ByteArray) : s.size = (bytesOf s).length := (bytesOf_length s).symm
theorem bytes_append (s t : ByteArray) : bytesOf (s ++ t) = bytesOf s ++ bytesOf t := by
  unfold bytesOf
  rw [ByteArray.data_append, Array.toList_append, List.map_append]
theorem bytes_extract (s : ByteArray) (a b : Nat) : bytesOf (s.extract a b) = ((bytesOf s).take b).drop a := by
  unfold bytesOf
  rw [ByteArray.data_extract, Array.toList_extract]
  simp [List.map_take, List.map_drop, List.take_drop]
  by_cases h : a ≤ b
  · congr 2; omega
  · rw [show b - a = 0 by omega]
    simp
    omega
theorem bytes_rest (s : ByteArray) (a : Nat) : bytesOf (s.extract a s.size) = (bytesOf s).drop a := by
  rw [bytes_extract, size_bytes, List.take_length]
theorem bytes_head (s : ByteArray) (b : Nat) : bytesOf (s.extract 0 b) = (bytesOf s).take b := by
  rw [bytes_extract, List.drop_zero]
theorem bytes_range (s : ByteArray) : ∀ x ∈ bytesOf s, 0 ≤ x ∧ x < 256 := by
  intro x hx
  unfold bytesOf at hx
  obtain ⟨b, _, rfl⟩ := List.mem_map.1 hx
  have := b.toNat_lt
  omega
theorem bytes_of {l : List Int} (h : ∀ x ∈ l, 0 ≤ x ∧ x < 256) : bytesOf (strOfNums l) = l := by
  unfold bytesOf
  rw [strOfNums_data, List.map_map]
  conv => rhs; rw [← List.map_id l]
  apply List.map_congr_left
  intro x hx
  have := h x hx
  simp only [Function.comp, id, UInt8.toNat_ofNat']
  omega
theorem str_of (s : ByteArray) : strOfNums (bytesOf s) = s := bytes_inj (bytes_of (bytes_range s))
theorem bytes_empty : bytesOf (⟨#[]⟩ : ByteArray) = [] := rfl
theorem bt_get (s : ByteArray) (i : Int) : bt s i = (bytesOf s).getD i.toNat 0 := by
  rw [← rd_bytesOf]; rfl
theorem bt_nat (s : ByteArray) (i : Nat) : bt s (i : Int) = (bytesOf s).getD i 0 := by
  rw [bt_get]; rfl
theorem nums_inj {l m : List Int} (hl : ∀ x ∈ l, 0 ≤ x ∧ x < 256) (hm : ∀ x ∈ m, 0 ≤ x ∧ x < 256) (h : strOfNums l = strOfNums m) : l = m := by
  rw [← bytes_of hl, ← bytes_of hm, h]
theorem drop_cons {l : List Int} {i : Nat} (h : i < l.length) : l.drop i = l.getD i 0 :: l.drop (i + 1) := by
  rw [List.drop_eq_getElem_cons h]
  congr 1
  simp [List.getD, List.getElem?_eq_getElem h]
theorem getD_mem {l : List Int} {i : Nat} (h : i < l.length) : l.getD i 0 ∈ l := by
  simp [List.getD, List.getElem?_eq_getElem h]
theorem strOfNums_append (l m : List Int) : strOfNums (l ++ m) = strOfNums l ++ strOfNums m := by
  apply data_inj
  rw [ByteArray.data_append, Array.toList_append, strOfNums_data, strOfNums_data, strOfNums_data, List.map_append]
theorem bytes_nil_iff {s : ByteArray} : bytesOf s = [] ↔ s.size = 0 := by
  rw [size_bytes]; exact List.length_eq_zero_iff.symm
/-- Whole numbers of 64 bits. -/
theorem wf64 {n : Int} (h : (Lit.int .i64 n).wf = true) : -9223372036854775808 ≤ n ∧ n < 9223372036854775808 := by
  simp [Lit.wf, IntKind.min, IntKind.max, IntKind.bits, IntKind.signed] at h
  omega
theorem wrap64_id {n : Int} (h0 : -9223372036854775808 ≤ n) (h1 : n < 9223372036854775808) : wrap64 n = n := by
  unfold wrap64; omega
theorem pow128 {i j : Nat} (h : i ≤ j) : (128 : Int) ^ i ≤ 128 ^ j := by
  have : (128 : Nat) ^ i ≤ 128 ^ j := Nat.pow_le_pow_right (by omega) h
  exact_mod_cast this
end Go.Proofs.Ytckhlbpjehbnlaa.Str
