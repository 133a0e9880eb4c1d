/- Several texts of this session, laid into one for a claim: PBx16, PBx19, PBx21, PBx22, PBx23, PBx24, PBx25, PBx27, PBx28, PBx29, PBx30, PBx31. -/
import Derived.Test.YtckhlbpjehbnlaaGInstrShapes0
import Derived.Test.YtckhlbpjehbnlaaGInstrShapes4
import Derived.Test.YtckhlbpjehbnlaaGInstrShapes1
namespace Go.Proofs.Ytckhlbpjehbnlaa.PB
open Go.RowKit Go.Proofs.YtckhlbpjehbnlaaW.PrintWords Go.Proofs.YtckhlbpjehbnlaaW.PrintLast Go.Proofs.YtckhlbpjehbnlaaW.PrintMore
attribute [local go_sem] max2_int min2_int max_two min_two max_three min_three max_four min_four   -- for this text's walks alone
set_option linter.unusedVariables false
set_option linter.unusedSimpArgs false
def instr_Count.f (k : Nat) (l0 : List (S54)) : Option (Int × Bool) := (instr_count.f k l0 0).bind fun bt160 => (some (bt160.1, bt160.2))
theorem instr_Count.mono : ∀ a0 k, LeO (instr_Count.f k a0) (instr_Count.f (k + 1) a0) := by
  intro a0 k
  unfold instr_Count.f
  repeat' first
      | (with_reducible exact instr_count.mono _ _ _)
      | (with_reducible exact LeO.refl _)
      | (with_reducible exact LeO.none _)
      | (with_reducible refine LeO.ite ?_ ?_)
      | (with_reducible refine LeO.bind ?_ (fun _ => ?_))
      | exact instr_count.mono _ _ _
      | exact LeO.none _
      | refine LeO.ite ?_ ?_
      | refine LeO.bind ?_ (fun _ => ?_)
set_option maxHeartbeats 8000000 in
set_option maxRecDepth 100000 in
theorem instr_Count.calls (k : Nat) (A0 : Option Addr) (c0 : Nat) (l0 : List (S54)) (r1 : Int) (r2 : Bool) (w : World) (hr0 : Kd.C k54 w A0 l0.length l0) (hc0 : l0.length ≤ c0) (h : instr_Count.f k l0 = some (r1, r2)) :
    Calls Try.prog 17 #[.slice A0 l0.length c0] w fun e w' => e = .returned (.tuple #[.int .i64 r1, .bool r2]) ∧ Below w.heap.size w w' := by
  have HR0 := Aside0.mk hr0
  have HC0 := Aside0.mk hc0
  clear hr0 hc0
  have HB := Aside0.mk (Below.refl w.heap.size w)
  have H : ((instr_count.f k l0 0).bind fun bt160 => (some (bt160.1, bt160.2))) = some (r1, r2) := h
  clear h
  replace H := Option.bind_eq_some_iff.mp H
  obtain ⟨⟨t160, t161⟩, A20, H⟩ := H
  replace H : (some (t160, t161)) = some (r1, r2) := H
  have A2 := Aside0.mk A20
  clear A20
  simp only [Option.some.injEq, Prod.mk.injEq] at H
  obtain ⟨rfl, rfl⟩ := H
  go_enter Try.func17, Try.ntmps17
  go_wp2_with (first | ((with_reducible refine gate_callee (f := 33) rfl ?_); refine goesL_ (some 5) rfl rfl Try.func33 (by kernel_rfl) rfl #[.slice A0 l0.length c0, .int .i64 0] rfl (by (try simp only [List.map_toArray, List.map_cons, List.map_nil]); first | done | rfl | (simp only [List.length_drop, List.length_take]; rfl)) ?_; (with_reducible refine (instr_count.calls k _ _ l0 0 t160 t161 _ ?side1 ?side2 A2.out).mono ?_); (case side1 => repeat (first | exact HR0.out | (with_reducible refine Kd.C_alloc ?_ _) | (with_reducible refine Kd.C_drewN ?_ _) | (with_reducible refine Kd.C_drew ?_))); (case side2 => exact HC0.out); rintro e w3 ⟨rfl, hb⟩; refine ⟨_, rfl, ?_⟩; have n0_ := Aside0.mk (below_step (by repeat (first | (with_reducible first | exact HB.out | apply below_alloc | apply pw_below_drewN | apply below_drew1) | exact HB.out)) hb); clear HB; have HB := n0_; clear n0_; (try clear hb); (try clear hb2); (try clear hk); (try clear hi)))
  go_ret2
  exact ⟨by first | rfl | (simp [errW_none, errW_some] <;> rfl) | (simp [*, errW_none, errW_some] <;> rfl), by repeat (first | (with_reducible first | exact HB.out | apply below_alloc | apply pw_below_drewN | apply below_drew1) | exact HB.out)⟩
theorem bld_u : Try.prog.underlying 84 = some .unsafePointer := Try.underlying84
theorem bld_p : Try.prog.underlying 55 = some (.pointer 57) := Try.underlying55
theorem bld_size : (Try.prog.info? 57).map (fun i => i.size) = some 2 := by kernel_rfl
set_option maxHeartbeats 8000000 in
set_option maxRecDepth 100000 in
theorem bld_check_fresh (b : Nat) (w : World) (h0 : w.cell? ⟨b, 0, none⟩ = some (.pointer none)) (hsh : w.shape? b = some (57, 2)) (hfz : w.frozen? ⟨b, 0, none⟩ = false) :
    Calls Try.prog 43 #[.pointer (some ⟨b, 0, none⟩)] w fun e w' => e = .returned (.tuple #[]) ∧ w' = w.setCell ⟨b, 0, none⟩ (.pointer (some ⟨b, 0, none⟩)) := by
  obtain ⟨j, hj, hjs⟩ := Option.map_eq_some_iff.1 bld_size
  go_enter Try.func43, Try.ntmps43
  go_wp2
  rw [Lib.run_to_unsafe w ⟨b, 0, none⟩ bld_p bld_u hj (by rw [hjs]; decide) hsh (Nat.zero_lt_succ 1)]
  simp only [Result.andThen]
  rw [Oper.upon_value]
  go_wp2
  rw [run_callFunc_extern Try.func51 (by kernel_rfl) (by kernel_rfl) (by kernel_rfl) (e := Extern.AbiNoEscape.same) (by kernel_rfl)]
  rw [Lib.run_noEscape]
  simp only [Result.andThen]
  rw [Oper.upon_value]
  go_wp2
  rw [Lib.run_from_unsafe w ⟨b, 0, none⟩ bld_u bld_p hj hsh (by kernel_rfl)]
  simp only [Result.andThen]
  rw [Oper.upon_value]
  go_wp2
  go_end0
  exact ⟨rfl, rfl⟩
set_option maxHeartbeats 8000000 in
set_option maxRecDepth 100000 in
theorem bld_check_used (b : Nat) (w : World) (h0 : w.cell? ⟨b, 0, none⟩ = some (.pointer (some ⟨b, 0, none⟩))) :
    Calls Try.prog 43 #[.pointer (some ⟨b, 0, none⟩)] w fun e w' => e = .returned (.tuple #[]) ∧ w' = w := by
  obtain ⟨j, hj, _⟩ := Option.map_eq_some_iff.1 bld_size
  go_enter Try.func43, Try.ntmps43
  go_wp2
  rw [Lib.run_neq_ptr_same w _ bld_p hj]
  go_wp2
  go_end0
  exact ⟨rfl, rfl⟩
theorem bld_check (B b : Nat) (bs : List Value) (w : World) (h : Lib.IsBuilderF 57 5 B b bs w) :
    Calls Try.prog 43 #[.pointer (some ⟨b, 0, none⟩)] w fun e w' => e = .returned (.tuple #[]) ∧ (Lib.BuilderAtF 57 5 B b (.pointer (some ⟨b, 0, none⟩)) bs w' ∧ Below B w w' ∧ Lib.OthersKept 5 (some b) w w') := by
  rcases h with h | h
  · refine (bld_check_fresh b w h.cell0 h.shape h.frozen0).mono ?_
    rintro e w' ⟨rfl, rfl⟩
    exact ⟨rfl, h.used _, (Below.refl B w).setCell (p := ⟨b, 0, none⟩) h.1 _, (Lib.OthersKept.refl _ _ w).setCell ⟨b, 0, none⟩ rfl _⟩
  · refine (bld_check_used b w h.cell0).mono ?_
    rintro e w' ⟨rfl, rfl⟩
    exact ⟨rfl, h, Below.refl B _, Lib.OthersKept.refl _ _ _⟩
theorem bld_info : (Try.prog.info? 5).map (fun i => (i.zero, i.size, i.bytes)) = some (some (.int .u8 0), 1, 1) := by kernel_rfl
set_option maxHeartbeats 8000000 in
set_option maxRecDepth 100000 in
theorem bld_byte (B b : Nat) (bs : List Value) (c : Int) (w : World) (h : Lib.IsBuilderF 57 5 B b bs w) (hlen : bs.length + 1 ≤ 140737488355328) (hBw : B ≤ w.heap.size) :
    Calls Try.prog 29 #[.pointer (some ⟨b, 0, none⟩), .int .u8 c] w fun e w' => e = .returned .nilIface ∧ (Lib.BuilderAtF 57 5 B b (.pointer (some ⟨b, 0, none⟩)) (bs ++ [.int .u8 c]) w' ∧ Below B w w' ∧ Lib.OthersKept 5 (some b) w w') := by
  obtain ⟨i0, hi, hz0, hz1, hz2⟩ := info_parts bld_info
  have e240 : ∀ args w, (callFunc 43 args).run Try.prog w = .ok (.enter 43 args) w := enters_of Try.func43 (by kernel_rfl) rfl
  go_enter Try.func29, Try.ntmps29
  go_wp2_with (go_at_fn 43; refine (bld_check B b bs _ h).mono ?_)
  rintro e w1 ⟨rfl, h1, hb1, hk1⟩
  obtain ⟨hB, v, hbk, hown, hne⟩ := h1
  have c0 : w1.cell? ⟨b, 0, none⟩ = some (.pointer (some ⟨b, 0, none⟩)) := by rw [Lib.cell_of_heap hbk]; rfl
  have c1 : w1.cell? ⟨b, 1, none⟩ = some v := by rw [Lib.cell_of_heap hbk]; rfl
  go_wp2_with (at_builtin; refine wpList_append_ownF _ rfl _ _ 43 rfl B 5 i0 (.int .u8 0) 1 1 Try.underlying43 hi hz0 hz1 hz2 rfl (by decide) _ _ _ rfl (hown.alloc _) ⟨w1.heap.size, 0, none⟩ 1 1 [.int .u8 c] rfl rfl ?c1 ?c2 ?c3 ?c4 ?c5 ?_)
  case c1 =>
    intro j u hj
    match j, hj with
    | 0, hj => simp at hj; subst hj; simp [Addr.add]
  case c2 => intro u hu; simp at hu; subst hu; rfl
  case c3 => unfold maxLen; omega
  case c4 => omega
  case c5 => have := hb1.size; simp; omega
  intro v' w2 hown' hgrow _
  have hlt : b < w1.heap.size := blk_lt hbk
  have hb2 : w2.heap[b]? = some (.cells #[.pointer (some ⟨b, 0, none⟩), v] 57 (0, 0)) := by
    rw [hgrow.block b (by simp; omega) (fun e => hne e.symm), Lib.alloc_old w1 _ b hlt]
    exact hbk
  have d0 : w2.cell? ⟨b, 0, none⟩ = some (.pointer (some ⟨b, 0, none⟩)) := by rw [Lib.cell_of_heap hb2]; rfl
  have d1 : w2.cell? ⟨b, 1, none⟩ = some v := by rw [Lib.cell_of_heap hb2]; rfl
  have f1 : w2.frozen? ⟨b, 1, none⟩ = false := Lib.frozen_of_heap hb2 1
  obtain ⟨g, cap, rfl⟩ : ∃ g cap, v' = .slice (some ⟨g, 0, none⟩) (bs.length + 1) cap := by
    rcases hown'.2 with ⟨_, h0⟩ | ⟨g, cap, cur, fz, hv, _⟩
    · omega
    · exact ⟨g, cap, hv⟩
  go_wp2
  go_ret
  refine ⟨rfl, ?_, ?_, ((hk1.alloc _).grown hgrow (Lib.ownsRowF_kind (hown.alloc _))).setCell ⟨b, 1, none⟩ rfl _⟩
  · exact Lib.BuilderAtF.put (T := 57) (e := 5) hB hb2 (bs' := bs ++ [.int .u8 c]) (by simpa using hown') (by decide)
  · exact ((hb1.alloc (by have := hb1.size; omega) _).grown hgrow (by have := hb1.size; simp; omega) (fun k hk => (hown.lt k hk).1)).setCell (p := ⟨b, 1, none⟩) hB _
set_option maxHeartbeats 8000000 in
set_option maxRecDepth 100000 in
theorem bld_string (B b : Nat) (bs : List Value) (s : ByteArray) (w : World) (h : Lib.IsBuilderF 57 5 B b bs w) (hlen : bs.length + s.size ≤ 140737488355328) (hBw : B ≤ w.heap.size) :
    Calls Try.prog 39 #[.pointer (some ⟨b, 0, none⟩), .string s] w fun e w' => e = .returned (.tuple #[.int .i64 s.size, .nilIface]) ∧ (Lib.BuilderAtF 57 5 B b (.pointer (some ⟨b, 0, none⟩)) (bs ++ Lib.strCells s) w' ∧ Below B w w' ∧ Lib.OthersKept 5 (some b) w w') := by
  obtain ⟨i0, hi, hz0, hz1, hz2⟩ := info_parts bld_info
  have e240 : ∀ args w, (callFunc 43 args).run Try.prog w = .ok (.enter 43 args) w := enters_of Try.func43 (by kernel_rfl) rfl
  go_enter Try.func39, Try.ntmps39
  go_wp2_with (go_at_fn 43; refine (bld_check B b bs _ h).mono ?_)
  rintro e w1 ⟨rfl, h1, hb1, hk1⟩
  obtain ⟨hB, v, hbk, hown, hne⟩ := h1
  have c0 : w1.cell? ⟨b, 0, none⟩ = some (.pointer (some ⟨b, 0, none⟩)) := by rw [Lib.cell_of_heap hbk]; rfl
  have c1 : w1.cell? ⟨b, 1, none⟩ = some v := by rw [Lib.cell_of_heap hbk]; rfl
  go_wp2_with (at_builtin; refine Lib.wpList_append_own_stringF _ rfl _ _ 43 9 rfl B 5 i0 Try.underlying43 Try.underlying9 hi hz0 hz1 hz2 _ _ _ rfl hown s rfl ?c3 ?c4 ?c5 ?_)
  case c3 => unfold maxLen; omega
  case c4 => omega
  case c5 => have := hb1.size; omega
  intro v' w2 hown' hgrow _
  have hlt : b < w1.heap.size := blk_lt hbk
  have hb2 : w2.heap[b]? = some (.cells #[.pointer (some ⟨b, 0, none⟩), v] 57 (0, 0)) := by
    rw [hgrow.block b hlt (fun e => hne e.symm)]
    exact hbk
  have d0 : w2.cell? ⟨b, 0, none⟩ = some (.pointer (some ⟨b, 0, none⟩)) := by rw [Lib.cell_of_heap hb2]; rfl
  have d1 : w2.cell? ⟨b, 1, none⟩ = some v := by rw [Lib.cell_of_heap hb2]; rfl
  have f1 : w2.frozen? ⟨b, 1, none⟩ = false := Lib.frozen_of_heap hb2 1
  obtain ⟨ao, n', cap, rfl⟩ : ∃ ao n' cap, v' = .slice ao n' cap := by
    rcases hown'.2 with ⟨hv, _⟩ | ⟨g, cap, cur, fz, hv, _⟩
    · exact ⟨_, _, _, hv⟩
    · exact ⟨_, _, _, hv⟩
  go_wp2
  go_ret2
  refine ⟨rfl, ?_, ?_, (hk1.grown hgrow (Lib.ownsRowF_kind hown)).setCell ⟨b, 1, none⟩ rfl _⟩
  · exact Lib.BuilderAtF.put (T := 57) (e := 5) hB hb2 (bs' := bs ++ Lib.strCells s) (by simpa [Lib.strCells_length] using hown') (by decide)
  · exact (hb1.grown hgrow (by have := hb1.size; omega) (fun k hk => (hown.lt k hk).1)).setCell (p := ⟨b, 1, none⟩) hB _
def bld_lays_ren : Go.Shelf.Ren := ⟨fun | 169 => 30 | n => n, fun | 70 => 55 | 9 => 9 | 0 => 0 | 72 => 57 | 37 => 43 | 127 => 78 | 3 => 3 | 5 => 5 | n => n, fun | n => n⟩
theorem bld_lays : Go.Proofs.Lays.n169 Try.prog bld_lays_ren := {
  mixed := by kernel_rfl
  f169 := Try.func30.trans (congrArg some (by kernel_rfl))
  t0 := Try.underlying0
  a0 := Try.isAgg0
  z0 := Try.sizeOf0
  v0 := Try.zeroValue0
  t3 := Try.underlying3
  a3 := Try.isAgg3
  z3 := Try.sizeOf3
  v3 := Try.zeroValue3
  t9 := Try.underlying9
  a9 := Try.isAgg9
  z9 := Try.sizeOf9
  v9 := Try.zeroValue9
  t37 := Try.underlying43
  a37 := Try.isAgg43
  z37 := Try.sizeOf43
  v37 := Try.zeroValue43
  t70 := Try.underlying55
  a70 := Try.isAgg55
  z70 := Try.sizeOf55
  v70 := Try.zeroValue55
  t72 := Try.underlying57
  a72 := Try.isAgg57
  z72 := Try.sizeOf57
  v72 := Try.zeroValue57
  t127 := Try.underlying78
  a127 := Try.isAgg78
  z127 := Try.sizeOf78
  v127 := Try.zeroValue78 }
theorem bld_extra : Builder.Extra Try.prog bld_lays_ren := {
  sizeBuilder := by kernel_rfl
  liesBuilder := by kernel_rfl
  t5 := Try.underlying5
  a5 := Try.isAgg5
  z5 := Try.sizeOf5
  v5 := Try.zeroValue5
  infoByte := by kernel_rfl
  cellsByte := by kernel_rfl
  sizeByte := by kernel_rfl
  neB5 := by decide }
theorem bld_String_any (B b : Nat) (l : List UInt8) (w : World) (h : Lib.IsBuilderF 57 5 B b (Lib.byteCells l) w) (hBw : B ≤ w.heap.size) :
    Calls Try.prog 30 #[.pointer (some ⟨b, 0, none⟩)] w fun e w' => e = .returned (.string ⟨l.toArray⟩) ∧ (Lib.IsBuilderF 57 5 B b (Lib.byteCells l) w' ∧ Below B w w' ∧ Lib.OthersKept 5 (some b) w w') := Any.Builder_String_any_k bld_lays bld_extra B b l w h hBw
/-- A builder at block g that holds the text f0; it is one of those that were made behind w0. -/
def IsS57 (w0 W : World) (g : Nat) (f0 : ByteArray) : Prop := Lib.IsBuilderF 57 5 w0.heap.size g (Lib.strCells f0) W
theorem bldAt_below {B g : Nat} {p : Value} {bs : List Value} {W W1 : World} (h : Lib.BuilderAtF 57 5 B g p bs W) (hw : Below W.heap.size W W1) : Lib.BuilderAtF 57 5 B g p bs W1 := by
  obtain ⟨hB, v, hb, hown, hne⟩ := h
  refine ⟨hB, v, (hw.block g (blk_lt hb)).trans hb, hown.kept (grown_of_below hw none) ?_, hne⟩
  cases v.ownBlock with
  | none => exact .inl rfl
  | some k => exact .inr (by simp)
theorem IsS57.below {w0 W : World} {g : Nat} {f0 : ByteArray} {W1 : World} (h : IsS57 w0 W g f0) (hw : Below W.heap.size W W1) : IsS57 w0 W1 g f0 := by
  rcases h with h | h
  · exact .inl (bldAt_below h hw)
  · exact .inr (bldAt_below h hw)
theorem IsS57.alloc {w0 W : World} {g : Nat} {f0 : ByteArray} (h : IsS57 w0 W g f0) (o : Obj) : IsS57 w0 (W.alloc o) g f0 := h.below (below_alloc (Below.refl _ _) o)
theorem IsS57.drewN {w0 W : World} {g : Nat} {f0 : ByteArray} (h : IsS57 w0 W g f0) (m : Nat) : IsS57 w0 (W.drewN m) g f0 := h.below (pw_below_drewN (Below.refl _ _) m)
theorem IsS57.drew {w0 W : World} {g : Nat} {f0 : ByteArray} (h : IsS57 w0 W g f0) : IsS57 w0 W.drew g f0 := h.below (Below.refl _ _).drew
theorem IsS57.at_ {w0 W : World} {g : Nat} {f0 : ByteArray} {w' : World} {m : Nat} (hq : W.drewN m = w') (h : IsS57 w0 W g f0) : IsS57 w0 w' g f0 := by subst hq; exact IsS57.drewN h m
theorem IsS57.ge {w0 W : World} {g : Nat} {f0 : ByteArray} (h : IsS57 w0 W g f0) : w0.heap.size ≤ g := by
  rcases h with h | h <;> exact h.1
theorem IsS57.lt {w0 W : World} {g : Nat} {f0 : ByteArray} (h : IsS57 w0 W g f0) : g < W.heap.size := by
  rcases h with h | h <;> exact h.lt
theorem IsS57.new (w0 W : World) (hB : Below w0.heap.size w0 W) : IsS57 w0 (W.alloc (.cells #[.pointer none, .slice none 0 0] 57)) W.heap.size ByteArray.empty :=
  .inl ⟨hB.size, .slice none 0 0, heap_alloc_new W _, World.ownsRowF_nil _ _ _ _, by simp [Value.ownBlock]⟩
/-- What a call on the builder at block g leaves as it stood: all that is no row of bytes. -/
def KeepB (w w' : World) (g : Nat) (row : Option Nat) : Prop := w.heap.size ≤ w'.heap.size ∧ Lib.OthersKept 5 (some g) w w'
theorem KeepB.refl (w : World) (g : Nat) (row : Option Nat) : KeepB w w g row := ⟨Nat.le_refl _, Lib.OthersKept.refl _ _ _⟩
theorem KeepB.of_below {w w1 : World} (h : Below w.heap.size w w1) (g : Nat) (row : Option Nat) : KeepB w w1 g row := ⟨h.size, fun k o hk _ _ => (h.block k (blk_lt hk)).trans hk⟩
theorem KeepB.trans {w w1 w2 : World} {g : Nat} {row row1 : Option Nat} (h : KeepB w w1 g row) (k : KeepB w1 w2 g row1) (hr : row1 = row ∨ ∃ b, row1 = some b ∧ w.heap.size ≤ b) : KeepB w w2 g row := ⟨Nat.le_trans h.1 k.1, h.2.trans k.2⟩
theorem KeepB.set_ {w w1 : World} {g : Nat} {row : Option Nat} (h : KeepB w w1 g row) (j : Nat) (u : Value) : KeepB w (w1.setCell ⟨g, j, none⟩ u) g row := ⟨by simpa [World.setCell] using h.1, h.2.setCell ⟨g, j, none⟩ rfl u⟩
theorem keepB_drewN {w W : World} {g : Nat} {row : Option Nat} (h : KeepB w W g row) (m : Nat) : KeepB w (W.drewN m) g row := h
theorem keepB_drew {w W : World} {g : Nat} {row : Option Nat} (h : KeepB w W g row) : KeepB w W.drew g row := h
theorem keepB_alloc {w W : World} {g : Nat} (h : KeepB w W g none) (o : Obj) : KeepB w (W.alloc o) g none := h.trans (KeepB.of_below (below_alloc (Below.refl _ _) o) g none) (.inl rfl)
theorem KeepB.blk {w w1 : World} {g g' : Nat} {row : Option Nat} {o : Obj} (h : KeepB w w1 g row) (hb : w.heap[g']? = some o) (hg : g' ≠ g) (ho : ∀ c fz, o ≠ .cells c 5 fz) : w1.heap[g']? = some o := h.2 g' o hb (by simpa using hg) ho
theorem strCells_append (s t : ByteArray) : Lib.strCells (s ++ t) = Lib.strCells s ++ Lib.strCells t := by simp [Lib.strCells]
theorem strCells_byte (c : Int) (h0 : 0 ≤ c) (h1 : c < 256) : Lib.strCells (strOfNums [c]) = [.int .u8 c] := by
  obtain ⟨n, rfl⟩ := Int.eq_ofNat_of_zero_le h0
  have hn : n < 256 := by omega
  simp [Lib.strCells, strOfNums]
  omega
def strings_Builder_WriteByte.f (s0_0 : ByteArray) (a1 : Int) : Option (Option Int × ByteArray) := if s0_0.size + 1 ≤ 140737488355328 then (if 0 ≤ a1 then (if a1 < 256 then some (none, s0_0 ++ strOfNums [a1]) else none) else none) else none
theorem strings_Builder_WriteByte.calls (g : Nat) (s0_0 : ByteArray) (a1 : Int) (r1 : Option Int) (r2 : ByteArray) (w0 w : World) (hI : IsS57 w0 w g s0_0) (hB : Below w0.heap.size w0 w) (h : strings_Builder_WriteByte.f s0_0 a1 = some (r1, r2)) :
    Calls Try.prog 29 #[.pointer (some ⟨g, 0, none⟩), .int .u8 a1] w fun e w' => e = .returned (errW r1) ∧ IsS57 w0 w' g r2 ∧ Below w0.heap.size w0 w' ∧ KeepB w w' g none := by
  unfold strings_Builder_WriteByte.f at h
  split at h <;> rename_i c1
  · split at h <;> rename_i c2
    · split at h <;> rename_i c3
      · obtain ⟨rfl, rfl⟩ := Prod.mk.inj (Option.some.inj h)
        refine (bld_byte w0.heap.size g _ a1 w hI (by rw [Lib.strCells_length]; exact c1) hB.size).mono ?_
        rintro e w' ⟨rfl, h1, h2, h3⟩
        refine ⟨rfl, .inr ?_, hB.trans h2, h2.size, h3⟩
        rw [strCells_append, strCells_byte a1 c2 c3]; exact h1
      · cases h
    · cases h
  · cases h
def strings_Builder_WriteString.f (s0_0 : ByteArray) (a1 : ByteArray) : Option (Int × Option Int × ByteArray) := if s0_0.size + a1.size ≤ 140737488355328 then some ((a1.size : Int), none, s0_0 ++ a1) else none
theorem strings_Builder_WriteString.calls (g : Nat) (s0_0 : ByteArray) (a1 : ByteArray) (r1 : Int) (r2 : Option Int) (r3 : ByteArray) (w0 w : World) (hI : IsS57 w0 w g s0_0) (hB : Below w0.heap.size w0 w) (h : strings_Builder_WriteString.f s0_0 a1 = some (r1, r2, r3)) :
    Calls Try.prog 39 #[.pointer (some ⟨g, 0, none⟩), .string a1] w fun e w' => e = .returned (.tuple #[.int .i64 r1, errW r2]) ∧ IsS57 w0 w' g r3 ∧ Below w0.heap.size w0 w' ∧ KeepB w w' g none := by
  unfold strings_Builder_WriteString.f at h
  split at h <;> rename_i c1
  · obtain ⟨rfl, h5⟩ := Prod.mk.inj (Option.some.inj h)
    obtain ⟨rfl, rfl⟩ := Prod.mk.inj h5
    refine (bld_string w0.heap.size g _ a1 w hI (by rw [Lib.strCells_length]; exact c1) hB.size).mono ?_
    rintro e w' ⟨rfl, h1, h2, h3⟩
    refine ⟨rfl, .inr ?_, hB.trans h2, h2.size, h3⟩
    rw [strCells_append]; exact h1
  · cases h
def strings_Builder_String.f (s0_0 : ByteArray) : Option (ByteArray × ByteArray) := some (s0_0, s0_0)
theorem strings_Builder_String.calls (g : Nat) (s0_0 : ByteArray) (r1 : ByteArray) (r2 : ByteArray) (w0 w : World) (hI : IsS57 w0 w g s0_0) (hB : Below w0.heap.size w0 w) (h : strings_Builder_String.f s0_0 = some (r1, r2)) :
    Calls Try.prog 30 #[.pointer (some ⟨g, 0, none⟩)] w fun e w' => e = .returned (.string r1) ∧ IsS57 w0 w' g r2 ∧ Below w0.heap.size w0 w' ∧ KeepB w w' g none := by
  obtain ⟨rfl, rfl⟩ := Prod.mk.inj (Option.some.inj h)
  refine (bld_String_any w0.heap.size g s0_0.data.toList w hI hB.size).mono ?_
  rintro e w' ⟨rfl, h1, h2, h3⟩
  exact ⟨rfl, h1, hB.trans h2, h2.size, h3⟩
def leb_PutU.l0 : Nat → Int → List Int → Option (ByteArray)
  | 0, _, _ => none
  | k + 1, x0, x3 => if x0 ≥ 128 then (if x3.length < 140737488355328 then (leb_PutU.l0 k (x0 / 128) (x3 ++ [Go.bits .or .u8 ((x0) % 256) 128])) else (none)) else (if x3.length < 140737488355328 then (some (strOfNums (x3 ++ [(x0) % 256]))) else (none))
def leb_PutU.f (k : Nat) (a0 : Int) : Option (ByteArray) := if a0 < 0 then (some (⟨#[]⟩ : ByteArray)) else (leb_PutU.l0 k a0 ([] : List Int))
theorem leb_PutU.mono_l : ∀ k, (∀ y0 y1, LeO (leb_PutU.l0 k y0 y1) (leb_PutU.l0 (k + 1) y0 y1))
  | 0 => fun _ _ r h => by simp [leb_PutU.l0] at h
  | k + 1 => by
    have ih0 := leb_PutU.mono_l k
    · intro y0 y1
      unfold leb_PutU.l0
      repeat' first
      | (with_reducible exact ih0 _ _)
      | (with_reducible exact LeO.refl _)
      | (with_reducible exact LeO.none _)
      | (with_reducible refine LeO.ite ?_ ?_)
      | (with_reducible refine LeO.bind ?_ (fun _ => ?_))
      | exact ih0 _ _
      | exact LeO.none _
      | refine LeO.ite ?_ ?_
      | refine LeO.bind ?_ (fun _ => ?_)
theorem leb_PutU.mono : ∀ a0 k, LeO (leb_PutU.f k a0) (leb_PutU.f (k + 1) a0) := by
  intro a0 k
  have ih0 := leb_PutU.mono_l k
  unfold leb_PutU.f
  repeat' first
      | (with_reducible exact ih0 _ _)
      | (with_reducible exact LeO.refl _)
      | (with_reducible exact LeO.none _)
      | (with_reducible refine LeO.ite ?_ ?_)
      | (with_reducible refine LeO.bind ?_ (fun _ => ?_))
      | exact ih0 _ _
      | exact LeO.none _
      | refine LeO.ite ?_ ?_
      | refine LeO.bind ?_ (fun _ => ?_)
set_option maxHeartbeats 8000000 in
set_option maxRecDepth 100000 in
theorem leb_PutU.calls (k : Nat) (a0 : Int) (r : ByteArray) (w : World) (h : leb_PutU.f k a0 = some r) :
    Calls Try.prog 41 #[.int .i64 a0] w fun e w' => e = .returned (.string r) ∧ Below w.heap.size w w' := by
  have HB := Aside0.mk (Below.refl w.heap.size w)
  have H : (if a0 < 0 then (some (⟨#[]⟩ : ByteArray)) else (leb_PutU.l0 k a0 ([] : List Int))) = some r := h
  clear h
  by_cases c2 : a0 < 0
  · rw [if_pos c2] at H
    have c2b0 : decide (a0 < 0) = true := decide_eq_true c2
    clear c2
    obtain rfl := Option.some.inj H
    go_enter Try.func41, Try.ntmps41
    go_wp2
    go_ret
    exact ⟨by first | rfl | (simp [errW_none, errW_some] <;> rfl) | (simp [*, errW_none, errW_some] <;> rfl), by repeat (first | (with_reducible first | exact HB.out | apply below_alloc | apply pw_below_drewN | apply below_drew1) | exact HB.out)⟩
  · rw [if_neg c2] at H
    have c2b0 : decide (a0 < 0) = false := decide_eq_false c2
    clear c2
    have H' := Aside0.mk H
    clear H
    go_enter Try.func41, Try.ntmps41
    go_wp2
    go_loopg [0, 3] k (fun kq v0 v3 w' => ∃ (x0_1 : Int) (x3_1 : List Int), v0 = .int .i64 x0_1 ∧ Aside0 (leb_PutU.l0 kq x0_1 x3_1 = some r) ∧ Aside0 (kq ≤ k) ∧ Aside0 (Kd.R (Kd.int .u8) 5 w' w.heap.size (fun _ => True) v3 x3_1) ∧ Aside0 (Below w.heap.size w w'))
    case atStart => exact ⟨(a0), (([] : List Int)), (by first | rfl | (simp; done) | (simp [*]; done)), H', ⟨Nat.le_refl _⟩, ⟨by first | exact Kd.R_nil _ _ _ _ _ | exact Kd.N_nil _ _ _ _ _ | exact Kd.V_nil _ _ _ _ _ | exact Kd.Q_nil _ _ _ _ _ | exact Kd.S_nil _ _ _ _ _⟩, ⟨by repeat (first | (with_reducible first | exact HB.out | apply below_alloc | apply pw_below_drewN | apply below_drew1) | exact HB.out)⟩⟩
    case round =>
      clear H'
      try clear c2
      try clear c2b0
      try clear p2
      obtain ⟨x0_1, x3_1, rfl, HA, HK1, HO_3, HB⟩ := hrel
      cases gk with
      | zero => exact absurd HA.out (by simp [leb_PutU.l0])
      | succ k1 =>
        have H := HA.out
        clear HA
        simp only [leb_PutU.l0] at H
        by_cases c3 : x0_1 ≥ 128
        · rw [if_pos c3] at H
          have c3b0 : decide (128 ≤ x0_1) = true := decide_eq_true c3
          clear c3
          by_cases c4 : x3_1.length < 140737488355328
          · rw [if_pos c4] at H
            have LMc4 := Aside0.mk c4
            clear c4
            obtain ⟨y165, hy165⟩ : ∃ y_ : List Int, y_ = (x3_1 ++ [Go.bits .or .u8 ((x0_1) % 256) 128]) := ⟨_, rfl⟩
            replace H : (leb_PutU.l0 k1 (x0_1 / 128) y165) = some r := by first | (rw [hy165]; with_reducible exact H) | (have H2_ := (Option.bind_some _ _).symm.trans H; rw [hy165]; with_reducible exact H2_) | (have H2_ := (Option.bind_some _ _).symm.trans H; with_reducible exact H2_) | with_reducible exact H | (rw [hy165]; exact H) | exact H
            have Ny165 := Aside0.mk hy165
            clear hy165
            have H' := Aside0.mk H
            clear H
            go_wp2_with (first | ((with_reducible refine gate_builtin (b := .append) (xs := #[.tmp 8, .tmp 12]) rfl ?_); at_builtin; refine Kd.R_append (Kd.int .u8) (w0 := w) w.heap.size rfl (.tmp 8) (.tmp 12) 43 5 (.int .u8 0) 1 rfl Try.underlying43 info5 rfl (by decide) (by omega) u3 x3_1 (Go.bits .or .u8 ((x0_1) % 256) 128) [.int .u8 (Go.bits .or .u8 ((x0_1) % 256) 128)] (fun _ => True) (fun _ => False) rfl rfl ?aP (fun _ hk => hk.elim) ?aF ?aO ?aB ?aS ?aL ?_; (case aP => exact rfl); (case aB => exact (by repeat (first | (with_reducible first | exact HB.out | apply below_alloc | apply pw_below_drewN | apply below_drew1) | exact HB.out))); (case aF => exact (fun _ _ => trivial)); (case aO => exact (by (with_reducible repeat (first | apply Kd.R_alloc | apply Kd.R_drewN | apply Kd.R_drew)); exact HO_3.out)); (case aS => exact (below_size (by repeat (first | (with_reducible first | exact HB.out | apply below_alloc | apply pw_below_drewN | apply below_drew1) | exact HB.out)))); (case aL => have := LMc4.out; omega); intro v166 w5 ho hb hg hat; rw [← Ny165.out] at ho; have n0_ := Aside0.mk (hb); have n1_ := Aside0.mk (ho); clear HB; clear HO_3; have HB := n0_; have HO167 := n1_; clear n0_ n1_; clear ho hb hg hat))
            go_roundg k1
            case measure => have := HK1.out; omega
            case rel => exact ⟨(x0_1 / 128), (y165), (by first | rfl | (simp; done) | (simp [*]; done)), H', ⟨by have := HK1.out; omega⟩, ⟨by (with_reducible repeat (first | apply Kd.R_alloc | apply Kd.R_drewN | apply Kd.R_drew)); exact HO167.out⟩, ⟨by repeat (first | (with_reducible first | exact HB.out | apply below_alloc | apply pw_below_drewN | apply below_drew1) | exact HB.out)⟩⟩
          · rw [if_neg c4] at H
            exact absurd H (by simp)
        · rw [if_neg c3] at H
          have c3b0 : decide (128 ≤ x0_1) = false := decide_eq_false c3
          clear c3
          by_cases c6 : x3_1.length < 140737488355328
          · rw [if_pos c6] at H
            have LMc6 := Aside0.mk c6
            clear c6
            obtain ⟨y168, hy168⟩ : ∃ y_ : List Int, y_ = (x3_1 ++ [(x0_1) % 256]) := ⟨_, rfl⟩
            replace H : (some (strOfNums y168)) = some r := by first | (rw [hy168]; with_reducible exact H) | (have H2_ := (Option.bind_some _ _).symm.trans H; rw [hy168]; with_reducible exact H2_) | (have H2_ := (Option.bind_some _ _).symm.trans H; with_reducible exact H2_) | with_reducible exact H | (rw [hy168]; exact H) | exact H
            have Ny168 := Aside0.mk hy168
            clear hy168
            obtain rfl := Option.some.inj H
            go_wp2_with (first | ((with_reducible refine gate_builtin (b := .append) (xs := #[.tmp 16, .tmp 19]) rfl ?_); at_builtin; refine Kd.R_append (Kd.int .u8) (w0 := w) w.heap.size rfl (.tmp 16) (.tmp 19) 43 5 (.int .u8 0) 1 rfl Try.underlying43 info5 rfl (by decide) (by omega) u3 x3_1 ((x0_1) % 256) [.int .u8 ((x0_1) % 256)] (fun _ => True) (fun _ => False) rfl rfl ?aP (fun _ hk => hk.elim) ?aF ?aO ?aB ?aS ?aL ?_; (case aP => exact rfl); (case aB => exact (by repeat (first | (with_reducible first | exact HB.out | apply below_alloc | apply pw_below_drewN | apply below_drew1) | exact HB.out))); (case aF => exact (fun _ _ => trivial)); (case aO => exact (by (with_reducible repeat (first | apply Kd.R_alloc | apply Kd.R_drewN | apply Kd.R_drew)); exact HO_3.out)); (case aS => exact (below_size (by repeat (first | (with_reducible first | exact HB.out | apply below_alloc | apply pw_below_drewN | apply below_drew1) | exact HB.out)))); (case aL => have := LMc6.out; omega); intro v169 w7 ho hb hg hat; rw [← Ny168.out] at ho; have n0_ := Aside0.mk (hb); have n1_ := Aside0.mk (ho); clear HB; clear HO_3; have HB := n0_; have HO170 := n1_; clear n0_ n1_; clear ho hb hg hat; have hcv8 := own_string (P := Try.prog) Try.underlying43 Try.underlying5 Try.underlying9 (Kd.own_of_R HO170.out)))
            go_ret
            exact ⟨by first | rfl | (simp [errW_none, errW_some] <;> rfl) | (simp [*, errW_none, errW_some] <;> rfl), by repeat (first | (with_reducible first | exact HB.out | apply below_alloc | apply pw_below_drewN | apply below_drew1) | exact HB.out)⟩
          · rw [if_neg c6] at H
            exact absurd H (by simp)
def instr_opcode.f (k : Nat) (s0_0 : ByteArray) (a1 : Int) : Option (ByteArray) := if a1 ≥ 64512 then ((strings_Builder_WriteByte.f s0_0 252).bind fun bt171 => ((leb_PutU.f k (wrap64 (a1 - 64512))).bind fun t173 => ((strings_Builder_WriteString.f bt171.2 t173).bind fun bt174 => (some bt174.2.2)))) else ((strings_Builder_WriteByte.f s0_0 ((a1) % 256)).bind fun bt177 => (some bt177.2))
theorem instr_opcode.mono : ∀ a0 a1 k, LeO (instr_opcode.f k a0 a1) (instr_opcode.f (k + 1) a0 a1) := by
  intro a0 a1 k
  unfold instr_opcode.f
  repeat' first
      | (with_reducible exact leb_PutU.mono _ _)
      | (with_reducible exact LeO.refl _)
      | (with_reducible exact LeO.none _)
      | (with_reducible refine LeO.ite ?_ ?_)
      | (with_reducible refine LeO.bind ?_ (fun _ => ?_))
      | exact leb_PutU.mono _ _
      | exact LeO.none _
      | refine LeO.ite ?_ ?_
      | refine LeO.bind ?_ (fun _ => ?_)
set_option maxHeartbeats 8000000 in
set_option maxRecDepth 100000 in
theorem instr_opcode.calls (k : Nat) (g : Nat) (s0_0 : ByteArray) (a1 : Int) (r : ByteArray) (w0 w : World) (hI : IsS57 w0 w g s0_0) (hB : Below w0.heap.size w0 w) (h : instr_opcode.f k s0_0 a1 = some r) :
    Calls Try.prog 38 #[.pointer (some ⟨g, 0, none⟩), .int .i64 a1] w fun e w' => e = .returned (.tuple #[]) ∧ IsS57 w0 w' g r ∧ Below w0.heap.size w0 w' ∧ KeepB w w' g none := by
  have HI0 := Aside0.mk hI
  have HK := Aside0.mk (KeepB.refl w g none)
  have HL := Aside0.mk hB.size
  clear hI
  have HW0 := Aside0.mk hB.size
  have HB := Aside0.mk hB
  clear hB
  have H : (if a1 ≥ 64512 then ((strings_Builder_WriteByte.f s0_0 252).bind fun bt171 => ((leb_PutU.f k (wrap64 (a1 - 64512))).bind fun t173 => ((strings_Builder_WriteString.f bt171.2 t173).bind fun bt174 => (some bt174.2.2)))) else ((strings_Builder_WriteByte.f s0_0 ((a1) % 256)).bind fun bt177 => (some bt177.2))) = some r := h
  clear h
  by_cases c3 : a1 ≥ 64512
  · rw [if_pos c3] at H
    have c3b0 : decide (64512 ≤ a1) = true := decide_eq_true c3
    clear c3
    replace H := Option.bind_eq_some_iff.mp H
    obtain ⟨⟨t171, t172⟩, A40, H⟩ := H
    replace H : ((leb_PutU.f k (wrap64 (a1 - 64512))).bind fun t173 => ((strings_Builder_WriteString.f t172 t173).bind fun bt174 => (some bt174.2.2))) = some r := H
    have A4 := Aside0.mk A40
    clear A40
    replace H := Option.bind_eq_some_iff.mp H
    obtain ⟨t173, A50, H⟩ := H
    replace H : ((strings_Builder_WriteString.f t172 t173).bind fun bt174 => (some bt174.2.2)) = some r := H
    have A5 := Aside0.mk A50
    clear A50
    replace H := Option.bind_eq_some_iff.mp H
    obtain ⟨⟨t174, t175, t176⟩, A60, H⟩ := H
    replace H : (some t176) = some r := H
    have A6 := Aside0.mk A60
    clear A60
    obtain rfl := Option.some.inj H
    go_enter Try.func38, Try.ntmps38
    go_wp2_with (first | ((with_reducible refine gate_callee (f := 29) rfl ?_); refine goesL_ (some 7) rfl rfl Try.func29 (by kernel_rfl) rfl #[.pointer (some ⟨g, 0, none⟩), .int .u8 252] rfl (by (try simp only [List.map_toArray, List.map_cons, List.map_nil]); first | done | rfl | (simp only [List.length_drop, List.length_take]; rfl)) ?_; (with_reducible refine (strings_Builder_WriteByte.calls g s0_0 252 t171 t172 w0 _ ?side1 ?side2 A4.out).mono ?_); (case side1 => repeat (first | (with_reducible first | exact HI0.out | apply IsS57.alloc | apply IsS57.drewN | apply IsS57.drew | apply IsS57.set_0) | exact HI0.out)); (case side2 => repeat (first | (with_reducible first | exact HB.out | apply below_alloc | apply pw_below_drewN | apply below_drew1 | refine below_set ?_ (IsS57.ge HI0.out)) | exact HB.out)); rintro e w7 ⟨rfl, hi, hb, hk⟩; refine ⟨_, rfl, ?_⟩; have n0_ := Aside0.mk (KeepB.trans (by repeat (first | (with_reducible first | exact HK.out | apply KeepB.set_ | apply keepB_drewN | apply keepB_drew | apply keepB_alloc) | exact HK.out)) hk (.inl rfl)); have n1_ := Aside0.mk (hb); have n2_ := Aside0.mk (hi); clear HK; clear HB; clear HI0; have HK := n0_; have HB := n1_; have HI0 := n2_; clear n0_ n1_ n2_; (try clear hb); (try clear hb2); (try clear hk); (try clear hi); (try simp only [errW_none, errW_some])) | ((with_reducible refine gate_callee (f := 41) rfl ?_); refine goesL_ (some 11) rfl rfl Try.func41 (by kernel_rfl) rfl #[.int .i64 (wrap64 (a1 - 64512))] rfl (by (try simp only [List.map_toArray, List.map_cons, List.map_nil]); first | done | rfl | (simp only [List.length_drop, List.length_take]; rfl)) ?_; (with_reducible refine (leb_PutU.calls k (wrap64 (a1 - 64512)) t173 _ A5.out).mono ?_); rintro e w8 ⟨rfl, hb⟩; refine ⟨_, rfl, ?_⟩; have n0_ := Aside0.mk (IsS57.below (by repeat (first | (with_reducible first | exact HI0.out | apply IsS57.alloc | apply IsS57.drewN | apply IsS57.drew | apply IsS57.set_0) | exact HI0.out)) hb); have n1_ := Aside0.mk (KeepB.trans (by repeat (first | (with_reducible first | exact HK.out | apply KeepB.set_ | apply keepB_drewN | apply keepB_drew | apply keepB_alloc) | exact HK.out)) (KeepB.of_below hb g none) (.inl rfl)); have n2_ := Aside0.mk (below_step (by repeat (first | (with_reducible first | exact HB.out | apply below_alloc | apply pw_below_drewN | apply below_drew1 | refine below_set ?_ (IsS57.ge HI0.out)) | exact HB.out)) hb); clear HI0; clear HK; clear HB; have HI0 := n0_; have HK := n1_; have HB := n2_; clear n0_ n1_ n2_; (try clear hb); (try clear hb2); (try clear hk); (try clear hi)) | ((with_reducible refine gate_callee (f := 39) rfl ?_); refine goesL_ (some 12) rfl rfl Try.func39 (by kernel_rfl) rfl #[.pointer (some ⟨g, 0, none⟩), .string t173] rfl (by (try simp only [List.map_toArray, List.map_cons, List.map_nil]); first | done | rfl | (simp only [List.length_drop, List.length_take]; rfl)) ?_; (with_reducible refine (strings_Builder_WriteString.calls g t172 t173 t174 t175 t176 w0 _ ?side1 ?side2 A6.out).mono ?_); (case side1 => repeat (first | (with_reducible first | exact HI0.out | apply IsS57.alloc | apply IsS57.drewN | apply IsS57.drew | apply IsS57.set_0) | exact HI0.out)); (case side2 => repeat (first | (with_reducible first | exact HB.out | apply below_alloc | apply pw_below_drewN | apply below_drew1 | refine below_set ?_ (IsS57.ge HI0.out)) | exact HB.out)); rintro e w9 ⟨rfl, hi, hb, hk⟩; refine ⟨_, rfl, ?_⟩; have n0_ := Aside0.mk (KeepB.trans (by repeat (first | (with_reducible first | exact HK.out | apply KeepB.set_ | apply keepB_drewN | apply keepB_drew | apply keepB_alloc) | exact HK.out)) hk (.inl rfl)); have n1_ := Aside0.mk (hb); have n2_ := Aside0.mk (hi); clear HK; clear HB; clear HI0; have HK := n0_; have HB := n1_; have HI0 := n2_; clear n0_ n1_ n2_; (try clear hb); (try clear hb2); (try clear hk); (try clear hi); (try simp only [errW_none, errW_some])))
    first | go_end0 | ((try simp only [Exit.inBlock, Exit.then]); refine bodyPost_ret (results_none rfl _ _ _) rfl ?_)
    exact ⟨by first | rfl | (simp [errW_none, errW_some] <;> rfl) | (simp [*, errW_none, errW_some] <;> rfl), by repeat (first | (with_reducible first | exact HI0.out | apply IsS57.alloc | apply IsS57.drewN | apply IsS57.drew | apply IsS57.set_0) | exact HI0.out), by repeat (first | (with_reducible first | exact HB.out | apply below_alloc | apply pw_below_drewN | apply below_drew1 | refine below_set ?_ (IsS57.ge HI0.out)) | exact HB.out), by repeat (first | (with_reducible first | exact HK.out | apply KeepB.set_ | apply keepB_drewN | apply keepB_drew | apply keepB_alloc) | exact HK.out)⟩
  · rw [if_neg c3] at H
    have c3b0 : decide (64512 ≤ a1) = false := decide_eq_false c3
    clear c3
    replace H := Option.bind_eq_some_iff.mp H
    obtain ⟨⟨t177, t178⟩, A100, H⟩ := H
    replace H : (some t178) = some r := H
    have A10 := Aside0.mk A100
    clear A100
    obtain rfl := Option.some.inj H
    go_enter Try.func38, Try.ntmps38
    go_wp2_with (first | ((with_reducible refine gate_callee (f := 29) rfl ?_); refine goesL_ (some 16) rfl rfl Try.func29 (by kernel_rfl) rfl #[.pointer (some ⟨g, 0, none⟩), .int .u8 ((a1) % 256)] rfl (by (try simp only [List.map_toArray, List.map_cons, List.map_nil]); first | done | rfl | (simp only [List.length_drop, List.length_take]; rfl)) ?_; (with_reducible refine (strings_Builder_WriteByte.calls g s0_0 ((a1) % 256) t177 t178 w0 _ ?side1 ?side2 A10.out).mono ?_); (case side1 => repeat (first | (with_reducible first | exact HI0.out | apply IsS57.alloc | apply IsS57.drewN | apply IsS57.drew | apply IsS57.set_0) | exact HI0.out)); (case side2 => repeat (first | (with_reducible first | exact HB.out | apply below_alloc | apply pw_below_drewN | apply below_drew1 | refine below_set ?_ (IsS57.ge HI0.out)) | exact HB.out)); rintro e w11 ⟨rfl, hi, hb, hk⟩; refine ⟨_, rfl, ?_⟩; have n0_ := Aside0.mk (KeepB.trans (by repeat (first | (with_reducible first | exact HK.out | apply KeepB.set_ | apply keepB_drewN | apply keepB_drew | apply keepB_alloc) | exact HK.out)) hk (.inl rfl)); have n1_ := Aside0.mk (hb); have n2_ := Aside0.mk (hi); clear HK; clear HB; clear HI0; have HK := n0_; have HB := n1_; have HI0 := n2_; clear n0_ n1_ n2_; (try clear hb); (try clear hb2); (try clear hk); (try clear hi); (try simp only [errW_none, errW_some])))
    first | go_end0 | ((try simp only [Exit.inBlock, Exit.then]); refine bodyPost_ret (results_none rfl _ _ _) rfl ?_)
    exact ⟨by first | rfl | (simp [errW_none, errW_some] <;> rfl) | (simp [*, errW_none, errW_some] <;> rfl), by repeat (first | (with_reducible first | exact HI0.out | apply IsS57.alloc | apply IsS57.drewN | apply IsS57.drew | apply IsS57.set_0) | exact HI0.out), by repeat (first | (with_reducible first | exact HB.out | apply below_alloc | apply pw_below_drewN | apply below_drew1 | refine below_set ?_ (IsS57.ge HI0.out)) | exact HB.out), by repeat (first | (with_reducible first | exact HK.out | apply KeepB.set_ | apply keepB_drewN | apply keepB_drew | apply keepB_alloc) | exact HK.out)⟩
def leb_PutS.l0 : Nat → Int → List Int → Option (ByteArray)
  | 0, _, _ => none
  | k + 1, x0, x3 => if x0 < (-64) then (if x3.length < 140737488355328 then (leb_PutS.l0 k (x0 / 128) (x3 ++ [Go.bits .or .u8 ((x0) % 256) 128])) else (none)) else (if x0 > 63 then (if x3.length < 140737488355328 then (leb_PutS.l0 k (x0 / 128) (x3 ++ [Go.bits .or .u8 ((x0) % 256) 128])) else (none)) else (if x3.length < 140737488355328 then (some (strOfNums (x3 ++ [Go.bits .and .u8 ((x0) % 256) 127]))) else (none)))
def leb_PutS.f (k : Nat) (a0 : Int) : Option (ByteArray) := leb_PutS.l0 k a0 ([] : List Int)
theorem leb_PutS.mono_l : ∀ k, (∀ y0 y1, LeO (leb_PutS.l0 k y0 y1) (leb_PutS.l0 (k + 1) y0 y1))
  | 0 => fun _ _ r h => by simp [leb_PutS.l0] at h
  | k + 1 => by
    have ih0 := leb_PutS.mono_l k
    · intro y0 y1
      unfold leb_PutS.l0
      repeat' first
      | (with_reducible exact ih0 _ _)
      | (with_reducible exact LeO.refl _)
      | (with_reducible exact LeO.none _)
      | (with_reducible refine LeO.ite ?_ ?_)
      | (with_reducible refine LeO.bind ?_ (fun _ => ?_))
      | exact ih0 _ _
      | exact LeO.none _
      | refine LeO.ite ?_ ?_
      | refine LeO.bind ?_ (fun _ => ?_)
theorem leb_PutS.mono : ∀ a0 k, LeO (leb_PutS.f k a0) (leb_PutS.f (k + 1) a0) := by
  intro a0 k
  have ih0 := leb_PutS.mono_l k
  unfold leb_PutS.f
  repeat' first
      | (with_reducible exact ih0 _ _)
      | (with_reducible exact LeO.refl _)
      | (with_reducible exact LeO.none _)
      | (with_reducible refine LeO.ite ?_ ?_)
      | (with_reducible refine LeO.bind ?_ (fun _ => ?_))
      | exact ih0 _ _
      | exact LeO.none _
      | refine LeO.ite ?_ ?_
      | refine LeO.bind ?_ (fun _ => ?_)
set_option maxHeartbeats 8000000 in
set_option maxRecDepth 100000 in
theorem leb_PutS.calls (k : Nat) (a0 : Int) (r : ByteArray) (w : World) (h : leb_PutS.f k a0 = some r) :
    Calls Try.prog 40 #[.int .i64 a0] w fun e w' => e = .returned (.string r) ∧ Below w.heap.size w w' := by
  have HB := Aside0.mk (Below.refl w.heap.size w)
  have H : (leb_PutS.l0 k a0 ([] : List Int)) = some r := h
  clear h
  have H' := Aside0.mk H
  clear H
  go_enter Try.func40, Try.ntmps40
  go_wp2
  go_loopg [0, 3] k (fun kq v0 v3 w' => ∃ (x0_1 : Int) (x3_1 : List Int), v0 = .int .i64 x0_1 ∧ Aside0 (leb_PutS.l0 kq x0_1 x3_1 = some r) ∧ Aside0 (kq ≤ k) ∧ Aside0 (Kd.R (Kd.int .u8) 5 w' w.heap.size (fun _ => True) v3 x3_1) ∧ Aside0 (Below w.heap.size w w'))
  case atStart => exact ⟨(a0), (([] : List Int)), (by first | rfl | (simp; done) | (simp [*]; done)), H', ⟨Nat.le_refl _⟩, ⟨by first | exact Kd.R_nil _ _ _ _ _ | exact Kd.N_nil _ _ _ _ _ | exact Kd.V_nil _ _ _ _ _ | exact Kd.Q_nil _ _ _ _ _ | exact Kd.S_nil _ _ _ _ _⟩, ⟨by repeat (first | (with_reducible first | exact HB.out | apply below_alloc | apply pw_below_drewN | apply below_drew1) | exact HB.out)⟩⟩
  case round =>
    clear H'
    obtain ⟨x0_1, x3_1, rfl, HA, HK1, HO_3, HB⟩ := hrel
    cases gk with
    | zero => exact absurd HA.out (by simp [leb_PutS.l0])
    | succ k1 =>
      have H := HA.out
      clear HA
      simp only [leb_PutS.l0] at H
      by_cases c2 : x0_1 < (-64)
      · rw [if_pos c2] at H
        have c2b0 : decide (x0_1 < (-64)) = true := decide_eq_true c2
        clear c2
        by_cases c3 : x3_1.length < 140737488355328
        · rw [if_pos c3] at H
          have LMc3 := Aside0.mk c3
          clear c3
          obtain ⟨y179, hy179⟩ : ∃ y_ : List Int, y_ = (x3_1 ++ [Go.bits .or .u8 ((x0_1) % 256) 128]) := ⟨_, rfl⟩
          replace H : (leb_PutS.l0 k1 (x0_1 / 128) y179) = some r := by first | (rw [hy179]; with_reducible exact H) | (have H2_ := (Option.bind_some _ _).symm.trans H; rw [hy179]; with_reducible exact H2_) | (have H2_ := (Option.bind_some _ _).symm.trans H; with_reducible exact H2_) | with_reducible exact H | (rw [hy179]; exact H) | exact H
          have Ny179 := Aside0.mk hy179
          clear hy179
          have H' := Aside0.mk H
          clear H
          go_wp2_with (first | ((with_reducible refine gate_builtin (b := .append) (xs := #[.tmp 10, .tmp 14]) rfl ?_); at_builtin; refine Kd.R_append (Kd.int .u8) (w0 := w) w.heap.size rfl (.tmp 10) (.tmp 14) 43 5 (.int .u8 0) 1 rfl Try.underlying43 info5 rfl (by decide) (by omega) u3 x3_1 (Go.bits .or .u8 ((x0_1) % 256) 128) [.int .u8 (Go.bits .or .u8 ((x0_1) % 256) 128)] (fun _ => True) (fun _ => False) rfl rfl ?aP (fun _ hk => hk.elim) ?aF ?aO ?aB ?aS ?aL ?_; (case aP => exact rfl); (case aB => exact (by repeat (first | (with_reducible first | exact HB.out | apply below_alloc | apply pw_below_drewN | apply below_drew1) | exact HB.out))); (case aF => exact (fun _ _ => trivial)); (case aO => exact (by (with_reducible repeat (first | apply Kd.R_alloc | apply Kd.R_drewN | apply Kd.R_drew)); exact HO_3.out)); (case aS => exact (below_size (by repeat (first | (with_reducible first | exact HB.out | apply below_alloc | apply pw_below_drewN | apply below_drew1) | exact HB.out)))); (case aL => have := LMc3.out; omega); intro v180 w4 ho hb hg hat; rw [← Ny179.out] at ho; have n0_ := Aside0.mk (hb); have n1_ := Aside0.mk (ho); clear HB; clear HO_3; have HB := n0_; have HO181 := n1_; clear n0_ n1_; clear ho hb hg hat))
          go_roundg k1
          case measure => have := HK1.out; omega
          case rel => exact ⟨(x0_1 / 128), (y179), (by first | rfl | (simp; done) | (simp [*]; done)), H', ⟨by have := HK1.out; omega⟩, ⟨by (with_reducible repeat (first | apply Kd.R_alloc | apply Kd.R_drewN | apply Kd.R_drew)); exact HO181.out⟩, ⟨by repeat (first | (with_reducible first | exact HB.out | apply below_alloc | apply pw_below_drewN | apply below_drew1) | exact HB.out)⟩⟩
        · rw [if_neg c3] at H
          exact absurd H (by simp)
      · rw [if_neg c2] at H
        have c2b0 : decide (x0_1 < (-64)) = false := decide_eq_false c2
        clear c2
        by_cases c5 : x0_1 > 63
        · rw [if_pos c5] at H
          have c5b0 : decide (63 < x0_1) = true := decide_eq_true c5
          clear c5
          by_cases c6 : x3_1.length < 140737488355328
          · rw [if_pos c6] at H
            have LMc6 := Aside0.mk c6
            clear c6
            obtain ⟨y182, hy182⟩ : ∃ y_ : List Int, y_ = (x3_1 ++ [Go.bits .or .u8 ((x0_1) % 256) 128]) := ⟨_, rfl⟩
            replace H : (leb_PutS.l0 k1 (x0_1 / 128) y182) = some r := by first | (rw [hy182]; with_reducible exact H) | (have H2_ := (Option.bind_some _ _).symm.trans H; rw [hy182]; with_reducible exact H2_) | (have H2_ := (Option.bind_some _ _).symm.trans H; with_reducible exact H2_) | with_reducible exact H | (rw [hy182]; exact H) | exact H
            have Ny182 := Aside0.mk hy182
            clear hy182
            have H' := Aside0.mk H
            clear H
            go_wp2_with (first | ((with_reducible refine gate_builtin (b := .append) (xs := #[.tmp 10, .tmp 14]) rfl ?_); at_builtin; refine Kd.R_append (Kd.int .u8) (w0 := w) w.heap.size rfl (.tmp 10) (.tmp 14) 43 5 (.int .u8 0) 1 rfl Try.underlying43 info5 rfl (by decide) (by omega) u3 x3_1 (Go.bits .or .u8 ((x0_1) % 256) 128) [.int .u8 (Go.bits .or .u8 ((x0_1) % 256) 128)] (fun _ => True) (fun _ => False) rfl rfl ?aP (fun _ hk => hk.elim) ?aF ?aO ?aB ?aS ?aL ?_; (case aP => exact rfl); (case aB => exact (by repeat (first | (with_reducible first | exact HB.out | apply below_alloc | apply pw_below_drewN | apply below_drew1) | exact HB.out))); (case aF => exact (fun _ _ => trivial)); (case aO => exact (by (with_reducible repeat (first | apply Kd.R_alloc | apply Kd.R_drewN | apply Kd.R_drew)); exact HO_3.out)); (case aS => exact (below_size (by repeat (first | (with_reducible first | exact HB.out | apply below_alloc | apply pw_below_drewN | apply below_drew1) | exact HB.out)))); (case aL => have := LMc6.out; omega); intro v183 w7 ho hb hg hat; rw [← Ny182.out] at ho; have n0_ := Aside0.mk (hb); have n1_ := Aside0.mk (ho); clear HB; clear HO_3; have HB := n0_; have HO184 := n1_; clear n0_ n1_; clear ho hb hg hat))
            go_roundg k1
            case measure => have := HK1.out; omega
            case rel => exact ⟨(x0_1 / 128), (y182), (by first | rfl | (simp; done) | (simp [*]; done)), H', ⟨by have := HK1.out; omega⟩, ⟨by (with_reducible repeat (first | apply Kd.R_alloc | apply Kd.R_drewN | apply Kd.R_drew)); exact HO184.out⟩, ⟨by repeat (first | (with_reducible first | exact HB.out | apply below_alloc | apply pw_below_drewN | apply below_drew1) | exact HB.out)⟩⟩
          · rw [if_neg c6] at H
            exact absurd H (by simp)
        · rw [if_neg c5] at H
          have c5b0 : decide (63 < x0_1) = false := decide_eq_false c5
          clear c5
          by_cases c8 : x3_1.length < 140737488355328
          · rw [if_pos c8] at H
            have LMc8 := Aside0.mk c8
            clear c8
            obtain ⟨y185, hy185⟩ : ∃ y_ : List Int, y_ = (x3_1 ++ [Go.bits .and .u8 ((x0_1) % 256) 127]) := ⟨_, rfl⟩
            replace H : (some (strOfNums y185)) = some r := by first | (rw [hy185]; with_reducible exact H) | (have H2_ := (Option.bind_some _ _).symm.trans H; rw [hy185]; with_reducible exact H2_) | (have H2_ := (Option.bind_some _ _).symm.trans H; with_reducible exact H2_) | with_reducible exact H | (rw [hy185]; exact H) | exact H
            have Ny185 := Aside0.mk hy185
            clear hy185
            obtain rfl := Option.some.inj H
            go_wp2_with (first | ((with_reducible refine gate_builtin (b := .append) (xs := #[.tmp 18, .tmp 22]) rfl ?_); at_builtin; refine Kd.R_append (Kd.int .u8) (w0 := w) w.heap.size rfl (.tmp 18) (.tmp 22) 43 5 (.int .u8 0) 1 rfl Try.underlying43 info5 rfl (by decide) (by omega) u3 x3_1 (Go.bits .and .u8 ((x0_1) % 256) 127) [.int .u8 (Go.bits .and .u8 ((x0_1) % 256) 127)] (fun _ => True) (fun _ => False) rfl rfl ?aP (fun _ hk => hk.elim) ?aF ?aO ?aB ?aS ?aL ?_; (case aP => exact rfl); (case aB => exact (by repeat (first | (with_reducible first | exact HB.out | apply below_alloc | apply pw_below_drewN | apply below_drew1) | exact HB.out))); (case aF => exact (fun _ _ => trivial)); (case aO => exact (by (with_reducible repeat (first | apply Kd.R_alloc | apply Kd.R_drewN | apply Kd.R_drew)); exact HO_3.out)); (case aS => exact (below_size (by repeat (first | (with_reducible first | exact HB.out | apply below_alloc | apply pw_below_drewN | apply below_drew1) | exact HB.out)))); (case aL => have := LMc8.out; omega); intro v186 w9 ho hb hg hat; rw [← Ny185.out] at ho; have n0_ := Aside0.mk (hb); have n1_ := Aside0.mk (ho); clear HB; clear HO_3; have HB := n0_; have HO187 := n1_; clear n0_ n1_; clear ho hb hg hat; have hcv10 := own_string (P := Try.prog) Try.underlying43 Try.underlying5 Try.underlying9 (Kd.own_of_R HO187.out)))
            go_ret
            exact ⟨by first | rfl | (simp [errW_none, errW_some] <;> rfl) | (simp [*, errW_none, errW_some] <;> rfl), by repeat (first | (with_reducible first | exact HB.out | apply below_alloc | apply pw_below_drewN | apply below_drew1) | exact HB.out)⟩
          · rw [if_neg c8] at H
            exact absurd H (by simp)
def leb_PutAll.l0 : Nat → ByteArray → List Int → Int → Int → Option (ByteArray)
  | 0, _, _, _, _ => none
  | k + 1, x3, x9, x10, x11 => if x11 < x10 then (if 0 ≤ x11 then (if x11 < (x9.length : Int) then ((leb_PutU.f k (rd x9 x11)).bind fun t190 => (if x3.size + t190.size ≤ 9223372036854775807 then (leb_PutAll.l0 k (x3 ++ t190) x9 x10 (wrap64 (x11 + 1))) else (none))) else (none)) else (none)) else (some x3)
def leb_PutAll.f (k : Nat) (l0 : List Int) : Option (ByteArray) := (leb_PutU.f k (l0.length : Int)).bind fun t188 => (leb_PutAll.l0 k t188 l0 (l0.length : Int) 0)
theorem leb_PutAll.mono_l : ∀ k, (∀ y0 y1 y2 y3, LeO (leb_PutAll.l0 k y0 y1 y2 y3) (leb_PutAll.l0 (k + 1) y0 y1 y2 y3))
  | 0 => fun _ _ _ _ r h => by simp [leb_PutAll.l0] at h
  | k + 1 => by
    have ih0 := leb_PutAll.mono_l k
    · intro y0 y1 y2 y3
      unfold leb_PutAll.l0
      repeat' first
      | (with_reducible exact ih0 _ _ _ _)
      | (with_reducible exact leb_PutU.mono _ _)
      | (with_reducible exact LeO.refl _)
      | (with_reducible exact LeO.none _)
      | (with_reducible refine LeO.ite ?_ ?_)
      | (with_reducible refine LeO.bind ?_ (fun _ => ?_))
      | exact ih0 _ _ _ _
      | exact leb_PutU.mono _ _
      | exact LeO.none _
      | refine LeO.ite ?_ ?_
      | refine LeO.bind ?_ (fun _ => ?_)
theorem leb_PutAll.mono : ∀ a0 k, LeO (leb_PutAll.f k a0) (leb_PutAll.f (k + 1) a0) := by
  intro a0 k
  have ih0 := leb_PutAll.mono_l k
  unfold leb_PutAll.f
  repeat' first
      | (with_reducible exact ih0 _ _ _ _)
      | (with_reducible exact leb_PutU.mono _ _)
      | (with_reducible exact LeO.refl _)
      | (with_reducible exact LeO.none _)
      | (with_reducible refine LeO.ite ?_ ?_)
      | (with_reducible refine LeO.bind ?_ (fun _ => ?_))
      | exact ih0 _ _ _ _
      | exact leb_PutU.mono _ _
      | exact LeO.none _
      | refine LeO.ite ?_ ?_
      | refine LeO.bind ?_ (fun _ => ?_)
set_option maxHeartbeats 8000000 in
set_option maxRecDepth 100000 in
theorem leb_PutAll.calls (k : Nat) (A0 : Option Addr) (c0 : Nat) (l0 : List Int) (r : ByteArray) (w : World) (hr0 : Kd.C (Kd.int .i64) w A0 l0.length l0) (hc0 : l0.length ≤ c0) (h : leb_PutAll.f k l0 = some r) :
    Calls Try.prog 42 #[.slice A0 l0.length c0] w fun e w' => e = .returned (.string r) ∧ Below w.heap.size w w' := by
  have HR0 := Aside0.mk hr0
  have HC0 := Aside0.mk hc0
  clear hr0 hc0
  have HB := Aside0.mk (Below.refl w.heap.size w)
  have H : ((leb_PutU.f k (l0.length : Int)).bind fun t188 => (leb_PutAll.l0 k t188 l0 (l0.length : Int) 0)) = some r := h
  clear h
  replace H := Option.bind_eq_some_iff.mp H
  obtain ⟨t188, A20, H⟩ := H
  replace H : (leb_PutAll.l0 k t188 l0 (l0.length : Int) 0) = some r := H
  have A2 := Aside0.mk A20
  clear A20
  have H' := Aside0.mk H
  clear H
  go_enter Try.func42, Try.ntmps42
  go_wp2_with (first | ((with_reducible refine gate_callee (f := 41) rfl ?_); refine goesL_ (some 8) rfl rfl Try.func41 (by kernel_rfl) rfl #[.int .i64 (l0.length : Int)] rfl (by (try simp only [List.map_toArray, List.map_cons, List.map_nil]); first | done | rfl | (simp only [List.length_drop, List.length_take]; rfl)) ?_; (with_reducible refine (leb_PutU.calls k (l0.length : Int) t188 _ A2.out).mono ?_); rintro e w3 ⟨rfl, hb⟩; refine ⟨_, rfl, ?_⟩; have n0_ := Aside0.mk (below_step (by repeat (first | (with_reducible first | exact HB.out | apply below_alloc | apply pw_below_drewN | apply below_drew1) | exact HB.out)) hb); clear HB; have HB := n0_; clear n0_; (try clear hb); (try clear hb2); (try clear hk); (try clear hi)))
  go_loopg [3, 11] k (fun kq v3 v11 w' => ∃ (x3_1 : ByteArray) (x11_1 : Int), v3 = .string x3_1 ∧ v11 = .int .i64 x11_1 ∧ Aside0 (leb_PutAll.l0 kq x3_1 l0 (l0.length : Int) x11_1 = some r) ∧ Aside0 (kq ≤ k) ∧ Aside0 (Below w.heap.size w w'))
  case atStart => exact ⟨(t188), (0), (by first | rfl | (simp; done) | (simp [*]; done)), (by first | rfl | (simp; done) | (simp [*]; done)), H', ⟨Nat.le_refl _⟩, ⟨by repeat (first | (with_reducible first | exact HB.out | apply below_alloc | apply pw_below_drewN | apply below_drew1) | exact HB.out)⟩⟩
  case round =>
    clear H'
    try clear p2
    obtain ⟨x3_1, x11_1, rfl, rfl, HA, HK1, HB⟩ := hrel
    cases gk with
    | zero => exact absurd HA.out (by simp [leb_PutAll.l0])
    | succ k1 =>
      have H := HA.out
      clear HA
      simp only [leb_PutAll.l0] at H
      by_cases c4 : x11_1 < (l0.length : Int)
      · rw [if_pos c4] at H
        have c4b0 : decide (x11_1 < (l0.length : Int)) = true := decide_eq_true c4
        clear c4
        by_cases c5 : 0 ≤ x11_1
        · rw [if_pos c5] at H
          have c5b0 : decide (0 ≤ x11_1) = true := decide_eq_true c5
          clear c5
          by_cases c6 : x11_1 < (l0.length : Int)
          · rw [if_pos c6] at H
            have c6b0 : decide (x11_1 < (l0.length : Int)) = true := decide_eq_true c6
            clear c6
            replace H := Option.bind_eq_some_iff.mp H
            obtain ⟨t190, A70, H⟩ := H
            replace H : (if x3_1.size + t190.size ≤ 9223372036854775807 then (leb_PutAll.l0 k1 (x3_1 ++ t190) l0 (l0.length : Int) (wrap64 (x11_1 + 1))) else (none)) = some r := H
            have A7 := Aside0.mk A70
            clear A70
            by_cases c8 : x3_1.size + t190.size ≤ 9223372036854775807
            · rw [if_pos c8] at H
              have c8b0 := eq_true c8
              have c8b1 : decide (x3_1.size + t190.size ≤ 9223372036854775807) = true := decide_eq_true c8
              try have c8b2 : (9223372036854775807 < x3_1.size + t190.size) = False := eq_false (Nat.not_lt.2 c8)
              have H' := Aside0.mk H
              clear H
              have p189 : 0 ≤ (x11_1 : Int) := of_decide_eq_true (by first | (with_reducible assumption) | assumption)
              have q189 : x11_1 < (l0.length : Int) := of_decide_eq_true (by first | (with_reducible assumption) | assumption)
              obtain ⟨ad189, e189, hx189_0⟩ := Kd.at_int HR0.out x11_1 p189 q189
              cases e189
              replace hx189_0 := (HB.out.cell (World.block_lt_of_cell? w _ hx189_0)).trans hx189_0
              replace p189 := eq_true p189
              replace q189 := eq_true q189
              go_wp2_with (first | ((with_reducible refine gate_callee (f := 41) rfl ?_); refine goesL_ (some 17) rfl rfl Try.func41 (by kernel_rfl) rfl #[.int .i64 (rd l0 x11_1)] rfl (by (try simp only [List.map_toArray, List.map_cons, List.map_nil]); first | done | rfl | (simp only [List.length_drop, List.length_take]; rfl)) ?_; (with_reducible refine (leb_PutU.calls k1 (rd l0 x11_1) t190 _ A7.out).mono ?_); rintro e w9 ⟨rfl, hb⟩; refine ⟨_, rfl, ?_⟩; have n0_ := Aside0.mk (below_step (by repeat (first | (with_reducible first | exact HB.out | apply below_alloc | apply pw_below_drewN | apply below_drew1) | exact HB.out)) hb); clear HB; have HB := n0_; clear n0_; (try clear hb); (try clear hb2); (try clear hk); (try clear hi)))
              go_roundg k1
              case measure => have := HK1.out; omega
              case rel => exact ⟨(x3_1 ++ t190), (wrap64 (x11_1 + 1)), (by first | rfl | (simp; done) | (simp [*]; done)), (by first | rfl | (simp; done) | (simp [*]; done)), H', ⟨by have := HK1.out; omega⟩, ⟨by repeat (first | (with_reducible first | exact HB.out | apply below_alloc | apply pw_below_drewN | apply below_drew1) | exact HB.out)⟩⟩
            · rw [if_neg c8] at H
              exact absurd H (by simp)
          · rw [if_neg c6] at H
            exact absurd H (by simp)
        · rw [if_neg c5] at H
          exact absurd H (by simp)
      · rw [if_neg c4] at H
        have c4b0 : decide (x11_1 < (l0.length : Int)) = false := decide_eq_false c4
        clear c4
        obtain rfl := Option.some.inj H
        go_wp2
        go_ret
        exact ⟨by first | rfl | (simp [errW_none, errW_some] <;> rfl) | (simp [*, errW_none, errW_some] <;> rfl), by repeat (first | (with_reducible first | exact HB.out | apply below_alloc | apply pw_below_drewN | apply below_drew1) | exact HB.out)⟩
/-- An opcode's bytes. -/
def opc (op : Int) : Option ByteArray := if op ≥ 64512 then ((leb_PutU.f 12 (wrap64 (op - 64512))).bind fun t => some (strOfNums [252] ++ t)) else some (strOfNums [op % 256])
def two (x y : Option ByteArray) : Option ByteArray := x.bind fun a => y.bind fun b => some (a ++ b)
/-- What stands behind an instruction's opcode, by its shape. -/
def putS (s : Int) (rec : List S54 → Option ByteArray) (x : S54) : Option ByteArray :=
  if s = 2 then (leb_PutS.f 12 x.f1).bind fun a => (rec x.f5).bind fun b => if x.f6.length = 0 then some (a ++ (b ++ strOfNums [11])) else (rec x.f6).bind fun c => some (a ++ (b ++ (strOfNums [5] ++ (c ++ strOfNums [11]))))
  else if s = 3 then leb_PutU.f 12 x.f1
  else if s = 4 then two (leb_PutAll.f (x.f4.length + 20) x.f4) (leb_PutU.f 12 x.f1)
  else if s = 5 then two (leb_PutU.f 12 x.f1) (leb_PutU.f 12 x.f3)
  else if s = 6 then some (⟨#[1]⟩ ++ strOfNums [x.f1 % 256])
  else if s = 7 then (if x.f3 > 0 then two (two (leb_PutU.f 12 (Go.bits .or .i64 x.f2 64)) (leb_PutU.f 12 x.f3)) (leb_PutU.f 12 x.f1) else two (leb_PutU.f 12 x.f2) (leb_PutU.f 12 x.f1))
  else if s = 8 then leb_PutU.f 12 x.f3
  else if s = 9 then two (leb_PutU.f 12 x.f3) (leb_PutU.f 12 x.f1)
  else if s = 10 then leb_PutS.f 12 x.f1
  else if s = 11 then some (strOfNums [112])
  else some ByteArray.empty
def putOne (rec : List S54 → Option ByteArray) (x : S54) : Option ByteArray := (opc x.f0).bind fun o => (instr_Shape.f 40 x.f0).bind fun s => (putS s.1 rec x).bind fun b => some (o ++ b)
def putL (one : S54 → Option ByteArray) : List S54 → Option ByteArray
  | [] => some ByteArray.empty
  | x :: l => (one x).bind fun a => (putL one l).bind fun b => some (a ++ b)
/-- Instructions' bytes; k: how deep they may stand in one another. -/
def putF : Nat → List S54 → Option ByteArray
  | 0 => fun _ => none
  | k + 1 => fun l => if l.length < 9223372036854775807 then putL (putOne (putF k)) l else none
theorem opc_at {s o : ByteArray} {op : Int} (h : opc op = some o) (hs : s.size + o.size ≤ 140737488355328) : instr_opcode.f 12 s op = some (s ++ o) := by
  have one : ∀ c : Int, (strOfNums [c]).size = 1 := by intro c; simp [strOfNums]; rfl
  unfold opc at h
  unfold instr_opcode.f
  split at h <;> rename_i c1
  · obtain ⟨t, ht, h⟩ := Option.bind_eq_some_iff.mp h
    obtain rfl := Option.some.inj h
    rw [ByteArray.size_append, one] at hs
    have h1 : strings_Builder_WriteByte.f s 252 = some (none, s ++ strOfNums [252]) := by
      unfold strings_Builder_WriteByte.f; rw [if_pos (by omega), if_pos (by decide), if_pos (by decide)]
    have h2 : strings_Builder_WriteString.f (s ++ strOfNums [252]) t = some ((t.size : Int), none, (s ++ strOfNums [252]) ++ t) := by
      unfold strings_Builder_WriteString.f; rw [if_pos (by rw [ByteArray.size_append, one]; omega)]
    rw [if_pos c1, h1, Option.bind_some, ht, Option.bind_some, h2, Option.bind_some, ByteArray.append_assoc]
  · obtain rfl := Option.some.inj h
    rw [one] at hs
    have h1 : strings_Builder_WriteByte.f s (op % 256) = some (none, s ++ strOfNums [op % 256]) := by
      unfold strings_Builder_WriteByte.f; rw [if_pos (by omega), if_pos (by omega), if_pos (by omega)]
    rw [if_neg c1, h1, Option.bind_some]
theorem num_size (c : Int) : (strOfNums [c]).size = 1 := by simp [strOfNums]; rfl
theorem wb_at {s : ByteArray} {c : Int} (h0 : 0 ≤ c) (h1 : c < 256) (h : s.size + 1 ≤ 140737488355328) : strings_Builder_WriteByte.f s c = some (none, s ++ strOfNums [c]) := by unfold strings_Builder_WriteByte.f; rw [if_pos h, if_pos h0, if_pos h1]
theorem wrap_succ (i : Nat) (h : i < 9223372036854775807) : wrap64 ((i : Int) + 1) = ((i + 1 : Nat) : Int) := by unfold wrap64; omega
theorem ws_at {s x : ByteArray} (h : s.size + x.size ≤ 140737488355328) : strings_Builder_WriteString.f s x = some ((x.size : Int), none, s ++ x) := by unfold strings_Builder_WriteString.f; rw [if_pos h]
set_option maxHeartbeats 8000000 in
set_option maxRecDepth 100000 in
theorem put_calls (k : Nat) : ∀ (g : Nat) (s : ByteArray) (A : Option Addr) (c : Nat) (l : List S54) (r : ByteArray) (w0 w : World), IsS57 w0 w g s → Below w0.heap.size w0 w → Kd.C k54 w0 A l.length l → l.length ≤ c → putF k l = some r → s.size + r.size ≤ 140737488355328 →
    Calls Try.prog 28 #[.pointer (some ⟨g, 0, none⟩), .slice A l.length c] w fun e w' => e = .returned (.tuple #[]) ∧ IsS57 w0 w' g (s ++ r) ∧ Below w0.heap.size w0 w' ∧ KeepB w w' g none := by
  induction k with
  | zero => intro g s A c l r w0 w _ _ _ _ h; cases h
  | succ k ih =>
    intro g s A c l r w0 w
    intro hI hB hr hc h1 hs
    have hl : l.length < 9223372036854775807 := by
      unfold putF at h1
      split at h1
      · assumption
      · cases h1
    have h : putL (putOne (putF k)) l = some r := by
      unfold putF at h1
      rw [if_pos hl] at h1
      exact h1
    clear h1
    go_enter Try.func28, Try.ntmps28
    go_wp2
    go_loopg [10] l.length (fun d v10 w' => ∃ (i : Nat) (p q : ByteArray), v10 = .int .i64 i ∧ Aside0 (i + d = l.length) ∧ Aside0 (putL (putOne (putF k)) (l.drop i) = some q) ∧ Aside0 (r = p ++ q) ∧ Aside0 (IsS57 w0 w' g (s ++ p)) ∧ Aside0 (Below w0.heap.size w0 w') ∧ Aside0 (KeepB w w' g none))
    case atStart => exact ⟨0, ByteArray.empty, r, rfl, ⟨by simp⟩, ⟨by simpa using h⟩, ⟨by simp⟩, ⟨by simpa using hI⟩, ⟨hB⟩, ⟨KeepB.refl _ _ _⟩⟩
    case round =>
      obtain ⟨i, p, q, rfl, hi, hq, hrp, HI, HB, HK⟩ := hrel
      by_cases hlt : i < l.length
      · have p0 : (0 : Int) ≤ (i : Int) := by omega
        have q0 : (i : Int) < (l.length : Int) := by omega
        have hd : l.drop i = rd_T54 l (i : Int) :: l.drop (i + 1) := by
          rw [List.drop_eq_getElem_cons hlt]; simp [rd_T54, List.getD, hlt]
        have hq1 := hq.out
        clear hq
        rw [hd, putL] at hq1
        obtain ⟨a, ha, hq2⟩ := Option.bind_eq_some_iff.mp hq1
        obtain ⟨b, hb, hq3⟩ := Option.bind_eq_some_iff.mp hq2
        obtain rfl := Option.some.inj hq3
        clear hq1 hq2 hq3 hd
        obtain ⟨ad, A4, c4, A5, c5, A6, c6, e5, hx0, hx1, hx2, hx3, hx4, hx5, hx6, l4, g4, l5, g5, l6, g6⟩ := at_T54 hr (i : Int) p0 q0
        generalize rd_T54 l (i : Int) = x at *
        cases e5
        replace hx0 := (HB.out.cell (World.block_lt_of_cell? w0 _ hx0)).trans hx0
        replace hx1 := (HB.out.cell (World.block_lt_of_cell? w0 _ hx1)).trans hx1
        replace hx2 := (HB.out.cell (World.block_lt_of_cell? w0 _ hx2)).trans hx2
        replace hx3 := (HB.out.cell (World.block_lt_of_cell? w0 _ hx3)).trans hx3
        replace hx4 := (HB.out.cell (World.block_lt_of_cell? w0 _ hx4)).trans hx4
        replace hx5 := (HB.out.cell (World.block_lt_of_cell? w0 _ hx5)).trans hx5
        replace hx6 := (HB.out.cell (World.block_lt_of_cell? w0 _ hx6)).trans hx6
        have hsz : (s ++ p).size + (a.size + b.size) ≤ 140737488355328 := by
          have := hrp.out; rw [this, ByteArray.size_append, ByteArray.size_append] at hs; rw [ByteArray.size_append]; omega
        obtain ⟨o, ho, ha1⟩ := Option.bind_eq_some_iff.mp ha
        obtain ⟨⟨s1, s2⟩, hs1, ha2⟩ := Option.bind_eq_some_iff.mp ha1
        obtain ⟨bd, hbd, ha3⟩ := Option.bind_eq_some_iff.mp ha2
        obtain rfl := Option.some.inj ha3
        clear ha ha1 ha2 ha3
        rw [ByteArray.size_append] at hsz
        replace p0 := eq_true p0
        replace q0 := eq_true q0
        simp only [Int.toNat_natCast] at hx0 hx1 hx2 hx3 hx4 hx5 hx6
        go_upto_region 3 with (fail)
        have hbx : (wr.alloc (Obj.cells #[.int .i64 x.f0, .int .i64 x.f1, .int .i64 x.f2, .int .i64 x.f3, .slice A4 x.f4.length c4, .slice A5 x.f5.length c5, .slice A6 x.f6.length c6] 54)).heap[wr.heap.size]? = some (.cells #[.int .i64 x.f0, .int .i64 x.f1, .int .i64 x.f2, .int .i64 x.f3, .slice A4 x.f4.length c4, .slice A5 x.f5.length c5, .slice A6 x.f6.length c6] 54 (0, 0)) := heap_alloc_new wr _
        have HI1 := HI.out.alloc (Obj.cells #[.int .i64 x.f0, .int .i64 x.f1, .int .i64 x.f2, .int .i64 x.f3, .slice A4 x.f4.length c4, .slice A5 x.f5.length c5, .slice A6 x.f6.length c6] 54)
        have HB1 := below_alloc HB.out (Obj.cells #[.int .i64 x.f0, .int .i64 x.f1, .int .i64 x.f2, .int .i64 x.f3, .slice A4 x.f4.length c4, .slice A5 x.f5.length c5, .slice A6 x.f6.length c6] 54)
        have HK1 := keepB_alloc HK.out (Obj.cells #[.int .i64 x.f0, .int .i64 x.f1, .int .i64 x.f2, .int .i64 x.f3, .slice A4 x.f4.length c4, .slice A5 x.f5.length c5, .slice A6 x.f6.length c6] 54)
        have hgn : wr.heap.size ≠ g := Nat.ne_of_gt HI.out.lt
        clear HI HB HK hx0 hx1 hx2 hx3 hx4 hx5 hx6
        generalize wr.alloc (Obj.cells #[.int .i64 x.f0, .int .i64 x.f1, .int .i64 x.f2, .int .i64 x.f3, .slice A4 x.f4.length c4, .slice A5 x.f5.length c5, .slice A6 x.f6.length c6] 54) = W1 at hbx HI1 HB1 HK1 ⊢
        generalize wr.heap.size = gb at hbx hgn ⊢
        have b0 : W1.cell? ⟨gb, 0, none⟩ = some (.int .i64 x.f0) := blk_cell hbx 0
        go_upto_block 2 with (first
          | (go_at_call 38; (with_reducible refine (instr_opcode.calls 12 g (s ++ p) x.f0 ((s ++ p) ++ o) w0 _ HI1 HB1 (opc_at ho (by rw [ByteArray.size_append]; rw [ByteArray.size_append] at hsz; omega))).mono ?_); rintro e w2 ⟨rfl, HI2, HB2, hk2⟩; have hbx2 := hk2.blk hbx hgn (by intro c fz h; cases h); have b02 : w2.cell? ⟨gb, 0, none⟩ = some (.int .i64 x.f0) := blk_cell hbx2 0)
          | (go_at_call 10; (with_reducible refine (instr_Shape.calls 40 x.f0 s1 s2 _ hs1).mono ?_); rintro e w' ⟨rfl, ⟨nd, rfl⟩⟩))
        have HI3 := HI2.drewN nd
        have HB3 := pw_below_drewN HB2 nd
        have HK3 := keepB_drewN (HK1.trans hk2 (.inl rfl)) nd
        have hbx3 : (w2.drewN nd).heap[gb]? = some (.cells #[.int .i64 x.f0, .int .i64 x.f1, .int .i64 x.f2, .int .i64 x.f3, .slice A4 x.f4.length c4, .slice A5 x.f5.length c5, .slice A6 x.f6.length c6] 54 (0, 0)) := hbx2
        clear hbx b0 HI1 HB1 HK1 HI2 HB2 hk2 hbx2 b02
        generalize w2.drewN nd = W at hbx3 HI3 HB3 HK3 ⊢
        have d1 : W.cell? ⟨gb, 1, none⟩ = some (.int .i64 x.f1) := blk_cell hbx3 1
        have d2 : W.cell? ⟨gb, 2, none⟩ = some (.int .i64 x.f2) := blk_cell hbx3 2
        have d3 : W.cell? ⟨gb, 3, none⟩ = some (.int .i64 x.f3) := blk_cell hbx3 3
        have d4 : W.cell? ⟨gb, 4, none⟩ = some (.slice A4 x.f4.length c4) := blk_cell hbx3 4
        have d5 : W.cell? ⟨gb, 5, none⟩ = some (.slice A5 x.f5.length c5) := blk_cell hbx3 5
        have d6 : W.cell? ⟨gb, 6, none⟩ = some (.slice A6 x.f6.length c6) := blk_cell hbx3 6
        have hsz2 : ((s ++ p) ++ o).size + bd.size ≤ 140737488355328 := by
          rw [ByteArray.size_append, ByteArray.size_append]; rw [ByteArray.size_append] at hsz; omega
        have hrp := hrp.out
        have hi := hi.out
        by_cases h3 : s1 = 3
        · subst h3
          have hp : leb_PutU.f 12 x.f1 = some bd := hbd
          go_wp2_with (first
            | (go_at_call 41; (with_reducible refine (leb_PutU.calls 12 x.f1 bd _ hp).mono ?_); rintro e w4 ⟨rfl, hb4⟩; have HI4 := HI3.below hb4; have HB4 := below_step HB3 hb4; have HK4 := HK3.trans (KeepB.of_below hb4 g none) (.inl rfl))
            | (go_at_call 39; (with_reducible refine (strings_Builder_WriteString.calls g _ _ _ _ _ w0 _ HI4 HB4 (ws_at hsz2)).mono ?_); rintro e w5 ⟨rfl, HI5, HB5, hk5⟩; have HK5 := HK4.trans hk5 (.inl rfl)))
          go_roundg (l.length - (i + 1))
          case measure => omega
          case rel => exact ⟨i + 1, p ++ (o ++ bd), b, by first | exact congrArg (Value.int .i64) (wrap_succ i (by omega)) | (simp; done), ⟨by omega⟩, ⟨hb⟩, ⟨by rw [hrp]; simp only [ByteArray.append_assoc]⟩, ⟨by rw [show s ++ (p ++ (o ++ bd)) = s ++ p ++ o ++ bd by simp only [ByteArray.append_assoc]]; exact HI5⟩, ⟨HB5⟩, ⟨HK5⟩⟩
        have e3 : (s1 == 3) = false := beq_eq_false_iff_ne.mpr h3
        by_cases h8 : s1 = 8
        · subst h8
          have hp : leb_PutU.f 12 x.f3 = some bd := hbd
          go_wp2_with (first
            | (go_at_call 41; (with_reducible refine (leb_PutU.calls 12 x.f3 bd _ hp).mono ?_); rintro e w4 ⟨rfl, hb4⟩; have HI4 := HI3.below hb4; have HB4 := below_step HB3 hb4; have HK4 := HK3.trans (KeepB.of_below hb4 g none) (.inl rfl))
            | (go_at_call 39; (with_reducible refine (strings_Builder_WriteString.calls g _ _ _ _ _ w0 _ HI4 HB4 (ws_at hsz2)).mono ?_); rintro e w5 ⟨rfl, HI5, HB5, hk5⟩; have HK5 := HK4.trans hk5 (.inl rfl)))
          go_roundg (l.length - (i + 1))
          case measure => omega
          case rel => exact ⟨i + 1, p ++ (o ++ bd), b, by first | exact congrArg (Value.int .i64) (wrap_succ i (by omega)) | (simp; done), ⟨by omega⟩, ⟨hb⟩, ⟨by rw [hrp]; simp only [ByteArray.append_assoc]⟩, ⟨by rw [show s ++ (p ++ (o ++ bd)) = s ++ p ++ o ++ bd by simp only [ByteArray.append_assoc]]; exact HI5⟩, ⟨HB5⟩, ⟨HK5⟩⟩
        have e8 : (s1 == 8) = false := beq_eq_false_iff_ne.mpr h8
        by_cases h10 : s1 = 10
        · subst h10
          have hp : leb_PutS.f 12 x.f1 = some bd := hbd
          go_wp2_with (first
            | (go_at_call 40; (with_reducible refine (leb_PutS.calls 12 x.f1 bd _ hp).mono ?_); rintro e w4 ⟨rfl, hb4⟩; have HI4 := HI3.below hb4; have HB4 := below_step HB3 hb4; have HK4 := HK3.trans (KeepB.of_below hb4 g none) (.inl rfl))
            | (go_at_call 39; (with_reducible refine (strings_Builder_WriteString.calls g _ _ _ _ _ w0 _ HI4 HB4 (ws_at hsz2)).mono ?_); rintro e w5 ⟨rfl, HI5, HB5, hk5⟩; have HK5 := HK4.trans hk5 (.inl rfl)))
          go_roundg (l.length - (i + 1))
          case measure => omega
          case rel => exact ⟨i + 1, p ++ (o ++ bd), b, by first | exact congrArg (Value.int .i64) (wrap_succ i (by omega)) | (simp; done), ⟨by omega⟩, ⟨hb⟩, ⟨by rw [hrp]; simp only [ByteArray.append_assoc]⟩, ⟨by rw [show s ++ (p ++ (o ++ bd)) = s ++ p ++ o ++ bd by simp only [ByteArray.append_assoc]]; exact HI5⟩, ⟨HB5⟩, ⟨HK5⟩⟩
        have e10 : (s1 == 10) = false := beq_eq_false_iff_ne.mpr h10
        by_cases h11 : s1 = 11
        · subst h11
          obtain rfl : strOfNums [112] = bd := Option.some.inj hbd
          have hsz3 : ((s ++ p) ++ o).size + 1 ≤ 140737488355328 := by rw [num_size] at hsz2; exact hsz2
          go_wp2_with (first | (go_at_call 29; (with_reducible refine (strings_Builder_WriteByte.calls g _ 112 _ _ w0 _ HI3 HB3 (wb_at (by decide) (by decide) hsz3)).mono ?_); rintro e w5 ⟨rfl, HI5, HB5, hk5⟩; have HK5 := HK3.trans hk5 (.inl rfl)))
          go_roundg (l.length - (i + 1))
          case measure => omega
          case rel => exact ⟨i + 1, p ++ (o ++ strOfNums [112]), b, by first | exact congrArg (Value.int .i64) (wrap_succ i (by omega)) | (simp; done), ⟨by omega⟩, ⟨hb⟩, ⟨by rw [hrp]; simp only [ByteArray.append_assoc]⟩, ⟨by rw [show s ++ (p ++ (o ++ strOfNums [112])) = s ++ p ++ o ++ strOfNums [112] by simp only [ByteArray.append_assoc]]; exact HI5⟩, ⟨HB5⟩, ⟨HK5⟩⟩
        have e11 : (s1 == 11) = false := beq_eq_false_iff_ne.mpr h11
        by_cases h6 : s1 = 6
        · subst h6
          obtain rfl : (⟨#[1]⟩ : ByteArray) ++ strOfNums [x.f1 % 256] = bd := Option.some.inj hbd
          go_wp2_with (first
            | ((with_reducible refine gate_dst (N := 83) rfl ?_); refine Kd.R_lit (Kd.int .u8) _ 5 ?hg (N := 83) ?hd (xs := ([x.f1 % 256] : List Int)) (inner := [.int .u8 (x.f1 % 256)]) (ok := fun _ => True) (okp := fun _ => True) ?hr ?hp (fun _ hk => hk) trivial (Below.refl _ _) (Nat.le_refl _) (by simp) ?_; (case hd => rfl); (case hg => rfl); (case hr => first | (go_simp; done) | (go_simp; rfl)); (case hp => exact (Reps.one (show Kd.M (Kd.int .u8) _ _ _ (x.f1 % 256) [.int .u8 (x.f1 % 256)] from rfl) (Reps.none _ _))); intro v308 w4 ho3 hb4 hg_ hnew_; clear hg_ hnew_; have HI4 := HI3.below hb4; have HB4 := below_step HB3 hb4; have HK4 := HK3.trans (KeepB.of_below hb4 g none) (.inl rfl); have hcv4 := own_string (P := Try.prog) Try.underlying43 Try.underlying5 Try.underlying9 (Kd.own_of_R ho3))
            | (go_at_call 39; (with_reducible refine (strings_Builder_WriteString.calls g _ _ _ _ _ w0 _ HI4 HB4 (ws_at hsz2)).mono ?_); rintro e w5 ⟨rfl, HI5, HB5, hk5⟩; have HK5 := HK4.trans hk5 (.inl rfl)))
          go_roundg (l.length - (i + 1))
          case measure => omega
          case rel => exact ⟨i + 1, p ++ (o ++ ((⟨#[1]⟩ : ByteArray) ++ strOfNums [x.f1 % 256])), b, by first | exact congrArg (Value.int .i64) (wrap_succ i (by omega)) | (simp; done), ⟨by omega⟩, ⟨hb⟩, ⟨by rw [hrp]; simp only [ByteArray.append_assoc]⟩, ⟨by rw [show s ++ (p ++ (o ++ ((⟨#[1]⟩ : ByteArray) ++ strOfNums [x.f1 % 256]))) = s ++ p ++ o ++ ((⟨#[1]⟩ : ByteArray) ++ strOfNums [x.f1 % 256]) by simp only [ByteArray.append_assoc]]; exact HI5⟩, ⟨HB5⟩, ⟨HK5⟩⟩
        have e6 : (s1 == 6) = false := beq_eq_false_iff_ne.mpr h6
        by_cases h2 : s1 = 2
        · subst h2
          obtain ⟨a1, ha1, hz1⟩ := Option.bind_eq_some_iff.mp (show (leb_PutS.f 12 x.f1).bind (fun a => (putF k x.f5).bind fun b => if x.f6.length = 0 then some (a ++ (b ++ strOfNums [11])) else (putF k x.f6).bind fun c => some (a ++ (b ++ (strOfNums [5] ++ (c ++ strOfNums [11]))))) = some bd from hbd)
          obtain ⟨b1, hb1, hz2⟩ := Option.bind_eq_some_iff.mp hz1
          clear hz1 hbd
          have hszA : (s ++ p ++ o).size + (a1.size + b1.size + 1) ≤ 140737488355328 := by
            split at hz2
            · obtain rfl := Option.some.inj hz2
              simp only [ByteArray.size_append, num_size] at hsz2 ⊢; omega
            · obtain ⟨c1, hc1, hz3⟩ := Option.bind_eq_some_iff.mp hz2
              obtain rfl := Option.some.inj hz3
              simp only [ByteArray.size_append, num_size] at hsz2 ⊢; omega
          go_upto_region 8 with (first
            | (go_at_call 40; (with_reducible refine (leb_PutS.calls 12 x.f1 a1 _ ha1).mono ?_); rintro e w4 ⟨rfl, hb4⟩; have HI4 := HI3.below hb4; have HB4 := below_step HB3 hb4; have HK4 := HK3.trans (KeepB.of_below hb4 g none) (.inl rfl))
            | (go_at_call 39; (with_reducible refine (strings_Builder_WriteString.calls g _ _ _ _ _ w0 _ HI4 HB4 (ws_at (x := a1) (by rw [ByteArray.size_append] at hszA ⊢; omega))).mono ?_); rintro e w5 ⟨rfl, HI5, HB5, hk5⟩; have HK5 := HK4.trans hk5 (.inl rfl); have hbx5 := hk5.blk (blk_below hbx3 hb4) hgn (by intro c fz h; cases h)))
          have d55 : w5.cell? ⟨gb, 5, none⟩ = some (.slice A5 x.f5.length c5) := blk_cell hbx5 5
          go_upto_region 9 with (first
            | (go_at_call 28; (with_reducible refine (ih g _ A5 c5 x.f5 b1 w0 _ HI5 HB5 g5 l5 hb1 (by simp only [ByteArray.size_append] at hszA ⊢; omega)).mono ?_); rintro e w6 ⟨rfl, HI6, HB6, hk6⟩; have HK6 := HK5.trans hk6 (.inl rfl); have hbx6 := hk6.blk hbx5 hgn (by intro c fz h; cases h)))
          have d66 : w6.cell? ⟨gb, 6, none⟩ = some (.slice A6 x.f6.length c6) := blk_cell hbx6 6
          by_cases hE : x.f6.length = 0
          · rw [if_pos hE] at hz2
            obtain rfl := Option.some.inj hz2
            have hq6 : decide ((x.f6.length : Int) > 0) = false := decide_eq_false (by omega)
            have hq7 : decide ((0 : Int) < (x.f6.length : Int)) = false := hq6
            go_wp2_with (first
              | (go_at_call 29; (with_reducible refine (strings_Builder_WriteByte.calls g _ 11 _ _ w0 _ HI6 HB6 (wb_at (by decide) (by decide) (by simp only [ByteArray.size_append] at hszA ⊢; omega))).mono ?_); rintro e w7 ⟨rfl, HI7, HB7, hk7⟩; have HK7 := HK6.trans hk7 (.inl rfl)))
            go_roundg (l.length - (i + 1))
            case measure => omega
            case rel => exact ⟨i + 1, p ++ (o ++ (a1 ++ (b1 ++ strOfNums [11]))), b, by first | exact congrArg (Value.int .i64) (wrap_succ i (by omega)) | (simp; done), ⟨by omega⟩, ⟨hb⟩, ⟨by rw [hrp]; simp only [ByteArray.append_assoc]⟩, ⟨by rw [show s ++ (p ++ (o ++ (a1 ++ (b1 ++ strOfNums [11])))) = s ++ p ++ o ++ a1 ++ b1 ++ strOfNums [11] by simp only [ByteArray.append_assoc]]; exact HI7⟩, ⟨HB7⟩, ⟨HK7⟩⟩
          · rw [if_neg hE] at hz2
            obtain ⟨c1, hc1, hz3⟩ := Option.bind_eq_some_iff.mp hz2
            obtain rfl := Option.some.inj hz3
            have hq6 : decide ((x.f6.length : Int) > 0) = true := decide_eq_true (by omega)
            have hq7 : decide ((0 : Int) < (x.f6.length : Int)) = true := hq6
            have hszB : (s ++ p ++ o ++ a1 ++ b1).size + (c1.size + 2) ≤ 140737488355328 := by
              simp only [ByteArray.size_append, num_size] at hsz2 ⊢; omega
            go_upto_region 11 with (first
              | (go_at_call 29; (with_reducible refine (strings_Builder_WriteByte.calls g _ 5 _ _ w0 _ HI6 HB6 (wb_at (by decide) (by decide) (by omega))).mono ?_); rintro e w7 ⟨rfl, HI7, HB7, hk7⟩; have HK7 := HK6.trans hk7 (.inl rfl); have hbx7 := hk7.blk hbx6 hgn (by intro c fz h; cases h)))
            have d67 : w7.cell? ⟨gb, 6, none⟩ = some (.slice A6 x.f6.length c6) := blk_cell hbx7 6
            go_upto_region 12 with (first
              | (go_at_call 28; (with_reducible refine (ih g _ A6 c6 x.f6 c1 w0 _ HI7 HB7 g6 l6 hc1 (by rw [ByteArray.size_append, num_size]; omega)).mono ?_); rintro e w8 ⟨rfl, HI8, HB8, hk8⟩; have HK8 := HK7.trans hk8 (.inl rfl)))
            go_wp2_with (first
              | (go_at_call 29; (with_reducible refine (strings_Builder_WriteByte.calls g _ 11 _ _ w0 _ HI8 HB8 (wb_at (by decide) (by decide) (by rw [ByteArray.size_append, ByteArray.size_append, num_size]; omega))).mono ?_); rintro e w9 ⟨rfl, HI9, HB9, hk9⟩; have HK9 := HK8.trans hk9 (.inl rfl)))
            go_roundg (l.length - (i + 1))
            case measure => omega
            case rel => exact ⟨i + 1, p ++ (o ++ (a1 ++ (b1 ++ (strOfNums [5] ++ (c1 ++ strOfNums [11]))))), b, by first | exact congrArg (Value.int .i64) (wrap_succ i (by omega)) | (simp; done), ⟨by omega⟩, ⟨hb⟩, ⟨by rw [hrp]; simp only [ByteArray.append_assoc]⟩, ⟨by rw [show s ++ (p ++ (o ++ (a1 ++ (b1 ++ (strOfNums [5] ++ (c1 ++ strOfNums [11])))))) = s ++ p ++ o ++ a1 ++ b1 ++ strOfNums [5] ++ c1 ++ strOfNums [11] by simp only [ByteArray.append_assoc]]; exact HI9⟩, ⟨HB9⟩, ⟨HK9⟩⟩
        have e2 : (s1 == 2) = false := beq_eq_false_iff_ne.mpr h2
        by_cases h5 : s1 = 5
        · subst h5
          obtain ⟨a1, ha1, hz1⟩ := Option.bind_eq_some_iff.mp (show (leb_PutU.f 12 x.f1).bind (fun a => (leb_PutU.f 12 x.f3).bind fun b => some (a ++ b)) = some bd from hbd)
          obtain ⟨b1, hb1, hz2⟩ := Option.bind_eq_some_iff.mp hz1
          obtain rfl := Option.some.inj hz2
          clear hz1 hz2 hbd
          have q1 : a1.size + b1.size ≤ 9223372036854775807 := by have := hsz2; rw [ByteArray.size_append] at this; rw [ByteArray.size_append (a := a1)] at this; omega
          have q2 := eq_true q1
          have q3 : decide (a1.size + b1.size ≤ 9223372036854775807) = true := decide_eq_true q1
          have q4 : (9223372036854775807 < a1.size + b1.size) = False := eq_false (Nat.not_lt.2 q1)
          have HI4 := HI3.drew
          have HB4 := below_drew1 HB3
          have HK4 := keepB_drew HK3
          have hbx4 : W.drew.heap[gb]? = _ := hbx3
          have c14 : W.drew.cell? ⟨gb, 1, none⟩ = some (.int .i64 x.f1) := blk_cell hbx4 1
          have c34 : W.drew.cell? ⟨gb, 3, none⟩ = some (.int .i64 x.f3) := blk_cell hbx4 3
          go_upto_region 18 with (fail)
          go_region_held3 (fun w' => w'.cell? ⟨gb, 1, none⟩ = some (.int .i64 x.f1) ∧ w'.cell? ⟨gb, 3, none⟩ = some (.int .i64 x.f3)) (first | exact ⟨by assumption, by assumption⟩ | go_keep)
            (first
              | (go_at_call_of 41 (Value.int .i64 x.f1); (with_reducible refine (leb_PutU.calls 12 x.f1 a1 _ ha1).mono ?_); rintro e w5 ⟨rfl, hb5⟩; have HI5 := HI4.below hb5; have HB5 := below_step HB4 hb5; have HK5 := HK4.trans (KeepB.of_below hb5 g none) (.inl rfl); have hbx5 := blk_below hbx4 hb5; have c15 : w5.cell? ⟨gb, 1, none⟩ = some (.int .i64 x.f1) := blk_cell hbx5 1; have c35 : w5.cell? ⟨gb, 3, none⟩ = some (.int .i64 x.f3) := blk_cell hbx5 3)
              | (go_at_call_of 41 (Value.int .i64 x.f3); (with_reducible refine (leb_PutU.calls 12 x.f3 b1 _ hb1).mono ?_); rintro e w6 ⟨rfl, hb6⟩; have HI6 := HI5.below hb6; have HB6 := below_step HB5 hb6; have HK6 := HK5.trans (KeepB.of_below hb6 g none) (.inl rfl); have hbx6 := blk_below hbx5 hb6; have c16 : w6.cell? ⟨gb, 1, none⟩ = some (.int .i64 x.f1) := blk_cell hbx6 1; have c36 : w6.cell? ⟨gb, 3, none⟩ = some (.int .i64 x.f3) := blk_cell hbx6 3)
              | (go_at_call 39; (with_reducible refine (strings_Builder_WriteString.calls g _ _ _ _ _ w0 _ HI6 HB6 (ws_at hsz2)).mono ?_); rintro e w7 ⟨rfl, HI7, HB7, hk7⟩; have HK7 := HK6.trans hk7 (.inl rfl); have hbx7 := hk7.blk hbx6 hgn (by intro c fz h; cases h); have c17 : w7.cell? ⟨gb, 1, none⟩ = some (.int .i64 x.f1) := blk_cell hbx7 1; have c37 : w7.cell? ⟨gb, 3, none⟩ = some (.int .i64 x.f3) := blk_cell hbx7 3))
          go_wp2
          go_roundg (l.length - (i + 1))
          case measure => omega
          case rel => exact ⟨i + 1, p ++ (o ++ (a1 ++ b1)), b, by first | exact congrArg (Value.int .i64) (wrap_succ i (by omega)) | (simp; done), ⟨by omega⟩, ⟨hb⟩, ⟨by rw [hrp]; simp only [ByteArray.append_assoc]⟩, ⟨by rw [show s ++ (p ++ (o ++ (a1 ++ b1))) = s ++ p ++ o ++ (a1 ++ b1) by simp only [ByteArray.append_assoc]]; exact HI7⟩, ⟨HB7⟩, ⟨HK7⟩⟩
        have e5 : (s1 == 5) = false := beq_eq_false_iff_ne.mpr h5
        by_cases h9 : s1 = 9
        · subst h9
          obtain ⟨a1, ha1, hz1⟩ := Option.bind_eq_some_iff.mp (show (leb_PutU.f 12 x.f3).bind (fun a => (leb_PutU.f 12 x.f1).bind fun b => some (a ++ b)) = some bd from hbd)
          obtain ⟨b1, hb1, hz2⟩ := Option.bind_eq_some_iff.mp hz1
          obtain rfl := Option.some.inj hz2
          clear hz1 hz2 hbd
          have q1 : a1.size + b1.size ≤ 9223372036854775807 := by have := hsz2; rw [ByteArray.size_append] at this; rw [ByteArray.size_append (a := a1)] at this; omega
          have q2 := eq_true q1
          have q3 : decide (a1.size + b1.size ≤ 9223372036854775807) = true := decide_eq_true q1
          have q4 : (9223372036854775807 < a1.size + b1.size) = False := eq_false (Nat.not_lt.2 q1)
          have HI4 := HI3.drew
          have HB4 := below_drew1 HB3
          have HK4 := keepB_drew HK3
          have hbx4 : W.drew.heap[gb]? = _ := hbx3
          have c14 : W.drew.cell? ⟨gb, 1, none⟩ = some (.int .i64 x.f1) := blk_cell hbx4 1
          have c34 : W.drew.cell? ⟨gb, 3, none⟩ = some (.int .i64 x.f3) := blk_cell hbx4 3
          go_upto_region 29 with (fail)
          go_region_held3 (fun w' => w'.cell? ⟨gb, 1, none⟩ = some (.int .i64 x.f1) ∧ w'.cell? ⟨gb, 3, none⟩ = some (.int .i64 x.f3)) (first | exact ⟨by assumption, by assumption⟩ | go_keep)
            (first
              | (go_at_call_of 41 (Value.int .i64 x.f3); (with_reducible refine (leb_PutU.calls 12 x.f3 a1 _ ha1).mono ?_); rintro e w5 ⟨rfl, hb5⟩; have HI5 := HI4.below hb5; have HB5 := below_step HB4 hb5; have HK5 := HK4.trans (KeepB.of_below hb5 g none) (.inl rfl); have hbx5 := blk_below hbx4 hb5; have c15 : w5.cell? ⟨gb, 1, none⟩ = some (.int .i64 x.f1) := blk_cell hbx5 1; have c35 : w5.cell? ⟨gb, 3, none⟩ = some (.int .i64 x.f3) := blk_cell hbx5 3)
              | (go_at_call_of 41 (Value.int .i64 x.f1); (with_reducible refine (leb_PutU.calls 12 x.f1 b1 _ hb1).mono ?_); rintro e w6 ⟨rfl, hb6⟩; have HI6 := HI5.below hb6; have HB6 := below_step HB5 hb6; have HK6 := HK5.trans (KeepB.of_below hb6 g none) (.inl rfl); have hbx6 := blk_below hbx5 hb6; have c16 : w6.cell? ⟨gb, 1, none⟩ = some (.int .i64 x.f1) := blk_cell hbx6 1; have c36 : w6.cell? ⟨gb, 3, none⟩ = some (.int .i64 x.f3) := blk_cell hbx6 3)
              | (go_at_call 39; (with_reducible refine (strings_Builder_WriteString.calls g _ _ _ _ _ w0 _ HI6 HB6 (ws_at hsz2)).mono ?_); rintro e w7 ⟨rfl, HI7, HB7, hk7⟩; have HK7 := HK6.trans hk7 (.inl rfl); have hbx7 := hk7.blk hbx6 hgn (by intro c fz h; cases h); have c17 : w7.cell? ⟨gb, 1, none⟩ = some (.int .i64 x.f1) := blk_cell hbx7 1; have c37 : w7.cell? ⟨gb, 3, none⟩ = some (.int .i64 x.f3) := blk_cell hbx7 3))
          go_wp2
          go_roundg (l.length - (i + 1))
          case measure => omega
          case rel => exact ⟨i + 1, p ++ (o ++ (a1 ++ b1)), b, by first | exact congrArg (Value.int .i64) (wrap_succ i (by omega)) | (simp; done), ⟨by omega⟩, ⟨hb⟩, ⟨by rw [hrp]; simp only [ByteArray.append_assoc]⟩, ⟨by rw [show s ++ (p ++ (o ++ (a1 ++ b1))) = s ++ p ++ o ++ (a1 ++ b1) by simp only [ByteArray.append_assoc]]; exact HI7⟩, ⟨HB7⟩, ⟨HK7⟩⟩
        have e9 : (s1 == 9) = false := beq_eq_false_iff_ne.mpr h9
        by_cases h4 : s1 = 4
        · subst h4
          obtain ⟨a1, ha1, hz1⟩ := Option.bind_eq_some_iff.mp (show (leb_PutAll.f (x.f4.length + 20) x.f4).bind (fun a => (leb_PutU.f 12 x.f1).bind fun b => some (a ++ b)) = some bd from hbd)
          obtain ⟨b1, hb1, hz2⟩ := Option.bind_eq_some_iff.mp hz1
          obtain rfl := Option.some.inj hz2
          clear hz1 hz2 hbd
          have q1 : a1.size + b1.size ≤ 9223372036854775807 := by have := hsz2; rw [ByteArray.size_append] at this; rw [ByteArray.size_append (a := a1)] at this; omega
          have q2 := eq_true q1
          have q3 : decide (a1.size + b1.size ≤ 9223372036854775807) = true := decide_eq_true q1
          have q4 : (9223372036854775807 < a1.size + b1.size) = False := eq_false (Nat.not_lt.2 q1)
          have HI4 := HI3.drew
          have HB4 := below_drew1 HB3
          have HK4 := keepB_drew HK3
          have hbx4 : W.drew.heap[gb]? = _ := hbx3
          have c14 : W.drew.cell? ⟨gb, 1, none⟩ = some (.int .i64 x.f1) := blk_cell hbx4 1
          have c44 : W.drew.cell? ⟨gb, 4, none⟩ = some (.slice A4 x.f4.length c4) := blk_cell hbx4 4
          go_upto_region 16 with (fail)
          go_region_held3 (fun w' => w'.cell? ⟨gb, 1, none⟩ = some (.int .i64 x.f1) ∧ w'.cell? ⟨gb, 4, none⟩ = some (.slice A4 x.f4.length c4)) (first | exact ⟨by assumption, by assumption⟩ | go_keep)
            (first
              | (go_at_call 42; (with_reducible refine (leb_PutAll.calls (x.f4.length + 20) A4 c4 x.f4 a1 _ (Kd.C_below g4 HB4) l4 ha1).mono ?_); rintro e w5 ⟨rfl, hb5⟩; have HI5 := HI4.below hb5; have HB5 := below_step HB4 hb5; have HK5 := HK4.trans (KeepB.of_below hb5 g none) (.inl rfl); have hbx5 := blk_below hbx4 hb5; have c15 : w5.cell? ⟨gb, 1, none⟩ = some (.int .i64 x.f1) := blk_cell hbx5 1; have c45 : w5.cell? ⟨gb, 4, none⟩ = some (.slice A4 x.f4.length c4) := blk_cell hbx5 4)
              | (go_at_call_of 41 (Value.int .i64 x.f1); (with_reducible refine (leb_PutU.calls 12 x.f1 b1 _ hb1).mono ?_); rintro e w6 ⟨rfl, hb6⟩; have HI6 := HI5.below hb6; have HB6 := below_step HB5 hb6; have HK6 := HK5.trans (KeepB.of_below hb6 g none) (.inl rfl); have hbx6 := blk_below hbx5 hb6; have c16 : w6.cell? ⟨gb, 1, none⟩ = some (.int .i64 x.f1) := blk_cell hbx6 1; have c46 : w6.cell? ⟨gb, 4, none⟩ = some (.slice A4 x.f4.length c4) := blk_cell hbx6 4)
              | (go_at_call 39; (with_reducible refine (strings_Builder_WriteString.calls g _ _ _ _ _ w0 _ HI6 HB6 (ws_at hsz2)).mono ?_); rintro e w7 ⟨rfl, HI7, HB7, hk7⟩; have HK7 := HK6.trans hk7 (.inl rfl); have hbx7 := hk7.blk hbx6 hgn (by intro c fz h; cases h); have c17 : w7.cell? ⟨gb, 1, none⟩ = some (.int .i64 x.f1) := blk_cell hbx7 1; have c47 : w7.cell? ⟨gb, 4, none⟩ = some (.slice A4 x.f4.length c4) := blk_cell hbx7 4))
          go_wp2
          go_roundg (l.length - (i + 1))
          case measure => omega
          case rel => exact ⟨i + 1, p ++ (o ++ (a1 ++ b1)), b, by first | exact congrArg (Value.int .i64) (wrap_succ i (by omega)) | (simp; done), ⟨by omega⟩, ⟨hb⟩, ⟨by rw [hrp]; simp only [ByteArray.append_assoc]⟩, ⟨by rw [show s ++ (p ++ (o ++ (a1 ++ b1))) = s ++ p ++ o ++ (a1 ++ b1) by simp only [ByteArray.append_assoc]]; exact HI7⟩, ⟨HB7⟩, ⟨HK7⟩⟩
        have e4 : (s1 == 4) = false := beq_eq_false_iff_ne.mpr h4
        by_cases h7 : s1 = 7
        · subst h7
          by_cases hM : x.f3 > 0
          · have hM1 : decide (x.f3 > 0) = true := decide_eq_true hM
            have hM2 : decide (0 < x.f3) = true := hM1
            have hbd2 : ((leb_PutU.f 12 (Go.bits .or .i64 x.f2 64)).bind fun a => (leb_PutU.f 12 x.f3).bind fun b => some (a ++ b)).bind (fun d => (leb_PutU.f 12 x.f1).bind fun e => some (d ++ e)) = some bd := by
              have hz0 : (if x.f3 > 0 then two (two (leb_PutU.f 12 (Go.bits .or .i64 x.f2 64)) (leb_PutU.f 12 x.f3)) (leb_PutU.f 12 x.f1) else two (leb_PutU.f 12 x.f2) (leb_PutU.f 12 x.f1)) = some bd := hbd
              rw [if_pos hM] at hz0
              exact hz0
            obtain ⟨d1, hd1, hz3⟩ := Option.bind_eq_some_iff.mp hbd2
            obtain ⟨e1, he1, hz4⟩ := Option.bind_eq_some_iff.mp hz3
            obtain ⟨a1, ha1, hz1⟩ := Option.bind_eq_some_iff.mp hd1
            obtain ⟨b1, hb1, hz2⟩ := Option.bind_eq_some_iff.mp hz1
            obtain rfl := Option.some.inj hz2
            obtain rfl := Option.some.inj hz4
            clear hz1 hz2 hz3 hz4 hbd hbd2 hd1
            have hszC : (s ++ p ++ o).size + (a1.size + b1.size + e1.size) ≤ 140737488355328 := by
              simp only [ByteArray.size_append] at hsz2 ⊢; omega
            have q1 : a1.size + b1.size ≤ 9223372036854775807 := by omega
            have q2 := eq_true q1
            have q3 : decide (a1.size + b1.size ≤ 9223372036854775807) = true := decide_eq_true q1
            have q4 : (9223372036854775807 < a1.size + b1.size) = False := eq_false (Nat.not_lt.2 q1)
            have HI4 := HI3.drew
            have HB4 := below_drew1 HB3
            have HK4 := keepB_drew HK3
            have hbx4 : W.drew.heap[gb]? = _ := hbx3
            have c24 : W.drew.cell? ⟨gb, 2, none⟩ = some (.int .i64 x.f2) := blk_cell hbx4 2
            have c34 : W.drew.cell? ⟨gb, 3, none⟩ = some (.int .i64 x.f3) := blk_cell hbx4 3
            go_upto_region 23 with (fail)
            go_region_held3 (fun w' => w'.cell? ⟨gb, 2, none⟩ = some (.int .i64 x.f2) ∧ w'.cell? ⟨gb, 3, none⟩ = some (.int .i64 x.f3)) (first | exact ⟨by assumption, by assumption⟩ | go_keep)
              (first
                | (go_at_call_of 41 (Value.int .i64 (Go.bits .or .i64 x.f2 64)); (with_reducible refine (leb_PutU.calls 12 (Go.bits .or .i64 x.f2 64) a1 _ ha1).mono ?_); rintro e w5 ⟨rfl, hb5⟩; have HI5 := HI4.below hb5; have HB5 := below_step HB4 hb5; have HK5 := HK4.trans (KeepB.of_below hb5 g none) (.inl rfl); have hbx5 := blk_below hbx4 hb5; have c25 : w5.cell? ⟨gb, 2, none⟩ = some (.int .i64 x.f2) := blk_cell hbx5 2; have c35 : w5.cell? ⟨gb, 3, none⟩ = some (.int .i64 x.f3) := blk_cell hbx5 3)
                | (go_at_call_of 41 (Value.int .i64 x.f3); (with_reducible refine (leb_PutU.calls 12 x.f3 b1 _ hb1).mono ?_); rintro e w6 ⟨rfl, hb6⟩; have HI6 := HI5.below hb6; have HB6 := below_step HB5 hb6; have HK6 := HK5.trans (KeepB.of_below hb6 g none) (.inl rfl); have hbx6 := blk_below hbx5 hb6; have c26 : w6.cell? ⟨gb, 2, none⟩ = some (.int .i64 x.f2) := blk_cell hbx6 2; have c36 : w6.cell? ⟨gb, 3, none⟩ = some (.int .i64 x.f3) := blk_cell hbx6 3)
                | (go_at_call 39; (with_reducible refine (strings_Builder_WriteString.calls g _ _ _ _ _ w0 _ HI6 HB6 (ws_at (x := a1 ++ b1) (by rw [ByteArray.size_append (a := a1)]; omega))).mono ?_); rintro e w7 ⟨rfl, HI7, HB7, hk7⟩; have HK7 := HK6.trans hk7 (.inl rfl); have hbx7 := hk7.blk hbx6 hgn (by intro c fz h; cases h); have c27 : w7.cell? ⟨gb, 2, none⟩ = some (.int .i64 x.f2) := blk_cell hbx7 2; have c37 : w7.cell? ⟨gb, 3, none⟩ = some (.int .i64 x.f3) := blk_cell hbx7 3; have c17 : w7.cell? ⟨gb, 1, none⟩ = some (.int .i64 x.f1) := blk_cell hbx7 1))
            go_wp2_with (first
              | (go_at_call_of 41 (Value.int .i64 x.f1); (with_reducible refine (leb_PutU.calls 12 x.f1 e1 _ he1).mono ?_); rintro e w8 ⟨rfl, hb8⟩; have HI8 := HI7.below hb8; have HB8 := below_step HB7 hb8; have HK8 := HK7.trans (KeepB.of_below hb8 g none) (.inl rfl); have hbx8 := blk_below hbx7 hb8)
              | (go_at_call 39; (with_reducible refine (strings_Builder_WriteString.calls g _ _ _ _ _ w0 _ HI8 HB8 (ws_at (x := e1) (by rw [ByteArray.size_append, ByteArray.size_append (a := a1)]; omega))).mono ?_); rintro e w9 ⟨rfl, HI9, HB9, hk9⟩; have HK9 := HK8.trans hk9 (.inl rfl); have hbx9 := hk9.blk hbx8 hgn (by intro c fz h; cases h)))
            go_roundg (l.length - (i + 1))
            case measure => omega
            case rel => exact ⟨i + 1, p ++ (o ++ (a1 ++ b1 ++ e1)), b, by first | exact congrArg (Value.int .i64) (wrap_succ i (by omega)) | (simp; done), ⟨by omega⟩, ⟨hb⟩, ⟨by rw [hrp]; simp only [ByteArray.append_assoc]⟩, ⟨by rw [show s ++ (p ++ (o ++ (a1 ++ b1 ++ e1))) = s ++ p ++ o ++ (a1 ++ b1) ++ e1 by simp only [ByteArray.append_assoc]]; exact HI9⟩, ⟨HB9⟩, ⟨HK9⟩⟩
          · have hM1 : decide (x.f3 > 0) = false := decide_eq_false hM
            have hM2 : decide (0 < x.f3) = false := hM1
            have hbd2 : (leb_PutU.f 12 x.f2).bind (fun d => (leb_PutU.f 12 x.f1).bind fun e => some (d ++ e)) = some bd := by
              have hz0 : (if x.f3 > 0 then two (two (leb_PutU.f 12 (Go.bits .or .i64 x.f2 64)) (leb_PutU.f 12 x.f3)) (leb_PutU.f 12 x.f1) else two (leb_PutU.f 12 x.f2) (leb_PutU.f 12 x.f1)) = some bd := hbd
              rw [if_neg hM] at hz0
              exact hz0
            obtain ⟨a1, ha1, hz1⟩ := Option.bind_eq_some_iff.mp hbd2
            obtain ⟨e1, he1, hz2⟩ := Option.bind_eq_some_iff.mp hz1
            obtain rfl := Option.some.inj hz2
            clear hz1 hz2 hbd hbd2
            have hszC : (s ++ p ++ o).size + (a1.size + e1.size) ≤ 140737488355328 := by
              simp only [ByteArray.size_append] at hsz2 ⊢; omega
            go_upto_region 25 with (first
              | (go_at_call_of 41 (Value.int .i64 x.f2); (with_reducible refine (leb_PutU.calls 12 x.f2 a1 _ ha1).mono ?_); rintro e w6 ⟨rfl, hb6⟩; have HI6 := HI3.below hb6; have HB6 := below_step HB3 hb6; have HK6 := HK3.trans (KeepB.of_below hb6 g none) (.inl rfl); have hbx6 := blk_below hbx3 hb6)
              | (go_at_call 39; (with_reducible refine (strings_Builder_WriteString.calls g _ _ _ _ _ w0 _ HI6 HB6 (ws_at (x := a1) (by omega))).mono ?_); rintro e w7 ⟨rfl, HI7, HB7, hk7⟩; have HK7 := HK6.trans hk7 (.inl rfl); have hbx7 := hk7.blk hbx6 hgn (by intro c fz h; cases h); have c17 : w7.cell? ⟨gb, 1, none⟩ = some (.int .i64 x.f1) := blk_cell hbx7 1))
            go_wp2_with (first
              | (go_at_call_of 41 (Value.int .i64 x.f1); (with_reducible refine (leb_PutU.calls 12 x.f1 e1 _ he1).mono ?_); rintro e w8 ⟨rfl, hb8⟩; have HI8 := HI7.below hb8; have HB8 := below_step HB7 hb8; have HK8 := HK7.trans (KeepB.of_below hb8 g none) (.inl rfl); have hbx8 := blk_below hbx7 hb8)
              | (go_at_call 39; (with_reducible refine (strings_Builder_WriteString.calls g _ _ _ _ _ w0 _ HI8 HB8 (ws_at (x := e1) (by rw [ByteArray.size_append]; omega))).mono ?_); rintro e w9 ⟨rfl, HI9, HB9, hk9⟩; have HK9 := HK8.trans hk9 (.inl rfl); have hbx9 := hk9.blk hbx8 hgn (by intro c fz h; cases h)))
            go_roundg (l.length - (i + 1))
            case measure => omega
            case rel => exact ⟨i + 1, p ++ (o ++ (a1 ++ e1)), b, by first | exact congrArg (Value.int .i64) (wrap_succ i (by omega)) | (simp; done), ⟨by omega⟩, ⟨hb⟩, ⟨by rw [hrp]; simp only [ByteArray.append_assoc]⟩, ⟨by rw [show s ++ (p ++ (o ++ (a1 ++ e1))) = s ++ p ++ o ++ a1 ++ e1 by simp only [ByteArray.append_assoc]]; exact HI9⟩, ⟨HB9⟩, ⟨HK9⟩⟩
        have e7 : (s1 == 7) = false := beq_eq_false_iff_ne.mpr h7
        obtain rfl : ByteArray.empty = bd := by
          have hz : putS s1 (putF k) x = some ByteArray.empty := by
            unfold putS
            rw [if_neg h2, if_neg h3, if_neg h4, if_neg h5, if_neg h6, if_neg h7, if_neg h8, if_neg h9, if_neg h10, if_neg h11]
          exact Option.some.inj (hz.symm.trans hbd)
        go_wp2
        go_roundg (l.length - (i + 1))
        case measure => omega
        case rel => exact ⟨i + 1, p ++ (o ++ ByteArray.empty), b, by first | exact congrArg (Value.int .i64) (wrap_succ i (by omega)) | (simp; done), ⟨by omega⟩, ⟨hb⟩, ⟨by rw [hrp]; simp only [ByteArray.append_assoc]⟩, ⟨by rw [show s ++ (p ++ (o ++ ByteArray.empty)) = s ++ p ++ o by simp only [ByteArray.append_empty, ByteArray.append_assoc]]; exact HI3⟩, ⟨HB3⟩, ⟨HK3⟩⟩
      · have hd : l.drop i = [] := List.drop_eq_nil_of_le (by omega)
        have hq1 := hq.out
        rw [hd, putL] at hq1
        obtain rfl := Option.some.inj hq1
        have hrp := hrp.out
        rw [ByteArray.append_empty] at hrp
        subst hrp
        have c0 : decide ((i : Int) < (l.length : Int)) = false := decide_eq_false (by omega)
        go_wp2
        first | go_end0 | ((try simp only [Exit.inBlock, Exit.then]); refine bodyPost_ret (results_none rfl _ _ _) rfl ?_)
        exact ⟨rfl, HI.out, HB.out, HK.out⟩
def instr_Put.f (l0 : List S54) : Option (ByteArray × Int) := (instr_Count.f 1000000 l0).bind fun c => if c.2 = true then ((putF 60 l0).bind fun t => if t.size + 1 ≤ 140737488355328 then some (t ++ strOfNums [11], 0) else none) else some ((⟨#[]⟩ : ByteArray), 1)
set_option maxHeartbeats 8000000 in
set_option maxRecDepth 100000 in
theorem instr_Put.calls (A0 : Option Addr) (c0 : Nat) (l0 : List (S54)) (r1 : ByteArray) (r2 : Int) (w : World) (hr0 : Kd.C k54 w A0 l0.length l0) (hc0 : l0.length ≤ c0) (h : instr_Put.f l0 = some (r1, r2)) :
    Calls Try.prog 15 #[.slice A0 l0.length c0] w fun e w' => e = .returned (.tuple #[.string r1, .int .i64 r2]) ∧ Below w.heap.size w w' := by
  obtain ⟨⟨n1, ok⟩, hc, h1⟩ := Option.bind_eq_some_iff.mp h
  clear h
  replace h1 : (if ok = true then ((putF 60 l0).bind fun t => if t.size + 1 ≤ 140737488355328 then some (t ++ strOfNums [11], (0 : Int)) else none) else some ((⟨#[]⟩ : ByteArray), 1)) = some (r1, r2) := h1
  go_enter Try.func15, Try.ntmps15
  cases ok with
  | false =>
    obtain ⟨rfl, rfl⟩ := Prod.mk.inj (Option.some.inj ((if_neg (by decide)).symm.trans h1))
    go_wp2_with (first
      | (go_at_call 17; (with_reducible refine (instr_Count.calls 1000000 A0 c0 l0 n1 false _ hr0 hc0 hc).mono ?_); rintro e w1 ⟨rfl, hb1⟩))
    go_ret2
    exact ⟨rfl, hb1⟩
  | true =>
    rw [if_pos rfl] at h1
    obtain ⟨t, ht, h2⟩ := Option.bind_eq_some_iff.mp h1
    clear h1
    by_cases hs : t.size + 1 ≤ 140737488355328
    · rw [if_pos hs] at h2
      obtain ⟨rfl, rfl⟩ := Prod.mk.inj (Option.some.inj h2)
      clear h2
      go_upto_region 5 with (first
        | (go_at_call 17; (with_reducible refine (instr_Count.calls 1000000 A0 c0 l0 n1 true _ hr0 hc0 hc).mono ?_); rintro e w1 ⟨rfl, hb1⟩))
      have HI1 := IsS57.new w1 w1 (Below.refl _ _)
      have HB1 : Below w1.heap.size w1 (w1.alloc (.cells #[.pointer none, .slice none 0 0] 57)) := below_alloc (Below.refl _ _) _
      have hr1 := Kd.C_below hr0 hb1
      go_wp2_with (first
        | (go_at_call 28; (with_reducible refine (put_calls 60 w1.heap.size ByteArray.empty A0 c0 l0 t w1 _ HI1 HB1 hr1 hc0 ht (by simp; omega)).mono ?_); rintro e w2 ⟨rfl, HI2, HB2, hk2⟩)
        | (go_at_call 29; (with_reducible refine (strings_Builder_WriteByte.calls w1.heap.size _ 11 _ _ w1 _ HI2 HB2 (wb_at (by decide) (by decide) (by simpa using hs))).mono ?_); rintro e w3 ⟨rfl, HI3, HB3, hk3⟩)
        | (go_at_call 30; (with_reducible refine (strings_Builder_String.calls w1.heap.size _ _ _ w1 _ HI3 HB3 rfl).mono ?_); rintro e w4 ⟨rfl, HI4, HB4, hk4⟩))
      go_ret2
      exact ⟨by simp, below_step hb1 HB4⟩
    · rw [if_neg hs] at h2
      cases h2
/-- A state of type 69 at block g of W; what its slices lead to came in by w0. -/
def IsS69 (w0 W : World) (g : Nat) (f0 : ByteArray) (f1 : Int) (f2 : Int) : Prop := W.heap[g]? = some (.cells #[.string f0, .int .i64 f1, .int .i64 f2] 69 (0, 0)) ∧ w0.heap.size ≤ g
theorem IsS69.grown {w0 W : World} {g : Nat} {f0 : ByteArray} {f1 : Int} {f2 : Int} {W1 : World} {row : Option Nat} (h : IsS69 w0 W g f0 f1 f2) (hw : W.grownBy W1 row) (hne : some g ≠ row) : IsS69 w0 W1 g f0 f1 f2 := by
  obtain ⟨hb, hg⟩ := h
  exact ⟨blk_grown hb hw hne, hg⟩
theorem IsS69.own_neN {w0 W : World} {g : Nat} {f0 : ByteArray} {f1 : Int} {f2 : Int} {α : Type} {d : Kd α} {e : Nat} {base : Nat} {ok : Nat → Prop} {v : Value} {xs : List α} (h : IsS69 w0 W g f0 f1 f2) (ho : Kd.N d e W base ok v xs) (ht : e ≠ 69) : some g ≠ v.ownBlock := by
  obtain ⟨hb, hg⟩ := h
  exact Kd.N_ne ho hb ht
theorem IsS69.fresh {w0 W : World} {g : Nat} {f0 : ByteArray} {f1 : Int} {f2 : Int} (h : IsS69 w0 W g f0 f1 f2) : ∀ k, W.heap.size ≤ k → k ≠ g := by
  obtain ⟨hb, hg⟩ := h
  exact Kd.freshB hb
theorem IsS69.kept {w0 W : World} {g : Nat} {f0 : ByteArray} {f1 : Int} {f2 : Int} {W1 : World} {S : Nat → Prop} (h : IsS69 w0 W g f0 f1 f2) (hk : Kept W W1 S) (hne : ¬ S g) : IsS69 w0 W1 g f0 f1 f2 := by
  obtain ⟨hb, hg⟩ := h
  exact ⟨blk_kept hb hk hne, hg⟩
theorem IsS69.below {w0 W : World} {g : Nat} {f0 : ByteArray} {f1 : Int} {f2 : Int} {W1 : World} (h : IsS69 w0 W g f0 f1 f2) (hw : Below W.heap.size W W1) : IsS69 w0 W1 g f0 f1 f2 := h.grown (grown_of_below hw none) (by simp)
theorem IsS69.alloc {w0 W : World} {g : Nat} {f0 : ByteArray} {f1 : Int} {f2 : Int} (h : IsS69 w0 W g f0 f1 f2) (o : Obj) : IsS69 w0 (W.alloc o) g f0 f1 f2 := h.below (below_alloc (Below.refl _ _) o)
theorem IsS69.drewN {w0 W : World} {g : Nat} {f0 : ByteArray} {f1 : Int} {f2 : Int} (h : IsS69 w0 W g f0 f1 f2) (m : Nat) : IsS69 w0 (W.drewN m) g f0 f1 f2 := h
theorem IsS69.drew {w0 W : World} {g : Nat} {f0 : ByteArray} {f1 : Int} {f2 : Int} (h : IsS69 w0 W g f0 f1 f2) : IsS69 w0 W.drew g f0 f1 f2 := h
theorem IsS69.at_ {w0 W : World} {g : Nat} {f0 : ByteArray} {f1 : Int} {f2 : Int} {w' : World} {m : Nat} (hq : W.drewN m = w') (h : IsS69 w0 W g f0 f1 f2) : IsS69 w0 w' g f0 f1 f2 := by subst hq; exact IsS69.drewN h m
theorem IsS69.apart {w0 W : World} {g : Nat} {f0 : ByteArray} {f1 : Int} {f2 : Int} {α : Type} {d : Kd α} {e : Nat} {base : Nat} {ok : Nat → Prop} {v : Value} {xs : List α} (h : IsS69 w0 W g f0 f1 f2) (ho : d.R e W base ok v xs) (ht : ∀ q, q ∈ e :: d.E → q ≠ 69) : d.R e W base (fun k => ok k ∧ k ≠ g) v xs := by
  obtain ⟨hb, hg⟩ := h
  exact Kd.R_types ho hb ht
theorem IsS69.own_ne {w0 W : World} {g : Nat} {f0 : ByteArray} {f1 : Int} {f2 : Int} {α : Type} {d : Kd α} {e : Nat} {base : Nat} {ok : Nat → Prop} {v : Value} {xs : List α} (h : IsS69 w0 W g f0 f1 f2) (ho : d.R e W base ok v xs) (ht : e ≠ 69) : some g ≠ v.ownBlock := by
  obtain ⟨hb, hg⟩ := h
  exact Kd.R_ne ho hb ht
theorem IsS69.apartQ {w0 W : World} {g : Nat} {f0 : ByteArray} {f1 : Int} {f2 : Int} {α : Type} {d : Kd α} {e : Nat} {base : Nat} {ok : Nat → Prop} {v : Value} {xs : List α} (h : IsS69 w0 W g f0 f1 f2) (ho : d.Q e W base ok v xs) (ht : ∀ q, q ∈ e :: d.E → q ≠ 69) : d.Q e W base (fun k => ok k ∧ k ≠ g) v xs := by
  obtain ⟨hb, hg⟩ := h
  exact Kd.Q_types ho hb ht
theorem IsS69.own_neQ {w0 W : World} {g : Nat} {f0 : ByteArray} {f1 : Int} {f2 : Int} {α : Type} {d : Kd α} {e : Nat} {base : Nat} {ok : Nat → Prop} {v : Value} {xs : List α} (h : IsS69 w0 W g f0 f1 f2) (ho : d.Q e W base ok v xs) (ht : e ≠ 69) : some g ≠ v.ownBlock := by
  obtain ⟨hb, hg⟩ := h
  exact Kd.Q_ne ho hb ht
theorem IsS69.apartS {w0 W : World} {g : Nat} {f0 : ByteArray} {f1 : Int} {f2 : Int} {α : Type} {d : Kd α} {e : Nat} {base : Nat} {ok : Nat → Prop} {v : Value} {xs : List α} (h : IsS69 w0 W g f0 f1 f2) (ho : d.S e W base ok v xs) (ht : ∀ q, q ∈ e :: d.E → q ≠ 69) : d.S e W base (fun k => ok k ∧ k ≠ g) v xs := by
  obtain ⟨hb, hg⟩ := h
  exact Kd.S_types ho hb ht
theorem IsS69.own_neS {w0 W : World} {g : Nat} {f0 : ByteArray} {f1 : Int} {f2 : Int} {α : Type} {d : Kd α} {e : Nat} {base : Nat} {ok : Nat → Prop} {v : Value} {xs : List α} (h : IsS69 w0 W g f0 f1 f2) (ho : d.S e W base ok v xs) (ht : e ≠ 69) : some g ≠ v.ownBlock := by
  obtain ⟨hb, hg⟩ := h
  exact Kd.S_ne ho hb ht
theorem IsS69.lt {w0 W : World} {g : Nat} {f0 : ByteArray} {f1 : Int} {f2 : Int} (h : IsS69 w0 W g f0 f1 f2) : g < W.heap.size := by
  obtain ⟨hb, hg⟩ := h
  exact blk_lt hb
theorem IsS69.ge {w0 W : World} {g : Nat} {f0 : ByteArray} {f1 : Int} {f2 : Int} (h : IsS69 w0 W g f0 f1 f2) : w0.heap.size ≤ g := by
  obtain ⟨hb, hg⟩ := h
  exact hg
theorem IsS69.ne_blk {w0 W : World} {g : Nat} {f0 : ByteArray} {f1 : Int} {f2 : Int} {a : Nat} {cs : Array Value} {t : TypeId} {fr : Nat × Nat} (h : IsS69 w0 W g f0 f1 f2) (hb2 : W.heap[a]? = some (.cells cs t fr)) (ht : t ≠ 69) : g ≠ a := by
  obtain ⟨hb, hg⟩ := h
  rintro rfl
  rw [hb] at hb2
  injection hb2 with hb2
  injection hb2 with _ ht2
  exact ht ht2.symm
theorem IsS69.far {w0 W : World} {g : Nat} {f0 : ByteArray} {f1 : Int} {f2 : Int} {p : Addr} (h : IsS69 w0 W g f0 f1 f2) (hne : g ≠ p.block) (u : Value) : IsS69 w0 (W.setCell p u) g f0 f1 f2 := by
  obtain ⟨hb, hg⟩ := h
  exact ⟨blk_far hb hne u, hg⟩
theorem cellS69_0 {W : World} {g : Nat} {f0 : ByteArray} {f1 : Int} {f2 : Int} (h : W.heap[g]? = some (.cells #[.string f0, .int .i64 f1, .int .i64 f2] 69 (0, 0))) : W.cell? ⟨g, 0, none⟩ = some (.string f0) := (blk_cell h 0).trans rfl
theorem IsS69.set_0 {w0 W : World} {g : Nat} {f0 : ByteArray} {f1 : Int} {f2 : Int} (h : IsS69 w0 W g f0 f1 f2) (x : ByteArray) : IsS69 w0 (W.setCell ⟨g, 0, none⟩ (.string x)) g x f1 f2 := by
  obtain ⟨hb, hg⟩ := h
  exact ⟨by simpa using blk_set hb 0 (.string x), hg⟩
theorem cellS69_1 {W : World} {g : Nat} {f0 : ByteArray} {f1 : Int} {f2 : Int} (h : W.heap[g]? = some (.cells #[.string f0, .int .i64 f1, .int .i64 f2] 69 (0, 0))) : W.cell? ⟨g, 1, none⟩ = some (.int .i64 f1) := (blk_cell h 1).trans rfl
theorem IsS69.set_1 {w0 W : World} {g : Nat} {f0 : ByteArray} {f1 : Int} {f2 : Int} (h : IsS69 w0 W g f0 f1 f2) (x : Int) : IsS69 w0 (W.setCell ⟨g, 1, none⟩ (.int .i64 x)) g f0 x f2 := by
  obtain ⟨hb, hg⟩ := h
  exact ⟨by simpa using blk_set hb 1 (.int .i64 x), hg⟩
theorem cellS69_2 {W : World} {g : Nat} {f0 : ByteArray} {f1 : Int} {f2 : Int} (h : W.heap[g]? = some (.cells #[.string f0, .int .i64 f1, .int .i64 f2] 69 (0, 0))) : W.cell? ⟨g, 2, none⟩ = some (.int .i64 f2) := (blk_cell h 2).trans rfl
theorem IsS69.set_2 {w0 W : World} {g : Nat} {f0 : ByteArray} {f1 : Int} {f2 : Int} (h : IsS69 w0 W g f0 f1 f2) (x : Int) : IsS69 w0 (W.setCell ⟨g, 2, none⟩ (.int .i64 x)) g f0 f1 x := by
  obtain ⟨hb, hg⟩ := h
  exact ⟨by simpa using blk_set hb 2 (.int .i64 x), hg⟩
theorem IsS69.new (w0 W : World) (f0 : ByteArray) (f1 : Int) (f2 : Int) (hB : Below w0.heap.size w0 W) : IsS69 w0 (W.alloc (.cells #[.string f0, .int .i64 f1, .int .i64 f2] 69)) W.heap.size f0 f1 f2 := ⟨by simpa using heap_alloc_new W _, hB.size⟩
def instr_reader_fail.f (s0_0 : ByteArray) (s0_1 : Int) (s0_2 : Int) (a1 : Int) : Option (ByteArray × Int × Int) := if s0_2 = 0 then (some (s0_0, s0_1, a1)) else (some (s0_0, s0_1, s0_2))
set_option maxHeartbeats 8000000 in
set_option maxRecDepth 100000 in
theorem instr_reader_fail.calls (g : Nat) (s0_0 : ByteArray) (s0_1 : Int) (s0_2 : Int) (a1 : Int) (r1 : ByteArray) (r2 : Int) (r3 : Int) (w0 w : World) (hI : IsS69 w0 w g s0_0 s0_1 s0_2) (hB : Below w0.heap.size w0 w) (h : instr_reader_fail.f s0_0 s0_1 s0_2 a1 = some (r1, r2, r3)) :
    Calls Try.prog 36 #[.pointer (some ⟨g, 0, none⟩), .int .i64 a1] w fun e w' => e = .returned (.tuple #[]) ∧ IsS69 w0 w' g r1 r2 r3 ∧ Below w0.heap.size w0 w' ∧ KeepBut w w' g none := by
  have HI0 := Aside0.mk hI
  have HK := Aside0.mk (KeepBut.refl w g none)
  have HL := Aside0.mk hB.size
  clear hI
  have HW0 := Aside0.mk hB.size
  have HB := Aside0.mk hB
  clear hB
  have H : (if s0_2 = 0 then (some (s0_0, s0_1, a1)) else (some (s0_0, s0_1, s0_2))) = some (r1, r2, r3) := h
  clear h
  by_cases c3 : s0_2 = 0
  · rw [if_pos c3] at H
    have c3b0 : (s0_2 == 0) = true := beq_iff_eq.mpr c3
    have c3b1 : (s0_2 != 0) = false := bne_eq_false_iff_eq.mpr c3
    clear c3
    simp only [Option.some.injEq, Prod.mk.injEq] at H
    obtain ⟨rfl, rfl, rfl⟩ := H
    obtain ⟨HGz4, hgz4⟩ := HI0.out
    have hcz4_0 := cellS69_0 HGz4
    have hcz4_1 := cellS69_1 HGz4
    have hcz4_2 := cellS69_2 HGz4
    have hfz4_0 := blk_frozen HGz4 0
    have hfz4_1 := blk_frozen HGz4 1
    have hfz4_2 := blk_frozen HGz4 2
    clear HGz4 hgz4
    go_enter Try.func36, Try.ntmps36
    go_wp2
    first | go_end0 | ((try simp only [Exit.inBlock, Exit.then]); refine bodyPost_ret (results_none rfl _ _ _) rfl ?_)
    exact ⟨by first | rfl | (simp [errW_none, errW_some] <;> rfl) | (simp [*, errW_none, errW_some] <;> rfl), by repeat (first | (with_reducible first | exact HI0.out | apply IsS69.alloc | apply IsS69.drewN | apply IsS69.drew | apply IsS69.set_0 | apply IsS69.set_1 | apply IsS69.set_2) | exact HI0.out), by repeat (first | (with_reducible first | exact HB.out | apply below_alloc | apply pw_below_drewN | apply below_drew1 | refine below_set ?_ (IsS69.ge HI0.out)) | exact HB.out), by repeat (first | (with_reducible first | exact HK.out | apply KeepBut.set_ | apply keep_drewN | apply keep_drew | apply keep_alloc) | exact HK.out)⟩
  · rw [if_neg c3] at H
    have c3b0 : (s0_2 == 0) = false := beq_eq_false_iff_ne.mpr c3
    have c3b1 : (s0_2 != 0) = true := bne_iff_ne.mpr c3
    simp only [Option.some.injEq, Prod.mk.injEq] at H
    obtain ⟨rfl, rfl, rfl⟩ := H
    obtain ⟨HGz5, hgz5⟩ := HI0.out
    have hcz5_0 := cellS69_0 HGz5
    have hcz5_1 := cellS69_1 HGz5
    have hcz5_2 := cellS69_2 HGz5
    have hfz5_0 := blk_frozen HGz5 0
    have hfz5_1 := blk_frozen HGz5 1
    have hfz5_2 := blk_frozen HGz5 2
    clear HGz5 hgz5
    go_enter Try.func36, Try.ntmps36
    go_wp2
    first | go_end0 | ((try simp only [Exit.inBlock, Exit.then]); refine bodyPost_ret (results_none rfl _ _ _) rfl ?_)
    exact ⟨by first | rfl | (simp [errW_none, errW_some] <;> rfl) | (simp [*, errW_none, errW_some] <;> rfl), by repeat (first | (with_reducible first | exact HI0.out | apply IsS69.alloc | apply IsS69.drewN | apply IsS69.drew | apply IsS69.set_0 | apply IsS69.set_1 | apply IsS69.set_2) | exact HI0.out), by repeat (first | (with_reducible first | exact HB.out | apply below_alloc | apply pw_below_drewN | apply below_drew1 | refine below_set ?_ (IsS69.ge HI0.out)) | exact HB.out), by repeat (first | (with_reducible first | exact HK.out | apply KeepBut.set_ | apply keep_drewN | apply keep_drew | apply keep_alloc) | exact HK.out)⟩
def instr_reader_byte.f (s0_0 : ByteArray) (s0_1 : Int) (s0_2 : Int) : Option (Int × ByteArray × Int × Int) := if s0_2 = 0 then (if s0_0.toList = ([] : List UInt8) then ((instr_reader_fail.f s0_0 s0_1 s0_2 2).bind fun bt191 => (some (0, bt191.1, bt191.2.1, bt191.2.2))) else (if 0 < (s0_0.size : Int) then (if 1 ≤ (s0_0.size : Int) then (some (wrap64 (bt s0_0 0), s0_0.extract 1 s0_0.size, s0_1, s0_2)) else (none)) else (none))) else ((instr_reader_fail.f s0_0 s0_1 s0_2 2).bind fun bt194 => (some (0, bt194.1, bt194.2.1, bt194.2.2)))
set_option maxHeartbeats 8000000 in
set_option maxRecDepth 100000 in
theorem instr_reader_byte.calls (g : Nat) (s0_0 : ByteArray) (s0_1 : Int) (s0_2 : Int) (r1 : Int) (r2 : ByteArray) (r3 : Int) (r4 : Int) (w0 w : World) (hI : IsS69 w0 w g s0_0 s0_1 s0_2) (hB : Below w0.heap.size w0 w) (h : instr_reader_byte.f s0_0 s0_1 s0_2 = some (r1, r2, r3, r4)) :
    Calls Try.prog 48 #[.pointer (some ⟨g, 0, none⟩)] w fun e w' => e = .returned (.int .i64 r1) ∧ IsS69 w0 w' g r2 r3 r4 ∧ Below w0.heap.size w0 w' ∧ KeepBut w w' g none := by
  have HI0 := Aside0.mk hI
  have HK := Aside0.mk (KeepBut.refl w g none)
  have HL := Aside0.mk hB.size
  clear hI
  have HW0 := Aside0.mk hB.size
  have HB := Aside0.mk hB
  clear hB
  have H : (if s0_2 = 0 then (if s0_0.toList = ([] : List UInt8) then ((instr_reader_fail.f s0_0 s0_1 s0_2 2).bind fun bt191 => (some (0, bt191.1, bt191.2.1, bt191.2.2))) else (if 0 < (s0_0.size : Int) then (if 1 ≤ (s0_0.size : Int) then (some (wrap64 (bt s0_0 0), s0_0.extract 1 s0_0.size, s0_1, s0_2)) else (none)) else (none))) else ((instr_reader_fail.f s0_0 s0_1 s0_2 2).bind fun bt194 => (some (0, bt194.1, bt194.2.1, bt194.2.2)))) = some (r1, r2, r3, r4) := h
  clear h
  by_cases c2 : s0_2 = 0
  · rw [if_pos c2] at H
    have c2b0 : (s0_2 == 0) = true := beq_iff_eq.mpr c2
    have c2b1 : (s0_2 != 0) = false := bne_eq_false_iff_eq.mpr c2
    clear c2
    by_cases c3 : s0_0.toList = ([] : List UInt8)
    · rw [if_pos c3] at H
      have c3b0 : (s0_0.toList == ([] : List UInt8)) = true := beq_iff_eq.mpr c3
      have c3b1 : (s0_0.toList != ([] : List UInt8)) = false := bne_eq_false_iff_eq.mpr c3
      clear c3
      replace H := Option.bind_eq_some_iff.mp H
      obtain ⟨⟨t191, t192, t193⟩, A40, H⟩ := H
      replace H : (some (0, t191, t192, t193)) = some (r1, r2, r3, r4) := H
      have A4 := Aside0.mk A40
      clear A40
      simp only [Option.some.injEq, Prod.mk.injEq] at H
      obtain ⟨rfl, rfl, rfl, rfl⟩ := H
      obtain ⟨HGz5, hgz5⟩ := HI0.out
      have hcz5_0 := cellS69_0 HGz5
      have hcz5_1 := cellS69_1 HGz5
      have hcz5_2 := cellS69_2 HGz5
      have hfz5_0 := blk_frozen HGz5 0
      have hfz5_1 := blk_frozen HGz5 1
      have hfz5_2 := blk_frozen HGz5 2
      clear HGz5 hgz5
      go_enter Try.func48, Try.ntmps48
      go_wp2_with (first | ((with_reducible refine gate_callee (f := 36) rfl ?_); refine goesL_ (some 17) rfl rfl Try.func36 (by kernel_rfl) rfl #[.pointer (some ⟨g, 0, none⟩), .int .i64 2] rfl (by (try simp only [List.map_toArray, List.map_cons, List.map_nil]); first | done | rfl | (simp only [List.length_drop, List.length_take]; rfl)) ?_; (with_reducible refine (instr_reader_fail.calls g s0_0 s0_1 s0_2 2 t191 t192 t193 w0 _ ?side1 ?side2 A4.out).mono ?_); (case side1 => repeat (first | (with_reducible first | exact HI0.out | apply IsS69.alloc | apply IsS69.drewN | apply IsS69.drew | apply IsS69.set_0 | apply IsS69.set_1 | apply IsS69.set_2) | exact HI0.out)); (case side2 => repeat (first | (with_reducible first | exact HB.out | apply below_alloc | apply pw_below_drewN | apply below_drew1 | refine below_set ?_ (IsS69.ge HI0.out)) | exact HB.out)); rintro e w6 ⟨rfl, hi, hb, hk⟩; refine ⟨_, rfl, ?_⟩; have n0_ := Aside0.mk (KeepBut.trans (by repeat (first | (with_reducible first | exact HK.out | apply KeepBut.set_ | apply keep_drewN | apply keep_drew | apply keep_alloc) | exact HK.out)) hk (.inl rfl)); have n1_ := Aside0.mk (hb); have n2_ := Aside0.mk (hi); clear HK; clear HB; clear HI0; have HK := n0_; have HB := n1_; have HI0 := n2_; clear n0_ n1_ n2_; (try clear hb); (try clear hb2); (try clear hk); (try clear hi)))
      go_ret
      exact ⟨by first | rfl | (simp [errW_none, errW_some] <;> rfl) | (simp [*, errW_none, errW_some] <;> rfl), by repeat (first | (with_reducible first | exact HI0.out | apply IsS69.alloc | apply IsS69.drewN | apply IsS69.drew | apply IsS69.set_0 | apply IsS69.set_1 | apply IsS69.set_2) | exact HI0.out), by repeat (first | (with_reducible first | exact HB.out | apply below_alloc | apply pw_below_drewN | apply below_drew1 | refine below_set ?_ (IsS69.ge HI0.out)) | exact HB.out), by repeat (first | (with_reducible first | exact HK.out | apply KeepBut.set_ | apply keep_drewN | apply keep_drew | apply keep_alloc) | exact HK.out)⟩
    · rw [if_neg c3] at H
      have c3b0 : (s0_0.toList == ([] : List UInt8)) = false := beq_eq_false_iff_ne.mpr c3
      have c3b1 : (s0_0.toList != ([] : List UInt8)) = true := bne_iff_ne.mpr c3
      by_cases c7 : 0 < (s0_0.size : Int)
      · rw [if_pos c7] at H
        have c7b0 : decide (0 < (s0_0.size : Int)) = true := decide_eq_true c7
        have c7b1 : decide (0 < s0_0.size) = true := decide_eq_true (by omega)
        clear c7
        by_cases c9 : 1 ≤ (s0_0.size : Int)
        · rw [if_pos c9] at H
          have c9b0 := eq_true c9
          have c9b1 : decide (1 ≤ (s0_0.size : Int)) = true := decide_eq_true c9
          clear c9
          simp only [Option.some.injEq, Prod.mk.injEq] at H
          obtain ⟨rfl, rfl, rfl, rfl⟩ := H
          obtain ⟨HGz10, hgz10⟩ := HI0.out
          have hcz10_0 := cellS69_0 HGz10
          have hcz10_1 := cellS69_1 HGz10
          have hcz10_2 := cellS69_2 HGz10
          have hfz10_0 := blk_frozen HGz10 0
          have hfz10_1 := blk_frozen HGz10 1
          have hfz10_2 := blk_frozen HGz10 2
          clear HGz10 hgz10
          have p8 : 0 ≤ (0 : Int) := (by omega)
          have q8 : 0 < s0_0.size := (by have : (0 : Int) < (s0_0.size : Int) := of_decide_eq_true (by first | (with_reducible assumption) | assumption); omega)
          have hx8 : ∀ h : 0 < s0_0.size, ((s0_0[0]'h).toNat : Int) = bt s0_0 0 := bt_at s0_0 0
          clear p8
          have qi8 : (0 < (s0_0.size : Int)) = True := eq_true (of_decide_eq_true (by first | (with_reducible assumption) | assumption))
          replace q8 := eq_true q8
          go_enter Try.func48, Try.ntmps48
          go_wp2
          go_ret
          exact ⟨by first | rfl | (simp [errW_none, errW_some] <;> rfl) | (simp [*, errW_none, errW_some] <;> rfl), by repeat (first | (with_reducible first | exact HI0.out | apply IsS69.alloc | apply IsS69.drewN | apply IsS69.drew | apply IsS69.set_0 | apply IsS69.set_1 | apply IsS69.set_2) | exact HI0.out), by repeat (first | (with_reducible first | exact HB.out | apply below_alloc | apply pw_below_drewN | apply below_drew1 | refine below_set ?_ (IsS69.ge HI0.out)) | exact HB.out), by repeat (first | (with_reducible first | exact HK.out | apply KeepBut.set_ | apply keep_drewN | apply keep_drew | apply keep_alloc) | exact HK.out)⟩
        · rw [if_neg c9] at H
          exact absurd H (by simp)
      · rw [if_neg c7] at H
        exact absurd H (by simp)
  · rw [if_neg c2] at H
    have c2b0 : (s0_2 == 0) = false := beq_eq_false_iff_ne.mpr c2
    have c2b1 : (s0_2 != 0) = true := bne_iff_ne.mpr c2
    replace H := Option.bind_eq_some_iff.mp H
    obtain ⟨⟨t194, t195, t196⟩, A110, H⟩ := H
    replace H : (some (0, t194, t195, t196)) = some (r1, r2, r3, r4) := H
    have A11 := Aside0.mk A110
    clear A110
    simp only [Option.some.injEq, Prod.mk.injEq] at H
    obtain ⟨rfl, rfl, rfl, rfl⟩ := H
    obtain ⟨HGz12, hgz12⟩ := HI0.out
    have hcz12_0 := cellS69_0 HGz12
    have hcz12_1 := cellS69_1 HGz12
    have hcz12_2 := cellS69_2 HGz12
    have hfz12_0 := blk_frozen HGz12 0
    have hfz12_1 := blk_frozen HGz12 1
    have hfz12_2 := blk_frozen HGz12 2
    clear HGz12 hgz12
    go_enter Try.func48, Try.ntmps48
    go_wp2_with (first | ((with_reducible refine gate_callee (f := 36) rfl ?_); refine goesL_ (some 17) rfl rfl Try.func36 (by kernel_rfl) rfl #[.pointer (some ⟨g, 0, none⟩), .int .i64 2] rfl (by (try simp only [List.map_toArray, List.map_cons, List.map_nil]); first | done | rfl | (simp only [List.length_drop, List.length_take]; rfl)) ?_; (with_reducible refine (instr_reader_fail.calls g s0_0 s0_1 s0_2 2 t194 t195 t196 w0 _ ?side1 ?side2 A11.out).mono ?_); (case side1 => repeat (first | (with_reducible first | exact HI0.out | apply IsS69.alloc | apply IsS69.drewN | apply IsS69.drew | apply IsS69.set_0 | apply IsS69.set_1 | apply IsS69.set_2) | exact HI0.out)); (case side2 => repeat (first | (with_reducible first | exact HB.out | apply below_alloc | apply pw_below_drewN | apply below_drew1 | refine below_set ?_ (IsS69.ge HI0.out)) | exact HB.out)); rintro e w13 ⟨rfl, hi, hb, hk⟩; refine ⟨_, rfl, ?_⟩; have n0_ := Aside0.mk (KeepBut.trans (by repeat (first | (with_reducible first | exact HK.out | apply KeepBut.set_ | apply keep_drewN | apply keep_drew | apply keep_alloc) | exact HK.out)) hk (.inl rfl)); have n1_ := Aside0.mk (hb); have n2_ := Aside0.mk (hi); clear HK; clear HB; clear HI0; have HK := n0_; have HB := n1_; have HI0 := n2_; clear n0_ n1_ n2_; (try clear hb); (try clear hb2); (try clear hk); (try clear hi)))
    go_ret
    exact ⟨by first | rfl | (simp [errW_none, errW_some] <;> rfl) | (simp [*, errW_none, errW_some] <;> rfl), by repeat (first | (with_reducible first | exact HI0.out | apply IsS69.alloc | apply IsS69.drewN | apply IsS69.drew | apply IsS69.set_0 | apply IsS69.set_1 | apply IsS69.set_2) | exact HI0.out), by repeat (first | (with_reducible first | exact HB.out | apply below_alloc | apply pw_below_drewN | apply below_drew1 | refine below_set ?_ (IsS69.ge HI0.out)) | exact HB.out), by repeat (first | (with_reducible first | exact HK.out | apply KeepBut.set_ | apply keep_drewN | apply keep_drew | apply keep_alloc) | exact HK.out)⟩
mutual
def leb_raw.l0 : Nat → ByteArray → Int → Int → Int → Option (Int × Int × ByteArray × Bool)
  | 0, _, _, _, _ => none
  | k + 1, x0, x1, x8, x9 => if (wrap64 (7 * x9)) ≥ x1 then (leb_raw.j1 k x0 x1 x8 x9 true) else (leb_raw.j1 k x0 x1 x8 x9 (x9 == (x0.size : Int)))
def leb_raw.j1 : Nat → ByteArray → Int → Int → Int → Bool → Option (Int × Int × ByteArray × Bool)
  | 0, _, _, _, _, _ => none
  | k + 1, x0, x1, x8, x9, x20 => if x20 = true then (some (0, 0, (⟨#[]⟩ : ByteArray), false)) else (if 0 ≤ x9 then (if x9 < (x0.size : Int) then (if 0 ≤ (wrap64 (7 * x9)) then (if (bt x0 x9) ≥ 128 then (leb_raw.l0 k x0 x1 (Go.bits .or .u64 x8 (shl .u64 (IntKind.u64.wrap (Go.bits .and .u8 (bt x0 x9) 127)) (wrap64 (7 * x9)))) (wrap64 (x9 + 1))) else (if 0 ≤ (wrap64 (x9 + 1)) then (if (wrap64 (x9 + 1)) ≤ (x0.size : Int) then (some (Go.bits .or .u64 x8 (shl .u64 (IntKind.u64.wrap (Go.bits .and .u8 (bt x0 x9) 127)) (wrap64 (7 * x9))), wrap64 (7 * (wrap64 (x9 + 1))), x0.extract ((wrap64 (x9 + 1)) : Int).toNat x0.size, true)) else (none)) else (none))) else (none)) else (none)) else (none))
end
def leb_raw.f (k : Nat) (a0 : ByteArray) (a1 : Int) : Option (Int × Int × ByteArray × Bool) := leb_raw.l0 k a0 a1 0 0
theorem leb_raw.mono_l : ∀ k, (∀ y0 y1 y2 y3, LeO (leb_raw.l0 k y0 y1 y2 y3) (leb_raw.l0 (k + 1) y0 y1 y2 y3)) ∧ (∀ y0 y1 y2 y3 y4, LeO (leb_raw.j1 k y0 y1 y2 y3 y4) (leb_raw.j1 (k + 1) y0 y1 y2 y3 y4))
  | 0 => ⟨fun _ _ _ _ r h => by simp [leb_raw.l0] at h, fun _ _ _ _ _ r h => by simp [leb_raw.j1] at h⟩
  | k + 1 => by
    obtain ⟨ih0, ih1⟩ := leb_raw.mono_l k
    refine ⟨?_, ?_⟩
    · intro y0 y1 y2 y3
      unfold leb_raw.l0
      repeat' first
      | (with_reducible exact ih0 _ _ _ _)
      | (with_reducible exact ih1 _ _ _ _ _)
      | (with_reducible exact LeO.refl _)
      | (with_reducible exact LeO.none _)
      | (with_reducible refine LeO.ite ?_ ?_)
      | (with_reducible refine LeO.bind ?_ (fun _ => ?_))
      | exact ih0 _ _ _ _
      | exact ih1 _ _ _ _ _
      | exact LeO.none _
      | refine LeO.ite ?_ ?_
      | refine LeO.bind ?_ (fun _ => ?_)
    · intro y0 y1 y2 y3 y4
      unfold leb_raw.j1
      repeat' first
      | (with_reducible exact ih0 _ _ _ _)
      | (with_reducible exact ih1 _ _ _ _ _)
      | (with_reducible exact LeO.refl _)
      | (with_reducible exact LeO.none _)
      | (with_reducible refine LeO.ite ?_ ?_)
      | (with_reducible refine LeO.bind ?_ (fun _ => ?_))
      | exact ih0 _ _ _ _
      | exact ih1 _ _ _ _ _
      | exact LeO.none _
      | refine LeO.ite ?_ ?_
      | refine LeO.bind ?_ (fun _ => ?_)
theorem leb_raw.mono : ∀ a0 a1 k, LeO (leb_raw.f k a0 a1) (leb_raw.f (k + 1) a0 a1) := by
  intro a0 a1 k
  obtain ⟨ih0, ih1⟩ := leb_raw.mono_l k
  unfold leb_raw.f
  repeat' first
      | (with_reducible exact ih0 _ _ _ _)
      | (with_reducible exact ih1 _ _ _ _ _)
      | (with_reducible exact LeO.refl _)
      | (with_reducible exact LeO.none _)
      | (with_reducible refine LeO.ite ?_ ?_)
      | (with_reducible refine LeO.bind ?_ (fun _ => ?_))
      | exact ih0 _ _ _ _
      | exact ih1 _ _ _ _ _
      | exact LeO.none _
      | refine LeO.ite ?_ ?_
      | refine LeO.bind ?_ (fun _ => ?_)
/-- As 'wp_scope_jumps', by a number that each jump lowers and that need not stand in the frame. -/
theorem leb_raw.scope_rounds {P : Program} {a : Act} {w : World} {Q : Exit → Act → World → Prop} {c rest : Code} (l : Nat) (J : Nat → Act → World → Prop) (hf : findLabel c l = some (Code.skip.seq rest))
    (first : (∀ n a w, J n a w → rest.wp P (Exit.jump l (fun a' w' => ∃ m, m < n ∧ J m a' w') Q) a w) → c.wp P (Exit.jump l (fun a' w' => ∃ n, J n a' w') Q) a w)
    (pass : ∀ n a w, J n a w → rest.wp P (Exit.jump l (fun a' w' => ∃ m, m < n ∧ J m a' w') Q) a w) : (Code.scope c).wp P Q a w := by
  classical
  have least : ∀ a w, (∃ n, J n a w) → ∃ n, J n a w ∧ ∀ m, m < n → ¬ J m a w := by
    rintro a w ⟨n, hn⟩
    induction n using Nat.strongRecOn with
    | _ n ih =>
      by_cases hm : ∃ m, m < n ∧ J m a w
      · obtain ⟨m, h1, h2⟩ := hm
        exact ih m h1 h2
      · exact ⟨n, hn, fun m h1 h2 => hm ⟨m, h1, h2⟩⟩
  obtain ⟨μ, hμ⟩ : ∃ μ : Act → World → Nat, ∀ a w, (∃ n, J n a w) → J (μ a w) a w ∧ ∀ m, m < μ a w → ¬ J m a w :=
    ⟨fun a w => if h : ∃ n, J n a w then Classical.choose (least a w h) else 0, fun a w h => by simp only [dif_pos h]; exact Classical.choose_spec (least a w h)⟩
  refine wp_scope_jumps l (fun a w => ∃ n, J n a w) μ hf (first pass) ?_
  intro a w h
  refine Code.wp_mono ?_ (wp_seq (wp_skip (pass (μ a w) a w (hμ a w h).1)))
  intro e a' w' he
  cases e <;> first | exact he | skip
  obtain ⟨h1, m, h2, h3⟩ := he
  refine ⟨h1, ⟨m, h3⟩, ?_⟩
  by_cases hlt : μ a' w' < μ a w
  · exact hlt
  · exact absurd h3 ((hμ a' w' ⟨m, h3⟩).2 m (by omega))
set_option maxHeartbeats 8000000 in
set_option maxRecDepth 100000 in
theorem leb_raw.calls (k : Nat) (a0 : ByteArray) (a1 : Int) (r1 : Int) (r2 : Int) (r3 : ByteArray) (r4 : Bool) (w : World) (h : leb_raw.f k a0 a1 = some (r1, r2, r3, r4)) :
    Calls Try.prog 64 #[.string a0, .int .i64 a1] w fun e w' => e = .returned (.tuple #[.int .u64 r1, .int .i64 r2, .string r3, .bool r4]) ∧ Drawn0 w w' := by
  have H : (leb_raw.l0 k a0 a1 0 0) = some (r1, r2, r3, r4) := h
  clear h
  have H' := Aside0.mk H
  clear H
  go_enter Try.func64, Try.ntmps64
  go_wp2
  refine leb_raw.scope_rounds 0 (fun n a' w' => ∃ (x8 x9 : Int) (u10 u11 u12 u13 u14 u15 u16 u17 u18 u19 u20 u21 u22 u23 u24 u25 u26 u27 u28 u29 u30 u31 u32 u33 u34 u35 u36 u37 u38 u39 u40 u41 : Value), a' = { tmps := #[.string a0, .int .i64 a1, undef, undef, .int .u64 0, .int .i64 0, .string ⟨#[]⟩, .bool false, .int .u64 x8, .int .i64 x9, u10, u11, u12, u13, u14, u15, u16, u17, u18, u19, u20, u21, u22, u23, u24, u25, u26, u27, u28, u29, u30, u31, u32, u33, u34, u35, u36, u37, u38, u39, u40, u41], defers := [] } ∧ Aside0 (leb_raw.l0 n a0 a1 x8 x9 = some (r1, r2, r3, r4)) ∧ Drawn0 w w') rfl (fun pass => ?_) ?_
  · go_wp2
    go_step3
    simp only [Exit.then]
    rename_i K hK
    apply hK
    refine Code.wp_mono ?_ (pass k _ _ ⟨0, 0, undef, undef, undef, undef, undef, undef, undef, undef, undef, undef, undef, undef, undef, undef, undef, undef, undef, undef, undef, undef, undef, undef, undef, undef, undef, undef, undef, undef, undef, undef, undef, undef, rfl, H', Drawn0.refl _⟩)
    intro e a' w' he
    cases e <;> first | exact he | skip
    obtain ⟨h1, m, h2, h3⟩ := he
    exact ⟨h1, m, h3⟩
  · rintro n a' w' ⟨x8, x9, u10, u11, u12, u13, u14, u15, u16, u17, u18, u19, u20, u21, u22, u23, u24, u25, u26, u27, u28, u29, u30, u31, u32, u33, u34, u35, u36, u37, u38, u39, u40, u41, rfl, HA, ⟨m1, rfl⟩⟩
    clear H'
    cases n with
    | zero => exact absurd HA.out (by simp [leb_raw.l0])
    | succ n =>
    have H := HA.out
    clear HA
    cases n with
    | zero => exact absurd H (by simp only [leb_raw.l0, leb_raw.j1]; split <;> simp)
    | succ n =>
    simp only [leb_raw.l0, leb_raw.j1] at H
    by_cases c4 : (wrap64 (7 * x9)) ≥ a1
    · rw [if_pos c4, if_pos trivial] at H
      have c4b0 : decide (a1 ≤ (wrap64 (7 * x9))) = true := decide_eq_true c4
      clear c4
      simp only [Option.some.injEq, Prod.mk.injEq] at H
      obtain ⟨rfl, rfl, rfl, rfl⟩ := H
      go_wp2
      repeat (go_quiet (fail); try go_wp2)
      simp only [Exit.jump]
      refine bodyPost_ret (results_list (rs := [.tmp 4, .tmp 5, .tmp 6, .tmp 7]) rfl (by simp) (.tmp (.tmp (.tmp (.tmp .nil))))) rfl ?_
      exact ⟨rfl, by repeat (first | exact Drawn0.refl _ | apply Drawn0.step)⟩
    · rw [if_neg c4] at H
      have c4b0 : decide (a1 ≤ (wrap64 (7 * x9))) = false := decide_eq_false c4
      clear c4
      by_cases c5 : x9 = (a0.size : Int)
      · rw [if_pos (by simpa using c5)] at H
        have c5b0 : (x9 == (a0.size : Int)) = true := beq_iff_eq.mpr c5
        clear c5
        simp only [Option.some.injEq, Prod.mk.injEq] at H
        obtain ⟨rfl, rfl, rfl, rfl⟩ := H
        go_wp2
        repeat (go_quiet (fail); try go_wp2)
        simp only [Exit.jump]
        refine bodyPost_ret (results_list (rs := [.tmp 4, .tmp 5, .tmp 6, .tmp 7]) rfl (by simp) (.tmp (.tmp (.tmp (.tmp .nil))))) rfl ?_
        exact ⟨rfl, by repeat (first | exact Drawn0.refl _ | apply Drawn0.step)⟩
      · rw [if_neg (by simpa using c5)] at H
        have c5b0 : (x9 == (a0.size : Int)) = false := beq_eq_false_iff_ne.mpr c5
        clear c5
        by_cases c6 : 0 ≤ x9
        · rw [if_pos c6] at H
          have p8 := eq_true c6
          have c6b0 : decide (0 ≤ x9) = true := decide_eq_true c6
          clear c6
          by_cases c7 : x9 < (a0.size : Int)
          · rw [if_pos c7] at H
            have q8 := eq_true c7
            have c7b0 : decide (x9 < (a0.size : Int)) = true := decide_eq_true c7
            clear c7
            have hx8 := bt_at a0 x9
            obtain ⟨ji9, hji9⟩ : ∃ j_ : Int, (wrap64 (7 * x9)) = j_ := ⟨_, rfl⟩
            rw [hji9] at H c4b0
            have hji9w : (IntKind.i64.wrap (7 * x9)) = ji9 := (i64_w _).trans hji9
            by_cases c10 : 0 ≤ (ji9)
            · rw [if_pos c10] at H
              have c10b0 := eq_true c10
              have c10b1 : decide (0 ≤ (ji9)) = true := decide_eq_true c10
              clear c10
              obtain ⟨ji11, hji11⟩ : ∃ j_ : Int, (shl .u64 (IntKind.u64.wrap (Go.bits .and .u8 (bt a0 x9) 127)) (ji9)) = j_ := ⟨_, rfl⟩
              rw [hji11] at H
              have hji11_ : (IntKind.u64.wrap ((IntKind.u64.wrap (Go.bits .and .u8 (bt a0 x9) 127)) * 2 ^ min (ji9).toNat 64)) = ji11 := hji11
              have hji11z : (ji9) ≤ 64 → (IntKind.u64.wrap ((IntKind.u64.wrap (Go.bits .and .u8 (bt a0 x9) 127)) * 2 ^ (ji9).toNat)) = ji11 := shl_small hji11
              by_cases c12 : (bt a0 x9) ≥ 128
              · rw [if_pos c12] at H
                have c12b0 : decide (128 ≤ (bt a0 x9)) = true := decide_eq_true c12
                clear c12
                have H' := Aside0.mk H
                clear H
                go_wp2
                repeat (go_quiet (fail); try go_wp2)
                go_step3
                exact ⟨rfl, n, by omega, _, _, _, _, _, _, _, _, _, _, _, _, _, _, _, _, _, _, _, _, _, _, _, _, _, _, _, _, _, _, _, _, _, _, rfl, H', by repeat (first | exact Drawn0.refl _ | apply Drawn0.step)⟩
              · rw [if_neg c12] at H
                have c12b0 : decide (128 ≤ (bt a0 x9)) = false := decide_eq_false c12
                clear c12
                obtain ⟨ji13, hji13⟩ : ∃ j_ : Int, (wrap64 (x9 + 1)) = j_ := ⟨_, rfl⟩
                rw [hji13] at H
                have hji13w : (IntKind.i64.wrap (x9 + 1)) = ji13 := (i64_w _).trans hji13
                by_cases c14 : 0 ≤ (ji13)
                · rw [if_pos c14] at H
                  have c14b0 := eq_true c14
                  have c14b1 : decide (0 ≤ (ji13)) = true := decide_eq_true c14
                  clear c14
                  by_cases c15 : (ji13) ≤ (a0.size : Int)
                  · rw [if_pos c15] at H
                    have c15b0 := eq_true c15
                    have c15b1 : decide ((ji13) ≤ (a0.size : Int)) = true := decide_eq_true c15
                    clear c15
                    simp only [Option.some.injEq, Prod.mk.injEq] at H
                    obtain ⟨rfl, rfl, rfl, rfl⟩ := H
                    go_wp2
                    repeat (go_quiet (fail); try go_wp2)
                    simp only [Exit.jump]
                    refine bodyPost_ret (results_list (rs := [.tmp 4, .tmp 5, .tmp 6, .tmp 7]) rfl (by simp) (.tmp (.tmp (.tmp (.tmp .nil))))) rfl ?_
                    exact ⟨by first | rfl | (simp; done) | (simp only [← hji9, ← hji11, ← hji13] <;> (first | rfl | simp)) | (simp [*]; done), by repeat (first | exact Drawn0.refl _ | apply Drawn0.step)⟩
                  · rw [if_neg c15] at H
                    exact absurd H (by simp)
                · rw [if_neg c14] at H
                  exact absurd H (by simp)
            · rw [if_neg c10] at H
              exact absurd H (by simp)
          · rw [if_neg c7] at H
            exact absurd H (by simp)
        · rw [if_neg c6] at H
          exact absurd H (by simp)
def leb_TakeU.f (k : Nat) (a0 : ByteArray) : Option (Int × ByteArray × Int) := (leb_raw.f k a0 32).bind fun bt197 => (if bt197.2.2.2 = true then (if bt197.1 ≥ 4294967296 then (some (0, (⟨#[]⟩ : ByteArray), 2)) else (some (wrap64 (bt197.1), bt197.2.2.1, 0))) else (some (0, (⟨#[]⟩ : ByteArray), 2)))
theorem leb_TakeU.mono : ∀ a0 k, LeO (leb_TakeU.f k a0) (leb_TakeU.f (k + 1) a0) := by
  intro a0 k
  unfold leb_TakeU.f
  repeat' first
      | (with_reducible exact leb_raw.mono _ _ _)
      | (with_reducible exact LeO.refl _)
      | (with_reducible exact LeO.none _)
      | (with_reducible refine LeO.ite ?_ ?_)
      | (with_reducible refine LeO.bind ?_ (fun _ => ?_))
      | exact leb_raw.mono _ _ _
      | exact LeO.none _
      | refine LeO.ite ?_ ?_
      | refine LeO.bind ?_ (fun _ => ?_)
set_option maxHeartbeats 8000000 in
set_option maxRecDepth 100000 in
theorem leb_TakeU.calls (k : Nat) (a0 : ByteArray) (r1 : Int) (r2 : ByteArray) (r3 : Int) (w : World) (h : leb_TakeU.f k a0 = some (r1, r2, r3)) :
    Calls Try.prog 57 #[.string a0] w fun e w' => e = .returned (.tuple #[.int .i64 r1, .string r2, .int .i64 r3]) ∧ Drawn0 w w' := by
  have H : ((leb_raw.f k a0 32).bind fun bt197 => (if bt197.2.2.2 = true then (if bt197.1 ≥ 4294967296 then (some (0, (⟨#[]⟩ : ByteArray), 2)) else (some (wrap64 (bt197.1), bt197.2.2.1, 0))) else (some (0, (⟨#[]⟩ : ByteArray), 2)))) = some (r1, r2, r3) := h
  clear h
  replace H := Option.bind_eq_some_iff.mp H
  obtain ⟨⟨t197, t198, t199, t200⟩, A20, H⟩ := H
  replace H : (if t200 = true then (if t197 ≥ 4294967296 then (some (0, (⟨#[]⟩ : ByteArray), 2)) else (some (wrap64 (t197), t199, 0))) else (some (0, (⟨#[]⟩ : ByteArray), 2))) = some (r1, r2, r3) := H
  have A2 := Aside0.mk A20
  clear A20
  by_cases c3 : t200 = true
  · subst c3
    have H1 : (if t197 ≥ 4294967296 then (some (0, (⟨#[]⟩ : ByteArray), 2)) else (some (wrap64 (t197), t199, 0))) = some (r1, r2, r3) := by rw [if_pos rfl] at H; exact H
    clear H
    have H := H1
    clear H1
    by_cases c4 : t197 ≥ 4294967296
    · rw [if_pos c4] at H
      have c4b0 : decide (4294967296 ≤ t197) = true := decide_eq_true c4
      clear c4
      simp only [Option.some.injEq, Prod.mk.injEq] at H
      obtain ⟨rfl, rfl, rfl⟩ := H
      go_enter Try.func57, Try.ntmps57
      go_wp2_with (first | ((with_reducible refine gate_callee (f := 64) rfl ?_); refine goesL_ (some 11) rfl rfl Try.func64 (by kernel_rfl) rfl #[.string a0, .int .i64 32] rfl (by (try simp only [List.map_toArray, List.map_cons, List.map_nil]); first | done | rfl | (simp only [List.length_drop, List.length_take]; rfl)) ?_; (with_reducible refine (leb_raw.calls k a0 32 t197 t198 t199 true _ A2.out).mono ?_); rintro e w' ⟨rfl, ⟨nd, rfl⟩⟩; refine ⟨_, rfl, ?_⟩))
      go_ret3
      exact ⟨by first | rfl | (simp; done) | (simp [*]; done), by repeat (first | exact Drawn0.refl _ | apply Drawn0.step)⟩
    · rw [if_neg c4] at H
      have c4b0 : decide (4294967296 ≤ t197) = false := decide_eq_false c4
      clear c4
      simp only [Option.some.injEq, Prod.mk.injEq] at H
      obtain ⟨rfl, rfl, rfl⟩ := H
      go_enter Try.func57, Try.ntmps57
      go_wp2_with (first | ((with_reducible refine gate_callee (f := 64) rfl ?_); refine goesL_ (some 11) rfl rfl Try.func64 (by kernel_rfl) rfl #[.string a0, .int .i64 32] rfl (by (try simp only [List.map_toArray, List.map_cons, List.map_nil]); first | done | rfl | (simp only [List.length_drop, List.length_take]; rfl)) ?_; (with_reducible refine (leb_raw.calls k a0 32 t197 t198 t199 true _ A2.out).mono ?_); rintro e w' ⟨rfl, ⟨nd, rfl⟩⟩; refine ⟨_, rfl, ?_⟩))
      go_ret3
      exact ⟨by first | rfl | (simp; done) | (simp [*]; done), by repeat (first | exact Drawn0.refl _ | apply Drawn0.step)⟩
  · replace c3 := Bool.eq_false_iff.mpr c3
    subst c3
    have H1 : (some (0, (⟨#[]⟩ : ByteArray), 2)) = some (r1, r2, r3) := by rw [if_neg (show ¬ (false = true) by decide)] at H; exact H
    clear H
    have H := H1
    clear H1
    simp only [Option.some.injEq, Prod.mk.injEq] at H
    obtain ⟨rfl, rfl, rfl⟩ := H
    go_enter Try.func57, Try.ntmps57
    go_wp2_with (first | ((with_reducible refine gate_callee (f := 64) rfl ?_); refine goesL_ (some 11) rfl rfl Try.func64 (by kernel_rfl) rfl #[.string a0, .int .i64 32] rfl (by (try simp only [List.map_toArray, List.map_cons, List.map_nil]); first | done | rfl | (simp only [List.length_drop, List.length_take]; rfl)) ?_; (with_reducible refine (leb_raw.calls k a0 32 t197 t198 t199 false _ A2.out).mono ?_); rintro e w' ⟨rfl, ⟨nd, rfl⟩⟩; refine ⟨_, rfl, ?_⟩))
    go_ret3
    exact ⟨by first | rfl | (simp; done) | (simp [*]; done), by repeat (first | exact Drawn0.refl _ | apply Drawn0.step)⟩
end Go.Proofs.Ytckhlbpjehbnlaa.PB
