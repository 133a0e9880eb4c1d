/- Several texts of this session, laid into one for a claim: PBx42, InstrAw, InstrH. -/
import Derived.Test.YtckhlbpjehbnlaaGBase0
import Derived.Test.YtckhlbpjehbnlaaGBase5
import Derived.Test.YtckhlbpjehbnlaaGBase3
namespace Go.Proofs.Ytckhlbpjehbnlaa.PB
open Go.RowKit Go.Proofs.YtckhlbpjehbnlaaW.PrintWords Go.Proofs.YtckhlbpjehbnlaaW.PrintLast Go.Proofs.YtckhlbpjehbnlaaW.PrintMore
attribute [local go_sem] max2_int min2_int max_two min_two max_three min_three max_four min_four   -- for this text's walks alone
set_option linter.unusedVariables false
set_option linter.unusedSimpArgs false
def scarflaw05_awake.j0 : Nat → Bool → Option (Bool)
  | 0, _ => none
  | k + 1, x0 => some x0
def scarflaw05_awake.f (k : Nat)  : Option (Bool) := (instr_Put.f (([(⟨65, (-1), 0, 0, ([] : List Int), ([] : List (S54)), ([] : List (S54))⟩ : S54), (⟨26, 0, 0, 0, ([] : List Int), ([] : List (S54)), ([] : List (S54))⟩ : S54)] : List (S54)))).bind fun bt244 => ((instr_Put.f (([(⟨4, (-64), 0, 0, ([] : List Int), (([(⟨1, 0, 0, 0, ([] : List Int), ([] : List (S54)), ([] : List (S54))⟩ : S54)] : List (S54))), (([(⟨15, 0, 0, 0, ([] : List Int), ([] : List (S54)), ([] : List (S54))⟩ : S54)] : List (S54)))⟩ : S54)] : List (S54)))).bind fun bt255 => ((instr_Take.f (⟨#[67, 0, 0, 0, 0, 11]⟩ : ByteArray)).bind fun bt257 => (if bt244.1.size + 1 ≤ 9223372036854775807 then ((instr_Take.f (bt244.1 ++ (⟨#[122]⟩ : ByteArray))).bind fun bt262 => (if bt244.1.toList = ([65, 127, 26, 11] : List UInt8) then (if bt244.2 = 0 then (if bt255.1.toList = ([4, 64, 1, 5, 15, 11, 11] : List UInt8) then (if bt255.2 = 0 then (if bt257.2.2 = 3 then (if (bt262.1.length : Int) = 2 then (if bt262.2.1.toList = ([122] : List UInt8) then (scarflaw05_awake.j0 k (bt262.2.2 == 0)) else (scarflaw05_awake.j0 k false)) else (scarflaw05_awake.j0 k false)) else (scarflaw05_awake.j0 k false)) else (scarflaw05_awake.j0 k false)) else (scarflaw05_awake.j0 k false)) else (scarflaw05_awake.j0 k false)) else (scarflaw05_awake.j0 k false))) else (none))))
theorem scarflaw05_awake.mono_l : ∀ k, (∀ y0, LeO (scarflaw05_awake.j0 k y0) (scarflaw05_awake.j0 (k + 1) y0))
  | 0 => fun _ r h => by simp [scarflaw05_awake.j0] at h
  | k + 1 => by
    have ih0 := scarflaw05_awake.mono_l k
    · intro y0
      unfold scarflaw05_awake.j0
      repeat' first
      | (with_reducible exact ih0 _)
      | (with_reducible exact LeO.refl _)
      | (with_reducible exact LeO.none _)
      | (with_reducible refine LeO.ite ?_ ?_)
      | (with_reducible refine LeO.bind ?_ (fun _ => ?_))
      | exact ih0 _
      | exact LeO.none _
      | refine LeO.ite ?_ ?_
      | refine LeO.bind ?_ (fun _ => ?_)
theorem scarflaw05_awake.mono : ∀ k, LeO (scarflaw05_awake.f k ) (scarflaw05_awake.f (k + 1) ) := by
  intro  k
  have ih0 := scarflaw05_awake.mono_l k
  unfold scarflaw05_awake.f
  repeat' first
      | (with_reducible exact ih0 _)
      | (with_reducible exact LeO.refl _)
      | (with_reducible exact LeO.none _)
      | (with_reducible refine LeO.ite ?_ ?_)
      | (with_reducible refine LeO.bind ?_ (fun _ => ?_))
      | exact ih0 _
      | exact LeO.none _
      | refine LeO.ite ?_ ?_
      | refine LeO.bind ?_ (fun _ => ?_)
set_option maxHeartbeats 8000000 in
set_option maxRecDepth 100000 in
theorem scarflaw05_awake.calls (k : Nat)  (r : Bool) (w : World) (h : scarflaw05_awake.f k  = some r) :
    Calls Try.prog 14 #[] w fun e w' => e = .returned (.bool r) ∧ Below w.heap.size w w' := by
  have hu54 := Try.underlying54
  have HB := Aside0.mk (Below.refl w.heap.size w)
  have H : ((instr_Put.f (([(⟨65, (-1), 0, 0, ([] : List Int), ([] : List (S54)), ([] : List (S54))⟩ : S54), (⟨26, 0, 0, 0, ([] : List Int), ([] : List (S54)), ([] : List (S54))⟩ : S54)] : List (S54)))).bind fun bt244 => ((instr_Put.f (([(⟨4, (-64), 0, 0, ([] : List Int), (([(⟨1, 0, 0, 0, ([] : List Int), ([] : List (S54)), ([] : List (S54))⟩ : S54)] : List (S54))), (([(⟨15, 0, 0, 0, ([] : List Int), ([] : List (S54)), ([] : List (S54))⟩ : S54)] : List (S54)))⟩ : S54)] : List (S54)))).bind fun bt255 => ((instr_Take.f (⟨#[67, 0, 0, 0, 0, 11]⟩ : ByteArray)).bind fun bt257 => (if bt244.1.size + 1 ≤ 9223372036854775807 then ((instr_Take.f (bt244.1 ++ (⟨#[122]⟩ : ByteArray))).bind fun bt262 => (if bt244.1.toList = ([65, 127, 26, 11] : List UInt8) then (if bt244.2 = 0 then (if bt255.1.toList = ([4, 64, 1, 5, 15, 11, 11] : List UInt8) then (if bt255.2 = 0 then (if bt257.2.2 = 3 then (if (bt262.1.length : Int) = 2 then (if bt262.2.1.toList = ([122] : List UInt8) then (scarflaw05_awake.j0 k (bt262.2.2 == 0)) else (scarflaw05_awake.j0 k false)) else (scarflaw05_awake.j0 k false)) else (scarflaw05_awake.j0 k false)) else (scarflaw05_awake.j0 k false)) else (scarflaw05_awake.j0 k false)) else (scarflaw05_awake.j0 k false)) else (scarflaw05_awake.j0 k false))) else (none))))) = some r := h
  clear h
  obtain ⟨y241, hy241⟩ : ∃ y_ : List (S54), y_ = (([(⟨65, (-1), 0, 0, ([] : List Int), ([] : List (S54)), ([] : List (S54))⟩ : S54), (⟨26, 0, 0, 0, ([] : List Int), ([] : List (S54)), ([] : List (S54))⟩ : S54)] : List (S54))) := ⟨_, rfl⟩
  replace H : ((instr_Put.f y241).bind fun bt244 => ((instr_Put.f (([(⟨4, (-64), 0, 0, ([] : List Int), (([(⟨1, 0, 0, 0, ([] : List Int), ([] : List (S54)), ([] : List (S54))⟩ : S54)] : List (S54))), (([(⟨15, 0, 0, 0, ([] : List Int), ([] : List (S54)), ([] : List (S54))⟩ : S54)] : List (S54)))⟩ : S54)] : List (S54)))).bind fun bt255 => ((instr_Take.f (⟨#[67, 0, 0, 0, 0, 11]⟩ : ByteArray)).bind fun bt257 => (if bt244.1.size + 1 ≤ 9223372036854775807 then ((instr_Take.f (bt244.1 ++ (⟨#[122]⟩ : ByteArray))).bind fun bt262 => (if bt244.1.toList = ([65, 127, 26, 11] : List UInt8) then (if bt244.2 = 0 then (if bt255.1.toList = ([4, 64, 1, 5, 15, 11, 11] : List UInt8) then (if bt255.2 = 0 then (if bt257.2.2 = 3 then (if (bt262.1.length : Int) = 2 then (if bt262.2.1.toList = ([122] : List UInt8) then (scarflaw05_awake.j0 k (bt262.2.2 == 0)) else (scarflaw05_awake.j0 k false)) else (scarflaw05_awake.j0 k false)) else (scarflaw05_awake.j0 k false)) else (scarflaw05_awake.j0 k false)) else (scarflaw05_awake.j0 k false)) else (scarflaw05_awake.j0 k false)) else (scarflaw05_awake.j0 k false))) else (none))))) = some r := by first | (rw [hy241]; with_reducible exact H) | (have H2_ := (Option.bind_some _ _).symm.trans H; rw [hy241]; with_reducible exact H2_) | (have H2_ := (Option.bind_some _ _).symm.trans H; with_reducible exact H2_) | with_reducible exact H | (rw [hy241]; exact H) | exact H
  have Ny241 := Aside0.mk hy241
  clear hy241
  replace H := Option.bind_eq_some_iff.mp H
  obtain ⟨⟨t244, t245⟩, A10, H⟩ := H
  replace H : ((instr_Put.f (([(⟨4, (-64), 0, 0, ([] : List Int), (([(⟨1, 0, 0, 0, ([] : List Int), ([] : List (S54)), ([] : List (S54))⟩ : S54)] : List (S54))), (([(⟨15, 0, 0, 0, ([] : List Int), ([] : List (S54)), ([] : List (S54))⟩ : S54)] : List (S54)))⟩ : S54)] : List (S54)))).bind fun bt255 => ((instr_Take.f (⟨#[67, 0, 0, 0, 0, 11]⟩ : ByteArray)).bind fun bt257 => (if t244.size + 1 ≤ 9223372036854775807 then ((instr_Take.f (t244 ++ (⟨#[122]⟩ : ByteArray))).bind fun bt262 => (if t244.toList = ([65, 127, 26, 11] : List UInt8) then (if t245 = 0 then (if bt255.1.toList = ([4, 64, 1, 5, 15, 11, 11] : List UInt8) then (if bt255.2 = 0 then (if bt257.2.2 = 3 then (if (bt262.1.length : Int) = 2 then (if bt262.2.1.toList = ([122] : List UInt8) then (scarflaw05_awake.j0 k (bt262.2.2 == 0)) else (scarflaw05_awake.j0 k false)) else (scarflaw05_awake.j0 k false)) else (scarflaw05_awake.j0 k false)) else (scarflaw05_awake.j0 k false)) else (scarflaw05_awake.j0 k false)) else (scarflaw05_awake.j0 k false)) else (scarflaw05_awake.j0 k false))) else (none)))) = some r := H
  have A1 := Aside0.mk A10
  clear A10
  obtain ⟨y246, hy246⟩ : ∃ y_ : List (S54), y_ = (([(⟨1, 0, 0, 0, ([] : List Int), ([] : List (S54)), ([] : List (S54))⟩ : S54)] : List (S54))) := ⟨_, rfl⟩
  replace H : ((instr_Put.f (([(⟨4, (-64), 0, 0, ([] : List Int), y246, (([(⟨15, 0, 0, 0, ([] : List Int), ([] : List (S54)), ([] : List (S54))⟩ : S54)] : List (S54)))⟩ : S54)] : List (S54)))).bind fun bt255 => ((instr_Take.f (⟨#[67, 0, 0, 0, 0, 11]⟩ : ByteArray)).bind fun bt257 => (if t244.size + 1 ≤ 9223372036854775807 then ((instr_Take.f (t244 ++ (⟨#[122]⟩ : ByteArray))).bind fun bt262 => (if t244.toList = ([65, 127, 26, 11] : List UInt8) then (if t245 = 0 then (if bt255.1.toList = ([4, 64, 1, 5, 15, 11, 11] : List UInt8) then (if bt255.2 = 0 then (if bt257.2.2 = 3 then (if (bt262.1.length : Int) = 2 then (if bt262.2.1.toList = ([122] : List UInt8) then (scarflaw05_awake.j0 k (bt262.2.2 == 0)) else (scarflaw05_awake.j0 k false)) else (scarflaw05_awake.j0 k false)) else (scarflaw05_awake.j0 k false)) else (scarflaw05_awake.j0 k false)) else (scarflaw05_awake.j0 k false)) else (scarflaw05_awake.j0 k false)) else (scarflaw05_awake.j0 k false))) else (none)))) = some r := by first | (rw [hy246]; with_reducible exact H) | (have H2_ := (Option.bind_some _ _).symm.trans H; rw [hy246]; with_reducible exact H2_) | (have H2_ := (Option.bind_some _ _).symm.trans H; with_reducible exact H2_) | with_reducible exact H | (rw [hy246]; exact H) | exact H
  have Ny246 := Aside0.mk hy246
  clear hy246
  obtain ⟨y249, hy249⟩ : ∃ y_ : List (S54), y_ = (([(⟨15, 0, 0, 0, ([] : List Int), ([] : List (S54)), ([] : List (S54))⟩ : S54)] : List (S54))) := ⟨_, rfl⟩
  replace H : ((instr_Put.f (([(⟨4, (-64), 0, 0, ([] : List Int), y246, y249⟩ : S54)] : List (S54)))).bind fun bt255 => ((instr_Take.f (⟨#[67, 0, 0, 0, 0, 11]⟩ : ByteArray)).bind fun bt257 => (if t244.size + 1 ≤ 9223372036854775807 then ((instr_Take.f (t244 ++ (⟨#[122]⟩ : ByteArray))).bind fun bt262 => (if t244.toList = ([65, 127, 26, 11] : List UInt8) then (if t245 = 0 then (if bt255.1.toList = ([4, 64, 1, 5, 15, 11, 11] : List UInt8) then (if bt255.2 = 0 then (if bt257.2.2 = 3 then (if (bt262.1.length : Int) = 2 then (if bt262.2.1.toList = ([122] : List UInt8) then (scarflaw05_awake.j0 k (bt262.2.2 == 0)) else (scarflaw05_awake.j0 k false)) else (scarflaw05_awake.j0 k false)) else (scarflaw05_awake.j0 k false)) else (scarflaw05_awake.j0 k false)) else (scarflaw05_awake.j0 k false)) else (scarflaw05_awake.j0 k false)) else (scarflaw05_awake.j0 k false))) else (none)))) = some r := by first | (rw [hy249]; with_reducible exact H) | (have H2_ := (Option.bind_some _ _).symm.trans H; rw [hy249]; with_reducible exact H2_) | (have H2_ := (Option.bind_some _ _).symm.trans H; with_reducible exact H2_) | with_reducible exact H | (rw [hy249]; exact H) | exact H
  have Ny249 := Aside0.mk hy249
  clear hy249
  obtain ⟨y252, hy252⟩ : ∃ y_ : List (S54), y_ = (([(⟨4, (-64), 0, 0, ([] : List Int), y246, y249⟩ : S54)] : List (S54))) := ⟨_, rfl⟩
  replace H : ((instr_Put.f y252).bind fun bt255 => ((instr_Take.f (⟨#[67, 0, 0, 0, 0, 11]⟩ : ByteArray)).bind fun bt257 => (if t244.size + 1 ≤ 9223372036854775807 then ((instr_Take.f (t244 ++ (⟨#[122]⟩ : ByteArray))).bind fun bt262 => (if t244.toList = ([65, 127, 26, 11] : List UInt8) then (if t245 = 0 then (if bt255.1.toList = ([4, 64, 1, 5, 15, 11, 11] : List UInt8) then (if bt255.2 = 0 then (if bt257.2.2 = 3 then (if (bt262.1.length : Int) = 2 then (if bt262.2.1.toList = ([122] : List UInt8) then (scarflaw05_awake.j0 k (bt262.2.2 == 0)) else (scarflaw05_awake.j0 k false)) else (scarflaw05_awake.j0 k false)) else (scarflaw05_awake.j0 k false)) else (scarflaw05_awake.j0 k false)) else (scarflaw05_awake.j0 k false)) else (scarflaw05_awake.j0 k false)) else (scarflaw05_awake.j0 k false))) else (none)))) = some r := by first | (rw [hy252]; with_reducible exact H) | (have H2_ := (Option.bind_some _ _).symm.trans H; rw [hy252]; with_reducible exact H2_) | (have H2_ := (Option.bind_some _ _).symm.trans H; with_reducible exact H2_) | with_reducible exact H | (rw [hy252]; exact H) | exact H
  have Ny252 := Aside0.mk hy252
  clear hy252
  replace H := Option.bind_eq_some_iff.mp H
  obtain ⟨⟨t255, t256⟩, A20, H⟩ := H
  replace H : ((instr_Take.f (⟨#[67, 0, 0, 0, 0, 11]⟩ : ByteArray)).bind fun bt257 => (if t244.size + 1 ≤ 9223372036854775807 then ((instr_Take.f (t244 ++ (⟨#[122]⟩ : ByteArray))).bind fun bt262 => (if t244.toList = ([65, 127, 26, 11] : List UInt8) then (if t245 = 0 then (if t255.toList = ([4, 64, 1, 5, 15, 11, 11] : List UInt8) then (if t256 = 0 then (if bt257.2.2 = 3 then (if (bt262.1.length : Int) = 2 then (if bt262.2.1.toList = ([122] : List UInt8) then (scarflaw05_awake.j0 k (bt262.2.2 == 0)) else (scarflaw05_awake.j0 k false)) else (scarflaw05_awake.j0 k false)) else (scarflaw05_awake.j0 k false)) else (scarflaw05_awake.j0 k false)) else (scarflaw05_awake.j0 k false)) else (scarflaw05_awake.j0 k false)) else (scarflaw05_awake.j0 k false))) else (none))) = some r := H
  have A2 := Aside0.mk A20
  clear A20
  replace H := Option.bind_eq_some_iff.mp H
  obtain ⟨⟨t257, t258, t259⟩, A30, H⟩ := H
  replace H : (if t244.size + 1 ≤ 9223372036854775807 then ((instr_Take.f (t244 ++ (⟨#[122]⟩ : ByteArray))).bind fun bt262 => (if t244.toList = ([65, 127, 26, 11] : List UInt8) then (if t245 = 0 then (if t255.toList = ([4, 64, 1, 5, 15, 11, 11] : List UInt8) then (if t256 = 0 then (if t259 = 3 then (if (bt262.1.length : Int) = 2 then (if bt262.2.1.toList = ([122] : List UInt8) then (scarflaw05_awake.j0 k (bt262.2.2 == 0)) else (scarflaw05_awake.j0 k false)) else (scarflaw05_awake.j0 k false)) else (scarflaw05_awake.j0 k false)) else (scarflaw05_awake.j0 k false)) else (scarflaw05_awake.j0 k false)) else (scarflaw05_awake.j0 k false)) else (scarflaw05_awake.j0 k false))) else (none)) = some r := H
  have A3 := Aside0.mk A30
  clear A30
  by_cases c4 : t244.size + 1 ≤ 9223372036854775807
  · rw [if_pos c4] at H
    have c4b0 := eq_true c4
    have c4b1 : decide (t244.size + 1 ≤ 9223372036854775807) = true := decide_eq_true c4
    try have c4b2 : (9223372036854775807 < t244.size + 1) = False := eq_false (Nat.not_lt.2 c4)
    replace H := Option.bind_eq_some_iff.mp H
    obtain ⟨⟨t262, t263, t264⟩, A50, H⟩ := H
    replace H : (if t244.toList = ([65, 127, 26, 11] : List UInt8) then (if t245 = 0 then (if t255.toList = ([4, 64, 1, 5, 15, 11, 11] : List UInt8) then (if t256 = 0 then (if t259 = 3 then (if (t262.length : Int) = 2 then (if t263.toList = ([122] : List UInt8) then (scarflaw05_awake.j0 k (t264 == 0)) else (scarflaw05_awake.j0 k false)) else (scarflaw05_awake.j0 k false)) else (scarflaw05_awake.j0 k false)) else (scarflaw05_awake.j0 k false)) else (scarflaw05_awake.j0 k false)) else (scarflaw05_awake.j0 k false)) else (scarflaw05_awake.j0 k false)) = some r := H
    have A5 := Aside0.mk A50
    clear A50
    have HC6 := Aside0.mk H
    clear H
    go_enter Try.func14, Try.ntmps14
    go_upto_region 5 with (first | ((with_reducible refine gate_dst (N := 14) rfl ?_); (try (refine gate_guard (by rfl) ?_; dsimp only)); refine Kd.N_lit k54 _ 54 ?hg (N' := 14) ?hd (xs := ([(⟨65, (-1), 0, 0, ([] : List Int), ([] : List (S54)), ([] : List (S54))⟩ : S54), (⟨26, 0, 0, 0, ([] : List Int), ([] : List (S54)), ([] : List (S54))⟩ : S54)] : List (S54))) (inner := [.int .i64 65, .int .i64 (-1), .int .i64 0, .int .i64 0, .slice none 0 0, .slice none 0 0, .slice none 0 0, .int .i64 26, .int .i64 0, .int .i64 0, .int .i64 0, .slice none 0 0, .slice none 0 0, .slice none 0 0]) (ok := (fun _ => True)) (okp := (fun _ => True)) ?hr ?hp (fun _ hk => hk) ((show ∀ k_, w.heap.size ≤ k_ → (fun _ => True) k_ from fun k_ hk => trivial) _ (Nat.le_refl _)) (Below.refl _ _) (Nat.le_refl _) (by simp) ?_; (case hd => rfl); (case hg => rfl); (case hr => first | (go_simp; done) | (go_simp; rfl)); (case hp => exact (Reps.c7 (show Kd.FK k54 _ _ (⟨65, (-1), 0, 0, ([] : List Int), ([] : List (S54)), ([] : List (S54))⟩ : S54) [.int .i64 65, .int .i64 (-1), .int .i64 0, .int .i64 0, .slice none 0 0, .slice none 0 0, .slice none 0 0] from (k54_mkF _ _ (⟨65, (-1), 0, 0, ([] : List Int), ([] : List (S54)), ([] : List (S54))⟩ : S54) (Nat.le_refl _) (Kd.F_nil _ _ _) (Nat.le_refl _) (Kd.F_nil _ _ _) (Nat.le_refl _) (Kd.F_nil _ _ _))) (Reps.c7 (show Kd.FK k54 _ _ (⟨26, 0, 0, 0, ([] : List Int), ([] : List (S54)), ([] : List (S54))⟩ : S54) [.int .i64 26, .int .i64 0, .int .i64 0, .int .i64 0, .slice none 0 0, .slice none 0 0, .slice none 0 0] from (k54_mkF _ _ (⟨26, 0, 0, 0, ([] : List Int), ([] : List (S54)), ([] : List (S54))⟩ : S54) (Nat.le_refl _) (Kd.F_nil _ _ _) (Nat.le_refl _) (Kd.F_nil _ _ _) (Nat.le_refl _) (Kd.F_nil _ _ _))) (Reps.none _ _)))); intro v242 w7 ho8 hb hg_ hnew_; clear hg_ hnew_; (first | rw [← Ny241.out] at ho8 | (simp only [Int.reduceToNat] at ho8; rw [← Ny241.out] at ho8)); have n0_ := Aside0.mk (Kd.N_lower ho8 (below_size (by repeat (first | (with_reducible first | exact HB.out | apply below_alloc | apply pw_below_drewN | apply below_drew1) | exact HB.out)))); have n1_ := Aside0.mk (below_step (by repeat (first | (with_reducible first | exact HB.out | apply below_alloc | apply pw_below_drewN | apply below_drew1) | exact HB.out)) hb); clear HB; have HO243 := n0_; have HB := n1_; clear n0_ n1_; clear hb ho8; obtain ⟨Ao9, co9, eo9⟩ := Kd.N_slice HO243.out; subst eo9) | ((with_reducible refine gate_callee (f := 15) rfl ?_); refine goesL_ (some 15) rfl rfl Try.func15 (by kernel_rfl) rfl #[.slice Ao9 y241.length co9] rfl (by (try simp only [List.map_toArray, List.map_cons, List.map_nil]); first | done | rfl | (simp only [List.length_drop, List.length_take]; rfl)) ?_; (with_reducible refine (instr_Put.calls _ _ y241 t244 t245 _ ?side1 ?side2 A1.out).mono ?_); (case side1 => repeat (first | exact (Kd.N_reads' HO243.out).2.2 | (with_reducible refine Kd.C_alloc ?_ _) | (with_reducible refine Kd.C_drewN ?_ _) | (with_reducible refine Kd.C_drew ?_))); (case side2 => exact (Kd.N_reads' HO243.out).2.1); rintro e w10 ⟨rfl, hb⟩; refine ⟨_, rfl, ?_⟩; have n0_ := Aside0.mk (Kd.N_below (by (with_reducible repeat (first | apply Kd.N_alloc | apply Kd.N_drewN | apply Kd.N_drew)); exact HO243.out) hb); have n1_ := Aside0.mk (below_step (by repeat (first | (with_reducible first | exact HB.out | apply below_alloc | apply pw_below_drewN | apply below_drew1) | exact HB.out)) hb); clear HO243; clear HB; have HO243 := n0_; have HB := n1_; clear n0_ n1_; (try clear hb); (try clear hb2); (try clear hk); (try clear hi)) | ((with_reducible refine gate_dst (N := 20) rfl ?_); (try (refine gate_guard (by rfl) ?_; dsimp only)); refine Kd.N_lit k54 _ 54 ?hg (N' := 20) ?hd (xs := ([(⟨1, 0, 0, 0, ([] : List Int), ([] : List (S54)), ([] : List (S54))⟩ : S54)] : List (S54))) (inner := [.int .i64 1, .int .i64 0, .int .i64 0, .int .i64 0, .slice none 0 0, .slice none 0 0, .slice none 0 0]) (ok := (fun k_ => some k_ ≠ (.slice Ao9 y241.length co9 : Value).ownBlock)) (okp := (fun k_ => some k_ ≠ (.slice Ao9 y241.length co9 : Value).ownBlock)) ?hr ?hp (fun _ hk => hk) ((show ∀ k_, w10.heap.size ≤ k_ → (fun k_ => some k_ ≠ (.slice Ao9 y241.length co9 : Value).ownBlock) k_ from fun k_ hk => Kd.fresh' (Kd.N_lt (by (with_reducible repeat (first | apply Kd.N_alloc | apply Kd.N_drewN | apply Kd.N_drew)); exact HO243.out)) k_ hk) _ (Nat.le_refl _)) (Below.refl _ _) (Nat.le_refl _) (by simp) ?_; (case hd => rfl); (case hg => rfl); (case hr => first | (go_simp; done) | (go_simp; rfl)); (case hp => exact (Reps.c7 (show Kd.FK k54 _ _ (⟨1, 0, 0, 0, ([] : List Int), ([] : List (S54)), ([] : List (S54))⟩ : S54) [.int .i64 1, .int .i64 0, .int .i64 0, .int .i64 0, .slice none 0 0, .slice none 0 0, .slice none 0 0] from (k54_mkF _ _ (⟨1, 0, 0, 0, ([] : List Int), ([] : List (S54)), ([] : List (S54))⟩ : S54) (Nat.le_refl _) (Kd.F_nil _ _ _) (Nat.le_refl _) (Kd.F_nil _ _ _) (Nat.le_refl _) (Kd.F_nil _ _ _))) (Reps.none _ _))); intro v247 w11 ho12 hb hg_ hnew_; clear hg_ hnew_; (first | rw [← Ny246.out] at ho12 | (simp only [Int.reduceToNat] at ho12; rw [← Ny246.out] at ho12)); have n0_ := Aside0.mk (Kd.N_elder' (by (with_reducible repeat (first | apply Kd.N_alloc | apply Kd.N_drewN | apply Kd.N_drew)); exact HO243.out) (by first | exact Kd.N_base ho12 | exact Kd.R_base ho12) hb); have n1_ := Aside0.mk (Kd.N_lower ho12 (below_size (by repeat (first | (with_reducible first | exact HB.out | apply below_alloc | apply pw_below_drewN | apply below_drew1) | exact HB.out)))); have n2_ := Aside0.mk (below_step (by repeat (first | (with_reducible first | exact HB.out | apply below_alloc | apply pw_below_drewN | apply below_drew1) | exact HB.out)) hb); clear HO243; clear HB; have HO243 := n0_; have HO248 := n1_; have HB := n2_; clear n0_ n1_ n2_; clear hb ho12) | ((with_reducible refine gate_dst (N := 22) rfl ?_); (try (refine gate_guard (by rfl) ?_; dsimp only)); refine Kd.N_lit k54 _ 54 ?hg (N' := 22) ?hd (xs := ([(⟨15, 0, 0, 0, ([] : List Int), ([] : List (S54)), ([] : List (S54))⟩ : S54)] : List (S54))) (inner := [.int .i64 15, .int .i64 0, .int .i64 0, .int .i64 0, .slice none 0 0, .slice none 0 0, .slice none 0 0]) (ok := (fun k_ => some k_ ≠ (.slice Ao9 y241.length co9 : Value).ownBlock ∧ some k_ ≠ (v247 : Value).ownBlock)) (okp := (fun k_ => some k_ ≠ (.slice Ao9 y241.length co9 : Value).ownBlock ∧ some k_ ≠ (v247 : Value).ownBlock)) ?hr ?hp (fun _ hk => hk) ((show ∀ k_, w11.heap.size ≤ k_ → (fun k_ => some k_ ≠ (.slice Ao9 y241.length co9 : Value).ownBlock ∧ some k_ ≠ (v247 : Value).ownBlock) k_ from fun k_ hk => ⟨Kd.fresh' (Kd.N_lt (by (with_reducible repeat (first | apply Kd.N_alloc | apply Kd.N_drewN | apply Kd.N_drew)); exact HO243.out)) k_ hk, Kd.fresh' (Kd.N_lt (by (with_reducible repeat (first | apply Kd.N_alloc | apply Kd.N_drewN | apply Kd.N_drew)); exact HO248.out)) k_ hk⟩) _ (Nat.le_refl _)) (Below.refl _ _) (Nat.le_refl _) (by simp) ?_; (case hd => rfl); (case hg => rfl); (case hr => first | (go_simp; done) | (go_simp; rfl)); (case hp => exact (Reps.c7 (show Kd.FK k54 _ _ (⟨15, 0, 0, 0, ([] : List Int), ([] : List (S54)), ([] : List (S54))⟩ : S54) [.int .i64 15, .int .i64 0, .int .i64 0, .int .i64 0, .slice none 0 0, .slice none 0 0, .slice none 0 0] from (k54_mkF _ _ (⟨15, 0, 0, 0, ([] : List Int), ([] : List (S54)), ([] : List (S54))⟩ : S54) (Nat.le_refl _) (Kd.F_nil _ _ _) (Nat.le_refl _) (Kd.F_nil _ _ _) (Nat.le_refl _) (Kd.F_nil _ _ _))) (Reps.none _ _))); intro v250 w13 ho14 hb hg_ hnew_; clear hg_ hnew_; (first | rw [← Ny249.out] at ho14 | (simp only [Int.reduceToNat] at ho14; rw [← Ny249.out] at ho14)); have n0_ := Aside0.mk (Kd.N_elder' (by (with_reducible repeat (first | apply Kd.N_alloc | apply Kd.N_drewN | apply Kd.N_drew)); exact HO243.out) (by first | exact Kd.N_base ho14 | exact Kd.R_base ho14) hb); have n1_ := Aside0.mk (Kd.N_elder' (by (with_reducible repeat (first | apply Kd.N_alloc | apply Kd.N_drewN | apply Kd.N_drew)); exact HO248.out) (by first | exact Kd.N_base ho14 | exact Kd.R_base ho14) hb); have n2_ := Aside0.mk (Kd.N_lower ho14 (below_size (by repeat (first | (with_reducible first | exact HB.out | apply below_alloc | apply pw_below_drewN | apply below_drew1) | exact HB.out)))); have n3_ := Aside0.mk (below_step (by repeat (first | (with_reducible first | exact HB.out | apply below_alloc | apply pw_below_drewN | apply below_drew1) | exact HB.out)) hb); clear HO243; clear HO248; clear HB; have HO243 := n0_; have HO248 := n1_; have HO251 := n2_; have HB := n3_; clear n0_ n1_ n2_ n3_; clear hb ho14; obtain ⟨Ao15, co15, eo15⟩ := Kd.N_slice HO251.out; subst eo15; obtain ⟨Ao16, co16, eo16⟩ := Kd.N_slice HO248.out; subst eo16) | ((with_reducible refine gate_dst (N := 24) rfl ?_); (try (refine gate_guard (by rfl) ?_; dsimp only)); refine Kd.N_lit k54 _ 54 ?hg (N' := 24) ?hd (xs := ([(⟨4, (-64), 0, 0, ([] : List Int), y246, y249⟩ : S54)] : List (S54))) (inner := [.int .i64 4, .int .i64 (-64), .int .i64 0, .int .i64 0, .slice none 0 0, .slice Ao16 y246.length co16, .slice Ao15 y249.length co15]) (ok := (fun k_ => some k_ ≠ (.slice Ao9 y241.length co9 : Value).ownBlock)) (okp := (fun k_ => some k_ ≠ (.slice Ao9 y241.length co9 : Value).ownBlock)) ?hr ?hp (fun _ hk => hk) ((show ∀ k_, w13.heap.size ≤ k_ → (fun k_ => some k_ ≠ (.slice Ao9 y241.length co9 : Value).ownBlock) k_ from fun k_ hk => Kd.fresh' (Kd.N_lt (by (with_reducible repeat (first | apply Kd.N_alloc | apply Kd.N_drewN | apply Kd.N_drew)); exact HO243.out)) k_ hk) _ (Nat.le_refl _)) (Below.refl _ _) (Nat.le_refl _) (by simp) ?_; (case hd => rfl); (case hg => rfl); (case hr => first | (go_simp; done) | (go_simp; rfl)); (case hp => exact (Reps.c7 (show Kd.FK k54 _ _ (⟨4, (-64), 0, 0, ([] : List Int), y246, y249⟩ : S54) [.int .i64 4, .int .i64 (-64), .int .i64 0, .int .i64 0, .slice none 0 0, .slice Ao16 y246.length co16, .slice Ao15 y249.length co15] from (k54_mkF _ _ (⟨4, (-64), 0, 0, ([] : List Int), y246, y249⟩ : S54) (Nat.le_refl _) (Kd.F_nil _ _ _) (Kd.N_reads' (Kd.N_mono (ok' := (fun k_ => some k_ ≠ (.slice Ao9 y241.length co9 : Value).ownBlock)) (HO248.out) (fun k_ hk => hk.1))).2.1 (Kd.N_F (Kd.N_mono (ok' := (fun k_ => some k_ ≠ (.slice Ao9 y241.length co9 : Value).ownBlock)) (HO248.out) (fun k_ hk => hk.1))) (Kd.N_reads' (Kd.N_mono (ok' := (fun k_ => some k_ ≠ (.slice Ao9 y241.length co9 : Value).ownBlock)) (HO251.out) (fun k_ hk => hk.1))).2.1 (Kd.N_F (Kd.N_mono (ok' := (fun k_ => some k_ ≠ (.slice Ao9 y241.length co9 : Value).ownBlock)) (HO251.out) (fun k_ hk => hk.1))))) (Reps.none _ _))); intro v253 w17 ho18 hb hg_ hnew_; clear hg_ hnew_; (first | rw [← Ny252.out] at ho18 | (simp only [Int.reduceToNat] at ho18; rw [← Ny252.out] at ho18)); have n0_ := Aside0.mk (Kd.N_elder' (by (with_reducible repeat (first | apply Kd.N_alloc | apply Kd.N_drewN | apply Kd.N_drew)); exact HO243.out) (by first | exact Kd.N_base ho18 | exact Kd.R_base ho18) hb); have n1_ := Aside0.mk (Kd.N_lower ho18 (below_size (by repeat (first | (with_reducible first | exact HB.out | apply below_alloc | apply pw_below_drewN | apply below_drew1) | exact HB.out)))); have n2_ := Aside0.mk (below_step (by repeat (first | (with_reducible first | exact HB.out | apply below_alloc | apply pw_below_drewN | apply below_drew1) | exact HB.out)) hb); clear HO243; clear HB; clear HO248; clear HO251; have HO243 := n0_; have HO254 := n1_; have HB := n2_; clear n0_ n1_ n2_; clear hb ho18; obtain ⟨Ao19, co19, eo19⟩ := Kd.N_slice HO254.out; subst eo19) | ((with_reducible refine gate_callee (f := 15) rfl ?_); refine goesL_ (some 25) rfl rfl Try.func15 (by kernel_rfl) rfl #[.slice Ao19 y252.length co19] rfl (by (try simp only [List.map_toArray, List.map_cons, List.map_nil]); first | done | rfl | (simp only [List.length_drop, List.length_take]; rfl)) ?_; (with_reducible refine (instr_Put.calls _ _ y252 t255 t256 _ ?side1 ?side2 A2.out).mono ?_); (case side1 => repeat (first | exact (Kd.N_reads' HO254.out).2.2 | (with_reducible refine Kd.C_alloc ?_ _) | (with_reducible refine Kd.C_drewN ?_ _) | (with_reducible refine Kd.C_drew ?_))); (case side2 => exact (Kd.N_reads' HO254.out).2.1); rintro e w20 ⟨rfl, hb⟩; refine ⟨_, rfl, ?_⟩; have n0_ := Aside0.mk (Kd.N_below (by (with_reducible repeat (first | apply Kd.N_alloc | apply Kd.N_drewN | apply Kd.N_drew)); exact HO243.out) hb); have n1_ := Aside0.mk (Kd.N_below (by (with_reducible repeat (first | apply Kd.N_alloc | apply Kd.N_drewN | apply Kd.N_drew)); exact HO254.out) hb); have n2_ := Aside0.mk (below_step (by repeat (first | (with_reducible first | exact HB.out | apply below_alloc | apply pw_below_drewN | apply below_drew1) | exact HB.out)) hb); clear HO243; clear HO254; clear HB; have HO243 := n0_; have HO254 := n1_; have HB := n2_; clear n0_ n1_ n2_; (try clear hb); (try clear hb2); (try clear hk); (try clear hi)) | ((with_reducible refine gate_callee (f := 19) rfl ?_); refine goesL_ (some 29) rfl rfl Try.func19 (by kernel_rfl) rfl #[.string (⟨#[67, 0, 0, 0, 0, 11]⟩ : ByteArray)] rfl (by (try simp only [List.map_toArray, List.map_cons, List.map_nil]); first | done | rfl | (simp only [List.length_drop, List.length_take]; rfl)) ?_; (with_reducible refine (instr_Take.calls (⟨#[67, 0, 0, 0, 0, 11]⟩ : ByteArray) t257 t258 t259 _ A3.out).mono ?_); rintro e w21 ⟨v260, rfl, ho0, hb⟩; refine ⟨_, rfl, ?_⟩; have n0_ := Aside0.mk (Kd.N_elder' (by (with_reducible repeat (first | apply Kd.N_alloc | apply Kd.N_drewN | apply Kd.N_drew)); exact HO243.out) (by first | exact Kd.N_base ho0 | exact Kd.R_base ho0) hb); have n1_ := Aside0.mk (Kd.N_elder' (by (with_reducible repeat (first | apply Kd.N_alloc | apply Kd.N_drewN | apply Kd.N_drew)); exact HO254.out) (by first | exact Kd.N_base ho0 | exact Kd.R_base ho0) hb); have n2_ := Aside0.mk (Kd.N_lower (Kd.N_mono (ok' := fun k_ => some k_ ≠ (.slice Ao9 y241.length co9 : Value).ownBlock ∧ some k_ ≠ (.slice Ao19 y252.length co19 : Value).ownBlock) (Kd.R_N (Kd.R_bound ho0)) (fun k_ hk_ => ⟨(Kd.fresh' (Kd.N_lt (by (with_reducible repeat (first | apply Kd.N_alloc | apply Kd.N_drewN | apply Kd.N_drew)); exact HO243.out)) k_ hk_.2.1), (Kd.fresh' (Kd.N_lt (by (with_reducible repeat (first | apply Kd.N_alloc | apply Kd.N_drewN | apply Kd.N_drew)); exact HO254.out)) k_ hk_.2.1)⟩)) (below_size (by repeat (first | (with_reducible first | exact HB.out | apply below_alloc | apply pw_below_drewN | apply below_drew1) | exact HB.out)))); have n3_ := Aside0.mk (below_step (by repeat (first | (with_reducible first | exact HB.out | apply below_alloc | apply pw_below_drewN | apply below_drew1) | exact HB.out)) hb); clear HO243; clear HO254; clear HB; have HO243 := n0_; have HO254 := n1_; have HO261 := n2_; have HB := n3_; clear n0_ n1_ n2_ n3_; (try clear hb); (try clear hb2); (try clear hk); (try clear hi); (try clear ho0)) | ((with_reducible refine gate_callee (f := 19) rfl ?_); refine goesL_ (some 36) rfl rfl Try.func19 (by kernel_rfl) rfl #[.string (t244 ++ (⟨#[122]⟩ : ByteArray))] rfl (by (try simp only [List.map_toArray, List.map_cons, List.map_nil]); first | done | rfl | (simp only [List.length_drop, List.length_take]; rfl)) ?_; (with_reducible refine (instr_Take.calls (t244 ++ (⟨#[122]⟩ : ByteArray)) t262 t263 t264 _ A5.out).mono ?_); rintro e w22 ⟨v265, rfl, ho0, hb⟩; refine ⟨_, rfl, ?_⟩; have n0_ := Aside0.mk (Kd.N_elder' (by (with_reducible repeat (first | apply Kd.N_alloc | apply Kd.N_drewN | apply Kd.N_drew)); exact HO243.out) (by first | exact Kd.N_base ho0 | exact Kd.R_base ho0) hb); have n1_ := Aside0.mk (Kd.N_elder' (by (with_reducible repeat (first | apply Kd.N_alloc | apply Kd.N_drewN | apply Kd.N_drew)); exact HO254.out) (by first | exact Kd.N_base ho0 | exact Kd.R_base ho0) hb); have n2_ := Aside0.mk (Kd.N_elder' (by (with_reducible repeat (first | apply Kd.N_alloc | apply Kd.N_drewN | apply Kd.N_drew)); exact HO261.out) (by first | exact Kd.N_base ho0 | exact Kd.R_base ho0) hb); have n3_ := Aside0.mk (Kd.N_lower (Kd.N_mono (ok' := fun k_ => some k_ ≠ (.slice Ao9 y241.length co9 : Value).ownBlock ∧ some k_ ≠ (.slice Ao19 y252.length co19 : Value).ownBlock ∧ some k_ ≠ (v260 : Value).ownBlock) (Kd.R_N (Kd.R_bound ho0)) (fun k_ hk_ => ⟨(Kd.fresh' (Kd.N_lt (by (with_reducible repeat (first | apply Kd.N_alloc | apply Kd.N_drewN | apply Kd.N_drew)); exact HO243.out)) k_ hk_.2.1), (Kd.fresh' (Kd.N_lt (by (with_reducible repeat (first | apply Kd.N_alloc | apply Kd.N_drewN | apply Kd.N_drew)); exact HO254.out)) k_ hk_.2.1), (Kd.fresh' (Kd.N_lt (by (with_reducible repeat (first | apply Kd.N_alloc | apply Kd.N_drewN | apply Kd.N_drew)); exact HO261.out)) k_ hk_.2.1)⟩)) (below_size (by repeat (first | (with_reducible first | exact HB.out | apply below_alloc | apply pw_below_drewN | apply below_drew1) | exact HB.out)))); have n4_ := Aside0.mk (below_step (by repeat (first | (with_reducible first | exact HB.out | apply below_alloc | apply pw_below_drewN | apply below_drew1) | exact HB.out)) hb); clear HO243; clear HO254; clear HO261; clear HB; have HO243 := n0_; have HO254 := n1_; have HO261 := n2_; have HO266 := n3_; have HB := n4_; clear n0_ n1_ n2_ n3_ n4_; (try clear hb); (try clear hb2); (try clear hk); (try clear hi); (try clear ho0)))
    (try simp only [Act.put, List.setIfInBounds_toArray, List.set_cons_zero, List.set_cons_succ])
    go_cut [0] (fun v0 wc => ∃ (kq : Nat) (x0_5 : Bool), v0 = .bool x0_5 ∧ Aside0 (scarflaw05_awake.j0 kq x0_5 = some r) ∧ Aside0 (kq ≤ k) ∧ Aside0 (Below w.heap.size w wc))
    case first =>
      have H := HC6.out
      clear HC6
      by_cases c23 : t244.toList = ([65, 127, 26, 11] : List UInt8)
      · rw [if_pos c23] at H
        have c23b0 : (t244.toList == ([65, 127, 26, 11] : List UInt8)) = true := beq_iff_eq.mpr c23
        have c23b1 : (t244.toList != ([65, 127, 26, 11] : List UInt8)) = false := bne_eq_false_iff_eq.mpr c23
        clear c23
        (first | rw [c23b0] | (simp only [i64_w, i32_w]; rw [c23b0]) | skip)
        by_cases c24 : t245 = 0
        · rw [if_pos c24] at H
          have c24b0 : (t245 == 0) = true := beq_iff_eq.mpr c24
          have c24b1 : (t245 != 0) = false := bne_eq_false_iff_eq.mpr c24
          clear c24
          by_cases c25 : t255.toList = ([4, 64, 1, 5, 15, 11, 11] : List UInt8)
          · rw [if_pos c25] at H
            have c25b0 : (t255.toList == ([4, 64, 1, 5, 15, 11, 11] : List UInt8)) = true := beq_iff_eq.mpr c25
            have c25b1 : (t255.toList != ([4, 64, 1, 5, 15, 11, 11] : List UInt8)) = false := bne_eq_false_iff_eq.mpr c25
            clear c25
            by_cases c26 : t256 = 0
            · rw [if_pos c26] at H
              have c26b0 : (t256 == 0) = true := beq_iff_eq.mpr c26
              have c26b1 : (t256 != 0) = false := bne_eq_false_iff_eq.mpr c26
              clear c26
              by_cases c27 : t259 = 3
              · rw [if_pos c27] at H
                have c27b0 : (t259 == 3) = true := beq_iff_eq.mpr c27
                have c27b1 : (t259 != 3) = false := bne_eq_false_iff_eq.mpr c27
                clear c27
                by_cases c28 : (t262.length : Int) = 2
                · rw [if_pos c28] at H
                  have c28b0 : ((t262.length : Int) == 2) = true := beq_iff_eq.mpr c28
                  have c28b1 : ((t262.length : Int) != 2) = false := bne_eq_false_iff_eq.mpr c28
                  clear c28
                  by_cases c29 : t263.toList = ([122] : List UInt8)
                  · rw [if_pos c29] at H
                    have c29b0 : (t263.toList == ([122] : List UInt8)) = true := beq_iff_eq.mpr c29
                    have c29b1 : (t263.toList != ([122] : List UInt8)) = false := bne_eq_false_iff_eq.mpr c29
                    clear c29
                    have H' := Aside0.mk H
                    clear H
                    obtain ⟨Ao30, co30, eo30⟩ := Kd.N_slice HO266.out
                    subst eo30
                    go_wp2
                    go_meet
                    case rel => exact ⟨_, ((t264 == 0)), (by first | rfl | (simp; done) | (simp [*]; done)), H', ⟨by first | omega | exact Nat.le_refl _⟩, ⟨by repeat (first | (with_reducible first | exact HB.out | apply below_alloc | apply pw_below_drewN | apply below_drew1) | exact HB.out)⟩⟩
                  · rw [if_neg c29] at H
                    have c29b0 : (t263.toList == ([122] : List UInt8)) = false := beq_eq_false_iff_ne.mpr c29
                    have c29b1 : (t263.toList != ([122] : List UInt8)) = true := bne_iff_ne.mpr c29
                    have H' := Aside0.mk H
                    clear H
                    obtain ⟨Ao31, co31, eo31⟩ := Kd.N_slice HO266.out
                    subst eo31
                    go_wp2
                    go_meet
                    case rel => exact ⟨_, (false), (by first | rfl | (simp; done) | (simp [*]; done)), H', ⟨by first | omega | exact Nat.le_refl _⟩, ⟨by repeat (first | (with_reducible first | exact HB.out | apply below_alloc | apply pw_below_drewN | apply below_drew1) | exact HB.out)⟩⟩
                · rw [if_neg c28] at H
                  have c28b0 : ((t262.length : Int) == 2) = false := beq_eq_false_iff_ne.mpr c28
                  have c28b1 : ((t262.length : Int) != 2) = true := bne_iff_ne.mpr c28
                  have H' := Aside0.mk H
                  clear H
                  obtain ⟨Ao32, co32, eo32⟩ := Kd.N_slice HO266.out
                  subst eo32
                  go_wp2
                  go_meet
                  case rel => exact ⟨_, (false), (by first | rfl | (simp; done) | (simp [*]; done)), H', ⟨by first | omega | exact Nat.le_refl _⟩, ⟨by repeat (first | (with_reducible first | exact HB.out | apply below_alloc | apply pw_below_drewN | apply below_drew1) | exact HB.out)⟩⟩
              · rw [if_neg c27] at H
                have c27b0 : (t259 == 3) = false := beq_eq_false_iff_ne.mpr c27
                have c27b1 : (t259 != 3) = true := bne_iff_ne.mpr c27
                have H' := Aside0.mk H
                clear H
                go_wp2
                go_meet
                case rel => exact ⟨_, (false), (by first | rfl | (simp; done) | (simp [*]; done)), H', ⟨by first | omega | exact Nat.le_refl _⟩, ⟨by repeat (first | (with_reducible first | exact HB.out | apply below_alloc | apply pw_below_drewN | apply below_drew1) | exact HB.out)⟩⟩
            · rw [if_neg c26] at H
              have c26b0 : (t256 == 0) = false := beq_eq_false_iff_ne.mpr c26
              have c26b1 : (t256 != 0) = true := bne_iff_ne.mpr c26
              have H' := Aside0.mk H
              clear H
              go_wp2
              go_meet
              case rel => exact ⟨_, (false), (by first | rfl | (simp; done) | (simp [*]; done)), H', ⟨by first | omega | exact Nat.le_refl _⟩, ⟨by repeat (first | (with_reducible first | exact HB.out | apply below_alloc | apply pw_below_drewN | apply below_drew1) | exact HB.out)⟩⟩
          · rw [if_neg c25] at H
            have c25b0 : (t255.toList == ([4, 64, 1, 5, 15, 11, 11] : List UInt8)) = false := beq_eq_false_iff_ne.mpr c25
            have c25b1 : (t255.toList != ([4, 64, 1, 5, 15, 11, 11] : List UInt8)) = true := bne_iff_ne.mpr c25
            have H' := Aside0.mk H
            clear H
            go_wp2
            go_meet
            case rel => exact ⟨_, (false), (by first | rfl | (simp; done) | (simp [*]; done)), H', ⟨by first | omega | exact Nat.le_refl _⟩, ⟨by repeat (first | (with_reducible first | exact HB.out | apply below_alloc | apply pw_below_drewN | apply below_drew1) | exact HB.out)⟩⟩
        · rw [if_neg c24] at H
          have c24b0 : (t245 == 0) = false := beq_eq_false_iff_ne.mpr c24
          have c24b1 : (t245 != 0) = true := bne_iff_ne.mpr c24
          have H' := Aside0.mk H
          clear H
          go_wp2
          go_meet
          case rel => exact ⟨_, (false), (by first | rfl | (simp; done) | (simp [*]; done)), H', ⟨by first | omega | exact Nat.le_refl _⟩, ⟨by repeat (first | (with_reducible first | exact HB.out | apply below_alloc | apply pw_below_drewN | apply below_drew1) | exact HB.out)⟩⟩
      · rw [if_neg c23] at H
        have c23b0 : (t244.toList == ([65, 127, 26, 11] : List UInt8)) = false := beq_eq_false_iff_ne.mpr c23
        have c23b1 : (t244.toList != ([65, 127, 26, 11] : List UInt8)) = true := bne_iff_ne.mpr c23
        (first | rw [c23b0] | (simp only [i64_w, i32_w]; rw [c23b0]) | skip)
        have H' := Aside0.mk H
        clear H
        go_wp2
        go_meet
        case rel => exact ⟨_, (false), (by first | rfl | (simp; done) | (simp [*]; done)), H', ⟨by first | omega | exact Nat.le_refl _⟩, ⟨by repeat (first | (with_reducible first | exact HB.out | apply below_alloc | apply pw_below_drewN | apply below_drew1) | exact HB.out)⟩⟩
    case rest =>
      clear HC6
      try clear c1
      try clear c2
      try clear p2
      try clear c4
      try clear c4b0
      try clear c4b1
      try clear c4b2
      try clear c7
      try clear c14
      try clear c15
      try clear c19
      try clear c23
      try clear c23b0
      try clear c23b1
      try clear c24
      try clear c24b0
      try clear c24b1
      try clear c25
      try clear c25b0
      try clear c25b1
      try clear c26
      try clear c26b0
      try clear c26b1
      try clear c27
      try clear c27b0
      try clear c27b1
      try clear c28
      try clear c28b0
      try clear c28b1
      try clear c29
      try clear c29b0
      try clear c29b1
      obtain ⟨kq, x0_5, rfl, HA, HJ5, HB⟩ := hcut
      cases kq with
      | zero => exact absurd HA.out (by simp [scarflaw05_awake.j0])
      | succ kj5 =>
        have H := HA.out
        clear HA
        simp only [scarflaw05_awake.j0] at H
        obtain rfl := Option.some.inj H
        go_wp2
        go_ret
        exact ⟨by first | rfl | (simp [errW_none, errW_some] <;> rfl) | (simp [*, errW_none, errW_some] <;> rfl), by repeat (first | (with_reducible first | exact HB.out | apply below_alloc | apply pw_below_drewN | apply below_drew1) | exact HB.out)⟩
  · rw [if_neg c4] at H
    exact absurd H (by simp)
def aw1 : List S54 := [(⟨65, (-1), 0, 0, ([] : List Int), ([] : List (S54)), ([] : List (S54))⟩ : S54), (⟨26, 0, 0, 0, ([] : List Int), ([] : List (S54)), ([] : List (S54))⟩ : S54)]
def aw2 : List S54 := [(⟨4, (-64), 0, 0, ([] : List Int), (([(⟨1, 0, 0, 0, ([] : List Int), ([] : List (S54)), ([] : List (S54))⟩ : S54)] : List (S54))), (([(⟨15, 0, 0, 0, ([] : List Int), ([] : List (S54)), ([] : List (S54))⟩ : S54)] : List (S54)))⟩ : S54)]
theorem aw_c1 : instr_Count.f 1000000 aw1 = some (2, true) := at_rounds (instr_Count.mono aw1) (k := 60) (by omega) (by decide +kernel)
theorem aw_c2 : instr_Count.f 1000000 aw2 = some (3, true) := at_rounds (instr_Count.mono aw2) (k := 60) (by omega) (by decide +kernel)
theorem aw_p1 : putF 60 aw1 = some (strOfNums [65, 127, 26]) := by decide +kernel
theorem aw_p2 : putF 60 aw2 = some (strOfNums [4, 64, 1, 5, 15, 11]) := by decide +kernel
theorem aw_q1 : instr_Put.f aw1 = some (strOfNums [65, 127, 26, 11], 0) := by
  unfold instr_Put.f
  rw [aw_c1, Option.bind_some, if_pos rfl, aw_p1, Option.bind_some]
  decide +kernel
theorem aw_q2 : instr_Put.f aw2 = some (strOfNums [4, 64, 1, 5, 15, 11, 11], 0) := by
  unfold instr_Put.f
  rw [aw_c2, Option.bind_some, if_pos rfl, aw_p2, Option.bind_some]
  decide +kernel
theorem aw_t1 : ∃ x, instr_Take.f (⟨#[67, 0, 0, 0, 0, 11]⟩ : ByteArray) = some x ∧ x.2.2 = 3 := by
  have h : (instr_Take.f (⟨#[67, 0, 0, 0, 0, 11]⟩ : ByteArray)).map (fun x => x.2.2) = some 3 := by decide +kernel
  obtain ⟨x, h1, h2⟩ := Option.map_eq_some_iff.mp h
  exact ⟨x, h1, h2⟩
theorem aw_t2 : ∃ x, instr_Take.f (strOfNums [65, 127, 26, 11] ++ (⟨#[122]⟩ : ByteArray)) = some x ∧ x.1.length = 2 ∧ x.2.1.toList = ([122] : List UInt8) ∧ x.2.2 = 0 := by
  have h : (instr_Take.f (strOfNums [65, 127, 26, 11] ++ (⟨#[122]⟩ : ByteArray))).map (fun x => (x.1.length, x.2.1.toList, x.2.2)) = some (2, ([122] : List UInt8), 0) := by decide +kernel
  obtain ⟨x, h1, h2⟩ := Option.map_eq_some_iff.mp h
  simp only [Prod.mk.injEq] at h2
  exact ⟨x, h1, h2⟩
theorem awake_ok (k : Nat) : scarflaw05_awake.f (k + 1) = some true := by
  obtain ⟨x1, h1, e1⟩ := aw_t1
  obtain ⟨x2, h2, e2, e3, e4⟩ := aw_t2
  have b1 : (strOfNums [65, 127, 26, 11]).toList = ([65, 127, 26, 11] : List UInt8) := by decide +kernel
  have b2 : (strOfNums [4, 64, 1, 5, 15, 11, 11]).toList = ([4, 64, 1, 5, 15, 11, 11] : List UInt8) := by decide +kernel
  have b3 : (strOfNums [65, 127, 26, 11]).size + 1 ≤ 9223372036854775807 := by decide +kernel
  have q1 := aw_q1
  have q2 := aw_q2
  unfold aw1 at q1
  unfold aw2 at q2
  unfold scarflaw05_awake.f
  rw [q1, Option.bind_some, q2, Option.bind_some, h1, Option.bind_some]
  simp only [b3, if_true, h2, Option.bind_some, b1, b2, e1, e2, e3, e4, scarflaw05_awake.j0]
  rfl
open Go.Proofs.Ytckhlbpjehbnlaa.Str Go.Proofs.Ytckhlbpjehbnlaa.LebS Go.Proofs.Ytckhlbpjehbnlaa.LebF
theorem pu5 {n : Nat} (h : n < 4294967296) : (pu n).length ≤ 5 := pu_len 4 n (by omega)
theorem pu_in {a : Int} (h : inx a = true) : (pu a.toNat).length ≤ 5 := by
  have := inx_iff.mp h
  exact pu5 (by omega)
theorem ps10 {n : Int} (h0 : -9223372036854775808 ≤ n) (h1 : n < 9223372036854775808) : (ps n).length ≤ 10 := ps_len 9 n (by omega) (by omega)
theorem opb_len {op s : Int} (h : ShOk op s) : (opb op).length ≤ 6 := by
  unfold opb
  have := h.range
  split
  · have := pu5 (n := (op - 64512).toNat) (by omega)
    simp only [List.length_cons]; omega
  · simp
theorem body_len {x : S54} {s : Int} {t : Int × Int} (hk : ShOk x.f0 s) (hm : mayS s x.f0 x.f1 x.f2 x.f3 x.f4 x.f5 x.f6 t = true) (h0 : -9223372036854775808 ≤ x.f1) (h1 : x.f1 < 9223372036854775808) : (body s x).length ≤ 9020 := by
  obtain ⟨op, a, b, m, N, L, E⟩ := x
  simp only at hk hm h0 h1 ⊢
  have hps := ps10 h0 h1
  rcases s_cases hk with rfl | rfl | rfl | rfl | rfl | rfl | rfl | rfl | rfl | rfl | rfl <;> simp [mayS] at hm <;> simp only [body, Int.reduceEq, if_false, if_true]
  · simp
  · omega
  · have := pu_in hm.1; omega
  · obtain ⟨⟨⟨ha, hn⟩, hN⟩, rfl, rfl, rfl, rfl⟩ := hm
    have hw : ∀ x ∈ N, (Lit.int .i64 x).wf = true := fun x hx => by
      have := inx_iff.mp (hN x hx)
      exact wf64_mk (by omega) (by omega)
    have h3 := puA_len N hw
    have h4 := pu_in ha
    have h5 := pu5 (n := N.length) (by omega)
    simp only [List.length_append]
    omega
  · have h3 := pu_in hm.1.1
    have h4 := pu_in hm.1.2
    simp only [List.length_append]; omega
  · simp
  · obtain ⟨⟨⟨⟨ha, hm⟩, hb0⟩, hb1⟩, rfl, rfl, rfl⟩ := hm
    have h3 := pu_in ha
    have h4 := pu_in hm
    have h5 := pu5 (n := (b + 64).toNat) (by omega)
    have h6 := pu5 (n := b.toNat) (by omega)
    split <;> simp only [List.length_append] <;> omega
  · have := pu_in hm.1; omega
  · have h3 := pu_in hm.1.1
    have h4 := pu_in hm.1.2
    simp only [List.length_append]; omega
  · omega
  · simp
theorem encD_size : ∀ (k : Nat) (l : List S54), okD k l → (encD k l).length ≤ 9100 * cntD k l := by
  intro k
  induction k with
  | zero => intro l h; simp [encD, cntD]
  | succ k ih =>
    intro l
    induction l with
    | nil => intro _; simp [encD, encL, cntD, cntL]
    | cons x l ihl =>
      intro h
      have h1 := ihl (fun y hy => h y (by simp [hy]))
      obtain ⟨⟨s, t, hs, ht, hm, h0, h2⟩, hL, hE, _⟩ := h x (by simp)
      have e : encD (k + 1) (x :: l) = encX (encD k) x ++ encD (k + 1) l := rfl
      have hk := shp_ok hs
      rw [e, encX_eq hs, cnt_le]
      have a1 := opb_len hk
      have a2 := body_len hk hm h0 h2
      have a3 := ih _ hL
      have a4 := ih _ hE
      have a5 : (if s = 2 then inner (encD k) x else []).length ≤ (encD k x.f5).length + (encD k x.f6).length + 2 := by
        split
        · unfold inner
          simp only [List.length_append, List.length_singleton]
          split
          · simp only [List.length_nil]; omega
          · simp only [List.length_cons]; omega
        · simp
      simp only [List.length_append]
      omega
/-- Instructions that may be laid. -/
def Fits (l : List S54) : Prop := okD 33 l ∧ cntD 33 l ≤ 8192
theorem Fits.len {l : List S54} (h : Fits l) : (encD 33 l).length ≤ 80000000 := by
  have := encD_size 33 l h.1
  have := h.2
  omega
theorem Fits.rng {l : List S54} (h : Fits l) : Rng (encD 33 l) := encD_rng 33 l h.1
theorem Put_yes {l : List S54} (hw : ∀ x ∈ l, WfI x) (hl : l.length ≤ 17592186044416) (h : Fits l) : instr_Put.f l = some (strOfNums (encD 33 l ++ [11]), 0) := by
  unfold instr_Put.f
  have h2 := h.2
  rw [Count_eq hw hl 1000000 (Nat.le_refl _), resC_yes h.1 (by omega)]
  simp only [Option.bind_some, if_true]
  rw [putF_eq 33 60 l (by omega) h.1 h2]
  simp only [Option.bind_some]
  have := h.len
  rw [if_pos (by rw [strOfNums_size]; omega), ← strOfNums_append]
theorem Put_no {l : List S54} (hw : ∀ x ∈ l, WfI x) (hl : l.length ≤ 17592186044416) (h : ¬ Fits l) : instr_Put.f l = some (⟨#[]⟩, 1) := by
  unfold instr_Put.f
  rw [Count_eq hw hl 1000000 (Nat.le_refl _), resC_no (fun ⟨h1, h2⟩ => h ⟨h1, by omega⟩)]
  simp
theorem Take_fault {l : List Int} {L : List S54} {ec : Int} {z : ByteArray} {n e : Int} (h : listL (l.length + 10) (strOfNums l, 0, 0) 0 [] = some (L, ec, z, n, e)) (he : e ≠ 0) (hc : ec = 11) : instr_Take.f (strOfNums l) = some ([], ⟨#[]⟩, e) := by
  unfold instr_Take.f takeF
  rw [strOfNums_size, h]
  simp only [Option.bind_some]
  rw [if_neg (by omega)]
  simp only [Option.bind_some]
  rw [if_neg he]
theorem Take_done {l r : List Int} {L : List S54} {n : Int} (h : listL (l.length + 10) (strOfNums l, 0, 0) 0 [] = some (L, 11, strOfNums r, n, 0)) : instr_Take.f (strOfNums l) = some (L, strOfNums r, 0) := by
  unfold instr_Take.f takeF
  rw [strOfNums_size, h]
  simp only [Option.bind_some]
  rw [if_neg (by omega)]
  simp only [Option.bind_some]
  rw [if_pos trivial]
theorem Take_fwd {l : List S54} (h : Fits l) (more : List Int) (hr : Rng more) (hm : more.length ≤ 100000000000) : instr_Take.f (strOfNums (encD 33 l ++ 11 :: more)) = some (l, strOfNums more, 0) := by
  have hlen := h.len
  have hr' : Rng (11 :: more) := Rng.cons (by omega) hr
  have hz : Sm (encD 33 l ++ 11 :: more) := by
    show List.length _ ≤ _
    simp only [List.length_append, List.length_cons]; omega
  have h2 := h.2
  have h3 := cnt_len 33 l h.1
  have h4 := encD_len 33 l h.1
  obtain ⟨f', ef, hq⟩ := list_fwd 33 l h.1 ((encD 33 l ++ 11 :: more).length + 10) 0 0 [] (11 :: more) hr' hz (by simp only [List.length_append, List.length_cons]; omega) (by omega) (by omega) (by omega) (by omega) (by simp; omega)
  simp only [List.length_append, List.length_cons] at ef
  obtain ⟨f', rfl⟩ : ∃ q, f' = q + 1 := ⟨f' - 1, by omega⟩
  rw [listL_end hr' (.inl rfl)] at hq
  exact Take_done (n := 0 + cntD 33 l) (by rw [hq, List.nil_append])
theorem Take_cut {l : List S54} (h : Fits l) (p : List Int) (hp : Cutp p (encD 33 l ++ [11])) : instr_Take.f (strOfNums p) = some ([], ⟨#[]⟩, 2) := by
  obtain ⟨q, hq⟩ := pre_cut hp
  have hlen := h.len
  have h2 := h.2
  have h3 := cnt_len 33 l h.1
  have hpl : p.length ≤ 80000000 := by
    have := congrArg List.length hq
    rw [List.length_append] at this
    omega
  obtain ⟨z, n', hh⟩ := list_cut 33 l h.1 p q hq (p.length + 10) 0 0 [] (by show p.length ≤ _; omega) (by omega) (by omega) (by omega) (by omega) (by omega) (by simp; omega)
  exact Take_fault hh (by decide) rfl
theorem Take_refused {l : List S54} (h : Fits l) (hc : cntD 33 l < 8192) {op e : Int} (h0 : 0 ≤ op) (h1 : op ≤ 255) (h5 : op ≠ 5) (h11 : op ≠ 11) (h252 : op ≠ 252) (hs : instr_Shape.f 40 op = some (0, e)) (he : e ≠ 0) :
    instr_Take.f (strOfNums (encD 33 l ++ [op, 11])) = some ([], ⟨#[]⟩, e) := by
  have hlen := h.len
  have hr' : Rng [op, 11] := Rng.cons (by omega) (Rng.cons (by omega) Rng.nil)
  have hz : Sm (encD 33 l ++ [op, 11]) := by
    show List.length _ ≤ _
    simp only [List.length_append, List.length_cons, List.length_nil]; omega
  have h2 := h.2
  have h3 := cnt_len 33 l h.1
  have h4 := encD_len 33 l h.1
  obtain ⟨f', ef, hq⟩ := list_fwd 33 l h.1 ((encD 33 l ++ [op, 11]).length + 10) 0 0 [] [op, 11] hr' hz (by simp only [List.length_append, List.length_cons]; omega) (by omega) (by omega) (by omega) (by omega) (by simp; omega)
  simp only [List.length_append, List.length_cons, List.length_nil] at ef
  obtain ⟨f', rfl⟩ : ∃ q, f' = q + 2 := ⟨f' - 2, by omega⟩
  have g1 := rByte_cons (n := 0 + (cntD 33 l : Int)) hr'
  have g2 : opF (op, strOfNums [11], 0 + (cntD 33 l : Int), 0) = some (op, strOfNums [11], 0 + (cntD 33 l : Int), 0) := by
    unfold opF
    rw [if_neg h252]
  have g3 : numF (strOfNums [11], 0 + (cntD 33 l : Int), 0) op = some (0, 0, 0, [], strOfNums [11], 0 + (cntD 33 l : Int), e) := by
    unfold numF
    rw [hs]
    simp only [Option.bind_some, rFail_0, Int.reduceEq, if_false]
  rw [listL_fault g1 (by omega) g2 g3 he (by simp; omega)] at hq
  exact Take_fault hq he rfl
theorem awk (k : Nat) (hk : 1 ≤ k) : scarflaw05_awake.f k = some true := by
  obtain ⟨k, rfl⟩ : ∃ m, k = m + 1 := ⟨k - 1, by omega⟩
  exact awake_ok k
end Go.Proofs.Ytckhlbpjehbnlaa.PB
