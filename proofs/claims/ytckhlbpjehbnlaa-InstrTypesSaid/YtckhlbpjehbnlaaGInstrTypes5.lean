/- Several texts of this session, laid into one for a claim: PBx42, PBx63, PBx64, Str, InstrAw, InstrT, PureInstrTypes. -/
import Derived.Test.YtckhlbpjehbnlaaGInstrTypes0
import Derived.Test.YtckhlbpjehbnlaaGInstrTypes3
import Derived.Test.YtckhlbpjehbnlaaGInstrTypes4
import Derived.Test.YtckhlbpjehbnlaaGInstrTypes1
import Derived.Test.YtckhlbpjehbnlaaWMore
namespace Go.Proofs.Ytckhlbpjehbnlaa.PB
open Go.RowKit Go.Proofs.YtckhlbpjehbnlaaW.PrintWords Go.Proofs.YtckhlbpjehbnlaaW.PrintLast Go.Proofs.YtckhlbpjehbnlaaW.PrintMore
attribute [local go_sem] max2_int min2_int max_two min_two max_three min_three max_four min_four   -- for this text's walks alone
set_option linter.unusedVariables false
set_option linter.unusedSimpArgs false

/-! ### scarflaw05_awake: function 14 -/
def scarflaw05_awake.j0 : Nat → Bool → Option (Bool)
  | 0, _ => none
  | k + 1, x0 => some x0
def scarflaw05_awake.f (k : Nat)  : Option (Bool) := (instr_Put.f (([(⟨65, (-1), 0, 0, ([] : List Int), ([] : List (S54)), ([] : List (S54))⟩ : S54), (⟨26, 0, 0, 0, ([] : List Int), ([] : List (S54)), ([] : List (S54))⟩ : S54)] : List (S54)))).bind fun bt244 => ((instr_Put.f (([(⟨4, (-64), 0, 0, ([] : List Int), (([(⟨1, 0, 0, 0, ([] : List Int), ([] : List (S54)), ([] : List (S54))⟩ : S54)] : List (S54))), (([(⟨15, 0, 0, 0, ([] : List Int), ([] : List (S54)), ([] : List (S54))⟩ : S54)] : List (S54)))⟩ : S54)] : List (S54)))).bind fun bt255 => ((instr_Take.f (⟨#[67, 0, 0, 0, 0, 11]⟩ : ByteArray)).bind fun bt257 => (if bt244.1.size + 1 ≤ 9223372036854775807 then ((instr_Take.f (bt244.1 ++ (⟨#[122]⟩ : ByteArray))).bind fun bt262 => (if bt244.1.toList = ([65, 127, 26, 11] : List UInt8) then (if bt244.2 = 0 then (if bt255.1.toList = ([4, 64, 1, 5, 15, 11, 11] : List UInt8) then (if bt255.2 = 0 then (if bt257.2.2 = 3 then (if (bt262.1.length : Int) = 2 then (if bt262.2.1.toList = ([122] : List UInt8) then (scarflaw05_awake.j0 k (bt262.2.2 == 0)) else (scarflaw05_awake.j0 k false)) else (scarflaw05_awake.j0 k false)) else (scarflaw05_awake.j0 k false)) else (scarflaw05_awake.j0 k false)) else (scarflaw05_awake.j0 k false)) else (scarflaw05_awake.j0 k false)) else (scarflaw05_awake.j0 k false))) else (none))))
theorem scarflaw05_awake.mono_l : ∀ k, (∀ y0, LeO (scarflaw05_awake.j0 k y0) (scarflaw05_awake.j0 (k + 1) y0))
  | 0 => fun _ r h => by simp [scarflaw05_awake.j0] at h
  | k + 1 => by
    have ih0 := scarflaw05_awake.mono_l k
    · intro y0
      unfold scarflaw05_awake.j0
      repeat' first
      | (with_reducible exact ih0 _)
      | (with_reducible exact LeO.refl _)
      | (with_reducible exact LeO.none _)
      | (with_reducible refine LeO.ite ?_ ?_)
      | (with_reducible refine LeO.bind ?_ (fun _ => ?_))
      | exact ih0 _
      | exact LeO.none _
      | refine LeO.ite ?_ ?_
      | refine LeO.bind ?_ (fun _ => ?_)
theorem scarflaw05_awake.mono : ∀ k, LeO (scarflaw05_awake.f k ) (scarflaw05_awake.f (k + 1) ) := by
  intro  k
  have ih0 := scarflaw05_awake.mono_l k
  unfold scarflaw05_awake.f
  repeat' first
      | (with_reducible exact ih0 _)
      | (with_reducible exact LeO.refl _)
      | (with_reducible exact LeO.none _)
      | (with_reducible refine LeO.ite ?_ ?_)
      | (with_reducible refine LeO.bind ?_ (fun _ => ?_))
      | exact ih0 _
      | exact LeO.none _
      | refine LeO.ite ?_ ?_
      | refine LeO.bind ?_ (fun _ => ?_)
set_option maxHeartbeats 8000000 in
set_option maxRecDepth 100000 in
theorem scarflaw05_awake.calls (k : Nat)  (r : Bool) (w : World) (h : scarflaw05_awake.f k  = some r) :
    Calls Try.prog 14 #[] w fun e w' => e = .returned (.bool r) ∧ Below w.heap.size w w' := by
  have hu54 := Try.underlying54
  have HB := Aside0.mk (Below.refl w.heap.size w)
  have H : ((instr_Put.f (([(⟨65, (-1), 0, 0, ([] : List Int), ([] : List (S54)), ([] : List (S54))⟩ : S54), (⟨26, 0, 0, 0, ([] : List Int), ([] : List (S54)), ([] : List (S54))⟩ : S54)] : List (S54)))).bind fun bt244 => ((instr_Put.f (([(⟨4, (-64), 0, 0, ([] : List Int), (([(⟨1, 0, 0, 0, ([] : List Int), ([] : List (S54)), ([] : List (S54))⟩ : S54)] : List (S54))), (([(⟨15, 0, 0, 0, ([] : List Int), ([] : List (S54)), ([] : List (S54))⟩ : S54)] : List (S54)))⟩ : S54)] : List (S54)))).bind fun bt255 => ((instr_Take.f (⟨#[67, 0, 0, 0, 0, 11]⟩ : ByteArray)).bind fun bt257 => (if bt244.1.size + 1 ≤ 9223372036854775807 then ((instr_Take.f (bt244.1 ++ (⟨#[122]⟩ : ByteArray))).bind fun bt262 => (if bt244.1.toList = ([65, 127, 26, 11] : List UInt8) then (if bt244.2 = 0 then (if bt255.1.toList = ([4, 64, 1, 5, 15, 11, 11] : List UInt8) then (if bt255.2 = 0 then (if bt257.2.2 = 3 then (if (bt262.1.length : Int) = 2 then (if bt262.2.1.toList = ([122] : List UInt8) then (scarflaw05_awake.j0 k (bt262.2.2 == 0)) else (scarflaw05_awake.j0 k false)) else (scarflaw05_awake.j0 k false)) else (scarflaw05_awake.j0 k false)) else (scarflaw05_awake.j0 k false)) else (scarflaw05_awake.j0 k false)) else (scarflaw05_awake.j0 k false)) else (scarflaw05_awake.j0 k false))) else (none))))) = some r := h
  clear h
  obtain ⟨y241, hy241⟩ : ∃ y_ : List (S54), y_ = (([(⟨65, (-1), 0, 0, ([] : List Int), ([] : List (S54)), ([] : List (S54))⟩ : S54), (⟨26, 0, 0, 0, ([] : List Int), ([] : List (S54)), ([] : List (S54))⟩ : S54)] : List (S54))) := ⟨_, rfl⟩
  replace H : ((instr_Put.f y241).bind fun bt244 => ((instr_Put.f (([(⟨4, (-64), 0, 0, ([] : List Int), (([(⟨1, 0, 0, 0, ([] : List Int), ([] : List (S54)), ([] : List (S54))⟩ : S54)] : List (S54))), (([(⟨15, 0, 0, 0, ([] : List Int), ([] : List (S54)), ([] : List (S54))⟩ : S54)] : List (S54)))⟩ : S54)] : List (S54)))).bind fun bt255 => ((instr_Take.f (⟨#[67, 0, 0, 0, 0, 11]⟩ : ByteArray)).bind fun bt257 => (if bt244.1.size + 1 ≤ 9223372036854775807 then ((instr_Take.f (bt244.1 ++ (⟨#[122]⟩ : ByteArray))).bind fun bt262 => (if bt244.1.toList = ([65, 127, 26, 11] : List UInt8) then (if bt244.2 = 0 then (if bt255.1.toList = ([4, 64, 1, 5, 15, 11, 11] : List UInt8) then (if bt255.2 = 0 then (if bt257.2.2 = 3 then (if (bt262.1.length : Int) = 2 then (if bt262.2.1.toList = ([122] : List UInt8) then (scarflaw05_awake.j0 k (bt262.2.2 == 0)) else (scarflaw05_awake.j0 k false)) else (scarflaw05_awake.j0 k false)) else (scarflaw05_awake.j0 k false)) else (scarflaw05_awake.j0 k false)) else (scarflaw05_awake.j0 k false)) else (scarflaw05_awake.j0 k false)) else (scarflaw05_awake.j0 k false))) else (none))))) = some r := by first | (rw [hy241]; with_reducible exact H) | (have H2_ := (Option.bind_some _ _).symm.trans H; rw [hy241]; with_reducible exact H2_) | (have H2_ := (Option.bind_some _ _).symm.trans H; with_reducible exact H2_) | with_reducible exact H | (rw [hy241]; exact H) | exact H
  have Ny241 := Aside0.mk hy241
  clear hy241
  replace H := Option.bind_eq_some_iff.mp H
  obtain ⟨⟨t244, t245⟩, A10, H⟩ := H
  replace H : ((instr_Put.f (([(⟨4, (-64), 0, 0, ([] : List Int), (([(⟨1, 0, 0, 0, ([] : List Int), ([] : List (S54)), ([] : List (S54))⟩ : S54)] : List (S54))), (([(⟨15, 0, 0, 0, ([] : List Int), ([] : List (S54)), ([] : List (S54))⟩ : S54)] : List (S54)))⟩ : S54)] : List (S54)))).bind fun bt255 => ((instr_Take.f (⟨#[67, 0, 0, 0, 0, 11]⟩ : ByteArray)).bind fun bt257 => (if t244.size + 1 ≤ 9223372036854775807 then ((instr_Take.f (t244 ++ (⟨#[122]⟩ : ByteArray))).bind fun bt262 => (if t244.toList = ([65, 127, 26, 11] : List UInt8) then (if t245 = 0 then (if bt255.1.toList = ([4, 64, 1, 5, 15, 11, 11] : List UInt8) then (if bt255.2 = 0 then (if bt257.2.2 = 3 then (if (bt262.1.length : Int) = 2 then (if bt262.2.1.toList = ([122] : List UInt8) then (scarflaw05_awake.j0 k (bt262.2.2 == 0)) else (scarflaw05_awake.j0 k false)) else (scarflaw05_awake.j0 k false)) else (scarflaw05_awake.j0 k false)) else (scarflaw05_awake.j0 k false)) else (scarflaw05_awake.j0 k false)) else (scarflaw05_awake.j0 k false)) else (scarflaw05_awake.j0 k false))) else (none)))) = some r := H
  have A1 := Aside0.mk A10
  clear A10
  obtain ⟨y246, hy246⟩ : ∃ y_ : List (S54), y_ = (([(⟨1, 0, 0, 0, ([] : List Int), ([] : List (S54)), ([] : List (S54))⟩ : S54)] : List (S54))) := ⟨_, rfl⟩
  replace H : ((instr_Put.f (([(⟨4, (-64), 0, 0, ([] : List Int), y246, (([(⟨15, 0, 0, 0, ([] : List Int), ([] : List (S54)), ([] : List (S54))⟩ : S54)] : List (S54)))⟩ : S54)] : List (S54)))).bind fun bt255 => ((instr_Take.f (⟨#[67, 0, 0, 0, 0, 11]⟩ : ByteArray)).bind fun bt257 => (if t244.size + 1 ≤ 9223372036854775807 then ((instr_Take.f (t244 ++ (⟨#[122]⟩ : ByteArray))).bind fun bt262 => (if t244.toList = ([65, 127, 26, 11] : List UInt8) then (if t245 = 0 then (if bt255.1.toList = ([4, 64, 1, 5, 15, 11, 11] : List UInt8) then (if bt255.2 = 0 then (if bt257.2.2 = 3 then (if (bt262.1.length : Int) = 2 then (if bt262.2.1.toList = ([122] : List UInt8) then (scarflaw05_awake.j0 k (bt262.2.2 == 0)) else (scarflaw05_awake.j0 k false)) else (scarflaw05_awake.j0 k false)) else (scarflaw05_awake.j0 k false)) else (scarflaw05_awake.j0 k false)) else (scarflaw05_awake.j0 k false)) else (scarflaw05_awake.j0 k false)) else (scarflaw05_awake.j0 k false))) else (none)))) = some r := by first | (rw [hy246]; with_reducible exact H) | (have H2_ := (Option.bind_some _ _).symm.trans H; rw [hy246]; with_reducible exact H2_) | (have H2_ := (Option.bind_some _ _).symm.trans H; with_reducible exact H2_) | with_reducible exact H | (rw [hy246]; exact H) | exact H
  have Ny246 := Aside0.mk hy246
  clear hy246
  obtain ⟨y249, hy249⟩ : ∃ y_ : List (S54), y_ = (([(⟨15, 0, 0, 0, ([] : List Int), ([] : List (S54)), ([] : List (S54))⟩ : S54)] : List (S54))) := ⟨_, rfl⟩
  replace H : ((instr_Put.f (([(⟨4, (-64), 0, 0, ([] : List Int), y246, y249⟩ : S54)] : List (S54)))).bind fun bt255 => ((instr_Take.f (⟨#[67, 0, 0, 0, 0, 11]⟩ : ByteArray)).bind fun bt257 => (if t244.size + 1 ≤ 9223372036854775807 then ((instr_Take.f (t244 ++ (⟨#[122]⟩ : ByteArray))).bind fun bt262 => (if t244.toList = ([65, 127, 26, 11] : List UInt8) then (if t245 = 0 then (if bt255.1.toList = ([4, 64, 1, 5, 15, 11, 11] : List UInt8) then (if bt255.2 = 0 then (if bt257.2.2 = 3 then (if (bt262.1.length : Int) = 2 then (if bt262.2.1.toList = ([122] : List UInt8) then (scarflaw05_awake.j0 k (bt262.2.2 == 0)) else (scarflaw05_awake.j0 k false)) else (scarflaw05_awake.j0 k false)) else (scarflaw05_awake.j0 k false)) else (scarflaw05_awake.j0 k false)) else (scarflaw05_awake.j0 k false)) else (scarflaw05_awake.j0 k false)) else (scarflaw05_awake.j0 k false))) else (none)))) = some r := by first | (rw [hy249]; with_reducible exact H) | (have H2_ := (Option.bind_some _ _).symm.trans H; rw [hy249]; with_reducible exact H2_) | (have H2_ := (Option.bind_some _ _).symm.trans H; with_reducible exact H2_) | with_reducible exact H | (rw [hy249]; exact H) | exact H
  have Ny249 := Aside0.mk hy249
  clear hy249
  obtain ⟨y252, hy252⟩ : ∃ y_ : List (S54), y_ = (([(⟨4, (-64), 0, 0, ([] : List Int), y246, y249⟩ : S54)] : List (S54))) := ⟨_, rfl⟩
  replace H : ((instr_Put.f y252).bind fun bt255 => ((instr_Take.f (⟨#[67, 0, 0, 0, 0, 11]⟩ : ByteArray)).bind fun bt257 => (if t244.size + 1 ≤ 9223372036854775807 then ((instr_Take.f (t244 ++ (⟨#[122]⟩ : ByteArray))).bind fun bt262 => (if t244.toList = ([65, 127, 26, 11] : List UInt8) then (if t245 = 0 then (if bt255.1.toList = ([4, 64, 1, 5, 15, 11, 11] : List UInt8) then (if bt255.2 = 0 then (if bt257.2.2 = 3 then (if (bt262.1.length : Int) = 2 then (if bt262.2.1.toList = ([122] : List UInt8) then (scarflaw05_awake.j0 k (bt262.2.2 == 0)) else (scarflaw05_awake.j0 k false)) else (scarflaw05_awake.j0 k false)) else (scarflaw05_awake.j0 k false)) else (scarflaw05_awake.j0 k false)) else (scarflaw05_awake.j0 k false)) else (scarflaw05_awake.j0 k false)) else (scarflaw05_awake.j0 k false))) else (none)))) = some r := by first | (rw [hy252]; with_reducible exact H) | (have H2_ := (Option.bind_some _ _).symm.trans H; rw [hy252]; with_reducible exact H2_) | (have H2_ := (Option.bind_some _ _).symm.trans H; with_reducible exact H2_) | with_reducible exact H | (rw [hy252]; exact H) | exact H
  have Ny252 := Aside0.mk hy252
  clear hy252
  replace H := Option.bind_eq_some_iff.mp H
  obtain ⟨⟨t255, t256⟩, A20, H⟩ := H
  replace H : ((instr_Take.f (⟨#[67, 0, 0, 0, 0, 11]⟩ : ByteArray)).bind fun bt257 => (if t244.size + 1 ≤ 9223372036854775807 then ((instr_Take.f (t244 ++ (⟨#[122]⟩ : ByteArray))).bind fun bt262 => (if t244.toList = ([65, 127, 26, 11] : List UInt8) then (if t245 = 0 then (if t255.toList = ([4, 64, 1, 5, 15, 11, 11] : List UInt8) then (if t256 = 0 then (if bt257.2.2 = 3 then (if (bt262.1.length : Int) = 2 then (if bt262.2.1.toList = ([122] : List UInt8) then (scarflaw05_awake.j0 k (bt262.2.2 == 0)) else (scarflaw05_awake.j0 k false)) else (scarflaw05_awake.j0 k false)) else (scarflaw05_awake.j0 k false)) else (scarflaw05_awake.j0 k false)) else (scarflaw05_awake.j0 k false)) else (scarflaw05_awake.j0 k false)) else (scarflaw05_awake.j0 k false))) else (none))) = some r := H
  have A2 := Aside0.mk A20
  clear A20
  replace H := Option.bind_eq_some_iff.mp H
  obtain ⟨⟨t257, t258, t259⟩, A30, H⟩ := H
  replace H : (if t244.size + 1 ≤ 9223372036854775807 then ((instr_Take.f (t244 ++ (⟨#[122]⟩ : ByteArray))).bind fun bt262 => (if t244.toList = ([65, 127, 26, 11] : List UInt8) then (if t245 = 0 then (if t255.toList = ([4, 64, 1, 5, 15, 11, 11] : List UInt8) then (if t256 = 0 then (if t259 = 3 then (if (bt262.1.length : Int) = 2 then (if bt262.2.1.toList = ([122] : List UInt8) then (scarflaw05_awake.j0 k (bt262.2.2 == 0)) else (scarflaw05_awake.j0 k false)) else (scarflaw05_awake.j0 k false)) else (scarflaw05_awake.j0 k false)) else (scarflaw05_awake.j0 k false)) else (scarflaw05_awake.j0 k false)) else (scarflaw05_awake.j0 k false)) else (scarflaw05_awake.j0 k false))) else (none)) = some r := H
  have A3 := Aside0.mk A30
  clear A30
  by_cases c4 : t244.size + 1 ≤ 9223372036854775807
  · rw [if_pos c4] at H
    have c4b0 := eq_true c4
    have c4b1 : decide (t244.size + 1 ≤ 9223372036854775807) = true := decide_eq_true c4
    try have c4b2 : (9223372036854775807 < t244.size + 1) = False := eq_false (Nat.not_lt.2 c4)
    replace H := Option.bind_eq_some_iff.mp H
    obtain ⟨⟨t262, t263, t264⟩, A50, H⟩ := H
    replace H : (if t244.toList = ([65, 127, 26, 11] : List UInt8) then (if t245 = 0 then (if t255.toList = ([4, 64, 1, 5, 15, 11, 11] : List UInt8) then (if t256 = 0 then (if t259 = 3 then (if (t262.length : Int) = 2 then (if t263.toList = ([122] : List UInt8) then (scarflaw05_awake.j0 k (t264 == 0)) else (scarflaw05_awake.j0 k false)) else (scarflaw05_awake.j0 k false)) else (scarflaw05_awake.j0 k false)) else (scarflaw05_awake.j0 k false)) else (scarflaw05_awake.j0 k false)) else (scarflaw05_awake.j0 k false)) else (scarflaw05_awake.j0 k false)) = some r := H
    have A5 := Aside0.mk A50
    clear A50
    have HC6 := Aside0.mk H
    clear H
    go_enter Try.func14, Try.ntmps14
    go_upto_region 5 with (first | ((with_reducible refine gate_dst (N := 14) rfl ?_); (try (refine gate_guard (by rfl) ?_; dsimp only)); refine Kd.N_lit k54 _ 54 ?hg (N' := 14) ?hd (xs := ([(⟨65, (-1), 0, 0, ([] : List Int), ([] : List (S54)), ([] : List (S54))⟩ : S54), (⟨26, 0, 0, 0, ([] : List Int), ([] : List (S54)), ([] : List (S54))⟩ : S54)] : List (S54))) (inner := [.int .i64 65, .int .i64 (-1), .int .i64 0, .int .i64 0, .slice none 0 0, .slice none 0 0, .slice none 0 0, .int .i64 26, .int .i64 0, .int .i64 0, .int .i64 0, .slice none 0 0, .slice none 0 0, .slice none 0 0]) (ok := (fun _ => True)) (okp := (fun _ => True)) ?hr ?hp (fun _ hk => hk) ((show ∀ k_, w.heap.size ≤ k_ → (fun _ => True) k_ from fun k_ hk => trivial) _ (Nat.le_refl _)) (Below.refl _ _) (Nat.le_refl _) (by simp) ?_; (case hd => rfl); (case hg => rfl); (case hr => first | (go_simp; done) | (go_simp; rfl)); (case hp => exact (Reps.c7 (show Kd.FK k54 _ _ (⟨65, (-1), 0, 0, ([] : List Int), ([] : List (S54)), ([] : List (S54))⟩ : S54) [.int .i64 65, .int .i64 (-1), .int .i64 0, .int .i64 0, .slice none 0 0, .slice none 0 0, .slice none 0 0] from (k54_mkF _ _ (⟨65, (-1), 0, 0, ([] : List Int), ([] : List (S54)), ([] : List (S54))⟩ : S54) (Nat.le_refl _) (Kd.F_nil _ _ _) (Nat.le_refl _) (Kd.F_nil _ _ _) (Nat.le_refl _) (Kd.F_nil _ _ _))) (Reps.c7 (show Kd.FK k54 _ _ (⟨26, 0, 0, 0, ([] : List Int), ([] : List (S54)), ([] : List (S54))⟩ : S54) [.int .i64 26, .int .i64 0, .int .i64 0, .int .i64 0, .slice none 0 0, .slice none 0 0, .slice none 0 0] from (k54_mkF _ _ (⟨26, 0, 0, 0, ([] : List Int), ([] : List (S54)), ([] : List (S54))⟩ : S54) (Nat.le_refl _) (Kd.F_nil _ _ _) (Nat.le_refl _) (Kd.F_nil _ _ _) (Nat.le_refl _) (Kd.F_nil _ _ _))) (Reps.none _ _)))); intro v242 w7 ho8 hb hg_ hnew_; clear hg_ hnew_; (first | rw [← Ny241.out] at ho8 | (simp only [Int.reduceToNat] at ho8; rw [← Ny241.out] at ho8)); have n0_ := Aside0.mk (Kd.N_lower ho8 (below_size (by repeat (first | (with_reducible first | exact HB.out | apply below_alloc | apply pw_below_drewN | apply below_drew1) | exact HB.out)))); have n1_ := Aside0.mk (below_step (by repeat (first | (with_reducible first | exact HB.out | apply below_alloc | apply pw_below_drewN | apply below_drew1) | exact HB.out)) hb); clear HB; have HO243 := n0_; have HB := n1_; clear n0_ n1_; clear hb ho8; obtain ⟨Ao9, co9, eo9⟩ := Kd.N_slice HO243.out; subst eo9) | ((with_reducible refine gate_callee (f := 15) rfl ?_); refine goesL_ (some 15) rfl rfl Try.func15 (by kernel_rfl) rfl #[.slice Ao9 y241.length co9] rfl (by (try simp only [List.map_toArray, List.map_cons, List.map_nil]); first | done | rfl | (simp only [List.length_drop, List.length_take]; rfl)) ?_; (with_reducible refine (instr_Put.calls _ _ y241 t244 t245 _ ?side1 ?side2 A1.out).mono ?_); (case side1 => repeat (first | exact (Kd.N_reads' HO243.out).2.2 | (with_reducible refine Kd.C_alloc ?_ _) | (with_reducible refine Kd.C_drewN ?_ _) | (with_reducible refine Kd.C_drew ?_))); (case side2 => exact (Kd.N_reads' HO243.out).2.1); rintro e w10 ⟨rfl, hb⟩; refine ⟨_, rfl, ?_⟩; have n0_ := Aside0.mk (Kd.N_below (by (with_reducible repeat (first | apply Kd.N_alloc | apply Kd.N_drewN | apply Kd.N_drew)); exact HO243.out) hb); have n1_ := Aside0.mk (below_step (by repeat (first | (with_reducible first | exact HB.out | apply below_alloc | apply pw_below_drewN | apply below_drew1) | exact HB.out)) hb); clear HO243; clear HB; have HO243 := n0_; have HB := n1_; clear n0_ n1_; (try clear hb); (try clear hb2); (try clear hk); (try clear hi)) | ((with_reducible refine gate_dst (N := 20) rfl ?_); (try (refine gate_guard (by rfl) ?_; dsimp only)); refine Kd.N_lit k54 _ 54 ?hg (N' := 20) ?hd (xs := ([(⟨1, 0, 0, 0, ([] : List Int), ([] : List (S54)), ([] : List (S54))⟩ : S54)] : List (S54))) (inner := [.int .i64 1, .int .i64 0, .int .i64 0, .int .i64 0, .slice none 0 0, .slice none 0 0, .slice none 0 0]) (ok := (fun k_ => some k_ ≠ (.slice Ao9 y241.length co9 : Value).ownBlock)) (okp := (fun k_ => some k_ ≠ (.slice Ao9 y241.length co9 : Value).ownBlock)) ?hr ?hp (fun _ hk => hk) ((show ∀ k_, w10.heap.size ≤ k_ → (fun k_ => some k_ ≠ (.slice Ao9 y241.length co9 : Value).ownBlock) k_ from fun k_ hk => Kd.fresh' (Kd.N_lt (by (with_reducible repeat (first | apply Kd.N_alloc | apply Kd.N_drewN | apply Kd.N_drew)); exact HO243.out)) k_ hk) _ (Nat.le_refl _)) (Below.refl _ _) (Nat.le_refl _) (by simp) ?_; (case hd => rfl); (case hg => rfl); (case hr => first | (go_simp; done) | (go_simp; rfl)); (case hp => exact (Reps.c7 (show Kd.FK k54 _ _ (⟨1, 0, 0, 0, ([] : List Int), ([] : List (S54)), ([] : List (S54))⟩ : S54) [.int .i64 1, .int .i64 0, .int .i64 0, .int .i64 0, .slice none 0 0, .slice none 0 0, .slice none 0 0] from (k54_mkF _ _ (⟨1, 0, 0, 0, ([] : List Int), ([] : List (S54)), ([] : List (S54))⟩ : S54) (Nat.le_refl _) (Kd.F_nil _ _ _) (Nat.le_refl _) (Kd.F_nil _ _ _) (Nat.le_refl _) (Kd.F_nil _ _ _))) (Reps.none _ _))); intro v247 w11 ho12 hb hg_ hnew_; clear hg_ hnew_; (first | rw [← Ny246.out] at ho12 | (simp only [Int.reduceToNat] at ho12; rw [← Ny246.out] at ho12)); have n0_ := Aside0.mk (Kd.N_elder' (by (with_reducible repeat (first | apply Kd.N_alloc | apply Kd.N_drewN | apply Kd.N_drew)); exact HO243.out) (by first | exact Kd.N_base ho12 | exact Kd.R_base ho12) hb); have n1_ := Aside0.mk (Kd.N_lower ho12 (below_size (by repeat (first | (with_reducible first | exact HB.out | apply below_alloc | apply pw_below_drewN | apply below_drew1) | exact HB.out)))); have n2_ := Aside0.mk (below_step (by repeat (first | (with_reducible first | exact HB.out | apply below_alloc | apply pw_below_drewN | apply below_drew1) | exact HB.out)) hb); clear HO243; clear HB; have HO243 := n0_; have HO248 := n1_; have HB := n2_; clear n0_ n1_ n2_; clear hb ho12) | ((with_reducible refine gate_dst (N := 22) rfl ?_); (try (refine gate_guard (by rfl) ?_; dsimp only)); refine Kd.N_lit k54 _ 54 ?hg (N' := 22) ?hd (xs := ([(⟨15, 0, 0, 0, ([] : List Int), ([] : List (S54)), ([] : List (S54))⟩ : S54)] : List (S54))) (inner := [.int .i64 15, .int .i64 0, .int .i64 0, .int .i64 0, .slice none 0 0, .slice none 0 0, .slice none 0 0]) (ok := (fun k_ => some k_ ≠ (.slice Ao9 y241.length co9 : Value).ownBlock ∧ some k_ ≠ (v247 : Value).ownBlock)) (okp := (fun k_ => some k_ ≠ (.slice Ao9 y241.length co9 : Value).ownBlock ∧ some k_ ≠ (v247 : Value).ownBlock)) ?hr ?hp (fun _ hk => hk) ((show ∀ k_, w11.heap.size ≤ k_ → (fun k_ => some k_ ≠ (.slice Ao9 y241.length co9 : Value).ownBlock ∧ some k_ ≠ (v247 : Value).ownBlock) k_ from fun k_ hk => ⟨Kd.fresh' (Kd.N_lt (by (with_reducible repeat (first | apply Kd.N_alloc | apply Kd.N_drewN | apply Kd.N_drew)); exact HO243.out)) k_ hk, Kd.fresh' (Kd.N_lt (by (with_reducible repeat (first | apply Kd.N_alloc | apply Kd.N_drewN | apply Kd.N_drew)); exact HO248.out)) k_ hk⟩) _ (Nat.le_refl _)) (Below.refl _ _) (Nat.le_refl _) (by simp) ?_; (case hd => rfl); (case hg => rfl); (case hr => first | (go_simp; done) | (go_simp; rfl)); (case hp => exact (Reps.c7 (show Kd.FK k54 _ _ (⟨15, 0, 0, 0, ([] : List Int), ([] : List (S54)), ([] : List (S54))⟩ : S54) [.int .i64 15, .int .i64 0, .int .i64 0, .int .i64 0, .slice none 0 0, .slice none 0 0, .slice none 0 0] from (k54_mkF _ _ (⟨15, 0, 0, 0, ([] : List Int), ([] : List (S54)), ([] : List (S54))⟩ : S54) (Nat.le_refl _) (Kd.F_nil _ _ _) (Nat.le_refl _) (Kd.F_nil _ _ _) (Nat.le_refl _) (Kd.F_nil _ _ _))) (Reps.none _ _))); intro v250 w13 ho14 hb hg_ hnew_; clear hg_ hnew_; (first | rw [← Ny249.out] at ho14 | (simp only [Int.reduceToNat] at ho14; rw [← Ny249.out] at ho14)); have n0_ := Aside0.mk (Kd.N_elder' (by (with_reducible repeat (first | apply Kd.N_alloc | apply Kd.N_drewN | apply Kd.N_drew)); exact HO243.out) (by first | exact Kd.N_base ho14 | exact Kd.R_base ho14) hb); have n1_ := Aside0.mk (Kd.N_elder' (by (with_reducible repeat (first | apply Kd.N_alloc | apply Kd.N_drewN | apply Kd.N_drew)); exact HO248.out) (by first | exact Kd.N_base ho14 | exact Kd.R_base ho14) hb); have n2_ := Aside0.mk (Kd.N_lower ho14 (below_size (by repeat (first | (with_reducible first | exact HB.out | apply below_alloc | apply pw_below_drewN | apply below_drew1) | exact HB.out)))); have n3_ := Aside0.mk (below_step (by repeat (first | (with_reducible first | exact HB.out | apply below_alloc | apply pw_below_drewN | apply below_drew1) | exact HB.out)) hb); clear HO243; clear HO248; clear HB; have HO243 := n0_; have HO248 := n1_; have HO251 := n2_; have HB := n3_; clear n0_ n1_ n2_ n3_; clear hb ho14; obtain ⟨Ao15, co15, eo15⟩ := Kd.N_slice HO251.out; subst eo15; obtain ⟨Ao16, co16, eo16⟩ := Kd.N_slice HO248.out; subst eo16) | ((with_reducible refine gate_dst (N := 24) rfl ?_); (try (refine gate_guard (by rfl) ?_; dsimp only)); refine Kd.N_lit k54 _ 54 ?hg (N' := 24) ?hd (xs := ([(⟨4, (-64), 0, 0, ([] : List Int), y246, y249⟩ : S54)] : List (S54))) (inner := [.int .i64 4, .int .i64 (-64), .int .i64 0, .int .i64 0, .slice none 0 0, .slice Ao16 y246.length co16, .slice Ao15 y249.length co15]) (ok := (fun k_ => some k_ ≠ (.slice Ao9 y241.length co9 : Value).ownBlock)) (okp := (fun k_ => some k_ ≠ (.slice Ao9 y241.length co9 : Value).ownBlock)) ?hr ?hp (fun _ hk => hk) ((show ∀ k_, w13.heap.size ≤ k_ → (fun k_ => some k_ ≠ (.slice Ao9 y241.length co9 : Value).ownBlock) k_ from fun k_ hk => Kd.fresh' (Kd.N_lt (by (with_reducible repeat (first | apply Kd.N_alloc | apply Kd.N_drewN | apply Kd.N_drew)); exact HO243.out)) k_ hk) _ (Nat.le_refl _)) (Below.refl _ _) (Nat.le_refl _) (by simp) ?_; (case hd => rfl); (case hg => rfl); (case hr => first | (go_simp; done) | (go_simp; rfl)); (case hp => exact (Reps.c7 (show Kd.FK k54 _ _ (⟨4, (-64), 0, 0, ([] : List Int), y246, y249⟩ : S54) [.int .i64 4, .int .i64 (-64), .int .i64 0, .int .i64 0, .slice none 0 0, .slice Ao16 y246.length co16, .slice Ao15 y249.length co15] from (k54_mkF _ _ (⟨4, (-64), 0, 0, ([] : List Int), y246, y249⟩ : S54) (Nat.le_refl _) (Kd.F_nil _ _ _) (Kd.N_reads' (Kd.N_mono (ok' := (fun k_ => some k_ ≠ (.slice Ao9 y241.length co9 : Value).ownBlock)) (HO248.out) (fun k_ hk => hk.1))).2.1 (Kd.N_F (Kd.N_mono (ok' := (fun k_ => some k_ ≠ (.slice Ao9 y241.length co9 : Value).ownBlock)) (HO248.out) (fun k_ hk => hk.1))) (Kd.N_reads' (Kd.N_mono (ok' := (fun k_ => some k_ ≠ (.slice Ao9 y241.length co9 : Value).ownBlock)) (HO251.out) (fun k_ hk => hk.1))).2.1 (Kd.N_F (Kd.N_mono (ok' := (fun k_ => some k_ ≠ (.slice Ao9 y241.length co9 : Value).ownBlock)) (HO251.out) (fun k_ hk => hk.1))))) (Reps.none _ _))); intro v253 w17 ho18 hb hg_ hnew_; clear hg_ hnew_; (first | rw [← Ny252.out] at ho18 | (simp only [Int.reduceToNat] at ho18; rw [← Ny252.out] at ho18)); have n0_ := Aside0.mk (Kd.N_elder' (by (with_reducible repeat (first | apply Kd.N_alloc | apply Kd.N_drewN | apply Kd.N_drew)); exact HO243.out) (by first | exact Kd.N_base ho18 | exact Kd.R_base ho18) hb); have n1_ := Aside0.mk (Kd.N_lower ho18 (below_size (by repeat (first | (with_reducible first | exact HB.out | apply below_alloc | apply pw_below_drewN | apply below_drew1) | exact HB.out)))); have n2_ := Aside0.mk (below_step (by repeat (first | (with_reducible first | exact HB.out | apply below_alloc | apply pw_below_drewN | apply below_drew1) | exact HB.out)) hb); clear HO243; clear HB; clear HO248; clear HO251; have HO243 := n0_; have HO254 := n1_; have HB := n2_; clear n0_ n1_ n2_; clear hb ho18; obtain ⟨Ao19, co19, eo19⟩ := Kd.N_slice HO254.out; subst eo19) | ((with_reducible refine gate_callee (f := 15) rfl ?_); refine goesL_ (some 25) rfl rfl Try.func15 (by kernel_rfl) rfl #[.slice Ao19 y252.length co19] rfl (by (try simp only [List.map_toArray, List.map_cons, List.map_nil]); first | done | rfl | (simp only [List.length_drop, List.length_take]; rfl)) ?_; (with_reducible refine (instr_Put.calls _ _ y252 t255 t256 _ ?side1 ?side2 A2.out).mono ?_); (case side1 => repeat (first | exact (Kd.N_reads' HO254.out).2.2 | (with_reducible refine Kd.C_alloc ?_ _) | (with_reducible refine Kd.C_drewN ?_ _) | (with_reducible refine Kd.C_drew ?_))); (case side2 => exact (Kd.N_reads' HO254.out).2.1); rintro e w20 ⟨rfl, hb⟩; refine ⟨_, rfl, ?_⟩; have n0_ := Aside0.mk (Kd.N_below (by (with_reducible repeat (first | apply Kd.N_alloc | apply Kd.N_drewN | apply Kd.N_drew)); exact HO243.out) hb); have n1_ := Aside0.mk (Kd.N_below (by (with_reducible repeat (first | apply Kd.N_alloc | apply Kd.N_drewN | apply Kd.N_drew)); exact HO254.out) hb); have n2_ := Aside0.mk (below_step (by repeat (first | (with_reducible first | exact HB.out | apply below_alloc | apply pw_below_drewN | apply below_drew1) | exact HB.out)) hb); clear HO243; clear HO254; clear HB; have HO243 := n0_; have HO254 := n1_; have HB := n2_; clear n0_ n1_ n2_; (try clear hb); (try clear hb2); (try clear hk); (try clear hi)) | ((with_reducible refine gate_callee (f := 19) rfl ?_); refine goesL_ (some 29) rfl rfl Try.func19 (by kernel_rfl) rfl #[.string (⟨#[67, 0, 0, 0, 0, 11]⟩ : ByteArray)] rfl (by (try simp only [List.map_toArray, List.map_cons, List.map_nil]); first | done | rfl | (simp only [List.length_drop, List.length_take]; rfl)) ?_; (with_reducible refine (instr_Take.calls (⟨#[67, 0, 0, 0, 0, 11]⟩ : ByteArray) t257 t258 t259 _ A3.out).mono ?_); rintro e w21 ⟨v260, rfl, ho0, hb⟩; refine ⟨_, rfl, ?_⟩; have n0_ := Aside0.mk (Kd.N_elder' (by (with_reducible repeat (first | apply Kd.N_alloc | apply Kd.N_drewN | apply Kd.N_drew)); exact HO243.out) (by first | exact Kd.N_base ho0 | exact Kd.R_base ho0) hb); have n1_ := Aside0.mk (Kd.N_elder' (by (with_reducible repeat (first | apply Kd.N_alloc | apply Kd.N_drewN | apply Kd.N_drew)); exact HO254.out) (by first | exact Kd.N_base ho0 | exact Kd.R_base ho0) hb); have n2_ := Aside0.mk (Kd.N_lower (Kd.N_mono (ok' := fun k_ => some k_ ≠ (.slice Ao9 y241.length co9 : Value).ownBlock ∧ some k_ ≠ (.slice Ao19 y252.length co19 : Value).ownBlock) (Kd.R_N (Kd.R_bound ho0)) (fun k_ hk_ => ⟨(Kd.fresh' (Kd.N_lt (by (with_reducible repeat (first | apply Kd.N_alloc | apply Kd.N_drewN | apply Kd.N_drew)); exact HO243.out)) k_ hk_.2.1), (Kd.fresh' (Kd.N_lt (by (with_reducible repeat (first | apply Kd.N_alloc | apply Kd.N_drewN | apply Kd.N_drew)); exact HO254.out)) k_ hk_.2.1)⟩)) (below_size (by repeat (first | (with_reducible first | exact HB.out | apply below_alloc | apply pw_below_drewN | apply below_drew1) | exact HB.out)))); have n3_ := Aside0.mk (below_step (by repeat (first | (with_reducible first | exact HB.out | apply below_alloc | apply pw_below_drewN | apply below_drew1) | exact HB.out)) hb); clear HO243; clear HO254; clear HB; have HO243 := n0_; have HO254 := n1_; have HO261 := n2_; have HB := n3_; clear n0_ n1_ n2_ n3_; (try clear hb); (try clear hb2); (try clear hk); (try clear hi); (try clear ho0)) | ((with_reducible refine gate_callee (f := 19) rfl ?_); refine goesL_ (some 36) rfl rfl Try.func19 (by kernel_rfl) rfl #[.string (t244 ++ (⟨#[122]⟩ : ByteArray))] rfl (by (try simp only [List.map_toArray, List.map_cons, List.map_nil]); first | done | rfl | (simp only [List.length_drop, List.length_take]; rfl)) ?_; (with_reducible refine (instr_Take.calls (t244 ++ (⟨#[122]⟩ : ByteArray)) t262 t263 t264 _ A5.out).mono ?_); rintro e w22 ⟨v265, rfl, ho0, hb⟩; refine ⟨_, rfl, ?_⟩; have n0_ := Aside0.mk (Kd.N_elder' (by (with_reducible repeat (first | apply Kd.N_alloc | apply Kd.N_drewN | apply Kd.N_drew)); exact HO243.out) (by first | exact Kd.N_base ho0 | exact Kd.R_base ho0) hb); have n1_ := Aside0.mk (Kd.N_elder' (by (with_reducible repeat (first | apply Kd.N_alloc | apply Kd.N_drewN | apply Kd.N_drew)); exact HO254.out) (by first | exact Kd.N_base ho0 | exact Kd.R_base ho0) hb); have n2_ := Aside0.mk (Kd.N_elder' (by (with_reducible repeat (first | apply Kd.N_alloc | apply Kd.N_drewN | apply Kd.N_drew)); exact HO261.out) (by first | exact Kd.N_base ho0 | exact Kd.R_base ho0) hb); have n3_ := Aside0.mk (Kd.N_lower (Kd.N_mono (ok' := fun k_ => some k_ ≠ (.slice Ao9 y241.length co9 : Value).ownBlock ∧ some k_ ≠ (.slice Ao19 y252.length co19 : Value).ownBlock ∧ some k_ ≠ (v260 : Value).ownBlock) (Kd.R_N (Kd.R_bound ho0)) (fun k_ hk_ => ⟨(Kd.fresh' (Kd.N_lt (by (with_reducible repeat (first | apply Kd.N_alloc | apply Kd.N_drewN | apply Kd.N_drew)); exact HO243.out)) k_ hk_.2.1), (Kd.fresh' (Kd.N_lt (by (with_reducible repeat (first | apply Kd.N_alloc | apply Kd.N_drewN | apply Kd.N_drew)); exact HO254.out)) k_ hk_.2.1), (Kd.fresh' (Kd.N_lt (by (with_reducible repeat (first | apply Kd.N_alloc | apply Kd.N_drewN | apply Kd.N_drew)); exact HO261.out)) k_ hk_.2.1)⟩)) (below_size (by repeat (first | (with_reducible first | exact HB.out | apply below_alloc | apply pw_below_drewN | apply below_drew1) | exact HB.out)))); have n4_ := Aside0.mk (below_step (by repeat (first | (with_reducible first | exact HB.out | apply below_alloc | apply pw_below_drewN | apply below_drew1) | exact HB.out)) hb); clear HO243; clear HO254; clear HO261; clear HB; have HO243 := n0_; have HO254 := n1_; have HO261 := n2_; have HO266 := n3_; have HB := n4_; clear n0_ n1_ n2_ n3_ n4_; (try clear hb); (try clear hb2); (try clear hk); (try clear hi); (try clear ho0)))
    (try simp only [Act.put, List.setIfInBounds_toArray, List.set_cons_zero, List.set_cons_succ])
    go_cut [0] (fun v0 wc => ∃ (kq : Nat) (x0_5 : Bool), v0 = .bool x0_5 ∧ Aside0 (scarflaw05_awake.j0 kq x0_5 = some r) ∧ Aside0 (kq ≤ k) ∧ Aside0 (Below w.heap.size w wc))
    case first =>
      have H := HC6.out
      clear HC6
      by_cases c23 : t244.toList = ([65, 127, 26, 11] : List UInt8)
      · rw [if_pos c23] at H
        have c23b0 : (t244.toList == ([65, 127, 26, 11] : List UInt8)) = true := beq_iff_eq.mpr c23
        have c23b1 : (t244.toList != ([65, 127, 26, 11] : List UInt8)) = false := bne_eq_false_iff_eq.mpr c23
        clear c23
        (first | rw [c23b0] | (simp only [i64_w, i32_w]; rw [c23b0]) | skip)
        by_cases c24 : t245 = 0
        · rw [if_pos c24] at H
          have c24b0 : (t245 == 0) = true := beq_iff_eq.mpr c24
          have c24b1 : (t245 != 0) = false := bne_eq_false_iff_eq.mpr c24
          clear c24
          by_cases c25 : t255.toList = ([4, 64, 1, 5, 15, 11, 11] : List UInt8)
          · rw [if_pos c25] at H
            have c25b0 : (t255.toList == ([4, 64, 1, 5, 15, 11, 11] : List UInt8)) = true := beq_iff_eq.mpr c25
            have c25b1 : (t255.toList != ([4, 64, 1, 5, 15, 11, 11] : List UInt8)) = false := bne_eq_false_iff_eq.mpr c25
            clear c25
            by_cases c26 : t256 = 0
            · rw [if_pos c26] at H
              have c26b0 : (t256 == 0) = true := beq_iff_eq.mpr c26
              have c26b1 : (t256 != 0) = false := bne_eq_false_iff_eq.mpr c26
              clear c26
              by_cases c27 : t259 = 3
              · rw [if_pos c27] at H
                have c27b0 : (t259 == 3) = true := beq_iff_eq.mpr c27
                have c27b1 : (t259 != 3) = false := bne_eq_false_iff_eq.mpr c27
                clear c27
                by_cases c28 : (t262.length : Int) = 2
                · rw [if_pos c28] at H
                  have c28b0 : ((t262.length : Int) == 2) = true := beq_iff_eq.mpr c28
                  have c28b1 : ((t262.length : Int) != 2) = false := bne_eq_false_iff_eq.mpr c28
                  clear c28
                  by_cases c29 : t263.toList = ([122] : List UInt8)
                  · rw [if_pos c29] at H
                    have c29b0 : (t263.toList == ([122] : List UInt8)) = true := beq_iff_eq.mpr c29
                    have c29b1 : (t263.toList != ([122] : List UInt8)) = false := bne_eq_false_iff_eq.mpr c29
                    clear c29
                    have H' := Aside0.mk H
                    clear H
                    obtain ⟨Ao30, co30, eo30⟩ := Kd.N_slice HO266.out
                    subst eo30
                    go_wp2
                    go_meet
                    case rel => exact ⟨_, ((t264 == 0)), (by first | rfl | (simp; done) | (simp [*]; done)), H', ⟨by first | omega | exact Nat.le_refl _⟩, ⟨by repeat (first | (with_reducible first | exact HB.out | apply below_alloc | apply pw_below_drewN | apply below_drew1) | exact HB.out)⟩⟩
                  · rw [if_neg c29] at H
                    have c29b0 : (t263.toList == ([122] : List UInt8)) = false := beq_eq_false_iff_ne.mpr c29
                    have c29b1 : (t263.toList != ([122] : List UInt8)) = true := bne_iff_ne.mpr c29
                    have H' := Aside0.mk H
                    clear H
                    obtain ⟨Ao31, co31, eo31⟩ := Kd.N_slice HO266.out
                    subst eo31
                    go_wp2
                    go_meet
                    case rel => exact ⟨_, (false), (by first | rfl | (simp; done) | (simp [*]; done)), H', ⟨by first | omega | exact Nat.le_refl _⟩, ⟨by repeat (first | (with_reducible first | exact HB.out | apply below_alloc | apply pw_below_drewN | apply below_drew1) | exact HB.out)⟩⟩
                · rw [if_neg c28] at H
                  have c28b0 : ((t262.length : Int) == 2) = false := beq_eq_false_iff_ne.mpr c28
                  have c28b1 : ((t262.length : Int) != 2) = true := bne_iff_ne.mpr c28
                  have H' := Aside0.mk H
                  clear H
                  obtain ⟨Ao32, co32, eo32⟩ := Kd.N_slice HO266.out
                  subst eo32
                  go_wp2
                  go_meet
                  case rel => exact ⟨_, (false), (by first | rfl | (simp; done) | (simp [*]; done)), H', ⟨by first | omega | exact Nat.le_refl _⟩, ⟨by repeat (first | (with_reducible first | exact HB.out | apply below_alloc | apply pw_below_drewN | apply below_drew1) | exact HB.out)⟩⟩
              · rw [if_neg c27] at H
                have c27b0 : (t259 == 3) = false := beq_eq_false_iff_ne.mpr c27
                have c27b1 : (t259 != 3) = true := bne_iff_ne.mpr c27
                have H' := Aside0.mk H
                clear H
                go_wp2
                go_meet
                case rel => exact ⟨_, (false), (by first | rfl | (simp; done) | (simp [*]; done)), H', ⟨by first | omega | exact Nat.le_refl _⟩, ⟨by repeat (first | (with_reducible first | exact HB.out | apply below_alloc | apply pw_below_drewN | apply below_drew1) | exact HB.out)⟩⟩
            · rw [if_neg c26] at H
              have c26b0 : (t256 == 0) = false := beq_eq_false_iff_ne.mpr c26
              have c26b1 : (t256 != 0) = true := bne_iff_ne.mpr c26
              have H' := Aside0.mk H
              clear H
              go_wp2
              go_meet
              case rel => exact ⟨_, (false), (by first | rfl | (simp; done) | (simp [*]; done)), H', ⟨by first | omega | exact Nat.le_refl _⟩, ⟨by repeat (first | (with_reducible first | exact HB.out | apply below_alloc | apply pw_below_drewN | apply below_drew1) | exact HB.out)⟩⟩
          · rw [if_neg c25] at H
            have c25b0 : (t255.toList == ([4, 64, 1, 5, 15, 11, 11] : List UInt8)) = false := beq_eq_false_iff_ne.mpr c25
            have c25b1 : (t255.toList != ([4, 64, 1, 5, 15, 11, 11] : List UInt8)) = true := bne_iff_ne.mpr c25
            have H' := Aside0.mk H
            clear H
            go_wp2
            go_meet
            case rel => exact ⟨_, (false), (by first | rfl | (simp; done) | (simp [*]; done)), H', ⟨by first | omega | exact Nat.le_refl _⟩, ⟨by repeat (first | (with_reducible first | exact HB.out | apply below_alloc | apply pw_below_drewN | apply below_drew1) | exact HB.out)⟩⟩
        · rw [if_neg c24] at H
          have c24b0 : (t245 == 0) = false := beq_eq_false_iff_ne.mpr c24
          have c24b1 : (t245 != 0) = true := bne_iff_ne.mpr c24
          have H' := Aside0.mk H
          clear H
          go_wp2
          go_meet
          case rel => exact ⟨_, (false), (by first | rfl | (simp; done) | (simp [*]; done)), H', ⟨by first | omega | exact Nat.le_refl _⟩, ⟨by repeat (first | (with_reducible first | exact HB.out | apply below_alloc | apply pw_below_drewN | apply below_drew1) | exact HB.out)⟩⟩
      · rw [if_neg c23] at H
        have c23b0 : (t244.toList == ([65, 127, 26, 11] : List UInt8)) = false := beq_eq_false_iff_ne.mpr c23
        have c23b1 : (t244.toList != ([65, 127, 26, 11] : List UInt8)) = true := bne_iff_ne.mpr c23
        (first | rw [c23b0] | (simp only [i64_w, i32_w]; rw [c23b0]) | skip)
        have H' := Aside0.mk H
        clear H
        go_wp2
        go_meet
        case rel => exact ⟨_, (false), (by first | rfl | (simp; done) | (simp [*]; done)), H', ⟨by first | omega | exact Nat.le_refl _⟩, ⟨by repeat (first | (with_reducible first | exact HB.out | apply below_alloc | apply pw_below_drewN | apply below_drew1) | exact HB.out)⟩⟩
    case rest =>
      clear HC6
      try clear c1
      try clear c2
      try clear p2
      try clear c4
      try clear c4b0
      try clear c4b1
      try clear c4b2
      try clear c7
      try clear c14
      try clear c15
      try clear c19
      try clear c23
      try clear c23b0
      try clear c23b1
      try clear c24
      try clear c24b0
      try clear c24b1
      try clear c25
      try clear c25b0
      try clear c25b1
      try clear c26
      try clear c26b0
      try clear c26b1
      try clear c27
      try clear c27b0
      try clear c27b1
      try clear c28
      try clear c28b0
      try clear c28b1
      try clear c29
      try clear c29b0
      try clear c29b1
      obtain ⟨kq, x0_5, rfl, HA, HJ5, HB⟩ := hcut
      cases kq with
      | zero => exact absurd HA.out (by simp [scarflaw05_awake.j0])
      | succ kj5 =>
        have H := HA.out
        clear HA
        simp only [scarflaw05_awake.j0] at H
        obtain rfl := Option.some.inj H
        go_wp2
        go_ret
        exact ⟨by first | rfl | (simp [errW_none, errW_some] <;> rfl) | (simp [*, errW_none, errW_some] <;> rfl), by repeat (first | (with_reducible first | exact HB.out | apply below_alloc | apply pw_below_drewN | apply below_drew1) | exact HB.out)⟩
  · rw [if_neg c4] at H
    exact absurd H (by simp)

end Go.Proofs.Ytckhlbpjehbnlaa.PB

namespace Go.Proofs.Ytckhlbpjehbnlaa.PB
open Go.RowKit Go.Proofs.YtckhlbpjehbnlaaW.PrintWords Go.Proofs.YtckhlbpjehbnlaaW.PrintLast Go.Proofs.YtckhlbpjehbnlaaW.PrintMore
attribute [local go_sem] max2_int min2_int max_two min_two max_three min_three max_four min_four   -- for this text's walks alone
set_option linter.unusedVariables false
set_option linter.unusedSimpArgs false

/-! ### instr_TakeType: function 21 -/
def instr_TakeType.f (k : Nat) (a0 : ByteArray) : Option (Int × ByteArray × Int) := if a0.toList = ([] : List UInt8) then (some (0, (⟨#[]⟩ : ByteArray), 2)) else (if 0 < (a0.size : Int) then ((instr_Type.f k (wrap64 (bt a0 0))).bind fun bt388 => (if bt388.2 = 0 then (if 1 ≤ (a0.size : Int) then (some (bt388.1, a0.extract 1 a0.size, 0)) else (none)) else (some (0, (⟨#[]⟩ : ByteArray), bt388.2)))) else (none))
theorem instr_TakeType.mono : ∀ a0 k, LeO (instr_TakeType.f k a0) (instr_TakeType.f (k + 1) a0) := by
  intro a0 k
  unfold instr_TakeType.f
  repeat' first
      | (with_reducible exact instr_Type.mono _ _)
      | (with_reducible exact LeO.refl _)
      | (with_reducible exact LeO.none _)
      | (with_reducible refine LeO.ite ?_ ?_)
      | (with_reducible refine LeO.bind ?_ (fun _ => ?_))
      | exact instr_Type.mono _ _
      | exact LeO.none _
      | refine LeO.ite ?_ ?_
      | refine LeO.bind ?_ (fun _ => ?_)
set_option maxHeartbeats 8000000 in
set_option maxRecDepth 100000 in
theorem instr_TakeType.calls (k : Nat) (a0 : ByteArray) (r1 : Int) (r2 : ByteArray) (r3 : Int) (w : World) (h : instr_TakeType.f k a0 = some (r1, r2, r3)) :
    Calls Try.prog 21 #[.string a0] w fun e w' => e = .returned (.tuple #[.int .i64 r1, .string r2, .int .i64 r3]) ∧ Drawn0 w w' := by
  have H : (if a0.toList = ([] : List UInt8) then (some (0, (⟨#[]⟩ : ByteArray), 2)) else (if 0 < (a0.size : Int) then ((instr_Type.f k (wrap64 (bt a0 0))).bind fun bt388 => (if bt388.2 = 0 then (if 1 ≤ (a0.size : Int) then (some (bt388.1, a0.extract 1 a0.size, 0)) else (none)) else (some (0, (⟨#[]⟩ : ByteArray), bt388.2)))) else (none))) = some (r1, r2, r3) := h
  clear h
  by_cases c2 : a0.toList = ([] : List UInt8)
  · rw [if_pos c2] at H
    have c2b0 : (a0.toList == ([] : List UInt8)) = true := beq_iff_eq.mpr c2
    have c2b1 : (a0.toList != ([] : List UInt8)) = false := bne_eq_false_iff_eq.mpr c2
    clear c2
    simp only [Option.some.injEq, Prod.mk.injEq] at H
    obtain ⟨rfl, rfl, rfl⟩ := H
    go_enter Try.func21, Try.ntmps21
    go_wp2
    repeat (go_quiet (fail); try go_wp2)
    go_ret3
    exact ⟨by first | rfl | (simp; done) | (simp [*]; done), by repeat (first | exact Drawn0.refl _ | apply Drawn0.step)⟩
  · rw [if_neg c2] at H
    have c2b0 : (a0.toList == ([] : List UInt8)) = false := beq_eq_false_iff_ne.mpr c2
    have c2b1 : (a0.toList != ([] : List UInt8)) = true := bne_iff_ne.mpr c2
    by_cases c3 : 0 < (a0.size : Int)
    · rw [if_pos c3] at H
      have c3b0 : decide (0 < (a0.size : Int)) = true := decide_eq_true c3
      have c3b1 : decide (0 < a0.size) = true := decide_eq_true (by omega)
      clear c3
      replace H := Option.bind_eq_some_iff.mp H
      obtain ⟨⟨t388, t389⟩, A50, H⟩ := H
      replace H : (if t389 = 0 then (if 1 ≤ (a0.size : Int) then (some (t388, a0.extract 1 a0.size, 0)) else (none)) else (some (0, (⟨#[]⟩ : ByteArray), t389))) = some (r1, r2, r3) := H
      have A5 := Aside0.mk A50
      clear A50
      by_cases c6 : t389 = 0
      · rw [if_pos c6] at H
        have c6b0 : (t389 == 0) = true := beq_iff_eq.mpr c6
        have c6b1 : (t389 != 0) = false := bne_eq_false_iff_eq.mpr c6
        clear c6
        by_cases c7 : 1 ≤ (a0.size : Int)
        · rw [if_pos c7] at H
          have c7b0 := eq_true c7
          have c7b1 : decide (1 ≤ (a0.size : Int)) = true := decide_eq_true c7
          clear c7
          simp only [Option.some.injEq, Prod.mk.injEq] at H
          obtain ⟨rfl, rfl, rfl⟩ := H
          have p4 : 0 ≤ (0 : Int) := (by omega)
          have q4 : 0 < a0.size := (by have : (0 : Int) < (a0.size : Int) := of_decide_eq_true (by first | (with_reducible assumption) | assumption); omega)
          have hx4 : ∀ h : 0 < a0.size, ((a0[0]'h).toNat : Int) = bt a0 0 := bt_at a0 0
          clear p4
          have qi4 : (0 < (a0.size : Int)) = True := eq_true (of_decide_eq_true (by first | (with_reducible assumption) | assumption))
          replace q4 := eq_true q4
          go_enter Try.func21, Try.ntmps21
          go_wp2_with (first | (go_at_call 12; (with_reducible refine (instr_Type.calls k (wrap64 (bt a0 0)) t388 t389 _ A5.out).mono ?_); rintro e w' ⟨rfl, ⟨nd, rfl⟩⟩; (try first | exact ⟨rfl, _, World.drewN_drewN _ _ _⟩ | exact ⟨rfl, _, Eq.trans (World.drewN_drewN _ _ _) (congrArg (World.drewN _) (Nat.add_assoc _ _ _))⟩)))
          repeat (go_quiet (first | (go_at_call 12; (with_reducible refine (instr_Type.calls k (wrap64 (bt a0 0)) t388 t389 _ A5.out).mono ?_); rintro e w' ⟨rfl, ⟨nd, rfl⟩⟩; (try first | exact ⟨rfl, _, World.drewN_drewN _ _ _⟩ | exact ⟨rfl, _, Eq.trans (World.drewN_drewN _ _ _) (congrArg (World.drewN _) (Nat.add_assoc _ _ _))⟩))); try go_wp2_with (first | (go_at_call 12; (with_reducible refine (instr_Type.calls k (wrap64 (bt a0 0)) t388 t389 _ A5.out).mono ?_); rintro e w' ⟨rfl, ⟨nd, rfl⟩⟩; (try first | exact ⟨rfl, _, World.drewN_drewN _ _ _⟩ | exact ⟨rfl, _, Eq.trans (World.drewN_drewN _ _ _) (congrArg (World.drewN _) (Nat.add_assoc _ _ _))⟩))))
          go_ret3
          exact ⟨by first | rfl | (simp; done) | (simp [*]; done), by repeat (first | exact Drawn0.refl _ | apply Drawn0.step)⟩
        · rw [if_neg c7] at H
          exact absurd H (by simp)
      · rw [if_neg c6] at H
        have c6b0 : (t389 == 0) = false := beq_eq_false_iff_ne.mpr c6
        have c6b1 : (t389 != 0) = true := bne_iff_ne.mpr c6
        simp only [Option.some.injEq, Prod.mk.injEq] at H
        obtain ⟨rfl, rfl, rfl⟩ := H
        have p4 : 0 ≤ (0 : Int) := (by omega)
        have q4 : 0 < a0.size := (by have : (0 : Int) < (a0.size : Int) := of_decide_eq_true (by first | (with_reducible assumption) | assumption); omega)
        have hx4 : ∀ h : 0 < a0.size, ((a0[0]'h).toNat : Int) = bt a0 0 := bt_at a0 0
        clear p4
        have qi4 : (0 < (a0.size : Int)) = True := eq_true (of_decide_eq_true (by first | (with_reducible assumption) | assumption))
        replace q4 := eq_true q4
        go_enter Try.func21, Try.ntmps21
        go_wp2_with (first | (go_at_call 12; (with_reducible refine (instr_Type.calls k (wrap64 (bt a0 0)) t388 t389 _ A5.out).mono ?_); rintro e w' ⟨rfl, ⟨nd, rfl⟩⟩; (try first | exact ⟨rfl, _, World.drewN_drewN _ _ _⟩ | exact ⟨rfl, _, Eq.trans (World.drewN_drewN _ _ _) (congrArg (World.drewN _) (Nat.add_assoc _ _ _))⟩)))
        repeat (go_quiet (first | (go_at_call 12; (with_reducible refine (instr_Type.calls k (wrap64 (bt a0 0)) t388 t389 _ A5.out).mono ?_); rintro e w' ⟨rfl, ⟨nd, rfl⟩⟩; (try first | exact ⟨rfl, _, World.drewN_drewN _ _ _⟩ | exact ⟨rfl, _, Eq.trans (World.drewN_drewN _ _ _) (congrArg (World.drewN _) (Nat.add_assoc _ _ _))⟩))); try go_wp2_with (first | (go_at_call 12; (with_reducible refine (instr_Type.calls k (wrap64 (bt a0 0)) t388 t389 _ A5.out).mono ?_); rintro e w' ⟨rfl, ⟨nd, rfl⟩⟩; (try first | exact ⟨rfl, _, World.drewN_drewN _ _ _⟩ | exact ⟨rfl, _, Eq.trans (World.drewN_drewN _ _ _) (congrArg (World.drewN _) (Nat.add_assoc _ _ _))⟩))))
        go_ret3
        exact ⟨by first | rfl | (simp; done) | (simp [*]; done), by repeat (first | exact Drawn0.refl _ | apply Drawn0.step)⟩
    · rw [if_neg c3] at H
      exact absurd H (by simp)

end Go.Proofs.Ytckhlbpjehbnlaa.PB

namespace Go.Proofs.Ytckhlbpjehbnlaa.PB
open Go.RowKit Go.Proofs.YtckhlbpjehbnlaaW.PrintWords Go.Proofs.YtckhlbpjehbnlaaW.PrintLast Go.Proofs.YtckhlbpjehbnlaaW.PrintMore
attribute [local go_sem] max2_int min2_int max_two min_two max_three min_three max_four min_four   -- for this text's walks alone
set_option linter.unusedVariables false
set_option linter.unusedSimpArgs false

/-! ### scarflaw05_InstrTypes: function 9 -/
def scarflaw05_InstrTypes.f (k : Nat) (a0 : ByteArray) : Option (Bool) := (instr_TakeType.f k a0).bind fun bt390 => (if a0.toList = ([] : List UInt8) then (if bt390.1 = 0 then (if bt390.2.1.toList = ([] : List UInt8) then (if bt390.2.2 = 2 then ((scarflaw05_awake.f k).bind fun t393 => (some t393)) else (some false)) else (some false)) else (some false)) else (if 0 < (a0.size : Int) then ((scarfref05_Type.f k (wrap64 (bt a0 0))).bind fun bt394 => (if bt394.2 = 0 then (if bt390.1 = bt394.1 then (if 1 ≤ (a0.size : Int) then (if bt390.2.1.toList = (a0.extract 1 a0.size).toList then (if bt390.2.2 = 0 then ((scarflaw05_awake.f k).bind fun t396 => (some t396)) else (some false)) else (some false)) else (none)) else (some false)) else (if bt390.1 = 0 then (if bt390.2.1.toList = ([] : List UInt8) then (if bt390.2.2 = bt394.2 then ((scarflaw05_awake.f k).bind fun t397 => (some t397)) else (some false)) else (some false)) else (some false)))) else (none)))
theorem scarflaw05_InstrTypes.mono : ∀ a0 k, LeO (scarflaw05_InstrTypes.f k a0) (scarflaw05_InstrTypes.f (k + 1) a0) := by
  intro a0 k
  unfold scarflaw05_InstrTypes.f
  repeat' first
      | (with_reducible exact instr_TakeType.mono _ _)
      | (with_reducible exact scarflaw05_awake.mono _)
      | (with_reducible exact scarfref05_Type.mono _ _)
      | (with_reducible exact LeO.refl _)
      | (with_reducible exact LeO.none _)
      | (with_reducible refine LeO.ite ?_ ?_)
      | (with_reducible refine LeO.bind ?_ (fun _ => ?_))
      | exact instr_TakeType.mono _ _
      | exact scarflaw05_awake.mono _
      | exact scarfref05_Type.mono _ _
      | exact LeO.none _
      | refine LeO.ite ?_ ?_
      | refine LeO.bind ?_ (fun _ => ?_)
set_option maxHeartbeats 8000000 in
set_option maxRecDepth 100000 in
theorem scarflaw05_InstrTypes.calls (k : Nat) (a0 : ByteArray) (r : Bool) (w : World) (h : scarflaw05_InstrTypes.f k a0 = some r) :
    Calls Try.prog 9 #[.string a0] w fun e w' => e = .returned (.bool r) ∧ Below w.heap.size w w' := by
  have HB := Aside0.mk (Below.refl w.heap.size w)
  have H : ((instr_TakeType.f k a0).bind fun bt390 => (if a0.toList = ([] : List UInt8) then (if bt390.1 = 0 then (if bt390.2.1.toList = ([] : List UInt8) then (if bt390.2.2 = 2 then ((scarflaw05_awake.f k).bind fun t393 => (some t393)) else (some false)) else (some false)) else (some false)) else (if 0 < (a0.size : Int) then ((scarfref05_Type.f k (wrap64 (bt a0 0))).bind fun bt394 => (if bt394.2 = 0 then (if bt390.1 = bt394.1 then (if 1 ≤ (a0.size : Int) then (if bt390.2.1.toList = (a0.extract 1 a0.size).toList then (if bt390.2.2 = 0 then ((scarflaw05_awake.f k).bind fun t396 => (some t396)) else (some false)) else (some false)) else (none)) else (some false)) else (if bt390.1 = 0 then (if bt390.2.1.toList = ([] : List UInt8) then (if bt390.2.2 = bt394.2 then ((scarflaw05_awake.f k).bind fun t397 => (some t397)) else (some false)) else (some false)) else (some false)))) else (none)))) = some r := h
  clear h
  replace H := Option.bind_eq_some_iff.mp H
  obtain ⟨⟨t390, t391, t392⟩, A20, H⟩ := H
  replace H : (if a0.toList = ([] : List UInt8) then (if t390 = 0 then (if t391.toList = ([] : List UInt8) then (if t392 = 2 then ((scarflaw05_awake.f k).bind fun t393 => (some t393)) else (some false)) else (some false)) else (some false)) else (if 0 < (a0.size : Int) then ((scarfref05_Type.f k (wrap64 (bt a0 0))).bind fun bt394 => (if bt394.2 = 0 then (if t390 = bt394.1 then (if 1 ≤ (a0.size : Int) then (if t391.toList = (a0.extract 1 a0.size).toList then (if t392 = 0 then ((scarflaw05_awake.f k).bind fun t396 => (some t396)) else (some false)) else (some false)) else (none)) else (some false)) else (if t390 = 0 then (if t391.toList = ([] : List UInt8) then (if t392 = bt394.2 then ((scarflaw05_awake.f k).bind fun t397 => (some t397)) else (some false)) else (some false)) else (some false)))) else (none))) = some r := H
  have A2 := Aside0.mk A20
  clear A20
  by_cases c3 : a0.toList = ([] : List UInt8)
  · rw [if_pos c3] at H
    have c3b0 : (a0.toList == ([] : List UInt8)) = true := beq_iff_eq.mpr c3
    have c3b1 : (a0.toList != ([] : List UInt8)) = false := bne_eq_false_iff_eq.mpr c3
    clear c3
    by_cases c4 : t390 = 0
    · rw [if_pos c4] at H
      have c4b0 : (t390 == 0) = true := beq_iff_eq.mpr c4
      have c4b1 : (t390 != 0) = false := bne_eq_false_iff_eq.mpr c4
      clear c4
      by_cases c5 : t391.toList = ([] : List UInt8)
      · rw [if_pos c5] at H
        have c5b0 : (t391.toList == ([] : List UInt8)) = true := beq_iff_eq.mpr c5
        have c5b1 : (t391.toList != ([] : List UInt8)) = false := bne_eq_false_iff_eq.mpr c5
        clear c5
        by_cases c6 : t392 = 2
        · rw [if_pos c6] at H
          have c6b0 : (t392 == 2) = true := beq_iff_eq.mpr c6
          have c6b1 : (t392 != 2) = false := bne_eq_false_iff_eq.mpr c6
          clear c6
          replace H := Option.bind_eq_some_iff.mp H
          obtain ⟨t393, A70, H⟩ := H
          replace H : (some t393) = some r := H
          have A7 := Aside0.mk A70
          clear A70
          obtain rfl := Option.some.inj H
          go_enter Try.func9, Try.ntmps9
          go_wp2_with (first | ((with_reducible refine gate_callee (f := 21) rfl ?_); refine goesL_ (some 10) rfl rfl Try.func21 (by kernel_rfl) rfl #[.string a0] rfl (by (try simp only [List.map_toArray, List.map_cons, List.map_nil]); first | done | rfl | (simp only [List.length_drop, List.length_take]; rfl)) ?_; (with_reducible refine (instr_TakeType.calls k a0 t390 t391 t392 _ A2.out).mono ?_); rintro e w' ⟨rfl, ⟨nd, rfl⟩⟩; refine ⟨_, rfl, ?_⟩) | (go_at_call 14; (with_reducible refine (scarflaw05_awake.calls k  t393 _ A7.out).mono ?_); rintro e w8 ⟨rfl, hb⟩; have n0_ := Aside0.mk (below_step (by repeat (first | (with_reducible first | exact HB.out | apply below_alloc | apply pw_below_drewN | apply below_drew1) | exact HB.out)) hb); clear HB; have HB := n0_; clear n0_; (try clear hb); (try clear hb2); (try clear hk); (try clear hi)))
          go_ret
          exact ⟨by first | rfl | (simp [errW_none, errW_some] <;> rfl) | (simp [*, errW_none, errW_some] <;> rfl), by repeat (first | (with_reducible first | exact HB.out | apply below_alloc | apply pw_below_drewN | apply below_drew1) | exact HB.out)⟩
        · rw [if_neg c6] at H
          have c6b0 : (t392 == 2) = false := beq_eq_false_iff_ne.mpr c6
          have c6b1 : (t392 != 2) = true := bne_iff_ne.mpr c6
          obtain rfl := Option.some.inj H
          go_enter Try.func9, Try.ntmps9
          go_wp2_with (first | ((with_reducible refine gate_callee (f := 21) rfl ?_); refine goesL_ (some 10) rfl rfl Try.func21 (by kernel_rfl) rfl #[.string a0] rfl (by (try simp only [List.map_toArray, List.map_cons, List.map_nil]); first | done | rfl | (simp only [List.length_drop, List.length_take]; rfl)) ?_; (with_reducible refine (instr_TakeType.calls k a0 t390 t391 t392 _ A2.out).mono ?_); rintro e w' ⟨rfl, ⟨nd, rfl⟩⟩; refine ⟨_, rfl, ?_⟩))
          go_ret
          exact ⟨by first | rfl | (simp [errW_none, errW_some] <;> rfl) | (simp [*, errW_none, errW_some] <;> rfl), by repeat (first | (with_reducible first | exact HB.out | apply below_alloc | apply pw_below_drewN | apply below_drew1) | exact HB.out)⟩
      · rw [if_neg c5] at H
        have c5b0 : (t391.toList == ([] : List UInt8)) = false := beq_eq_false_iff_ne.mpr c5
        have c5b1 : (t391.toList != ([] : List UInt8)) = true := bne_iff_ne.mpr c5
        obtain rfl := Option.some.inj H
        go_enter Try.func9, Try.ntmps9
        go_wp2_with (first | ((with_reducible refine gate_callee (f := 21) rfl ?_); refine goesL_ (some 10) rfl rfl Try.func21 (by kernel_rfl) rfl #[.string a0] rfl (by (try simp only [List.map_toArray, List.map_cons, List.map_nil]); first | done | rfl | (simp only [List.length_drop, List.length_take]; rfl)) ?_; (with_reducible refine (instr_TakeType.calls k a0 t390 t391 t392 _ A2.out).mono ?_); rintro e w' ⟨rfl, ⟨nd, rfl⟩⟩; refine ⟨_, rfl, ?_⟩))
        go_ret
        exact ⟨by first | rfl | (simp [errW_none, errW_some] <;> rfl) | (simp [*, errW_none, errW_some] <;> rfl), by repeat (first | (with_reducible first | exact HB.out | apply below_alloc | apply pw_below_drewN | apply below_drew1) | exact HB.out)⟩
    · rw [if_neg c4] at H
      have c4b0 : (t390 == 0) = false := beq_eq_false_iff_ne.mpr c4
      have c4b1 : (t390 != 0) = true := bne_iff_ne.mpr c4
      obtain rfl := Option.some.inj H
      go_enter Try.func9, Try.ntmps9
      go_wp2_with (first | ((with_reducible refine gate_callee (f := 21) rfl ?_); refine goesL_ (some 10) rfl rfl Try.func21 (by kernel_rfl) rfl #[.string a0] rfl (by (try simp only [List.map_toArray, List.map_cons, List.map_nil]); first | done | rfl | (simp only [List.length_drop, List.length_take]; rfl)) ?_; (with_reducible refine (instr_TakeType.calls k a0 t390 t391 t392 _ A2.out).mono ?_); rintro e w' ⟨rfl, ⟨nd, rfl⟩⟩; refine ⟨_, rfl, ?_⟩))
      go_ret
      exact ⟨by first | rfl | (simp [errW_none, errW_some] <;> rfl) | (simp [*, errW_none, errW_some] <;> rfl), by repeat (first | (with_reducible first | exact HB.out | apply below_alloc | apply pw_below_drewN | apply below_drew1) | exact HB.out)⟩
  · rw [if_neg c3] at H
    have c3b0 : (a0.toList == ([] : List UInt8)) = false := beq_eq_false_iff_ne.mpr c3
    have c3b1 : (a0.toList != ([] : List UInt8)) = true := bne_iff_ne.mpr c3
    by_cases c9 : 0 < (a0.size : Int)
    · rw [if_pos c9] at H
      have c9b0 : decide (0 < (a0.size : Int)) = true := decide_eq_true c9
      have c9b1 : decide (0 < a0.size) = true := decide_eq_true (by omega)
      clear c9
      replace H := Option.bind_eq_some_iff.mp H
      obtain ⟨⟨t394, t395⟩, A110, H⟩ := H
      replace H : (if t395 = 0 then (if t390 = t394 then (if 1 ≤ (a0.size : Int) then (if t391.toList = (a0.extract 1 a0.size).toList then (if t392 = 0 then ((scarflaw05_awake.f k).bind fun t396 => (some t396)) else (some false)) else (some false)) else (none)) else (some false)) else (if t390 = 0 then (if t391.toList = ([] : List UInt8) then (if t392 = t395 then ((scarflaw05_awake.f k).bind fun t397 => (some t397)) else (some false)) else (some false)) else (some false))) = some r := H
      have A11 := Aside0.mk A110
      clear A110
      by_cases c12 : t395 = 0
      · rw [if_pos c12] at H
        have c12b0 : (t395 == 0) = true := beq_iff_eq.mpr c12
        have c12b1 : (t395 != 0) = false := bne_eq_false_iff_eq.mpr c12
        clear c12
        by_cases c13 : t390 = t394
        · rw [if_pos c13] at H
          have c13b0 : (t390 == t394) = true := beq_iff_eq.mpr c13
          have c13b1 : (t390 != t394) = false := bne_eq_false_iff_eq.mpr c13
          clear c13
          by_cases c14 : 1 ≤ (a0.size : Int)
          · rw [if_pos c14] at H
            have c14b0 := eq_true c14
            have c14b1 : decide (1 ≤ (a0.size : Int)) = true := decide_eq_true c14
            clear c14
            by_cases c15 : t391.toList = (a0.extract 1 a0.size).toList
            · rw [if_pos c15] at H
              have c15b0 : (t391.toList == (a0.extract 1 a0.size).toList) = true := beq_iff_eq.mpr c15
              have c15b1 : (t391.toList != (a0.extract 1 a0.size).toList) = false := bne_eq_false_iff_eq.mpr c15
              clear c15
              by_cases c16 : t392 = 0
              · rw [if_pos c16] at H
                have c16b0 : (t392 == 0) = true := beq_iff_eq.mpr c16
                have c16b1 : (t392 != 0) = false := bne_eq_false_iff_eq.mpr c16
                clear c16
                replace H := Option.bind_eq_some_iff.mp H
                obtain ⟨t396, A170, H⟩ := H
                replace H : (some t396) = some r := H
                have A17 := Aside0.mk A170
                clear A170
                obtain rfl := Option.some.inj H
                go_enter Try.func9, Try.ntmps9
                go_wp2_with (first | ((with_reducible refine gate_callee (f := 21) rfl ?_); refine goesL_ (some 10) rfl rfl Try.func21 (by kernel_rfl) rfl #[.string a0] rfl (by (try simp only [List.map_toArray, List.map_cons, List.map_nil]); first | done | rfl | (simp only [List.length_drop, List.length_take]; rfl)) ?_; (with_reducible refine (instr_TakeType.calls k a0 t390 t391 t392 _ A2.out).mono ?_); rintro e w' ⟨rfl, ⟨nd, rfl⟩⟩; refine ⟨_, rfl, ?_⟩; have p10 : 0 ≤ (0 : Int) := (by omega); have q10 : 0 < a0.size := (by have : (0 : Int) < (a0.size : Int) := of_decide_eq_true (by first | (with_reducible assumption) | assumption); omega); have hx10 : ∀ h : 0 < a0.size, ((a0[0]'h).toNat : Int) = bt a0 0 := bt_at a0 0; clear p10; have qi10 : (0 < (a0.size : Int)) = True := eq_true (of_decide_eq_true (by first | (with_reducible assumption) | assumption)); replace q10 := eq_true q10) | ((with_reducible refine gate_callee (f := 13) rfl ?_); refine goesL_ (some 33) rfl rfl Try.func13 (by kernel_rfl) rfl #[.int .i64 (wrap64 (bt a0 0))] rfl (by (try simp only [List.map_toArray, List.map_cons, List.map_nil]); first | done | rfl | (simp only [List.length_drop, List.length_take]; rfl)) ?_; (with_reducible refine (scarfref05_Type.calls k (wrap64 (bt a0 0)) t394 t395 _ A11.out).mono ?_); rintro e w18 ⟨rfl, hb⟩; refine ⟨_, rfl, ?_⟩; have n0_ := Aside0.mk (below_step (by repeat (first | (with_reducible first | exact HB.out | apply below_alloc | apply pw_below_drewN | apply below_drew1) | exact HB.out)) hb); clear HB; have HB := n0_; clear n0_; (try clear hb); (try clear hb2); (try clear hk); (try clear hi)) | (go_at_call 14; (with_reducible refine (scarflaw05_awake.calls k  t396 _ A17.out).mono ?_); rintro e w19 ⟨rfl, hb⟩; have n0_ := Aside0.mk (below_step (by repeat (first | (with_reducible first | exact HB.out | apply below_alloc | apply pw_below_drewN | apply below_drew1) | exact HB.out)) hb); clear HB; have HB := n0_; clear n0_; (try clear hb); (try clear hb2); (try clear hk); (try clear hi)))
                go_ret
                exact ⟨by first | rfl | (simp [errW_none, errW_some] <;> rfl) | (simp [*, errW_none, errW_some] <;> rfl), by repeat (first | (with_reducible first | exact HB.out | apply below_alloc | apply pw_below_drewN | apply below_drew1) | exact HB.out)⟩
              · rw [if_neg c16] at H
                have c16b0 : (t392 == 0) = false := beq_eq_false_iff_ne.mpr c16
                have c16b1 : (t392 != 0) = true := bne_iff_ne.mpr c16
                obtain rfl := Option.some.inj H
                go_enter Try.func9, Try.ntmps9
                go_wp2_with (first | ((with_reducible refine gate_callee (f := 21) rfl ?_); refine goesL_ (some 10) rfl rfl Try.func21 (by kernel_rfl) rfl #[.string a0] rfl (by (try simp only [List.map_toArray, List.map_cons, List.map_nil]); first | done | rfl | (simp only [List.length_drop, List.length_take]; rfl)) ?_; (with_reducible refine (instr_TakeType.calls k a0 t390 t391 t392 _ A2.out).mono ?_); rintro e w' ⟨rfl, ⟨nd, rfl⟩⟩; refine ⟨_, rfl, ?_⟩; have p10 : 0 ≤ (0 : Int) := (by omega); have q10 : 0 < a0.size := (by have : (0 : Int) < (a0.size : Int) := of_decide_eq_true (by first | (with_reducible assumption) | assumption); omega); have hx10 : ∀ h : 0 < a0.size, ((a0[0]'h).toNat : Int) = bt a0 0 := bt_at a0 0; clear p10; have qi10 : (0 < (a0.size : Int)) = True := eq_true (of_decide_eq_true (by first | (with_reducible assumption) | assumption)); replace q10 := eq_true q10) | ((with_reducible refine gate_callee (f := 13) rfl ?_); refine goesL_ (some 33) rfl rfl Try.func13 (by kernel_rfl) rfl #[.int .i64 (wrap64 (bt a0 0))] rfl (by (try simp only [List.map_toArray, List.map_cons, List.map_nil]); first | done | rfl | (simp only [List.length_drop, List.length_take]; rfl)) ?_; (with_reducible refine (scarfref05_Type.calls k (wrap64 (bt a0 0)) t394 t395 _ A11.out).mono ?_); rintro e w20 ⟨rfl, hb⟩; refine ⟨_, rfl, ?_⟩; have n0_ := Aside0.mk (below_step (by repeat (first | (with_reducible first | exact HB.out | apply below_alloc | apply pw_below_drewN | apply below_drew1) | exact HB.out)) hb); clear HB; have HB := n0_; clear n0_; (try clear hb); (try clear hb2); (try clear hk); (try clear hi)))
                go_ret
                exact ⟨by first | rfl | (simp [errW_none, errW_some] <;> rfl) | (simp [*, errW_none, errW_some] <;> rfl), by repeat (first | (with_reducible first | exact HB.out | apply below_alloc | apply pw_below_drewN | apply below_drew1) | exact HB.out)⟩
            · rw [if_neg c15] at H
              have c15b0 : (t391.toList == (a0.extract 1 a0.size).toList) = false := beq_eq_false_iff_ne.mpr c15
              have c15b1 : (t391.toList != (a0.extract 1 a0.size).toList) = true := bne_iff_ne.mpr c15
              obtain rfl := Option.some.inj H
              go_enter Try.func9, Try.ntmps9
              go_wp2_with (first | ((with_reducible refine gate_callee (f := 21) rfl ?_); refine goesL_ (some 10) rfl rfl Try.func21 (by kernel_rfl) rfl #[.string a0] rfl (by (try simp only [List.map_toArray, List.map_cons, List.map_nil]); first | done | rfl | (simp only [List.length_drop, List.length_take]; rfl)) ?_; (with_reducible refine (instr_TakeType.calls k a0 t390 t391 t392 _ A2.out).mono ?_); rintro e w' ⟨rfl, ⟨nd, rfl⟩⟩; refine ⟨_, rfl, ?_⟩; have p10 : 0 ≤ (0 : Int) := (by omega); have q10 : 0 < a0.size := (by have : (0 : Int) < (a0.size : Int) := of_decide_eq_true (by first | (with_reducible assumption) | assumption); omega); have hx10 : ∀ h : 0 < a0.size, ((a0[0]'h).toNat : Int) = bt a0 0 := bt_at a0 0; clear p10; have qi10 : (0 < (a0.size : Int)) = True := eq_true (of_decide_eq_true (by first | (with_reducible assumption) | assumption)); replace q10 := eq_true q10) | ((with_reducible refine gate_callee (f := 13) rfl ?_); refine goesL_ (some 33) rfl rfl Try.func13 (by kernel_rfl) rfl #[.int .i64 (wrap64 (bt a0 0))] rfl (by (try simp only [List.map_toArray, List.map_cons, List.map_nil]); first | done | rfl | (simp only [List.length_drop, List.length_take]; rfl)) ?_; (with_reducible refine (scarfref05_Type.calls k (wrap64 (bt a0 0)) t394 t395 _ A11.out).mono ?_); rintro e w21 ⟨rfl, hb⟩; refine ⟨_, rfl, ?_⟩; have n0_ := Aside0.mk (below_step (by repeat (first | (with_reducible first | exact HB.out | apply below_alloc | apply pw_below_drewN | apply below_drew1) | exact HB.out)) hb); clear HB; have HB := n0_; clear n0_; (try clear hb); (try clear hb2); (try clear hk); (try clear hi)))
              go_ret
              exact ⟨by first | rfl | (simp [errW_none, errW_some] <;> rfl) | (simp [*, errW_none, errW_some] <;> rfl), by repeat (first | (with_reducible first | exact HB.out | apply below_alloc | apply pw_below_drewN | apply below_drew1) | exact HB.out)⟩
          · rw [if_neg c14] at H
            exact absurd H (by simp)
        · rw [if_neg c13] at H
          have c13b0 : (t390 == t394) = false := beq_eq_false_iff_ne.mpr c13
          have c13b1 : (t390 != t394) = true := bne_iff_ne.mpr c13
          obtain rfl := Option.some.inj H
          go_enter Try.func9, Try.ntmps9
          go_wp2_with (first | ((with_reducible refine gate_callee (f := 21) rfl ?_); refine goesL_ (some 10) rfl rfl Try.func21 (by kernel_rfl) rfl #[.string a0] rfl (by (try simp only [List.map_toArray, List.map_cons, List.map_nil]); first | done | rfl | (simp only [List.length_drop, List.length_take]; rfl)) ?_; (with_reducible refine (instr_TakeType.calls k a0 t390 t391 t392 _ A2.out).mono ?_); rintro e w' ⟨rfl, ⟨nd, rfl⟩⟩; refine ⟨_, rfl, ?_⟩; have p10 : 0 ≤ (0 : Int) := (by omega); have q10 : 0 < a0.size := (by have : (0 : Int) < (a0.size : Int) := of_decide_eq_true (by first | (with_reducible assumption) | assumption); omega); have hx10 : ∀ h : 0 < a0.size, ((a0[0]'h).toNat : Int) = bt a0 0 := bt_at a0 0; clear p10; have qi10 : (0 < (a0.size : Int)) = True := eq_true (of_decide_eq_true (by first | (with_reducible assumption) | assumption)); replace q10 := eq_true q10) | ((with_reducible refine gate_callee (f := 13) rfl ?_); refine goesL_ (some 33) rfl rfl Try.func13 (by kernel_rfl) rfl #[.int .i64 (wrap64 (bt a0 0))] rfl (by (try simp only [List.map_toArray, List.map_cons, List.map_nil]); first | done | rfl | (simp only [List.length_drop, List.length_take]; rfl)) ?_; (with_reducible refine (scarfref05_Type.calls k (wrap64 (bt a0 0)) t394 t395 _ A11.out).mono ?_); rintro e w22 ⟨rfl, hb⟩; refine ⟨_, rfl, ?_⟩; have n0_ := Aside0.mk (below_step (by repeat (first | (with_reducible first | exact HB.out | apply below_alloc | apply pw_below_drewN | apply below_drew1) | exact HB.out)) hb); clear HB; have HB := n0_; clear n0_; (try clear hb); (try clear hb2); (try clear hk); (try clear hi)))
          go_ret
          exact ⟨by first | rfl | (simp [errW_none, errW_some] <;> rfl) | (simp [*, errW_none, errW_some] <;> rfl), by repeat (first | (with_reducible first | exact HB.out | apply below_alloc | apply pw_below_drewN | apply below_drew1) | exact HB.out)⟩
      · rw [if_neg c12] at H
        have c12b0 : (t395 == 0) = false := beq_eq_false_iff_ne.mpr c12
        have c12b1 : (t395 != 0) = true := bne_iff_ne.mpr c12
        by_cases c23 : t390 = 0
        · rw [if_pos c23] at H
          have c23b0 : (t390 == 0) = true := beq_iff_eq.mpr c23
          have c23b1 : (t390 != 0) = false := bne_eq_false_iff_eq.mpr c23
          clear c23
          by_cases c24 : t391.toList = ([] : List UInt8)
          · rw [if_pos c24] at H
            have c24b0 : (t391.toList == ([] : List UInt8)) = true := beq_iff_eq.mpr c24
            have c24b1 : (t391.toList != ([] : List UInt8)) = false := bne_eq_false_iff_eq.mpr c24
            clear c24
            by_cases c25 : t392 = t395
            · rw [if_pos c25] at H
              have c25b0 : (t392 == t395) = true := beq_iff_eq.mpr c25
              have c25b1 : (t392 != t395) = false := bne_eq_false_iff_eq.mpr c25
              clear c25
              replace H := Option.bind_eq_some_iff.mp H
              obtain ⟨t397, A260, H⟩ := H
              replace H : (some t397) = some r := H
              have A26 := Aside0.mk A260
              clear A260
              obtain rfl := Option.some.inj H
              go_enter Try.func9, Try.ntmps9
              go_wp2_with (first | ((with_reducible refine gate_callee (f := 21) rfl ?_); refine goesL_ (some 10) rfl rfl Try.func21 (by kernel_rfl) rfl #[.string a0] rfl (by (try simp only [List.map_toArray, List.map_cons, List.map_nil]); first | done | rfl | (simp only [List.length_drop, List.length_take]; rfl)) ?_; (with_reducible refine (instr_TakeType.calls k a0 t390 t391 t392 _ A2.out).mono ?_); rintro e w' ⟨rfl, ⟨nd, rfl⟩⟩; refine ⟨_, rfl, ?_⟩; have p10 : 0 ≤ (0 : Int) := (by omega); have q10 : 0 < a0.size := (by have : (0 : Int) < (a0.size : Int) := of_decide_eq_true (by first | (with_reducible assumption) | assumption); omega); have hx10 : ∀ h : 0 < a0.size, ((a0[0]'h).toNat : Int) = bt a0 0 := bt_at a0 0; clear p10; have qi10 : (0 < (a0.size : Int)) = True := eq_true (of_decide_eq_true (by first | (with_reducible assumption) | assumption)); replace q10 := eq_true q10) | ((with_reducible refine gate_callee (f := 13) rfl ?_); refine goesL_ (some 33) rfl rfl Try.func13 (by kernel_rfl) rfl #[.int .i64 (wrap64 (bt a0 0))] rfl (by (try simp only [List.map_toArray, List.map_cons, List.map_nil]); first | done | rfl | (simp only [List.length_drop, List.length_take]; rfl)) ?_; (with_reducible refine (scarfref05_Type.calls k (wrap64 (bt a0 0)) t394 t395 _ A11.out).mono ?_); rintro e w27 ⟨rfl, hb⟩; refine ⟨_, rfl, ?_⟩; have n0_ := Aside0.mk (below_step (by repeat (first | (with_reducible first | exact HB.out | apply below_alloc | apply pw_below_drewN | apply below_drew1) | exact HB.out)) hb); clear HB; have HB := n0_; clear n0_; (try clear hb); (try clear hb2); (try clear hk); (try clear hi)) | (go_at_call 14; (with_reducible refine (scarflaw05_awake.calls k  t397 _ A26.out).mono ?_); rintro e w28 ⟨rfl, hb⟩; have n0_ := Aside0.mk (below_step (by repeat (first | (with_reducible first | exact HB.out | apply below_alloc | apply pw_below_drewN | apply below_drew1) | exact HB.out)) hb); clear HB; have HB := n0_; clear n0_; (try clear hb); (try clear hb2); (try clear hk); (try clear hi)))
              go_ret
              exact ⟨by first | rfl | (simp [errW_none, errW_some] <;> rfl) | (simp [*, errW_none, errW_some] <;> rfl), by repeat (first | (with_reducible first | exact HB.out | apply below_alloc | apply pw_below_drewN | apply below_drew1) | exact HB.out)⟩
            · rw [if_neg c25] at H
              have c25b0 : (t392 == t395) = false := beq_eq_false_iff_ne.mpr c25
              have c25b1 : (t392 != t395) = true := bne_iff_ne.mpr c25
              obtain rfl := Option.some.inj H
              go_enter Try.func9, Try.ntmps9
              go_wp2_with (first | ((with_reducible refine gate_callee (f := 21) rfl ?_); refine goesL_ (some 10) rfl rfl Try.func21 (by kernel_rfl) rfl #[.string a0] rfl (by (try simp only [List.map_toArray, List.map_cons, List.map_nil]); first | done | rfl | (simp only [List.length_drop, List.length_take]; rfl)) ?_; (with_reducible refine (instr_TakeType.calls k a0 t390 t391 t392 _ A2.out).mono ?_); rintro e w' ⟨rfl, ⟨nd, rfl⟩⟩; refine ⟨_, rfl, ?_⟩; have p10 : 0 ≤ (0 : Int) := (by omega); have q10 : 0 < a0.size := (by have : (0 : Int) < (a0.size : Int) := of_decide_eq_true (by first | (with_reducible assumption) | assumption); omega); have hx10 : ∀ h : 0 < a0.size, ((a0[0]'h).toNat : Int) = bt a0 0 := bt_at a0 0; clear p10; have qi10 : (0 < (a0.size : Int)) = True := eq_true (of_decide_eq_true (by first | (with_reducible assumption) | assumption)); replace q10 := eq_true q10) | ((with_reducible refine gate_callee (f := 13) rfl ?_); refine goesL_ (some 33) rfl rfl Try.func13 (by kernel_rfl) rfl #[.int .i64 (wrap64 (bt a0 0))] rfl (by (try simp only [List.map_toArray, List.map_cons, List.map_nil]); first | done | rfl | (simp only [List.length_drop, List.length_take]; rfl)) ?_; (with_reducible refine (scarfref05_Type.calls k (wrap64 (bt a0 0)) t394 t395 _ A11.out).mono ?_); rintro e w29 ⟨rfl, hb⟩; refine ⟨_, rfl, ?_⟩; have n0_ := Aside0.mk (below_step (by repeat (first | (with_reducible first | exact HB.out | apply below_alloc | apply pw_below_drewN | apply below_drew1) | exact HB.out)) hb); clear HB; have HB := n0_; clear n0_; (try clear hb); (try clear hb2); (try clear hk); (try clear hi)))
              go_ret
              exact ⟨by first | rfl | (simp [errW_none, errW_some] <;> rfl) | (simp [*, errW_none, errW_some] <;> rfl), by repeat (first | (with_reducible first | exact HB.out | apply below_alloc | apply pw_below_drewN | apply below_drew1) | exact HB.out)⟩
          · rw [if_neg c24] at H
            have c24b0 : (t391.toList == ([] : List UInt8)) = false := beq_eq_false_iff_ne.mpr c24
            have c24b1 : (t391.toList != ([] : List UInt8)) = true := bne_iff_ne.mpr c24
            obtain rfl := Option.some.inj H
            go_enter Try.func9, Try.ntmps9
            go_wp2_with (first | ((with_reducible refine gate_callee (f := 21) rfl ?_); refine goesL_ (some 10) rfl rfl Try.func21 (by kernel_rfl) rfl #[.string a0] rfl (by (try simp only [List.map_toArray, List.map_cons, List.map_nil]); first | done | rfl | (simp only [List.length_drop, List.length_take]; rfl)) ?_; (with_reducible refine (instr_TakeType.calls k a0 t390 t391 t392 _ A2.out).mono ?_); rintro e w' ⟨rfl, ⟨nd, rfl⟩⟩; refine ⟨_, rfl, ?_⟩; have p10 : 0 ≤ (0 : Int) := (by omega); have q10 : 0 < a0.size := (by have : (0 : Int) < (a0.size : Int) := of_decide_eq_true (by first | (with_reducible assumption) | assumption); omega); have hx10 : ∀ h : 0 < a0.size, ((a0[0]'h).toNat : Int) = bt a0 0 := bt_at a0 0; clear p10; have qi10 : (0 < (a0.size : Int)) = True := eq_true (of_decide_eq_true (by first | (with_reducible assumption) | assumption)); replace q10 := eq_true q10) | ((with_reducible refine gate_callee (f := 13) rfl ?_); refine goesL_ (some 33) rfl rfl Try.func13 (by kernel_rfl) rfl #[.int .i64 (wrap64 (bt a0 0))] rfl (by (try simp only [List.map_toArray, List.map_cons, List.map_nil]); first | done | rfl | (simp only [List.length_drop, List.length_take]; rfl)) ?_; (with_reducible refine (scarfref05_Type.calls k (wrap64 (bt a0 0)) t394 t395 _ A11.out).mono ?_); rintro e w30 ⟨rfl, hb⟩; refine ⟨_, rfl, ?_⟩; have n0_ := Aside0.mk (below_step (by repeat (first | (with_reducible first | exact HB.out | apply below_alloc | apply pw_below_drewN | apply below_drew1) | exact HB.out)) hb); clear HB; have HB := n0_; clear n0_; (try clear hb); (try clear hb2); (try clear hk); (try clear hi)))
            go_ret
            exact ⟨by first | rfl | (simp [errW_none, errW_some] <;> rfl) | (simp [*, errW_none, errW_some] <;> rfl), by repeat (first | (with_reducible first | exact HB.out | apply below_alloc | apply pw_below_drewN | apply below_drew1) | exact HB.out)⟩
        · rw [if_neg c23] at H
          have c23b0 : (t390 == 0) = false := beq_eq_false_iff_ne.mpr c23
          have c23b1 : (t390 != 0) = true := bne_iff_ne.mpr c23
          obtain rfl := Option.some.inj H
          go_enter Try.func9, Try.ntmps9
          go_wp2_with (first | ((with_reducible refine gate_callee (f := 21) rfl ?_); refine goesL_ (some 10) rfl rfl Try.func21 (by kernel_rfl) rfl #[.string a0] rfl (by (try simp only [List.map_toArray, List.map_cons, List.map_nil]); first | done | rfl | (simp only [List.length_drop, List.length_take]; rfl)) ?_; (with_reducible refine (instr_TakeType.calls k a0 t390 t391 t392 _ A2.out).mono ?_); rintro e w' ⟨rfl, ⟨nd, rfl⟩⟩; refine ⟨_, rfl, ?_⟩; have p10 : 0 ≤ (0 : Int) := (by omega); have q10 : 0 < a0.size := (by have : (0 : Int) < (a0.size : Int) := of_decide_eq_true (by first | (with_reducible assumption) | assumption); omega); have hx10 : ∀ h : 0 < a0.size, ((a0[0]'h).toNat : Int) = bt a0 0 := bt_at a0 0; clear p10; have qi10 : (0 < (a0.size : Int)) = True := eq_true (of_decide_eq_true (by first | (with_reducible assumption) | assumption)); replace q10 := eq_true q10) | ((with_reducible refine gate_callee (f := 13) rfl ?_); refine goesL_ (some 33) rfl rfl Try.func13 (by kernel_rfl) rfl #[.int .i64 (wrap64 (bt a0 0))] rfl (by (try simp only [List.map_toArray, List.map_cons, List.map_nil]); first | done | rfl | (simp only [List.length_drop, List.length_take]; rfl)) ?_; (with_reducible refine (scarfref05_Type.calls k (wrap64 (bt a0 0)) t394 t395 _ A11.out).mono ?_); rintro e w31 ⟨rfl, hb⟩; refine ⟨_, rfl, ?_⟩; have n0_ := Aside0.mk (below_step (by repeat (first | (with_reducible first | exact HB.out | apply below_alloc | apply pw_below_drewN | apply below_drew1) | exact HB.out)) hb); clear HB; have HB := n0_; clear n0_; (try clear hb); (try clear hb2); (try clear hk); (try clear hi)))
          go_ret
          exact ⟨by first | rfl | (simp [errW_none, errW_some] <;> rfl) | (simp [*, errW_none, errW_some] <;> rfl), by repeat (first | (with_reducible first | exact HB.out | apply below_alloc | apply pw_below_drewN | apply below_drew1) | exact HB.out)⟩
    · rw [if_neg c9] at H
      exact absurd H (by simp)

/-- THE ONE PURE STATEMENT of scarflaw05_InstrTypes: yours. -/
def scarflaw05_InstrTypes.Pure : Prop := ∀ (a0 : ByteArray), a0.size ≤ 140737488351232 → ∃ k, scarflaw05_InstrTypes.f k a0 = some true
theorem scarflaw05_InstrTypes.walk (P : scarflaw05_InstrTypes.Pure) (a0 : ByteArray) (w : World) (w0 : a0.size ≤ 140737488351232) :
    Calls Try.prog 9 #[.string a0] w fun e w' => e = .returned (.bool true) ∧ Below w.heap.size w w' := by
  obtain ⟨k, h⟩ := P a0 w0
  refine (scarflaw05_InstrTypes.calls k a0 true w h).mono ?_
  rintro e w' ⟨rfl, hd⟩
  exact ⟨rfl, hd⟩

end Go.Proofs.Ytckhlbpjehbnlaa.PB

namespace Go.Proofs.Ytckhlbpjehbnlaa.Str
set_option linter.unusedVariables false
set_option linter.unusedSimpArgs false
open Go.RowKit Go.Proofs.YtckhlbpjehbnlaaW.PrintWords Go.Proofs.YtckhlbpjehbnlaaW.PrintLast Go.Proofs.YtckhlbpjehbnlaaW.PrintMore

theorem data_inj {s t : ByteArray} (h : s.data.toList = t.data.toList) : s = t := by
  cases s; cases t
  simp only [ByteArray.mk.injEq]
  exact Array.toList_inj.1 h

theorem bytes_inj {s t : ByteArray} (h : bytesOf s = bytesOf t) : s = t := by
  apply data_inj
  unfold bytesOf at h
  have inj : ∀ (l m : List UInt8), l.map (fun b => (b.toNat : Int)) = m.map (fun b => (b.toNat : Int)) → l = m := by
    intro l
    induction l with
    | nil => intro m h; cases m with
      | nil => rfl
      | cons => simp at h
    | cons a l ih => intro m h; cases m with
      | nil => simp at h
      | cons b m =>
        simp only [List.map_cons, List.cons.injEq] at h
        have e : a = b := UInt8.toNat_inj.1 (by have := h.1; omega)
        rw [e, ih m h.2]
  exact inj _ _ h

theorem toList_iff {s t : ByteArray} : s.toList = t.toList ↔ s = t := by
  constructor
  · intro h
    rw [ByteArray.toList_eq, ByteArray.toList_eq] at h
    exact data_inj h
  · rintro rfl; rfl

theorem size_bytes (s : ByteArray) : s.size = (bytesOf s).length := (bytesOf_length s).symm

theorem bytes_append (s t : ByteArray) : bytesOf (s ++ t) = bytesOf s ++ bytesOf t := by
  unfold bytesOf
  rw [ByteArray.data_append, Array.toList_append, List.map_append]

theorem bytes_extract (s : ByteArray) (a b : Nat) : bytesOf (s.extract a b) = ((bytesOf s).take b).drop a := by
  unfold bytesOf
  rw [ByteArray.data_extract, Array.toList_extract]
  simp [List.map_take, List.map_drop, List.take_drop]
  by_cases h : a ≤ b
  · congr 2; omega
  · rw [show b - a = 0 by omega]
    simp
    omega

theorem bytes_rest (s : ByteArray) (a : Nat) : bytesOf (s.extract a s.size) = (bytesOf s).drop a := by
  rw [bytes_extract, size_bytes, List.take_length]

theorem bytes_head (s : ByteArray) (b : Nat) : bytesOf (s.extract 0 b) = (bytesOf s).take b := by
  rw [bytes_extract, List.drop_zero]

theorem bytes_range (s : ByteArray) : ∀ x ∈ bytesOf s, 0 ≤ x ∧ x < 256 := by
  intro x hx
  unfold bytesOf at hx
  obtain ⟨b, _, rfl⟩ := List.mem_map.1 hx
  have := b.toNat_lt
  omega

theorem bytes_of {l : List Int} (h : ∀ x ∈ l, 0 ≤ x ∧ x < 256) : bytesOf (strOfNums l) = l := by
  unfold bytesOf
  rw [strOfNums_data, List.map_map]
  conv => rhs; rw [← List.map_id l]
  apply List.map_congr_left
  intro x hx
  have := h x hx
  simp only [Function.comp, id, UInt8.toNat_ofNat']
  omega

theorem str_of (s : ByteArray) : strOfNums (bytesOf s) = s := bytes_inj (bytes_of (bytes_range s))

theorem bytes_empty : bytesOf (⟨#[]⟩ : ByteArray) = [] := rfl

theorem bt_get (s : ByteArray) (i : Int) : bt s i = (bytesOf s).getD i.toNat 0 := by
  rw [← rd_bytesOf]; rfl

theorem bt_nat (s : ByteArray) (i : Nat) : bt s (i : Int) = (bytesOf s).getD i 0 := by
  rw [bt_get]; rfl

theorem nums_inj {l m : List Int} (hl : ∀ x ∈ l, 0 ≤ x ∧ x < 256) (hm : ∀ x ∈ m, 0 ≤ x ∧ x < 256) (h : strOfNums l = strOfNums m) : l = m := by
  rw [← bytes_of hl, ← bytes_of hm, h]

theorem drop_cons {l : List Int} {i : Nat} (h : i < l.length) : l.drop i = l.getD i 0 :: l.drop (i + 1) := by
  rw [List.drop_eq_getElem_cons h]
  congr 1
  simp [List.getD, List.getElem?_eq_getElem h]

theorem getD_mem {l : List Int} {i : Nat} (h : i < l.length) : l.getD i 0 ∈ l := by
  simp [List.getD, List.getElem?_eq_getElem h]

theorem strOfNums_append (l m : List Int) : strOfNums (l ++ m) = strOfNums l ++ strOfNums m := by
  apply data_inj
  rw [ByteArray.data_append, Array.toList_append, strOfNums_data, strOfNums_data, strOfNums_data, List.map_append]

theorem bytes_nil_iff {s : ByteArray} : bytesOf s = [] ↔ s.size = 0 := by
  rw [size_bytes]; exact List.length_eq_zero_iff.symm

/-- Whole numbers of 64 bits. -/
theorem wf64 {n : Int} (h : (Lit.int .i64 n).wf = true) : -9223372036854775808 ≤ n ∧ n < 9223372036854775808 := by
  simp [Lit.wf, IntKind.min, IntKind.max, IntKind.bits, IntKind.signed] at h
  omega

theorem wrap64_id {n : Int} (h0 : -9223372036854775808 ≤ n) (h1 : n < 9223372036854775808) : wrap64 n = n := by
  unfold wrap64; omega

theorem pow128 {i j : Nat} (h : i ≤ j) : (128 : Int) ^ i ≤ 128 ^ j := by
  have : (128 : Nat) ^ i ≤ 128 ^ j := Nat.pow_le_pow_right (by omega) h
  exact_mod_cast this

end Go.Proofs.Ytckhlbpjehbnlaa.Str

namespace Go.Proofs.Ytckhlbpjehbnlaa.PB
open Go.RowKit Go.Proofs.YtckhlbpjehbnlaaW.PrintWords Go.Proofs.YtckhlbpjehbnlaaW.PrintLast Go.Proofs.YtckhlbpjehbnlaaW.PrintMore

def aw1 : List S54 := [(⟨65, (-1), 0, 0, ([] : List Int), ([] : List (S54)), ([] : List (S54))⟩ : S54), (⟨26, 0, 0, 0, ([] : List Int), ([] : List (S54)), ([] : List (S54))⟩ : S54)]
def aw2 : List S54 := [(⟨4, (-64), 0, 0, ([] : List Int), (([(⟨1, 0, 0, 0, ([] : List Int), ([] : List (S54)), ([] : List (S54))⟩ : S54)] : List (S54))), (([(⟨15, 0, 0, 0, ([] : List Int), ([] : List (S54)), ([] : List (S54))⟩ : S54)] : List (S54)))⟩ : S54)]
theorem aw_c1 : instr_Count.f 1000000 aw1 = some (2, true) := at_rounds (instr_Count.mono aw1) (k := 60) (by omega) (by decide +kernel)
theorem aw_c2 : instr_Count.f 1000000 aw2 = some (3, true) := at_rounds (instr_Count.mono aw2) (k := 60) (by omega) (by decide +kernel)
theorem aw_p1 : putF 60 aw1 = some (strOfNums [65, 127, 26]) := by decide +kernel
theorem aw_p2 : putF 60 aw2 = some (strOfNums [4, 64, 1, 5, 15, 11]) := by decide +kernel
theorem aw_q1 : instr_Put.f aw1 = some (strOfNums [65, 127, 26, 11], 0) := by
  unfold instr_Put.f
  rw [aw_c1, Option.bind_some, if_pos rfl, aw_p1, Option.bind_some]
  decide +kernel
theorem aw_q2 : instr_Put.f aw2 = some (strOfNums [4, 64, 1, 5, 15, 11, 11], 0) := by
  unfold instr_Put.f
  rw [aw_c2, Option.bind_some, if_pos rfl, aw_p2, Option.bind_some]
  decide +kernel
theorem aw_t1 : ∃ x, instr_Take.f (⟨#[67, 0, 0, 0, 0, 11]⟩ : ByteArray) = some x ∧ x.2.2 = 3 := by
  have h : (instr_Take.f (⟨#[67, 0, 0, 0, 0, 11]⟩ : ByteArray)).map (fun x => x.2.2) = some 3 := by decide +kernel
  obtain ⟨x, h1, h2⟩ := Option.map_eq_some_iff.mp h
  exact ⟨x, h1, h2⟩
theorem aw_t2 : ∃ x, instr_Take.f (strOfNums [65, 127, 26, 11] ++ (⟨#[122]⟩ : ByteArray)) = some x ∧ x.1.length = 2 ∧ x.2.1.toList = ([122] : List UInt8) ∧ x.2.2 = 0 := by
  have h : (instr_Take.f (strOfNums [65, 127, 26, 11] ++ (⟨#[122]⟩ : ByteArray))).map (fun x => (x.1.length, x.2.1.toList, x.2.2)) = some (2, ([122] : List UInt8), 0) := by decide +kernel
  obtain ⟨x, h1, h2⟩ := Option.map_eq_some_iff.mp h
  simp only [Prod.mk.injEq] at h2
  exact ⟨x, h1, h2⟩
theorem awake_ok (k : Nat) : scarflaw05_awake.f (k + 1) = some true := by
  obtain ⟨x1, h1, e1⟩ := aw_t1
  obtain ⟨x2, h2, e2, e3, e4⟩ := aw_t2
  have b1 : (strOfNums [65, 127, 26, 11]).toList = ([65, 127, 26, 11] : List UInt8) := by decide +kernel
  have b2 : (strOfNums [4, 64, 1, 5, 15, 11, 11]).toList = ([4, 64, 1, 5, 15, 11, 11] : List UInt8) := by decide +kernel
  have b3 : (strOfNums [65, 127, 26, 11]).size + 1 ≤ 9223372036854775807 := by decide +kernel
  have q1 := aw_q1
  have q2 := aw_q2
  unfold aw1 at q1
  unfold aw2 at q2
  unfold scarflaw05_awake.f
  rw [q1, Option.bind_some, q2, Option.bind_some, h1, Option.bind_some]
  simp only [b3, if_true, h2, Option.bind_some, b1, b2, e1, e2, e3, e4, scarflaw05_awake.j0]
  rfl

end Go.Proofs.Ytckhlbpjehbnlaa.PB

namespace Go.Proofs.Ytckhlbpjehbnlaa.PB
open Go.RowKit Go.Proofs.YtckhlbpjehbnlaaW.PrintWords Go.Proofs.YtckhlbpjehbnlaaW.PrintLast Go.Proofs.YtckhlbpjehbnlaaW.PrintMore

def tyS (c : Int) : Int × Int := if c = 127 ∨ c = 126 ∨ c = 112 then (c, 0) else if c = 125 ∨ c = 124 then (0, 3) else if c = 123 then (0, 4) else (0, 2)
theorem ty1 (c : Int) : instr_Type.f 20 c = some (tyS c) := by
  by_cases h1 : c = 127
  · subst h1; decide +kernel
  by_cases h2 : c = 126
  · subst h2; decide +kernel
  by_cases h3 : c = 112
  · subst h3; decide +kernel
  by_cases h4 : c = 125
  · subst h4; decide +kernel
  by_cases h5 : c = 124
  · subst h5; decide +kernel
  by_cases h6 : c = 123
  · subst h6; decide +kernel
  simp [instr_Type.f, instr_Type.j0, instr_Type.j1, tyS, h1, h2, h3, h4, h5, h6]
theorem one3 (c : Int) (h1 : ¬ c = 127) (h2 : ¬ c = 126) (h3 : ¬ c = 112) : scarfref05_one.f 20 c [127, 126, 112] = some false := by
  have q1 : ¬ (127 : Int) = c := fun h => h1 h.symm
  have q2 : ¬ (126 : Int) = c := fun h => h2 h.symm
  have q3 : ¬ (112 : Int) = c := fun h => h3 h.symm
  simp [scarfref05_one.f, scarfref05_one.l0, rd, wrap64, q1, q2, q3]
theorem ty2 (c : Int) : scarfref05_Type.f 20 c = some (tyS c) := by
  by_cases h1 : c = 127
  · subst h1; decide +kernel
  by_cases h2 : c = 126
  · subst h2; decide +kernel
  by_cases h3 : c = 112
  · subst h3; decide +kernel
  by_cases h4 : c = 125
  · subst h4; decide +kernel
  by_cases h5 : c = 124
  · subst h5; decide +kernel
  by_cases h6 : c = 123
  · subst h6; decide +kernel
  simp [scarfref05_Type.f, scarfref05_Type.j0, one3 c h1 h2 h3, tyS, h1, h2, h3, h4, h5, h6]
theorem types : scarflaw05_InstrTypes.Pure := by
  intro a0 _
  refine ⟨20, ?_⟩
  unfold scarflaw05_InstrTypes.f instr_TakeType.f
  by_cases h0 : a0.toList = []
  · simp [h0, awake_ok 19]
  · have hs : 0 < (a0.size : Int) := by
      rcases Nat.eq_zero_or_pos a0.size with h | h
      · exact absurd (by rw [ByteArray.toList_eq]; exact List.length_eq_zero_iff.mp (by rw [Array.length_toList]; exact h)) h0
      · omega
    have hs1 : 1 ≤ (a0.size : Int) := by omega
    simp only [if_neg h0, if_pos hs, if_pos hs1, ty1, ty2, Option.bind_some]
    by_cases h2 : (tyS (wrap64 (bt a0 0))).2 = 0
    · simp [h2, awake_ok 19]
    · simp [h2, awake_ok 19]

end Go.Proofs.Ytckhlbpjehbnlaa.PB

namespace Go.Proofs.Ytckhlbpjehbnlaa.Pure
open Go.RowKit Go.Proofs.Ytckhlbpjehbnlaa.PB Go.Proofs.YtckhlbpjehbnlaaW.PrintWords Go.Proofs.YtckhlbpjehbnlaaW.PrintLast

theorem InstrTypes : scarflaw05_InstrTypes.Pure :=
  Go.Proofs.Ytckhlbpjehbnlaa.PB.types

end Go.Proofs.Ytckhlbpjehbnlaa.Pure
