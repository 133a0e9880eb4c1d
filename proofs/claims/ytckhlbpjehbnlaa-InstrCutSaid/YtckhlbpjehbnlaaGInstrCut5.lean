/- Several texts of this session, laid into one for a claim: PBx42, PBx62, Str, LebS, InstrL, InstrSh, InstrB. -/
import Derived.Test.YtckhlbpjehbnlaaGInstrCut0
import Derived.Test.YtckhlbpjehbnlaaGInstrCut3
import Derived.Test.YtckhlbpjehbnlaaGInstrCut4
import Derived.Test.YtckhlbpjehbnlaaWMore
import Derived.Test.YtckhlbpjehbnlaaGInstrCut2
namespace Go.Proofs.Ytckhlbpjehbnlaa.PB
open Go.RowKit Go.Proofs.YtckhlbpjehbnlaaW.PrintWords Go.Proofs.YtckhlbpjehbnlaaW.PrintLast Go.Proofs.YtckhlbpjehbnlaaW.PrintMore
attribute [local go_sem] max2_int min2_int max_two min_two max_three min_three max_four min_four   -- for this text's walks alone
set_option linter.unusedVariables false
set_option linter.unusedSimpArgs false

/-! ### scarflaw05_awake: function 14 -/
def scarflaw05_awake.j0 : Nat → Bool → Option (Bool)
  | 0, _ => none
  | k + 1, x0 => some x0
def scarflaw05_awake.f (k : Nat)  : Option (Bool) := (instr_Put.f (([(⟨65, (-1), 0, 0, ([] : List Int), ([] : List (S54)), ([] : List (S54))⟩ : S54), (⟨26, 0, 0, 0, ([] : List Int), ([] : List (S54)), ([] : List (S54))⟩ : S54)] : List (S54)))).bind fun bt244 => ((instr_Put.f (([(⟨4, (-64), 0, 0, ([] : List Int), (([(⟨1, 0, 0, 0, ([] : List Int), ([] : List (S54)), ([] : List (S54))⟩ : S54)] : List (S54))), (([(⟨15, 0, 0, 0, ([] : List Int), ([] : List (S54)), ([] : List (S54))⟩ : S54)] : List (S54)))⟩ : S54)] : List (S54)))).bind fun bt255 => ((instr_Take.f (⟨#[67, 0, 0, 0, 0, 11]⟩ : ByteArray)).bind fun bt257 => (if bt244.1.size + 1 ≤ 9223372036854775807 then ((instr_Take.f (bt244.1 ++ (⟨#[122]⟩ : ByteArray))).bind fun bt262 => (if bt244.1.toList = ([65, 127, 26, 11] : List UInt8) then (if bt244.2 = 0 then (if bt255.1.toList = ([4, 64, 1, 5, 15, 11, 11] : List UInt8) then (if bt255.2 = 0 then (if bt257.2.2 = 3 then (if (bt262.1.length : Int) = 2 then (if bt262.2.1.toList = ([122] : List UInt8) then (scarflaw05_awake.j0 k (bt262.2.2 == 0)) else (scarflaw05_awake.j0 k false)) else (scarflaw05_awake.j0 k false)) else (scarflaw05_awake.j0 k false)) else (scarflaw05_awake.j0 k false)) else (scarflaw05_awake.j0 k false)) else (scarflaw05_awake.j0 k false)) else (scarflaw05_awake.j0 k false))) else (none))))
theorem scarflaw05_awake.mono_l : ∀ k, (∀ y0, LeO (scarflaw05_awake.j0 k y0) (scarflaw05_awake.j0 (k + 1) y0))
  | 0 => fun _ r h => by simp [scarflaw05_awake.j0] at h
  | k + 1 => by
    have ih0 := scarflaw05_awake.mono_l k
    · intro y0
      unfold scarflaw05_awake.j0
      repeat' first
      | (with_reducible exact ih0 _)
      | (with_reducible exact LeO.refl _)
      | (with_reducible exact LeO.none _)
      | (with_reducible refine LeO.ite ?_ ?_)
      | (with_reducible refine LeO.bind ?_ (fun _ => ?_))
      | exact ih0 _
      | exact LeO.none _
      | refine LeO.ite ?_ ?_
      | refine LeO.bind ?_ (fun _ => ?_)
theorem scarflaw05_awake.mono : ∀ k, LeO (scarflaw05_awake.f k ) (scarflaw05_awake.f (k + 1) ) := by
  intro  k
  have ih0 := scarflaw05_awake.mono_l k
  unfold scarflaw05_awake.f
  repeat' first
      | (with_reducible exact ih0 _)
      | (with_reducible exact LeO.refl _)
      | (with_reducible exact LeO.none _)
      | (with_reducible refine LeO.ite ?_ ?_)
      | (with_reducible refine LeO.bind ?_ (fun _ => ?_))
      | exact ih0 _
      | exact LeO.none _
      | refine LeO.ite ?_ ?_
      | refine LeO.bind ?_ (fun _ => ?_)
set_option maxHeartbeats 8000000 in
set_option maxRecDepth 100000 in
theorem scarflaw05_awake.calls (k : Nat)  (r : Bool) (w : World) (h : scarflaw05_awake.f k  = some r) :
    Calls Try.prog 14 #[] w fun e w' => e = .returned (.bool r) ∧ Below w.heap.size w w' := by
  have hu54 := Try.underlying54
  have HB := Aside0.mk (Below.refl w.heap.size w)
  have H : ((instr_Put.f (([(⟨65, (-1), 0, 0, ([] : List Int), ([] : List (S54)), ([] : List (S54))⟩ : S54), (⟨26, 0, 0, 0, ([] : List Int), ([] : List (S54)), ([] : List (S54))⟩ : S54)] : List (S54)))).bind fun bt244 => ((instr_Put.f (([(⟨4, (-64), 0, 0, ([] : List Int), (([(⟨1, 0, 0, 0, ([] : List Int), ([] : List (S54)), ([] : List (S54))⟩ : S54)] : List (S54))), (([(⟨15, 0, 0, 0, ([] : List Int), ([] : List (S54)), ([] : List (S54))⟩ : S54)] : List (S54)))⟩ : S54)] : List (S54)))).bind fun bt255 => ((instr_Take.f (⟨#[67, 0, 0, 0, 0, 11]⟩ : ByteArray)).bind fun bt257 => (if bt244.1.size + 1 ≤ 9223372036854775807 then ((instr_Take.f (bt244.1 ++ (⟨#[122]⟩ : ByteArray))).bind fun bt262 => (if bt244.1.toList = ([65, 127, 26, 11] : List UInt8) then (if bt244.2 = 0 then (if bt255.1.toList = ([4, 64, 1, 5, 15, 11, 11] : List UInt8) then (if bt255.2 = 0 then (if bt257.2.2 = 3 then (if (bt262.1.length : Int) = 2 then (if bt262.2.1.toList = ([122] : List UInt8) then (scarflaw05_awake.j0 k (bt262.2.2 == 0)) else (scarflaw05_awake.j0 k false)) else (scarflaw05_awake.j0 k false)) else (scarflaw05_awake.j0 k false)) else (scarflaw05_awake.j0 k false)) else (scarflaw05_awake.j0 k false)) else (scarflaw05_awake.j0 k false)) else (scarflaw05_awake.j0 k false))) else (none))))) = some r := h
  clear h
  obtain ⟨y241, hy241⟩ : ∃ y_ : List (S54), y_ = (([(⟨65, (-1), 0, 0, ([] : List Int), ([] : List (S54)), ([] : List (S54))⟩ : S54), (⟨26, 0, 0, 0, ([] : List Int), ([] : List (S54)), ([] : List (S54))⟩ : S54)] : List (S54))) := ⟨_, rfl⟩
  replace H : ((instr_Put.f y241).bind fun bt244 => ((instr_Put.f (([(⟨4, (-64), 0, 0, ([] : List Int), (([(⟨1, 0, 0, 0, ([] : List Int), ([] : List (S54)), ([] : List (S54))⟩ : S54)] : List (S54))), (([(⟨15, 0, 0, 0, ([] : List Int), ([] : List (S54)), ([] : List (S54))⟩ : S54)] : List (S54)))⟩ : S54)] : List (S54)))).bind fun bt255 => ((instr_Take.f (⟨#[67, 0, 0, 0, 0, 11]⟩ : ByteArray)).bind fun bt257 => (if bt244.1.size + 1 ≤ 9223372036854775807 then ((instr_Take.f (bt244.1 ++ (⟨#[122]⟩ : ByteArray))).bind fun bt262 => (if bt244.1.toList = ([65, 127, 26, 11] : List UInt8) then (if bt244.2 = 0 then (if bt255.1.toList = ([4, 64, 1, 5, 15, 11, 11] : List UInt8) then (if bt255.2 = 0 then (if bt257.2.2 = 3 then (if (bt262.1.length : Int) = 2 then (if bt262.2.1.toList = ([122] : List UInt8) then (scarflaw05_awake.j0 k (bt262.2.2 == 0)) else (scarflaw05_awake.j0 k false)) else (scarflaw05_awake.j0 k false)) else (scarflaw05_awake.j0 k false)) else (scarflaw05_awake.j0 k false)) else (scarflaw05_awake.j0 k false)) else (scarflaw05_awake.j0 k false)) else (scarflaw05_awake.j0 k false))) else (none))))) = some r := by first | (rw [hy241]; with_reducible exact H) | (have H2_ := (Option.bind_some _ _).symm.trans H; rw [hy241]; with_reducible exact H2_) | (have H2_ := (Option.bind_some _ _).symm.trans H; with_reducible exact H2_) | with_reducible exact H | (rw [hy241]; exact H) | exact H
  have Ny241 := Aside0.mk hy241
  clear hy241
  replace H := Option.bind_eq_some_iff.mp H
  obtain ⟨⟨t244, t245⟩, A10, H⟩ := H
  replace H : ((instr_Put.f (([(⟨4, (-64), 0, 0, ([] : List Int), (([(⟨1, 0, 0, 0, ([] : List Int), ([] : List (S54)), ([] : List (S54))⟩ : S54)] : List (S54))), (([(⟨15, 0, 0, 0, ([] : List Int), ([] : List (S54)), ([] : List (S54))⟩ : S54)] : List (S54)))⟩ : S54)] : List (S54)))).bind fun bt255 => ((instr_Take.f (⟨#[67, 0, 0, 0, 0, 11]⟩ : ByteArray)).bind fun bt257 => (if t244.size + 1 ≤ 9223372036854775807 then ((instr_Take.f (t244 ++ (⟨#[122]⟩ : ByteArray))).bind fun bt262 => (if t244.toList = ([65, 127, 26, 11] : List UInt8) then (if t245 = 0 then (if bt255.1.toList = ([4, 64, 1, 5, 15, 11, 11] : List UInt8) then (if bt255.2 = 0 then (if bt257.2.2 = 3 then (if (bt262.1.length : Int) = 2 then (if bt262.2.1.toList = ([122] : List UInt8) then (scarflaw05_awake.j0 k (bt262.2.2 == 0)) else (scarflaw05_awake.j0 k false)) else (scarflaw05_awake.j0 k false)) else (scarflaw05_awake.j0 k false)) else (scarflaw05_awake.j0 k false)) else (scarflaw05_awake.j0 k false)) else (scarflaw05_awake.j0 k false)) else (scarflaw05_awake.j0 k false))) else (none)))) = some r := H
  have A1 := Aside0.mk A10
  clear A10
  obtain ⟨y246, hy246⟩ : ∃ y_ : List (S54), y_ = (([(⟨1, 0, 0, 0, ([] : List Int), ([] : List (S54)), ([] : List (S54))⟩ : S54)] : List (S54))) := ⟨_, rfl⟩
  replace H : ((instr_Put.f (([(⟨4, (-64), 0, 0, ([] : List Int), y246, (([(⟨15, 0, 0, 0, ([] : List Int), ([] : List (S54)), ([] : List (S54))⟩ : S54)] : List (S54)))⟩ : S54)] : List (S54)))).bind fun bt255 => ((instr_Take.f (⟨#[67, 0, 0, 0, 0, 11]⟩ : ByteArray)).bind fun bt257 => (if t244.size + 1 ≤ 9223372036854775807 then ((instr_Take.f (t244 ++ (⟨#[122]⟩ : ByteArray))).bind fun bt262 => (if t244.toList = ([65, 127, 26, 11] : List UInt8) then (if t245 = 0 then (if bt255.1.toList = ([4, 64, 1, 5, 15, 11, 11] : List UInt8) then (if bt255.2 = 0 then (if bt257.2.2 = 3 then (if (bt262.1.length : Int) = 2 then (if bt262.2.1.toList = ([122] : List UInt8) then (scarflaw05_awake.j0 k (bt262.2.2 == 0)) else (scarflaw05_awake.j0 k false)) else (scarflaw05_awake.j0 k false)) else (scarflaw05_awake.j0 k false)) else (scarflaw05_awake.j0 k false)) else (scarflaw05_awake.j0 k false)) else (scarflaw05_awake.j0 k false)) else (scarflaw05_awake.j0 k false))) else (none)))) = some r := by first | (rw [hy246]; with_reducible exact H) | (have H2_ := (Option.bind_some _ _).symm.trans H; rw [hy246]; with_reducible exact H2_) | (have H2_ := (Option.bind_some _ _).symm.trans H; with_reducible exact H2_) | with_reducible exact H | (rw [hy246]; exact H) | exact H
  have Ny246 := Aside0.mk hy246
  clear hy246
  obtain ⟨y249, hy249⟩ : ∃ y_ : List (S54), y_ = (([(⟨15, 0, 0, 0, ([] : List Int), ([] : List (S54)), ([] : List (S54))⟩ : S54)] : List (S54))) := ⟨_, rfl⟩
  replace H : ((instr_Put.f (([(⟨4, (-64), 0, 0, ([] : List Int), y246, y249⟩ : S54)] : List (S54)))).bind fun bt255 => ((instr_Take.f (⟨#[67, 0, 0, 0, 0, 11]⟩ : ByteArray)).bind fun bt257 => (if t244.size + 1 ≤ 9223372036854775807 then ((instr_Take.f (t244 ++ (⟨#[122]⟩ : ByteArray))).bind fun bt262 => (if t244.toList = ([65, 127, 26, 11] : List UInt8) then (if t245 = 0 then (if bt255.1.toList = ([4, 64, 1, 5, 15, 11, 11] : List UInt8) then (if bt255.2 = 0 then (if bt257.2.2 = 3 then (if (bt262.1.length : Int) = 2 then (if bt262.2.1.toList = ([122] : List UInt8) then (scarflaw05_awake.j0 k (bt262.2.2 == 0)) else (scarflaw05_awake.j0 k false)) else (scarflaw05_awake.j0 k false)) else (scarflaw05_awake.j0 k false)) else (scarflaw05_awake.j0 k false)) else (scarflaw05_awake.j0 k false)) else (scarflaw05_awake.j0 k false)) else (scarflaw05_awake.j0 k false))) else (none)))) = some r := by first | (rw [hy249]; with_reducible exact H) | (have H2_ := (Option.bind_some _ _).symm.trans H; rw [hy249]; with_reducible exact H2_) | (have H2_ := (Option.bind_some _ _).symm.trans H; with_reducible exact H2_) | with_reducible exact H | (rw [hy249]; exact H) | exact H
  have Ny249 := Aside0.mk hy249
  clear hy249
  obtain ⟨y252, hy252⟩ : ∃ y_ : List (S54), y_ = (([(⟨4, (-64), 0, 0, ([] : List Int), y246, y249⟩ : S54)] : List (S54))) := ⟨_, rfl⟩
  replace H : ((instr_Put.f y252).bind fun bt255 => ((instr_Take.f (⟨#[67, 0, 0, 0, 0, 11]⟩ : ByteArray)).bind fun bt257 => (if t244.size + 1 ≤ 9223372036854775807 then ((instr_Take.f (t244 ++ (⟨#[122]⟩ : ByteArray))).bind fun bt262 => (if t244.toList = ([65, 127, 26, 11] : List UInt8) then (if t245 = 0 then (if bt255.1.toList = ([4, 64, 1, 5, 15, 11, 11] : List UInt8) then (if bt255.2 = 0 then (if bt257.2.2 = 3 then (if (bt262.1.length : Int) = 2 then (if bt262.2.1.toList = ([122] : List UInt8) then (scarflaw05_awake.j0 k (bt262.2.2 == 0)) else (scarflaw05_awake.j0 k false)) else (scarflaw05_awake.j0 k false)) else (scarflaw05_awake.j0 k false)) else (scarflaw05_awake.j0 k false)) else (scarflaw05_awake.j0 k false)) else (scarflaw05_awake.j0 k false)) else (scarflaw05_awake.j0 k false))) else (none)))) = some r := by first | (rw [hy252]; with_reducible exact H) | (have H2_ := (Option.bind_some _ _).symm.trans H; rw [hy252]; with_reducible exact H2_) | (have H2_ := (Option.bind_some _ _).symm.trans H; with_reducible exact H2_) | with_reducible exact H | (rw [hy252]; exact H) | exact H
  have Ny252 := Aside0.mk hy252
  clear hy252
  replace H := Option.bind_eq_some_iff.mp H
  obtain ⟨⟨t255, t256⟩, A20, H⟩ := H
  replace H : ((instr_Take.f (⟨#[67, 0, 0, 0, 0, 11]⟩ : ByteArray)).bind fun bt257 => (if t244.size + 1 ≤ 9223372036854775807 then ((instr_Take.f (t244 ++ (⟨#[122]⟩ : ByteArray))).bind fun bt262 => (if t244.toList = ([65, 127, 26, 11] : List UInt8) then (if t245 = 0 then (if t255.toList = ([4, 64, 1, 5, 15, 11, 11] : List UInt8) then (if t256 = 0 then (if bt257.2.2 = 3 then (if (bt262.1.length : Int) = 2 then (if bt262.2.1.toList = ([122] : List UInt8) then (scarflaw05_awake.j0 k (bt262.2.2 == 0)) else (scarflaw05_awake.j0 k false)) else (scarflaw05_awake.j0 k false)) else (scarflaw05_awake.j0 k false)) else (scarflaw05_awake.j0 k false)) else (scarflaw05_awake.j0 k false)) else (scarflaw05_awake.j0 k false)) else (scarflaw05_awake.j0 k false))) else (none))) = some r := H
  have A2 := Aside0.mk A20
  clear A20
  replace H := Option.bind_eq_some_iff.mp H
  obtain ⟨⟨t257, t258, t259⟩, A30, H⟩ := H
  replace H : (if t244.size + 1 ≤ 9223372036854775807 then ((instr_Take.f (t244 ++ (⟨#[122]⟩ : ByteArray))).bind fun bt262 => (if t244.toList = ([65, 127, 26, 11] : List UInt8) then (if t245 = 0 then (if t255.toList = ([4, 64, 1, 5, 15, 11, 11] : List UInt8) then (if t256 = 0 then (if t259 = 3 then (if (bt262.1.length : Int) = 2 then (if bt262.2.1.toList = ([122] : List UInt8) then (scarflaw05_awake.j0 k (bt262.2.2 == 0)) else (scarflaw05_awake.j0 k false)) else (scarflaw05_awake.j0 k false)) else (scarflaw05_awake.j0 k false)) else (scarflaw05_awake.j0 k false)) else (scarflaw05_awake.j0 k false)) else (scarflaw05_awake.j0 k false)) else (scarflaw05_awake.j0 k false))) else (none)) = some r := H
  have A3 := Aside0.mk A30
  clear A30
  by_cases c4 : t244.size + 1 ≤ 9223372036854775807
  · rw [if_pos c4] at H
    have c4b0 := eq_true c4
    have c4b1 : decide (t244.size + 1 ≤ 9223372036854775807) = true := decide_eq_true c4
    try have c4b2 : (9223372036854775807 < t244.size + 1) = False := eq_false (Nat.not_lt.2 c4)
    replace H := Option.bind_eq_some_iff.mp H
    obtain ⟨⟨t262, t263, t264⟩, A50, H⟩ := H
    replace H : (if t244.toList = ([65, 127, 26, 11] : List UInt8) then (if t245 = 0 then (if t255.toList = ([4, 64, 1, 5, 15, 11, 11] : List UInt8) then (if t256 = 0 then (if t259 = 3 then (if (t262.length : Int) = 2 then (if t263.toList = ([122] : List UInt8) then (scarflaw05_awake.j0 k (t264 == 0)) else (scarflaw05_awake.j0 k false)) else (scarflaw05_awake.j0 k false)) else (scarflaw05_awake.j0 k false)) else (scarflaw05_awake.j0 k false)) else (scarflaw05_awake.j0 k false)) else (scarflaw05_awake.j0 k false)) else (scarflaw05_awake.j0 k false)) = some r := H
    have A5 := Aside0.mk A50
    clear A50
    have HC6 := Aside0.mk H
    clear H
    go_enter Try.func14, Try.ntmps14
    go_upto_region 5 with (first | ((with_reducible refine gate_dst (N := 14) rfl ?_); (try (refine gate_guard (by rfl) ?_; dsimp only)); refine Kd.N_lit k54 _ 54 ?hg (N' := 14) ?hd (xs := ([(⟨65, (-1), 0, 0, ([] : List Int), ([] : List (S54)), ([] : List (S54))⟩ : S54), (⟨26, 0, 0, 0, ([] : List Int), ([] : List (S54)), ([] : List (S54))⟩ : S54)] : List (S54))) (inner := [.int .i64 65, .int .i64 (-1), .int .i64 0, .int .i64 0, .slice none 0 0, .slice none 0 0, .slice none 0 0, .int .i64 26, .int .i64 0, .int .i64 0, .int .i64 0, .slice none 0 0, .slice none 0 0, .slice none 0 0]) (ok := (fun _ => True)) (okp := (fun _ => True)) ?hr ?hp (fun _ hk => hk) ((show ∀ k_, w.heap.size ≤ k_ → (fun _ => True) k_ from fun k_ hk => trivial) _ (Nat.le_refl _)) (Below.refl _ _) (Nat.le_refl _) (by simp) ?_; (case hd => rfl); (case hg => rfl); (case hr => first | (go_simp; done) | (go_simp; rfl)); (case hp => exact (Reps.c7 (show Kd.FK k54 _ _ (⟨65, (-1), 0, 0, ([] : List Int), ([] : List (S54)), ([] : List (S54))⟩ : S54) [.int .i64 65, .int .i64 (-1), .int .i64 0, .int .i64 0, .slice none 0 0, .slice none 0 0, .slice none 0 0] from (k54_mkF _ _ (⟨65, (-1), 0, 0, ([] : List Int), ([] : List (S54)), ([] : List (S54))⟩ : S54) (Nat.le_refl _) (Kd.F_nil _ _ _) (Nat.le_refl _) (Kd.F_nil _ _ _) (Nat.le_refl _) (Kd.F_nil _ _ _))) (Reps.c7 (show Kd.FK k54 _ _ (⟨26, 0, 0, 0, ([] : List Int), ([] : List (S54)), ([] : List (S54))⟩ : S54) [.int .i64 26, .int .i64 0, .int .i64 0, .int .i64 0, .slice none 0 0, .slice none 0 0, .slice none 0 0] from (k54_mkF _ _ (⟨26, 0, 0, 0, ([] : List Int), ([] : List (S54)), ([] : List (S54))⟩ : S54) (Nat.le_refl _) (Kd.F_nil _ _ _) (Nat.le_refl _) (Kd.F_nil _ _ _) (Nat.le_refl _) (Kd.F_nil _ _ _))) (Reps.none _ _)))); intro v242 w7 ho8 hb hg_ hnew_; clear hg_ hnew_; (first | rw [← Ny241.out] at ho8 | (simp only [Int.reduceToNat] at ho8; rw [← Ny241.out] at ho8)); have n0_ := Aside0.mk (Kd.N_lower ho8 (below_size (by repeat (first | (with_reducible first | exact HB.out | apply below_alloc | apply pw_below_drewN | apply below_drew1) | exact HB.out)))); have n1_ := Aside0.mk (below_step (by repeat (first | (with_reducible first | exact HB.out | apply below_alloc | apply pw_below_drewN | apply below_drew1) | exact HB.out)) hb); clear HB; have HO243 := n0_; have HB := n1_; clear n0_ n1_; clear hb ho8; obtain ⟨Ao9, co9, eo9⟩ := Kd.N_slice HO243.out; subst eo9) | ((with_reducible refine gate_callee (f := 15) rfl ?_); refine goesL_ (some 15) rfl rfl Try.func15 (by kernel_rfl) rfl #[.slice Ao9 y241.length co9] rfl (by (try simp only [List.map_toArray, List.map_cons, List.map_nil]); first | done | rfl | (simp only [List.length_drop, List.length_take]; rfl)) ?_; (with_reducible refine (instr_Put.calls _ _ y241 t244 t245 _ ?side1 ?side2 A1.out).mono ?_); (case side1 => repeat (first | exact (Kd.N_reads' HO243.out).2.2 | (with_reducible refine Kd.C_alloc ?_ _) | (with_reducible refine Kd.C_drewN ?_ _) | (with_reducible refine Kd.C_drew ?_))); (case side2 => exact (Kd.N_reads' HO243.out).2.1); rintro e w10 ⟨rfl, hb⟩; refine ⟨_, rfl, ?_⟩; have n0_ := Aside0.mk (Kd.N_below (by (with_reducible repeat (first | apply Kd.N_alloc | apply Kd.N_drewN | apply Kd.N_drew)); exact HO243.out) hb); have n1_ := Aside0.mk (below_step (by repeat (first | (with_reducible first | exact HB.out | apply below_alloc | apply pw_below_drewN | apply below_drew1) | exact HB.out)) hb); clear HO243; clear HB; have HO243 := n0_; have HB := n1_; clear n0_ n1_; (try clear hb); (try clear hb2); (try clear hk); (try clear hi)) | ((with_reducible refine gate_dst (N := 20) rfl ?_); (try (refine gate_guard (by rfl) ?_; dsimp only)); refine Kd.N_lit k54 _ 54 ?hg (N' := 20) ?hd (xs := ([(⟨1, 0, 0, 0, ([] : List Int), ([] : List (S54)), ([] : List (S54))⟩ : S54)] : List (S54))) (inner := [.int .i64 1, .int .i64 0, .int .i64 0, .int .i64 0, .slice none 0 0, .slice none 0 0, .slice none 0 0]) (ok := (fun k_ => some k_ ≠ (.slice Ao9 y241.length co9 : Value).ownBlock)) (okp := (fun k_ => some k_ ≠ (.slice Ao9 y241.length co9 : Value).ownBlock)) ?hr ?hp (fun _ hk => hk) ((show ∀ k_, w10.heap.size ≤ k_ → (fun k_ => some k_ ≠ (.slice Ao9 y241.length co9 : Value).ownBlock) k_ from fun k_ hk => Kd.fresh' (Kd.N_lt (by (with_reducible repeat (first | apply Kd.N_alloc | apply Kd.N_drewN | apply Kd.N_drew)); exact HO243.out)) k_ hk) _ (Nat.le_refl _)) (Below.refl _ _) (Nat.le_refl _) (by simp) ?_; (case hd => rfl); (case hg => rfl); (case hr => first | (go_simp; done) | (go_simp; rfl)); (case hp => exact (Reps.c7 (show Kd.FK k54 _ _ (⟨1, 0, 0, 0, ([] : List Int), ([] : List (S54)), ([] : List (S54))⟩ : S54) [.int .i64 1, .int .i64 0, .int .i64 0, .int .i64 0, .slice none 0 0, .slice none 0 0, .slice none 0 0] from (k54_mkF _ _ (⟨1, 0, 0, 0, ([] : List Int), ([] : List (S54)), ([] : List (S54))⟩ : S54) (Nat.le_refl _) (Kd.F_nil _ _ _) (Nat.le_refl _) (Kd.F_nil _ _ _) (Nat.le_refl _) (Kd.F_nil _ _ _))) (Reps.none _ _))); intro v247 w11 ho12 hb hg_ hnew_; clear hg_ hnew_; (first | rw [← Ny246.out] at ho12 | (simp only [Int.reduceToNat] at ho12; rw [← Ny246.out] at ho12)); have n0_ := Aside0.mk (Kd.N_elder' (by (with_reducible repeat (first | apply Kd.N_alloc | apply Kd.N_drewN | apply Kd.N_drew)); exact HO243.out) (by first | exact Kd.N_base ho12 | exact Kd.R_base ho12) hb); have n1_ := Aside0.mk (Kd.N_lower ho12 (below_size (by repeat (first | (with_reducible first | exact HB.out | apply below_alloc | apply pw_below_drewN | apply below_drew1) | exact HB.out)))); have n2_ := Aside0.mk (below_step (by repeat (first | (with_reducible first | exact HB.out | apply below_alloc | apply pw_below_drewN | apply below_drew1) | exact HB.out)) hb); clear HO243; clear HB; have HO243 := n0_; have HO248 := n1_; have HB := n2_; clear n0_ n1_ n2_; clear hb ho12) | ((with_reducible refine gate_dst (N := 22) rfl ?_); (try (refine gate_guard (by rfl) ?_; dsimp only)); refine Kd.N_lit k54 _ 54 ?hg (N' := 22) ?hd (xs := ([(⟨15, 0, 0, 0, ([] : List Int), ([] : List (S54)), ([] : List (S54))⟩ : S54)] : List (S54))) (inner := [.int .i64 15, .int .i64 0, .int .i64 0, .int .i64 0, .slice none 0 0, .slice none 0 0, .slice none 0 0]) (ok := (fun k_ => some k_ ≠ (.slice Ao9 y241.length co9 : Value).ownBlock ∧ some k_ ≠ (v247 : Value).ownBlock)) (okp := (fun k_ => some k_ ≠ (.slice Ao9 y241.length co9 : Value).ownBlock ∧ some k_ ≠ (v247 : Value).ownBlock)) ?hr ?hp (fun _ hk => hk) ((show ∀ k_, w11.heap.size ≤ k_ → (fun k_ => some k_ ≠ (.slice Ao9 y241.length co9 : Value).ownBlock ∧ some k_ ≠ (v247 : Value).ownBlock) k_ from fun k_ hk => ⟨Kd.fresh' (Kd.N_lt (by (with_reducible repeat (first | apply Kd.N_alloc | apply Kd.N_drewN | apply Kd.N_drew)); exact HO243.out)) k_ hk, Kd.fresh' (Kd.N_lt (by (with_reducible repeat (first | apply Kd.N_alloc | apply Kd.N_drewN | apply Kd.N_drew)); exact HO248.out)) k_ hk⟩) _ (Nat.le_refl _)) (Below.refl _ _) (Nat.le_refl _) (by simp) ?_; (case hd => rfl); (case hg => rfl); (case hr => first | (go_simp; done) | (go_simp; rfl)); (case hp => exact (Reps.c7 (show Kd.FK k54 _ _ (⟨15, 0, 0, 0, ([] : List Int), ([] : List (S54)), ([] : List (S54))⟩ : S54) [.int .i64 15, .int .i64 0, .int .i64 0, .int .i64 0, .slice none 0 0, .slice none 0 0, .slice none 0 0] from (k54_mkF _ _ (⟨15, 0, 0, 0, ([] : List Int), ([] : List (S54)), ([] : List (S54))⟩ : S54) (Nat.le_refl _) (Kd.F_nil _ _ _) (Nat.le_refl _) (Kd.F_nil _ _ _) (Nat.le_refl _) (Kd.F_nil _ _ _))) (Reps.none _ _))); intro v250 w13 ho14 hb hg_ hnew_; clear hg_ hnew_; (first | rw [← Ny249.out] at ho14 | (simp only [Int.reduceToNat] at ho14; rw [← Ny249.out] at ho14)); have n0_ := Aside0.mk (Kd.N_elder' (by (with_reducible repeat (first | apply Kd.N_alloc | apply Kd.N_drewN | apply Kd.N_drew)); exact HO243.out) (by first | exact Kd.N_base ho14 | exact Kd.R_base ho14) hb); have n1_ := Aside0.mk (Kd.N_elder' (by (with_reducible repeat (first | apply Kd.N_alloc | apply Kd.N_drewN | apply Kd.N_drew)); exact HO248.out) (by first | exact Kd.N_base ho14 | exact Kd.R_base ho14) hb); have n2_ := Aside0.mk (Kd.N_lower ho14 (below_size (by repeat (first | (with_reducible first | exact HB.out | apply below_alloc | apply pw_below_drewN | apply below_drew1) | exact HB.out)))); have n3_ := Aside0.mk (below_step (by repeat (first | (with_reducible first | exact HB.out | apply below_alloc | apply pw_below_drewN | apply below_drew1) | exact HB.out)) hb); clear HO243; clear HO248; clear HB; have HO243 := n0_; have HO248 := n1_; have HO251 := n2_; have HB := n3_; clear n0_ n1_ n2_ n3_; clear hb ho14; obtain ⟨Ao15, co15, eo15⟩ := Kd.N_slice HO251.out; subst eo15; obtain ⟨Ao16, co16, eo16⟩ := Kd.N_slice HO248.out; subst eo16) | ((with_reducible refine gate_dst (N := 24) rfl ?_); (try (refine gate_guard (by rfl) ?_; dsimp only)); refine Kd.N_lit k54 _ 54 ?hg (N' := 24) ?hd (xs := ([(⟨4, (-64), 0, 0, ([] : List Int), y246, y249⟩ : S54)] : List (S54))) (inner := [.int .i64 4, .int .i64 (-64), .int .i64 0, .int .i64 0, .slice none 0 0, .slice Ao16 y246.length co16, .slice Ao15 y249.length co15]) (ok := (fun k_ => some k_ ≠ (.slice Ao9 y241.length co9 : Value).ownBlock)) (okp := (fun k_ => some k_ ≠ (.slice Ao9 y241.length co9 : Value).ownBlock)) ?hr ?hp (fun _ hk => hk) ((show ∀ k_, w13.heap.size ≤ k_ → (fun k_ => some k_ ≠ (.slice Ao9 y241.length co9 : Value).ownBlock) k_ from fun k_ hk => Kd.fresh' (Kd.N_lt (by (with_reducible repeat (first | apply Kd.N_alloc | apply Kd.N_drewN | apply Kd.N_drew)); exact HO243.out)) k_ hk) _ (Nat.le_refl _)) (Below.refl _ _) (Nat.le_refl _) (by simp) ?_; (case hd => rfl); (case hg => rfl); (case hr => first | (go_simp; done) | (go_simp; rfl)); (case hp => exact (Reps.c7 (show Kd.FK k54 _ _ (⟨4, (-64), 0, 0, ([] : List Int), y246, y249⟩ : S54) [.int .i64 4, .int .i64 (-64), .int .i64 0, .int .i64 0, .slice none 0 0, .slice Ao16 y246.length co16, .slice Ao15 y249.length co15] from (k54_mkF _ _ (⟨4, (-64), 0, 0, ([] : List Int), y246, y249⟩ : S54) (Nat.le_refl _) (Kd.F_nil _ _ _) (Kd.N_reads' (Kd.N_mono (ok' := (fun k_ => some k_ ≠ (.slice Ao9 y241.length co9 : Value).ownBlock)) (HO248.out) (fun k_ hk => hk.1))).2.1 (Kd.N_F (Kd.N_mono (ok' := (fun k_ => some k_ ≠ (.slice Ao9 y241.length co9 : Value).ownBlock)) (HO248.out) (fun k_ hk => hk.1))) (Kd.N_reads' (Kd.N_mono (ok' := (fun k_ => some k_ ≠ (.slice Ao9 y241.length co9 : Value).ownBlock)) (HO251.out) (fun k_ hk => hk.1))).2.1 (Kd.N_F (Kd.N_mono (ok' := (fun k_ => some k_ ≠ (.slice Ao9 y241.length co9 : Value).ownBlock)) (HO251.out) (fun k_ hk => hk.1))))) (Reps.none _ _))); intro v253 w17 ho18 hb hg_ hnew_; clear hg_ hnew_; (first | rw [← Ny252.out] at ho18 | (simp only [Int.reduceToNat] at ho18; rw [← Ny252.out] at ho18)); have n0_ := Aside0.mk (Kd.N_elder' (by (with_reducible repeat (first | apply Kd.N_alloc | apply Kd.N_drewN | apply Kd.N_drew)); exact HO243.out) (by first | exact Kd.N_base ho18 | exact Kd.R_base ho18) hb); have n1_ := Aside0.mk (Kd.N_lower ho18 (below_size (by repeat (first | (with_reducible first | exact HB.out | apply below_alloc | apply pw_below_drewN | apply below_drew1) | exact HB.out)))); have n2_ := Aside0.mk (below_step (by repeat (first | (with_reducible first | exact HB.out | apply below_alloc | apply pw_below_drewN | apply below_drew1) | exact HB.out)) hb); clear HO243; clear HB; clear HO248; clear HO251; have HO243 := n0_; have HO254 := n1_; have HB := n2_; clear n0_ n1_ n2_; clear hb ho18; obtain ⟨Ao19, co19, eo19⟩ := Kd.N_slice HO254.out; subst eo19) | ((with_reducible refine gate_callee (f := 15) rfl ?_); refine goesL_ (some 25) rfl rfl Try.func15 (by kernel_rfl) rfl #[.slice Ao19 y252.length co19] rfl (by (try simp only [List.map_toArray, List.map_cons, List.map_nil]); first | done | rfl | (simp only [List.length_drop, List.length_take]; rfl)) ?_; (with_reducible refine (instr_Put.calls _ _ y252 t255 t256 _ ?side1 ?side2 A2.out).mono ?_); (case side1 => repeat (first | exact (Kd.N_reads' HO254.out).2.2 | (with_reducible refine Kd.C_alloc ?_ _) | (with_reducible refine Kd.C_drewN ?_ _) | (with_reducible refine Kd.C_drew ?_))); (case side2 => exact (Kd.N_reads' HO254.out).2.1); rintro e w20 ⟨rfl, hb⟩; refine ⟨_, rfl, ?_⟩; have n0_ := Aside0.mk (Kd.N_below (by (with_reducible repeat (first | apply Kd.N_alloc | apply Kd.N_drewN | apply Kd.N_drew)); exact HO243.out) hb); have n1_ := Aside0.mk (Kd.N_below (by (with_reducible repeat (first | apply Kd.N_alloc | apply Kd.N_drewN | apply Kd.N_drew)); exact HO254.out) hb); have n2_ := Aside0.mk (below_step (by repeat (first | (with_reducible first | exact HB.out | apply below_alloc | apply pw_below_drewN | apply below_drew1) | exact HB.out)) hb); clear HO243; clear HO254; clear HB; have HO243 := n0_; have HO254 := n1_; have HB := n2_; clear n0_ n1_ n2_; (try clear hb); (try clear hb2); (try clear hk); (try clear hi)) | ((with_reducible refine gate_callee (f := 19) rfl ?_); refine goesL_ (some 29) rfl rfl Try.func19 (by kernel_rfl) rfl #[.string (⟨#[67, 0, 0, 0, 0, 11]⟩ : ByteArray)] rfl (by (try simp only [List.map_toArray, List.map_cons, List.map_nil]); first | done | rfl | (simp only [List.length_drop, List.length_take]; rfl)) ?_; (with_reducible refine (instr_Take.calls (⟨#[67, 0, 0, 0, 0, 11]⟩ : ByteArray) t257 t258 t259 _ A3.out).mono ?_); rintro e w21 ⟨v260, rfl, ho0, hb⟩; refine ⟨_, rfl, ?_⟩; have n0_ := Aside0.mk (Kd.N_elder' (by (with_reducible repeat (first | apply Kd.N_alloc | apply Kd.N_drewN | apply Kd.N_drew)); exact HO243.out) (by first | exact Kd.N_base ho0 | exact Kd.R_base ho0) hb); have n1_ := Aside0.mk (Kd.N_elder' (by (with_reducible repeat (first | apply Kd.N_alloc | apply Kd.N_drewN | apply Kd.N_drew)); exact HO254.out) (by first | exact Kd.N_base ho0 | exact Kd.R_base ho0) hb); have n2_ := Aside0.mk (Kd.N_lower (Kd.N_mono (ok' := fun k_ => some k_ ≠ (.slice Ao9 y241.length co9 : Value).ownBlock ∧ some k_ ≠ (.slice Ao19 y252.length co19 : Value).ownBlock) (Kd.R_N (Kd.R_bound ho0)) (fun k_ hk_ => ⟨(Kd.fresh' (Kd.N_lt (by (with_reducible repeat (first | apply Kd.N_alloc | apply Kd.N_drewN | apply Kd.N_drew)); exact HO243.out)) k_ hk_.2.1), (Kd.fresh' (Kd.N_lt (by (with_reducible repeat (first | apply Kd.N_alloc | apply Kd.N_drewN | apply Kd.N_drew)); exact HO254.out)) k_ hk_.2.1)⟩)) (below_size (by repeat (first | (with_reducible first | exact HB.out | apply below_alloc | apply pw_below_drewN | apply below_drew1) | exact HB.out)))); have n3_ := Aside0.mk (below_step (by repeat (first | (with_reducible first | exact HB.out | apply below_alloc | apply pw_below_drewN | apply below_drew1) | exact HB.out)) hb); clear HO243; clear HO254; clear HB; have HO243 := n0_; have HO254 := n1_; have HO261 := n2_; have HB := n3_; clear n0_ n1_ n2_ n3_; (try clear hb); (try clear hb2); (try clear hk); (try clear hi); (try clear ho0)) | ((with_reducible refine gate_callee (f := 19) rfl ?_); refine goesL_ (some 36) rfl rfl Try.func19 (by kernel_rfl) rfl #[.string (t244 ++ (⟨#[122]⟩ : ByteArray))] rfl (by (try simp only [List.map_toArray, List.map_cons, List.map_nil]); first | done | rfl | (simp only [List.length_drop, List.length_take]; rfl)) ?_; (with_reducible refine (instr_Take.calls (t244 ++ (⟨#[122]⟩ : ByteArray)) t262 t263 t264 _ A5.out).mono ?_); rintro e w22 ⟨v265, rfl, ho0, hb⟩; refine ⟨_, rfl, ?_⟩; have n0_ := Aside0.mk (Kd.N_elder' (by (with_reducible repeat (first | apply Kd.N_alloc | apply Kd.N_drewN | apply Kd.N_drew)); exact HO243.out) (by first | exact Kd.N_base ho0 | exact Kd.R_base ho0) hb); have n1_ := Aside0.mk (Kd.N_elder' (by (with_reducible repeat (first | apply Kd.N_alloc | apply Kd.N_drewN | apply Kd.N_drew)); exact HO254.out) (by first | exact Kd.N_base ho0 | exact Kd.R_base ho0) hb); have n2_ := Aside0.mk (Kd.N_elder' (by (with_reducible repeat (first | apply Kd.N_alloc | apply Kd.N_drewN | apply Kd.N_drew)); exact HO261.out) (by first | exact Kd.N_base ho0 | exact Kd.R_base ho0) hb); have n3_ := Aside0.mk (Kd.N_lower (Kd.N_mono (ok' := fun k_ => some k_ ≠ (.slice Ao9 y241.length co9 : Value).ownBlock ∧ some k_ ≠ (.slice Ao19 y252.length co19 : Value).ownBlock ∧ some k_ ≠ (v260 : Value).ownBlock) (Kd.R_N (Kd.R_bound ho0)) (fun k_ hk_ => ⟨(Kd.fresh' (Kd.N_lt (by (with_reducible repeat (first | apply Kd.N_alloc | apply Kd.N_drewN | apply Kd.N_drew)); exact HO243.out)) k_ hk_.2.1), (Kd.fresh' (Kd.N_lt (by (with_reducible repeat (first | apply Kd.N_alloc | apply Kd.N_drewN | apply Kd.N_drew)); exact HO254.out)) k_ hk_.2.1), (Kd.fresh' (Kd.N_lt (by (with_reducible repeat (first | apply Kd.N_alloc | apply Kd.N_drewN | apply Kd.N_drew)); exact HO261.out)) k_ hk_.2.1)⟩)) (below_size (by repeat (first | (with_reducible first | exact HB.out | apply below_alloc | apply pw_below_drewN | apply below_drew1) | exact HB.out)))); have n4_ := Aside0.mk (below_step (by repeat (first | (with_reducible first | exact HB.out | apply below_alloc | apply pw_below_drewN | apply below_drew1) | exact HB.out)) hb); clear HO243; clear HO254; clear HO261; clear HB; have HO243 := n0_; have HO254 := n1_; have HO261 := n2_; have HO266 := n3_; have HB := n4_; clear n0_ n1_ n2_ n3_ n4_; (try clear hb); (try clear hb2); (try clear hk); (try clear hi); (try clear ho0)))
    (try simp only [Act.put, List.setIfInBounds_toArray, List.set_cons_zero, List.set_cons_succ])
    go_cut [0] (fun v0 wc => ∃ (kq : Nat) (x0_5 : Bool), v0 = .bool x0_5 ∧ Aside0 (scarflaw05_awake.j0 kq x0_5 = some r) ∧ Aside0 (kq ≤ k) ∧ Aside0 (Below w.heap.size w wc))
    case first =>
      have H := HC6.out
      clear HC6
      by_cases c23 : t244.toList = ([65, 127, 26, 11] : List UInt8)
      · rw [if_pos c23] at H
        have c23b0 : (t244.toList == ([65, 127, 26, 11] : List UInt8)) = true := beq_iff_eq.mpr c23
        have c23b1 : (t244.toList != ([65, 127, 26, 11] : List UInt8)) = false := bne_eq_false_iff_eq.mpr c23
        clear c23
        (first | rw [c23b0] | (simp only [i64_w, i32_w]; rw [c23b0]) | skip)
        by_cases c24 : t245 = 0
        · rw [if_pos c24] at H
          have c24b0 : (t245 == 0) = true := beq_iff_eq.mpr c24
          have c24b1 : (t245 != 0) = false := bne_eq_false_iff_eq.mpr c24
          clear c24
          by_cases c25 : t255.toList = ([4, 64, 1, 5, 15, 11, 11] : List UInt8)
          · rw [if_pos c25] at H
            have c25b0 : (t255.toList == ([4, 64, 1, 5, 15, 11, 11] : List UInt8)) = true := beq_iff_eq.mpr c25
            have c25b1 : (t255.toList != ([4, 64, 1, 5, 15, 11, 11] : List UInt8)) = false := bne_eq_false_iff_eq.mpr c25
            clear c25
            by_cases c26 : t256 = 0
            · rw [if_pos c26] at H
              have c26b0 : (t256 == 0) = true := beq_iff_eq.mpr c26
              have c26b1 : (t256 != 0) = false := bne_eq_false_iff_eq.mpr c26
              clear c26
              by_cases c27 : t259 = 3
              · rw [if_pos c27] at H
                have c27b0 : (t259 == 3) = true := beq_iff_eq.mpr c27
                have c27b1 : (t259 != 3) = false := bne_eq_false_iff_eq.mpr c27
                clear c27
                by_cases c28 : (t262.length : Int) = 2
                · rw [if_pos c28] at H
                  have c28b0 : ((t262.length : Int) == 2) = true := beq_iff_eq.mpr c28
                  have c28b1 : ((t262.length : Int) != 2) = false := bne_eq_false_iff_eq.mpr c28
                  clear c28
                  by_cases c29 : t263.toList = ([122] : List UInt8)
                  · rw [if_pos c29] at H
                    have c29b0 : (t263.toList == ([122] : List UInt8)) = true := beq_iff_eq.mpr c29
                    have c29b1 : (t263.toList != ([122] : List UInt8)) = false := bne_eq_false_iff_eq.mpr c29
                    clear c29
                    have H' := Aside0.mk H
                    clear H
                    obtain ⟨Ao30, co30, eo30⟩ := Kd.N_slice HO266.out
                    subst eo30
                    go_wp2
                    go_meet
                    case rel => exact ⟨_, ((t264 == 0)), (by first | rfl | (simp; done) | (simp [*]; done)), H', ⟨by first | omega | exact Nat.le_refl _⟩, ⟨by repeat (first | (with_reducible first | exact HB.out | apply below_alloc | apply pw_below_drewN | apply below_drew1) | exact HB.out)⟩⟩
                  · rw [if_neg c29] at H
                    have c29b0 : (t263.toList == ([122] : List UInt8)) = false := beq_eq_false_iff_ne.mpr c29
                    have c29b1 : (t263.toList != ([122] : List UInt8)) = true := bne_iff_ne.mpr c29
                    have H' := Aside0.mk H
                    clear H
                    obtain ⟨Ao31, co31, eo31⟩ := Kd.N_slice HO266.out
                    subst eo31
                    go_wp2
                    go_meet
                    case rel => exact ⟨_, (false), (by first | rfl | (simp; done) | (simp [*]; done)), H', ⟨by first | omega | exact Nat.le_refl _⟩, ⟨by repeat (first | (with_reducible first | exact HB.out | apply below_alloc | apply pw_below_drewN | apply below_drew1) | exact HB.out)⟩⟩
                · rw [if_neg c28] at H
                  have c28b0 : ((t262.length : Int) == 2) = false := beq_eq_false_iff_ne.mpr c28
                  have c28b1 : ((t262.length : Int) != 2) = true := bne_iff_ne.mpr c28
                  have H' := Aside0.mk H
                  clear H
                  obtain ⟨Ao32, co32, eo32⟩ := Kd.N_slice HO266.out
                  subst eo32
                  go_wp2
                  go_meet
                  case rel => exact ⟨_, (false), (by first | rfl | (simp; done) | (simp [*]; done)), H', ⟨by first | omega | exact Nat.le_refl _⟩, ⟨by repeat (first | (with_reducible first | exact HB.out | apply below_alloc | apply pw_below_drewN | apply below_drew1) | exact HB.out)⟩⟩
              · rw [if_neg c27] at H
                have c27b0 : (t259 == 3) = false := beq_eq_false_iff_ne.mpr c27
                have c27b1 : (t259 != 3) = true := bne_iff_ne.mpr c27
                have H' := Aside0.mk H
                clear H
                go_wp2
                go_meet
                case rel => exact ⟨_, (false), (by first | rfl | (simp; done) | (simp [*]; done)), H', ⟨by first | omega | exact Nat.le_refl _⟩, ⟨by repeat (first | (with_reducible first | exact HB.out | apply below_alloc | apply pw_below_drewN | apply below_drew1) | exact HB.out)⟩⟩
            · rw [if_neg c26] at H
              have c26b0 : (t256 == 0) = false := beq_eq_false_iff_ne.mpr c26
              have c26b1 : (t256 != 0) = true := bne_iff_ne.mpr c26
              have H' := Aside0.mk H
              clear H
              go_wp2
              go_meet
              case rel => exact ⟨_, (false), (by first | rfl | (simp; done) | (simp [*]; done)), H', ⟨by first | omega | exact Nat.le_refl _⟩, ⟨by repeat (first | (with_reducible first | exact HB.out | apply below_alloc | apply pw_below_drewN | apply below_drew1) | exact HB.out)⟩⟩
          · rw [if_neg c25] at H
            have c25b0 : (t255.toList == ([4, 64, 1, 5, 15, 11, 11] : List UInt8)) = false := beq_eq_false_iff_ne.mpr c25
            have c25b1 : (t255.toList != ([4, 64, 1, 5, 15, 11, 11] : List UInt8)) = true := bne_iff_ne.mpr c25
            have H' := Aside0.mk H
            clear H
            go_wp2
            go_meet
            case rel => exact ⟨_, (false), (by first | rfl | (simp; done) | (simp [*]; done)), H', ⟨by first | omega | exact Nat.le_refl _⟩, ⟨by repeat (first | (with_reducible first | exact HB.out | apply below_alloc | apply pw_below_drewN | apply below_drew1) | exact HB.out)⟩⟩
        · rw [if_neg c24] at H
          have c24b0 : (t245 == 0) = false := beq_eq_false_iff_ne.mpr c24
          have c24b1 : (t245 != 0) = true := bne_iff_ne.mpr c24
          have H' := Aside0.mk H
          clear H
          go_wp2
          go_meet
          case rel => exact ⟨_, (false), (by first | rfl | (simp; done) | (simp [*]; done)), H', ⟨by first | omega | exact Nat.le_refl _⟩, ⟨by repeat (first | (with_reducible first | exact HB.out | apply below_alloc | apply pw_below_drewN | apply below_drew1) | exact HB.out)⟩⟩
      · rw [if_neg c23] at H
        have c23b0 : (t244.toList == ([65, 127, 26, 11] : List UInt8)) = false := beq_eq_false_iff_ne.mpr c23
        have c23b1 : (t244.toList != ([65, 127, 26, 11] : List UInt8)) = true := bne_iff_ne.mpr c23
        (first | rw [c23b0] | (simp only [i64_w, i32_w]; rw [c23b0]) | skip)
        have H' := Aside0.mk H
        clear H
        go_wp2
        go_meet
        case rel => exact ⟨_, (false), (by first | rfl | (simp; done) | (simp [*]; done)), H', ⟨by first | omega | exact Nat.le_refl _⟩, ⟨by repeat (first | (with_reducible first | exact HB.out | apply below_alloc | apply pw_below_drewN | apply below_drew1) | exact HB.out)⟩⟩
    case rest =>
      clear HC6
      try clear c1
      try clear c2
      try clear p2
      try clear c4
      try clear c4b0
      try clear c4b1
      try clear c4b2
      try clear c7
      try clear c14
      try clear c15
      try clear c19
      try clear c23
      try clear c23b0
      try clear c23b1
      try clear c24
      try clear c24b0
      try clear c24b1
      try clear c25
      try clear c25b0
      try clear c25b1
      try clear c26
      try clear c26b0
      try clear c26b1
      try clear c27
      try clear c27b0
      try clear c27b1
      try clear c28
      try clear c28b0
      try clear c28b1
      try clear c29
      try clear c29b0
      try clear c29b1
      obtain ⟨kq, x0_5, rfl, HA, HJ5, HB⟩ := hcut
      cases kq with
      | zero => exact absurd HA.out (by simp [scarflaw05_awake.j0])
      | succ kj5 =>
        have H := HA.out
        clear HA
        simp only [scarflaw05_awake.j0] at H
        obtain rfl := Option.some.inj H
        go_wp2
        go_ret
        exact ⟨by first | rfl | (simp [errW_none, errW_some] <;> rfl) | (simp [*, errW_none, errW_some] <;> rfl), by repeat (first | (with_reducible first | exact HB.out | apply below_alloc | apply pw_below_drewN | apply below_drew1) | exact HB.out)⟩
  · rw [if_neg c4] at H
    exact absurd H (by simp)

end Go.Proofs.Ytckhlbpjehbnlaa.PB

namespace Go.Proofs.Ytckhlbpjehbnlaa.PB
open Go.RowKit Go.Proofs.YtckhlbpjehbnlaaW.PrintWords Go.Proofs.YtckhlbpjehbnlaaW.PrintLast Go.Proofs.YtckhlbpjehbnlaaW.PrintMore
attribute [local go_sem] max2_int min2_int max_two min_two max_three min_three max_four min_four   -- for this text's walks alone
set_option linter.unusedVariables false
set_option linter.unusedSimpArgs false

/-! ### scarflaw05_InstrCut: function 8 -/
def scarflaw05_InstrCut.j0 : Nat → Int → ByteArray → Bool → Option (Bool)
  | 0, _, _, _ => none
  | k + 1, x1, x5, x26 => if x26 = true then ((scarflaw05_awake.f k).bind fun t381 => (some t381)) else (if 0 ≤ x1 then (if x1 ≤ (x5.size : Int) then ((instr_Take.f (x5.extract 0 (x1 : Int).toNat)).bind fun bt382 => (if (bt382.1.length : Int) = 0 then (if bt382.2.1.toList = ([] : List UInt8) then (if bt382.2.2 = 2 then ((scarflaw05_awake.f k).bind fun t387 => (some t387)) else (some false)) else (some false)) else (some false))) else (none)) else (none))
def scarflaw05_InstrCut.f (k : Nat) (l0 : List (S54)) (a1 : Int) : Option (Bool) := (instr_Put.f l0).bind fun bt379 => (if bt379.2 = 0 then (if a1 < 0 then (scarflaw05_InstrCut.j0 k a1 bt379.1 true) else (scarflaw05_InstrCut.j0 k a1 bt379.1 (decide (a1 ≥ (bt379.1.size : Int))))) else (scarflaw05_InstrCut.j0 k a1 bt379.1 true))
theorem scarflaw05_InstrCut.mono_l : ∀ k, (∀ y0 y1 y2, LeO (scarflaw05_InstrCut.j0 k y0 y1 y2) (scarflaw05_InstrCut.j0 (k + 1) y0 y1 y2))
  | 0 => fun _ _ _ r h => by simp [scarflaw05_InstrCut.j0] at h
  | k + 1 => by
    have ih0 := scarflaw05_InstrCut.mono_l k
    · intro y0 y1 y2
      unfold scarflaw05_InstrCut.j0
      repeat' first
      | (with_reducible exact ih0 _ _ _)
      | (with_reducible exact scarflaw05_awake.mono _)
      | (with_reducible exact LeO.refl _)
      | (with_reducible exact LeO.none _)
      | (with_reducible refine LeO.ite ?_ ?_)
      | (with_reducible refine LeO.bind ?_ (fun _ => ?_))
      | exact ih0 _ _ _
      | exact scarflaw05_awake.mono _
      | exact LeO.none _
      | refine LeO.ite ?_ ?_
      | refine LeO.bind ?_ (fun _ => ?_)
theorem scarflaw05_InstrCut.mono : ∀ a0 a1 k, LeO (scarflaw05_InstrCut.f k a0 a1) (scarflaw05_InstrCut.f (k + 1) a0 a1) := by
  intro a0 a1 k
  have ih0 := scarflaw05_InstrCut.mono_l k
  unfold scarflaw05_InstrCut.f
  repeat' first
      | (with_reducible exact ih0 _ _ _)
      | (with_reducible exact scarflaw05_awake.mono _)
      | (with_reducible exact LeO.refl _)
      | (with_reducible exact LeO.none _)
      | (with_reducible refine LeO.ite ?_ ?_)
      | (with_reducible refine LeO.bind ?_ (fun _ => ?_))
      | exact ih0 _ _ _
      | exact scarflaw05_awake.mono _
      | exact LeO.none _
      | refine LeO.ite ?_ ?_
      | refine LeO.bind ?_ (fun _ => ?_)
set_option maxHeartbeats 8000000 in
set_option maxRecDepth 100000 in
theorem scarflaw05_InstrCut.calls (k : Nat) (A0 : Option Addr) (c0 : Nat) (l0 : List (S54)) (a1 : Int) (r : Bool) (w : World) (hr0 : Kd.C k54 w A0 l0.length l0) (hc0 : l0.length ≤ c0) (h : scarflaw05_InstrCut.f k l0 a1 = some r) :
    Calls Try.prog 8 #[.slice A0 l0.length c0, .int .i64 a1] w fun e w' => e = .returned (.bool r) ∧ Below w.heap.size w w' := by
  have HR0 := Aside0.mk hr0
  have HC0 := Aside0.mk hc0
  clear hr0 hc0
  have HB := Aside0.mk (Below.refl w.heap.size w)
  have H : ((instr_Put.f l0).bind fun bt379 => (if bt379.2 = 0 then (if a1 < 0 then (scarflaw05_InstrCut.j0 k a1 bt379.1 true) else (scarflaw05_InstrCut.j0 k a1 bt379.1 (decide (a1 ≥ (bt379.1.size : Int))))) else (scarflaw05_InstrCut.j0 k a1 bt379.1 true))) = some r := h
  clear h
  replace H := Option.bind_eq_some_iff.mp H
  obtain ⟨⟨t379, t380⟩, A30, H⟩ := H
  replace H : (if t380 = 0 then (if a1 < 0 then (scarflaw05_InstrCut.j0 k a1 t379 true) else (scarflaw05_InstrCut.j0 k a1 t379 (decide (a1 ≥ (t379.size : Int))))) else (scarflaw05_InstrCut.j0 k a1 t379 true)) = some r := H
  have A3 := Aside0.mk A30
  clear A30
  have HC4 := Aside0.mk H
  clear H
  go_enter Try.func8, Try.ntmps8
  go_upto_region 2 with (first | ((with_reducible refine gate_callee (f := 15) rfl ?_); refine goesL_ (some 12) rfl rfl Try.func15 (by kernel_rfl) rfl #[.slice A0 l0.length c0] rfl (by (try simp only [List.map_toArray, List.map_cons, List.map_nil]); first | done | rfl | (simp only [List.length_drop, List.length_take]; rfl)) ?_; (with_reducible refine (instr_Put.calls _ _ l0 t379 t380 _ ?side1 ?side2 A3.out).mono ?_); (case side1 => repeat (first | exact HR0.out | (with_reducible refine Kd.C_alloc ?_ _) | (with_reducible refine Kd.C_drewN ?_ _) | (with_reducible refine Kd.C_drew ?_))); (case side2 => exact HC0.out); rintro e w5 ⟨rfl, hb⟩; refine ⟨_, rfl, ?_⟩; have n0_ := Aside0.mk (below_step (by repeat (first | (with_reducible first | exact HB.out | apply below_alloc | apply pw_below_drewN | apply below_drew1) | exact HB.out)) hb); clear HB; have HB := n0_; clear n0_; (try clear hb); (try clear hb2); (try clear hk); (try clear hi)))
  (try simp only [Act.put, List.setIfInBounds_toArray, List.set_cons_zero, List.set_cons_succ])
  go_cut [26] (fun v26 wc => ∃ (kq : Nat) (x26_3 : Bool), v26 = .bool x26_3 ∧ Aside0 (scarflaw05_InstrCut.j0 kq a1 t379 x26_3 = some r) ∧ Aside0 (kq ≤ k) ∧ Aside0 (Below w.heap.size w wc))
  case first =>
    have H := HC4.out
    clear HC4
    by_cases c6 : t380 = 0
    · rw [if_pos c6] at H
      have c6b0 : (t380 == 0) = true := beq_iff_eq.mpr c6
      have c6b1 : (t380 != 0) = false := bne_eq_false_iff_eq.mpr c6
      clear c6
      (first | rw [c6b0] | (simp only [i64_w, i32_w]; rw [c6b0]) | skip)
      by_cases c7 : a1 < 0
      · rw [if_pos c7] at H
        have c7b0 : decide (a1 < 0) = true := decide_eq_true c7
        clear c7
        have H' := Aside0.mk H
        clear H
        go_wp2
        go_meet
        case rel => exact ⟨_, (true), (by first | rfl | (simp; done) | (simp [*]; done)), H', ⟨by first | omega | exact Nat.le_refl _⟩, ⟨by repeat (first | (with_reducible first | exact HB.out | apply below_alloc | apply pw_below_drewN | apply below_drew1) | exact HB.out)⟩⟩
      · rw [if_neg c7] at H
        have c7b0 : decide (a1 < 0) = false := decide_eq_false c7
        clear c7
        have H' := Aside0.mk H
        clear H
        go_wp2
        go_meet
        case rel => exact ⟨_, (decide (a1 ≥ (t379.size : Int))), (by first | rfl | (simp; done) | (simp [*]; done)), H', ⟨by first | omega | exact Nat.le_refl _⟩, ⟨by repeat (first | (with_reducible first | exact HB.out | apply below_alloc | apply pw_below_drewN | apply below_drew1) | exact HB.out)⟩⟩
    · rw [if_neg c6] at H
      have c6b0 : (t380 == 0) = false := beq_eq_false_iff_ne.mpr c6
      have c6b1 : (t380 != 0) = true := bne_iff_ne.mpr c6
      (first | rw [c6b0] | (simp only [i64_w, i32_w]; rw [c6b0]) | skip)
      have H' := Aside0.mk H
      clear H
      go_wp2
      go_meet
      case rel => exact ⟨_, (true), (by first | rfl | (simp; done) | (simp [*]; done)), H', ⟨by first | omega | exact Nat.le_refl _⟩, ⟨by repeat (first | (with_reducible first | exact HB.out | apply below_alloc | apply pw_below_drewN | apply below_drew1) | exact HB.out)⟩⟩
  case rest =>
    clear HC4
    try clear c1
    try clear p2
    try clear c6
    try clear c6b0
    try clear c6b1
    try clear c7
    try clear c7b0
    obtain ⟨kq, x26_3, rfl, HA, HJ3, HB⟩ := hcut
    cases kq with
    | zero => exact absurd HA.out (by simp [scarflaw05_InstrCut.j0])
    | succ kj3 =>
      have H := HA.out
      clear HA
      simp only [scarflaw05_InstrCut.j0] at H
      by_cases c8 : x26_3 = true
      · subst c8
        have H1 : ((scarflaw05_awake.f kj3).bind fun t381 => (some t381)) = some r := by rw [if_pos rfl] at H; exact H
        clear H
        have H := H1
        clear H1
        replace H := Option.bind_eq_some_iff.mp H
        obtain ⟨t381, A90, H⟩ := H
        replace H : (some t381) = some r := H
        have A9 := Aside0.mk A90
        clear A90
        obtain rfl := Option.some.inj H
        go_wp2_with (first | ((with_reducible refine gate_callee (f := 14) rfl ?_); refine goesL_ (some 27) rfl rfl Try.func14 (by kernel_rfl) rfl #[] rfl (by (try simp only [List.map_toArray, List.map_cons, List.map_nil]); first | done | rfl | (simp only [List.length_drop, List.length_take]; rfl)) ?_; (with_reducible refine (scarflaw05_awake.calls kj3  t381 _ A9.out).mono ?_); rintro e w10 ⟨rfl, hb⟩; refine ⟨_, rfl, ?_⟩; have n0_ := Aside0.mk (below_step (by repeat (first | (with_reducible first | exact HB.out | apply below_alloc | apply pw_below_drewN | apply below_drew1) | exact HB.out)) hb); clear HB; have HB := n0_; clear n0_; (try clear hb); (try clear hb2); (try clear hk); (try clear hi)))
        go_ret
        exact ⟨by first | rfl | (simp [errW_none, errW_some] <;> rfl) | (simp [*, errW_none, errW_some] <;> rfl), by repeat (first | (with_reducible first | exact HB.out | apply below_alloc | apply pw_below_drewN | apply below_drew1) | exact HB.out)⟩
      · replace c8 := Bool.eq_false_iff.mpr c8
        subst c8
        have H1 : (if 0 ≤ a1 then (if a1 ≤ (t379.size : Int) then ((instr_Take.f (t379.extract 0 (a1 : Int).toNat)).bind fun bt382 => (if (bt382.1.length : Int) = 0 then (if bt382.2.1.toList = ([] : List UInt8) then (if bt382.2.2 = 2 then ((scarflaw05_awake.f kj3).bind fun t387 => (some t387)) else (some false)) else (some false)) else (some false))) else (none)) else (none)) = some r := by rw [if_neg (show ¬ (false = true) by decide)] at H; exact H
        clear H
        have H := H1
        clear H1
        by_cases c11 : 0 ≤ a1
        · rw [if_pos c11] at H
          have c11b0 := eq_true c11
          have c11b1 : decide (0 ≤ a1) = true := decide_eq_true c11
          clear c11
          by_cases c12 : a1 ≤ (t379.size : Int)
          · rw [if_pos c12] at H
            have c12b0 := eq_true c12
            have c12b1 : decide (a1 ≤ (t379.size : Int)) = true := decide_eq_true c12
            clear c12
            replace H := Option.bind_eq_some_iff.mp H
            obtain ⟨⟨t382, t383, t384⟩, A130, H⟩ := H
            replace H : (if (t382.length : Int) = 0 then (if t383.toList = ([] : List UInt8) then (if t384 = 2 then ((scarflaw05_awake.f kj3).bind fun t387 => (some t387)) else (some false)) else (some false)) else (some false)) = some r := H
            have A13 := Aside0.mk A130
            clear A130
            by_cases c14 : (t382.length : Int) = 0
            · rw [if_pos c14] at H
              have c14b0 : ((t382.length : Int) == 0) = true := beq_iff_eq.mpr c14
              have c14b1 : ((t382.length : Int) != 0) = false := bne_eq_false_iff_eq.mpr c14
              clear c14
              by_cases c15 : t383.toList = ([] : List UInt8)
              · rw [if_pos c15] at H
                have c15b0 : (t383.toList == ([] : List UInt8)) = true := beq_iff_eq.mpr c15
                have c15b1 : (t383.toList != ([] : List UInt8)) = false := bne_eq_false_iff_eq.mpr c15
                clear c15
                by_cases c16 : t384 = 2
                · rw [if_pos c16] at H
                  have c16b0 : (t384 == 2) = true := beq_iff_eq.mpr c16
                  have c16b1 : (t384 != 2) = false := bne_eq_false_iff_eq.mpr c16
                  clear c16
                  replace H := Option.bind_eq_some_iff.mp H
                  obtain ⟨t387, A170, H⟩ := H
                  replace H : (some t387) = some r := H
                  have A17 := Aside0.mk A170
                  clear A170
                  obtain rfl := Option.some.inj H
                  go_wp2_with (first | ((with_reducible refine gate_callee (f := 19) rfl ?_); refine goesL_ (some 32) rfl rfl Try.func19 (by kernel_rfl) rfl #[.string (t379.extract 0 (a1 : Int).toNat)] rfl (by (try simp only [List.map_toArray, List.map_cons, List.map_nil]); first | done | rfl | (simp only [List.length_drop, List.length_take]; rfl)) ?_; (with_reducible refine (instr_Take.calls (t379.extract 0 (a1 : Int).toNat) t382 t383 t384 _ A13.out).mono ?_); rintro e w18 ⟨v385, rfl, ho0, hb⟩; refine ⟨_, rfl, ?_⟩; have n0_ := Aside0.mk (Kd.R_lower ho0 (below_size (by repeat (first | (with_reducible first | exact HB.out | apply below_alloc | apply pw_below_drewN | apply below_drew1) | exact HB.out)))); have n1_ := Aside0.mk (below_step (by repeat (first | (with_reducible first | exact HB.out | apply below_alloc | apply pw_below_drewN | apply below_drew1) | exact HB.out)) hb); clear HB; have HO386 := n0_; have HB := n1_; clear n0_ n1_; (try clear hb); (try clear hb2); (try clear hk); (try clear hi); (try clear ho0); obtain ⟨Ao19, co19, eo19⟩ := Kd.R_slice HO386.out; subst eo19) | (go_at_call 14; (with_reducible refine (scarflaw05_awake.calls kj3  t387 _ A17.out).mono ?_); rintro e w20 ⟨rfl, hb⟩; have n0_ := Aside0.mk (Kd.R_below (by (with_reducible repeat (first | apply Kd.R_alloc | apply Kd.R_drewN | apply Kd.R_drew)); exact HO386.out) hb); have n1_ := Aside0.mk (below_step (by repeat (first | (with_reducible first | exact HB.out | apply below_alloc | apply pw_below_drewN | apply below_drew1) | exact HB.out)) hb); clear HO386; clear HB; have HO386 := n0_; have HB := n1_; clear n0_ n1_; (try clear hb); (try clear hb2); (try clear hk); (try clear hi)))
                  go_ret
                  exact ⟨by first | rfl | (simp [errW_none, errW_some] <;> rfl) | (simp [*, errW_none, errW_some] <;> rfl), by repeat (first | (with_reducible first | exact HB.out | apply below_alloc | apply pw_below_drewN | apply below_drew1) | exact HB.out)⟩
                · rw [if_neg c16] at H
                  have c16b0 : (t384 == 2) = false := beq_eq_false_iff_ne.mpr c16
                  have c16b1 : (t384 != 2) = true := bne_iff_ne.mpr c16
                  obtain rfl := Option.some.inj H
                  go_wp2_with (first | ((with_reducible refine gate_callee (f := 19) rfl ?_); refine goesL_ (some 32) rfl rfl Try.func19 (by kernel_rfl) rfl #[.string (t379.extract 0 (a1 : Int).toNat)] rfl (by (try simp only [List.map_toArray, List.map_cons, List.map_nil]); first | done | rfl | (simp only [List.length_drop, List.length_take]; rfl)) ?_; (with_reducible refine (instr_Take.calls (t379.extract 0 (a1 : Int).toNat) t382 t383 t384 _ A13.out).mono ?_); rintro e w21 ⟨v385, rfl, ho0, hb⟩; refine ⟨_, rfl, ?_⟩; have n0_ := Aside0.mk (Kd.R_lower ho0 (below_size (by repeat (first | (with_reducible first | exact HB.out | apply below_alloc | apply pw_below_drewN | apply below_drew1) | exact HB.out)))); have n1_ := Aside0.mk (below_step (by repeat (first | (with_reducible first | exact HB.out | apply below_alloc | apply pw_below_drewN | apply below_drew1) | exact HB.out)) hb); clear HB; have HO386 := n0_; have HB := n1_; clear n0_ n1_; (try clear hb); (try clear hb2); (try clear hk); (try clear hi); (try clear ho0); obtain ⟨Ao22, co22, eo22⟩ := Kd.R_slice HO386.out; subst eo22))
                  go_ret
                  exact ⟨by first | rfl | (simp [errW_none, errW_some] <;> rfl) | (simp [*, errW_none, errW_some] <;> rfl), by repeat (first | (with_reducible first | exact HB.out | apply below_alloc | apply pw_below_drewN | apply below_drew1) | exact HB.out)⟩
              · rw [if_neg c15] at H
                have c15b0 : (t383.toList == ([] : List UInt8)) = false := beq_eq_false_iff_ne.mpr c15
                have c15b1 : (t383.toList != ([] : List UInt8)) = true := bne_iff_ne.mpr c15
                obtain rfl := Option.some.inj H
                go_wp2_with (first | ((with_reducible refine gate_callee (f := 19) rfl ?_); refine goesL_ (some 32) rfl rfl Try.func19 (by kernel_rfl) rfl #[.string (t379.extract 0 (a1 : Int).toNat)] rfl (by (try simp only [List.map_toArray, List.map_cons, List.map_nil]); first | done | rfl | (simp only [List.length_drop, List.length_take]; rfl)) ?_; (with_reducible refine (instr_Take.calls (t379.extract 0 (a1 : Int).toNat) t382 t383 t384 _ A13.out).mono ?_); rintro e w23 ⟨v385, rfl, ho0, hb⟩; refine ⟨_, rfl, ?_⟩; have n0_ := Aside0.mk (Kd.R_lower ho0 (below_size (by repeat (first | (with_reducible first | exact HB.out | apply below_alloc | apply pw_below_drewN | apply below_drew1) | exact HB.out)))); have n1_ := Aside0.mk (below_step (by repeat (first | (with_reducible first | exact HB.out | apply below_alloc | apply pw_below_drewN | apply below_drew1) | exact HB.out)) hb); clear HB; have HO386 := n0_; have HB := n1_; clear n0_ n1_; (try clear hb); (try clear hb2); (try clear hk); (try clear hi); (try clear ho0); obtain ⟨Ao24, co24, eo24⟩ := Kd.R_slice HO386.out; subst eo24))
                go_ret
                exact ⟨by first | rfl | (simp [errW_none, errW_some] <;> rfl) | (simp [*, errW_none, errW_some] <;> rfl), by repeat (first | (with_reducible first | exact HB.out | apply below_alloc | apply pw_below_drewN | apply below_drew1) | exact HB.out)⟩
            · rw [if_neg c14] at H
              have c14b0 : ((t382.length : Int) == 0) = false := beq_eq_false_iff_ne.mpr c14
              have c14b1 : ((t382.length : Int) != 0) = true := bne_iff_ne.mpr c14
              have c14b2 : ¬ (t382 = []) := fun h_ => c14 (by rw [h_]; rfl)
              obtain rfl := Option.some.inj H
              go_wp2_with (first | ((with_reducible refine gate_callee (f := 19) rfl ?_); refine goesL_ (some 32) rfl rfl Try.func19 (by kernel_rfl) rfl #[.string (t379.extract 0 (a1 : Int).toNat)] rfl (by (try simp only [List.map_toArray, List.map_cons, List.map_nil]); first | done | rfl | (simp only [List.length_drop, List.length_take]; rfl)) ?_; (with_reducible refine (instr_Take.calls (t379.extract 0 (a1 : Int).toNat) t382 t383 t384 _ A13.out).mono ?_); rintro e w25 ⟨v385, rfl, ho0, hb⟩; refine ⟨_, rfl, ?_⟩; have n0_ := Aside0.mk (Kd.R_lower ho0 (below_size (by repeat (first | (with_reducible first | exact HB.out | apply below_alloc | apply pw_below_drewN | apply below_drew1) | exact HB.out)))); have n1_ := Aside0.mk (below_step (by repeat (first | (with_reducible first | exact HB.out | apply below_alloc | apply pw_below_drewN | apply below_drew1) | exact HB.out)) hb); clear HB; have HO386 := n0_; have HB := n1_; clear n0_ n1_; (try clear hb); (try clear hb2); (try clear hk); (try clear hi); (try clear ho0); obtain ⟨Ao26, co26, eo26⟩ := Kd.R_slice HO386.out; subst eo26))
              go_ret
              exact ⟨by first | rfl | (simp [errW_none, errW_some] <;> rfl) | (simp [*, errW_none, errW_some] <;> rfl), by repeat (first | (with_reducible first | exact HB.out | apply below_alloc | apply pw_below_drewN | apply below_drew1) | exact HB.out)⟩
          · rw [if_neg c12] at H
            exact absurd H (by simp)
        · rw [if_neg c11] at H
          exact absurd H (by simp)

end Go.Proofs.Ytckhlbpjehbnlaa.PB

namespace Go.Proofs.Ytckhlbpjehbnlaa.Str
set_option linter.unusedVariables false
set_option linter.unusedSimpArgs false
open Go.RowKit Go.Proofs.YtckhlbpjehbnlaaW.PrintWords Go.Proofs.YtckhlbpjehbnlaaW.PrintLast Go.Proofs.YtckhlbpjehbnlaaW.PrintMore

theorem data_inj {s t : ByteArray} (h : s.data.toList = t.data.toList) : s = t := by
  cases s; cases t
  simp only [ByteArray.mk.injEq]
  exact Array.toList_inj.1 h

theorem bytes_inj {s t : ByteArray} (h : bytesOf s = bytesOf t) : s = t := by
  apply data_inj
  unfold bytesOf at h
  have inj : ∀ (l m : List UInt8), l.map (fun b => (b.toNat : Int)) = m.map (fun b => (b.toNat : Int)) → l = m := by
    intro l
    induction l with
    | nil => intro m h; cases m with
      | nil => rfl
      | cons => simp at h
    | cons a l ih => intro m h; cases m with
      | nil => simp at h
      | cons b m =>
        simp only [List.map_cons, List.cons.injEq] at h
        have e : a = b := UInt8.toNat_inj.1 (by have := h.1; omega)
        rw [e, ih m h.2]
  exact inj _ _ h

theorem toList_iff {s t : ByteArray} : s.toList = t.toList ↔ s = t := by
  constructor
  · intro h
    rw [ByteArray.toList_eq, ByteArray.toList_eq] at h
    exact data_inj h
  · rintro rfl; rfl

theorem size_bytes (s : ByteArray) : s.size = (bytesOf s).length := (bytesOf_length s).symm

theorem bytes_append (s t : ByteArray) : bytesOf (s ++ t) = bytesOf s ++ bytesOf t := by
  unfold bytesOf
  rw [ByteArray.data_append, Array.toList_append, List.map_append]

theorem bytes_extract (s : ByteArray) (a b : Nat) : bytesOf (s.extract a b) = ((bytesOf s).take b).drop a := by
  unfold bytesOf
  rw [ByteArray.data_extract, Array.toList_extract]
  simp [List.map_take, List.map_drop, List.take_drop]
  by_cases h : a ≤ b
  · congr 2; omega
  · rw [show b - a = 0 by omega]
    simp
    omega

theorem bytes_rest (s : ByteArray) (a : Nat) : bytesOf (s.extract a s.size) = (bytesOf s).drop a := by
  rw [bytes_extract, size_bytes, List.take_length]

theorem bytes_head (s : ByteArray) (b : Nat) : bytesOf (s.extract 0 b) = (bytesOf s).take b := by
  rw [bytes_extract, List.drop_zero]

theorem bytes_range (s : ByteArray) : ∀ x ∈ bytesOf s, 0 ≤ x ∧ x < 256 := by
  intro x hx
  unfold bytesOf at hx
  obtain ⟨b, _, rfl⟩ := List.mem_map.1 hx
  have := b.toNat_lt
  omega

theorem bytes_of {l : List Int} (h : ∀ x ∈ l, 0 ≤ x ∧ x < 256) : bytesOf (strOfNums l) = l := by
  unfold bytesOf
  rw [strOfNums_data, List.map_map]
  conv => rhs; rw [← List.map_id l]
  apply List.map_congr_left
  intro x hx
  have := h x hx
  simp only [Function.comp, id, UInt8.toNat_ofNat']
  omega

theorem str_of (s : ByteArray) : strOfNums (bytesOf s) = s := bytes_inj (bytes_of (bytes_range s))

theorem bytes_empty : bytesOf (⟨#[]⟩ : ByteArray) = [] := rfl

theorem bt_get (s : ByteArray) (i : Int) : bt s i = (bytesOf s).getD i.toNat 0 := by
  rw [← rd_bytesOf]; rfl

theorem bt_nat (s : ByteArray) (i : Nat) : bt s (i : Int) = (bytesOf s).getD i 0 := by
  rw [bt_get]; rfl

theorem nums_inj {l m : List Int} (hl : ∀ x ∈ l, 0 ≤ x ∧ x < 256) (hm : ∀ x ∈ m, 0 ≤ x ∧ x < 256) (h : strOfNums l = strOfNums m) : l = m := by
  rw [← bytes_of hl, ← bytes_of hm, h]

theorem drop_cons {l : List Int} {i : Nat} (h : i < l.length) : l.drop i = l.getD i 0 :: l.drop (i + 1) := by
  rw [List.drop_eq_getElem_cons h]
  congr 1
  simp [List.getD, List.getElem?_eq_getElem h]

theorem getD_mem {l : List Int} {i : Nat} (h : i < l.length) : l.getD i 0 ∈ l := by
  simp [List.getD, List.getElem?_eq_getElem h]

theorem strOfNums_append (l m : List Int) : strOfNums (l ++ m) = strOfNums l ++ strOfNums m := by
  apply data_inj
  rw [ByteArray.data_append, Array.toList_append, strOfNums_data, strOfNums_data, strOfNums_data, List.map_append]

theorem bytes_nil_iff {s : ByteArray} : bytesOf s = [] ↔ s.size = 0 := by
  rw [size_bytes]; exact List.length_eq_zero_iff.symm

/-- Whole numbers of 64 bits. -/
theorem wf64 {n : Int} (h : (Lit.int .i64 n).wf = true) : -9223372036854775808 ≤ n ∧ n < 9223372036854775808 := by
  simp [Lit.wf, IntKind.min, IntKind.max, IntKind.bits, IntKind.signed] at h
  omega

theorem wrap64_id {n : Int} (h0 : -9223372036854775808 ≤ n) (h1 : n < 9223372036854775808) : wrap64 n = n := by
  unfold wrap64; omega

theorem pow128 {i j : Nat} (h : i ≤ j) : (128 : Int) ^ i ≤ 128 ^ j := by
  have : (128 : Nat) ^ i ≤ 128 ^ j := Nat.pow_le_pow_right (by omega) h
  exact_mod_cast this

end Go.Proofs.Ytckhlbpjehbnlaa.Str

namespace Go.Proofs.Ytckhlbpjehbnlaa.LebS
set_option linter.unusedVariables false
set_option linter.unusedSimpArgs false
open Go.Proofs.Ytckhlbpjehbnlaa.Str

/-- The unsigned encoding. -/
def pu (n : Nat) : List Int := if n < 128 then [(n : Int)] else ((n % 128 + 128 : Nat) : Int) :: pu (n / 128)
termination_by n
decreasing_by omega

/-- The signed encoding. -/
def ps (n : Int) : List Int := if -64 ≤ n ∧ n < 64 then [n % 128] else (n % 128 + 128) :: ps (n / 128)
termination_by n.natAbs
decreasing_by omega

/-- How many bytes the number has with which the list begins, at most so many; 0: none. -/
def len : List Int → Nat → Nat
  | _, 0 => 0
  | [], _ + 1 => 0
  | c :: l, m + 1 => if c < 128 then 1 else if len l m = 0 then 0 else len l m + 1

/-- The number of these groups, the sign being t. -/
def sv (t : Int) : List Int → Int
  | [] => t
  | c :: l => c % 128 + 128 * sv t l

abbrev uv : List Int → Int := sv 0
def sgn (l : List Int) : Int := if l.getD (l.length - 1) 0 % 128 ≥ 64 then -1 else 0

def takeU (l : List Int) : Option (Int × List Int) :=
  if len l 5 = 0 then none else if uv (l.take (len l 5)) ≥ 4294967296 then none else some (uv (l.take (len l 5)), l.drop (len l 5))

def mostS (bits : Int) : Nat := if bits = 64 then 10 else 5
def fitsS (bits v : Int) : Prop := bits = 64 ∨ (bits = 33 ∧ -4294967296 ≤ v ∧ v < 4294967296) ∨ (bits = 32 ∧ -2147483648 ≤ v ∧ v < 2147483648)
instance (bits v : Int) : Decidable (fitsS bits v) := by unfold fitsS; infer_instance

def takeS (l : List Int) (bits : Int) : Option (Int × List Int) :=
  let n := len l (mostS bits)
  if n = 0 then none else if n = 10 ∧ l.getD 9 0 ≠ 0 ∧ l.getD 9 0 ≠ 127 then none
  else if fitsS bits (sv (sgn (l.take n)) (l.take n)) then some (sv (sgn (l.take n)) (l.take n), l.drop n) else none

/-! ### the encodings -/
theorem pu_small {n : Nat} (h : n < 128) : pu n = [(n : Int)] := by rw [pu, if_pos h]
theorem pu_big {n : Nat} (h : ¬ n < 128) : pu n = ((n % 128 + 128 : Nat) : Int) :: pu (n / 128) := by rw [pu, if_neg h]
theorem ps_small {n : Int} (h : -64 ≤ n ∧ n < 64) : ps n = [n % 128] := by rw [ps, if_pos h]
theorem ps_big {n : Int} (h : ¬ (-64 ≤ n ∧ n < 64)) : ps n = (n % 128 + 128) :: ps (n / 128) := by rw [ps, if_neg h]

theorem pu_range (n : Nat) : ∀ x ∈ pu n, 0 ≤ x ∧ x < 256 := by
  induction n using Nat.strongRecOn with
  | _ n ih =>
    by_cases h : n < 128
    · rw [pu_small h]
      intro x hx
      simp only [List.mem_singleton] at hx
      omega
    · rw [pu_big h]
      intro x hx
      rcases List.mem_cons.1 hx with rfl | hx
      · omega
      · exact ih (n / 128) (by omega) x hx

theorem ps_range : ∀ (m : Nat) (n : Int), n.natAbs ≤ m → ∀ x ∈ ps n, 0 ≤ x ∧ x < 256 := by
  intro m
  induction m with
  | zero =>
    intro n hn
    rw [ps_small (by omega)]
    intro x hx
    simp only [List.mem_singleton] at hx
    omega
  | succ m ih =>
    intro n hn
    by_cases h : -64 ≤ n ∧ n < 64
    · rw [ps_small h]
      intro x hx
      simp only [List.mem_singleton] at hx
      omega
    · rw [ps_big h]
      intro x hx
      rcases List.mem_cons.1 hx with rfl | hx
      · omega
      · exact ih (n / 128) (by omega) x hx

theorem pu_pos (n : Nat) : 1 ≤ (pu n).length := by
  rw [pu]; split <;> simp

theorem ps_pos (n : Int) : 1 ≤ (ps n).length := by
  rw [ps]; split <;> simp

theorem pu_len : ∀ (j n : Nat), n < 128 ^ (j + 1) → (pu n).length ≤ j + 1 := by
  intro j
  induction j with
  | zero => intro n h; rw [pu_small (by omega)]; simp
  | succ j ih =>
    intro n h
    by_cases h1 : n < 128
    · rw [pu_small h1]; simp
    · rw [pu_big h1]
      have := ih (n / 128) (by rw [Nat.pow_succ] at h; omega)
      simp only [List.length_cons]
      omega

theorem ps_len : ∀ (j : Nat) (n : Int), -(64 * 128 ^ j) ≤ n → n < 64 * 128 ^ j → (ps n).length ≤ j + 1 := by
  intro j
  induction j with
  | zero => intro n h0 h1; rw [ps_small (by omega)]; simp
  | succ j ih =>
    intro n h0 h1
    by_cases h : -64 ≤ n ∧ n < 64
    · rw [ps_small h]; simp
    · rw [ps_big h]
      rw [Int.pow_succ] at h0 h1
      have := ih (n / 128) (by omega) (by omega)
      simp only [List.length_cons]
      omega

theorem ps_tenth : ∀ (j : Nat) (n : Int), -(128 ^ j) ≤ n → n < 128 ^ j → (ps n).length = j + 1 → (ps n).getD j 0 = 0 ∨ (ps n).getD j 0 = 127 := by
  intro j
  induction j with
  | zero =>
    intro n h0 h1 _
    rw [ps_small (by omega)]
    simp only [List.getD, List.getElem?_cons_zero, Option.getD_some]
    omega
  | succ j ih =>
    intro n h0 h1 hl
    by_cases h : -64 ≤ n ∧ n < 64
    · rw [ps_small h] at hl; simp at hl
    · rw [ps_big h] at hl ⊢
      simp only [List.length_cons] at hl
      rw [Int.pow_succ] at h0 h1
      have := ih (n / 128) (by omega) (by omega) (by omega)
      simpa [List.getD] using this

/-! ### lengths -/
theorem len_le (l : List Int) : ∀ m, len l m ≤ m := by
  induction l with
  | nil => intro m; cases m <;> simp [len]
  | cons c l ih =>
    intro m
    cases m with
    | zero => simp [len]
    | succ m =>
      have := ih m
      simp only [len]
      split
      · omega
      · split <;> omega

theorem len_le_length (l : List Int) : ∀ m, len l m ≤ l.length := by
  induction l with
  | nil => intro m; cases m <;> simp [len]
  | cons c l ih =>
    intro m
    cases m with
    | zero => simp [len]
    | succ m =>
      have := ih m
      simp only [len, List.length_cons]
      split
      · omega
      · split <;> omega

theorem len_more (l : List Int) : ∀ m m', m ≤ m' → len l m ≠ 0 → len l m' = len l m := by
  induction l with
  | nil => intro m m' _ h; cases m <;> simp [len] at h
  | cons c l ih =>
    intro m m' hm h
    cases m with
    | zero => simp [len] at h
    | succ m =>
      obtain ⟨m', rfl⟩ : ∃ j, m' = j + 1 := ⟨m' - 1, by omega⟩
      simp only [len] at h ⊢
      by_cases hc : c < 128
      · simp [hc]
      · rw [if_neg hc] at h
        rw [if_neg hc, if_neg hc]
        by_cases h0 : len l m = 0
        · rw [if_pos h0] at h; exact absurd rfl h
        · rw [ih m m' (by omega) h0]

/-- A list that is a whole number's, with whatever behind it. -/
inductive Whole : List Int → Prop
  | one {c : Int} (h : c < 128) : Whole [c]
  | more {c : Int} {l : List Int} (h : ¬ c < 128) (k : Whole l) : Whole (c :: l)

theorem Whole.pos {l : List Int} (h : Whole l) : 1 ≤ l.length := by cases h <;> simp

theorem Whole.len {l : List Int} (h : Whole l) (more : List Int) : ∀ m, len (l ++ more) m = if l.length ≤ m then l.length else 0 := by
  induction h with
  | one h =>
    intro m
    cases m with
    | zero => simp [LebS.len]
    | succ m => simp [LebS.len, h]
  | more h k ih =>
    intro m
    cases m with
    | zero => simp [LebS.len]
    | succ m =>
      have hp := k.pos
      simp only [List.cons_append, LebS.len, if_neg h, ih m, List.length_cons]
      rename_i c' l'
      by_cases hm : l'.length ≤ m
      · rw [if_pos hm, if_neg (by omega), if_pos (by omega)]
      · rw [if_neg hm, if_pos rfl, if_neg (by omega)]

theorem pu_whole (n : Nat) : Whole (pu n) := by
  induction n using Nat.strongRecOn with
  | _ n ih =>
    by_cases h : n < 128
    · rw [pu_small h]; exact .one (by omega)
    · rw [pu_big h]; exact .more (by omega) (ih _ (by omega))

theorem ps_whole : ∀ (m : Nat) (n : Int), n.natAbs ≤ m → Whole (ps n) := by
  intro m
  induction m with
  | zero => intro n h; rw [ps_small (by omega)]; exact .one (by omega)
  | succ m ih =>
    intro n hn
    by_cases h : -64 ≤ n ∧ n < 64
    · rw [ps_small h]; exact .one (by omega)
    · rw [ps_big h]; exact .more (by omega) (ih _ (by omega))

/-! ### values -/
theorem sv_uv (t : Int) (l : List Int) : sv t l = uv l + t * 128 ^ l.length := by
  induction l with
  | nil => simp [sv]
  | cons c l ih =>
    have e : t * 128 ^ (c :: l).length = 128 * (t * 128 ^ l.length) := by
      rw [List.length_cons, Int.pow_succ, ← Int.mul_assoc, Int.mul_comm]
    rw [e]
    simp only [sv]
    rw [ih]
    simp only [uv]
    omega

theorem uv_range (l : List Int) : 0 ≤ uv l ∧ uv l < 128 ^ l.length := by
  induction l with
  | nil => simp [sv]
  | cons c l ih =>
    rw [List.length_cons, Int.pow_succ]
    simp only [uv, sv] at ih ⊢
    omega

theorem uv_append (l m : List Int) : uv (l ++ m) = uv l + 128 ^ l.length * uv m := by
  induction l with
  | nil => simp [sv]
  | cons c l ih =>
    have e : 128 ^ (c :: l).length * uv m = 128 * (128 ^ l.length * uv m) := by
      rw [List.length_cons, Int.pow_succ, Int.mul_comm (128 ^ l.length) 128, Int.mul_assoc]
    rw [e]
    simp only [uv, sv, List.cons_append] at ih ⊢
    omega

theorem uv_pu (n : Nat) : uv (pu n) = n := by
  induction n using Nat.strongRecOn with
  | _ n ih =>
    by_cases h : n < 128
    · rw [pu_small h]; simp only [uv, sv]; omega
    · rw [pu_big h]
      have := ih (n / 128) (by omega)
      simp only [uv, sv] at this ⊢
      omega

theorem sgn_cons (c : Int) {l : List Int} (h : 1 ≤ l.length) : sgn (c :: l) = sgn l := by
  unfold sgn
  congr 3
  simp only [List.length_cons, List.getD]
  obtain ⟨m, hm⟩ : ∃ m, l.length = m + 1 := ⟨l.length - 1, by omega⟩
  rw [hm]
  simp

theorem sv_ps : ∀ (m : Nat) (n : Int), n.natAbs ≤ m → sv (sgn (ps n)) (ps n) = n := by
  intro m
  induction m with
  | zero =>
    intro n h
    obtain rfl : n = 0 := by omega
    rw [ps_small (by omega)]
    simp [sgn, sv]
  | succ m ih =>
    intro n hn
    by_cases h : -64 ≤ n ∧ n < 64
    · rw [ps_small h]
      simp only [sgn, sv, List.length_singleton, List.getD]
      simp only [Nat.sub_self, List.getElem?_cons_zero, Option.getD_some]
      split <;> omega
    · rw [ps_big h, sgn_cons _ (ps_pos _)]
      simp only [sv]
      rw [ih (n / 128) (by omega)]
      omega

/-- The signed number of m groups. -/
theorem sv_range : ∀ (l : List Int), 1 ≤ l.length → -(64 * 128 ^ (l.length - 1)) ≤ sv (sgn l) l ∧ sv (sgn l) l < 64 * 128 ^ (l.length - 1) := by
  intro l
  induction l with
  | nil => simp
  | cons c l ih =>
    intro _
    by_cases hl : l = []
    · subst hl
      simp only [sgn, sv, List.length_singleton, List.getD, Nat.sub_self, List.getElem?_cons_zero, Option.getD_some]
      split <;> omega
    · have hp : 1 ≤ l.length := by cases l with
        | nil => exact absurd rfl hl
        | cons => simp
      rw [sgn_cons _ hp]
      have := ih hp
      obtain ⟨m, hm⟩ : ∃ m, l.length = m + 1 := ⟨l.length - 1, by omega⟩
      simp only [List.length_cons, hm, Nat.add_sub_cancel, Int.pow_succ, sv] at this ⊢
      omega

/-! ### what is taken -/
theorem takeU_pu (n : Nat) (more : List Int) : takeU (pu n ++ more) = if n < 4294967296 then some ((n : Int), more) else none := by
  unfold takeU
  rw [(pu_whole n).len more 5]
  have hp := pu_pos n
  by_cases h : (pu n).length ≤ 5
  · rw [if_pos h, if_neg (by omega), List.take_left, List.drop_left, uv_pu]
    by_cases h2 : n < 4294967296
    · rw [if_neg (by omega), if_pos h2]
    · rw [if_pos (by omega), if_neg h2]
  · rw [if_neg h, if_pos rfl, if_neg]
    intro h2
    exact h (pu_len 4 n (by omega))

theorem takeS_ps (n : Int) (h0 : -9223372036854775808 ≤ n) (h1 : n < 9223372036854775808) (more : List Int) : takeS (ps n ++ more) 64 = some (n, more) := by
  have hw := ps_whole _ n (Nat.le_refl _)
  have hp := ps_pos n
  have hl : (ps n).length ≤ 10 := ps_len 9 n (by omega) (by omega)
  unfold takeS mostS fitsS
  simp only [hw.len more, if_true]
  rw [if_pos hl, if_neg (by omega), if_neg, if_pos (Or.inl trivial), List.take_left, List.drop_left, sv_ps _ n (Nat.le_refl _)]
  rintro ⟨h2, h3, h4⟩
  have := ps_tenth 9 n (by omega) (by omega) (by omega)
  have e : (ps n ++ more).getD 9 0 = (ps n).getD 9 0 := by
    simp only [List.getD]
    rw [List.getElem?_append_left (by omega)]
  rw [e] at h3 h4
  omega

theorem takeS_ps32 (n : Int) (more : List Int) : takeS (ps n ++ more) 32 = if -2147483648 ≤ n ∧ n < 2147483648 then some (n, more) else none := by
  have hw := ps_whole _ n (Nat.le_refl _)
  have hp := ps_pos n
  unfold takeS mostS fitsS
  simp only [hw.len more, show ¬ ((32 : Int) = 64) by omega, if_false]
  by_cases h : (ps n).length ≤ 5
  · rw [if_pos h, if_neg (by omega), if_neg (by omega), List.take_left, List.drop_left, sv_ps _ n (Nat.le_refl _)]
    by_cases h2 : -2147483648 ≤ n ∧ n < 2147483648
    · rw [if_pos h2, if_pos]; exact .inr (.inr ⟨by simp, h2⟩)
    · rw [if_neg h2, if_neg]; rintro (h | h | h) <;> omega
  · rw [if_neg h, if_pos rfl, if_neg]
    rintro ⟨h2, h3⟩
    exact h (ps_len 4 n (by omega) (by omega))

theorem takeU_len {l : List Int} {v : Int} {r : List Int} (h : takeU l = some (v, r)) : 0 ≤ v ∧ v < 4294967296 ∧ (pu v.toNat).length ≤ l.length - r.length ∧ r.length < l.length ∧ ∃ n, r = l.drop n := by
  unfold takeU at h
  have hl := len_le_length l 5
  split at h
  · cases h
  · split at h
    · cases h
    · simp only [Option.some.injEq, Prod.mk.injEq] at h
      obtain ⟨rfl, rfl⟩ := h
      have hr := uv_range (l.take (len l 5))
      have hn : (l.take (len l 5)).length = len l 5 := by rw [List.length_take]; omega
      rw [hn] at hr
      refine ⟨by omega, by omega, ?_, by rw [List.length_drop]; omega, _, rfl⟩
      obtain ⟨j, hj⟩ : ∃ j, len l 5 = j + 1 := ⟨len l 5 - 1, by omega⟩
      rw [List.length_drop]
      have : (pu (uv (l.take (len l 5))).toNat).length ≤ j + 1 := pu_len j _ (by
        rw [hj] at hr ⊢
        have : ((128 ^ (j + 1) : Nat) : Int) = 128 ^ (j + 1) := by simp
        omega)
      omega

theorem takeS_len {l : List Int} {v : Int} {r : List Int} (h : takeS l 64 = some (v, r)) : (ps v).length ≤ l.length - r.length := by
  unfold takeS at h
  have hl := len_le_length l (mostS 64)
  simp only at h
  split at h
  · cases h
  · split at h
    · cases h
    · split at h
      · simp only [Option.some.injEq, Prod.mk.injEq] at h
        obtain ⟨rfl, rfl⟩ := h
        have hn : (l.take (len l (mostS 64))).length = len l (mostS 64) := by rw [List.length_take]; omega
        have hr := sv_range (l.take (len l (mostS 64))) (by omega)
        rw [hn] at hr
        rw [List.length_drop]
        have := ps_len _ _ hr.1 hr.2
        omega
      · cases h

theorem takeS_wf {l : List Int} {bits v : Int} {r : List Int} (h : takeS l bits = some (v, r)) : fitsS bits v := by
  unfold takeS at h
  simp only at h
  split at h
  · cases h
  · split at h
    · cases h
    · split at h
      · simp only [Option.some.injEq, Prod.mk.injEq] at h
        obtain ⟨rfl, rfl⟩ := h
        assumption
      · cases h

theorem takeS_up {l : List Int} {b b' v : Int} {r : List Int} (hb : b = 32 ∧ b' = 33 ∨ b = 33 ∧ b' = 64) (h : takeS l b = some (v, r)) : takeS l b' = some (v, r) := by
  have hm : mostS b = 5 := by unfold mostS; rw [if_neg (by omega)]
  have hm' : mostS b' = 5 ∨ mostS b' = 10 := by unfold mostS; split <;> simp
  have hf := takeS_wf h
  unfold takeS at h ⊢
  simp only [hm] at h ⊢
  split at h
  · cases h
  · rename_i hz
    have hle := len_le l 5
    have hn : len l (mostS b') = len l 5 := len_more l 5 _ (by omega) hz
    rw [if_neg (by omega)] at h
    split at h
    · simp only [Option.some.injEq, Prod.mk.injEq] at h
      obtain ⟨rfl, rfl⟩ := h
      rw [hn, if_neg hz, if_neg (by omega), if_pos]
      unfold fitsS at hf ⊢
      omega
    · cases h
/-- What is taken of 64 bits is a number of 64 bits. -/
theorem takeS_range {l : List Int} {v : Int} {r : List Int} (h : takeS l 64 = some (v, r)) : -9223372036854775808 ≤ v ∧ v < 9223372036854775808 := by
  unfold takeS at h
  have hm : mostS 64 = 10 := rfl
  rw [hm] at h
  have hl := len_le_length l 10
  have hle := len_le l 10
  simp only at h
  split at h
  · cases h
  · rename_i h0
    split at h
    · cases h
    · rename_i h10
      split at h
      · simp only [Option.some.injEq, Prod.mk.injEq] at h
        obtain ⟨rfl, rfl⟩ := h
        have hn : (l.take (len l 10)).length = len l 10 := by rw [List.length_take]; omega
        by_cases h2 : len l 10 = 10
        · have hg : l.getD 9 0 = 0 ∨ l.getD 9 0 = 127 := by omega
          have hd : l.take 10 = l.take 9 ++ [l.getD 9 0] := by
            have hlt : 9 < l.length := by omega
            rw [List.take_succ_eq_append_getElem hlt]
            simp [List.getD, List.getElem?_eq_getElem hlt]
          have hr := uv_range (l.take 9)
          have h9 : (l.take 9).length = 9 := by rw [List.length_take]; omega
          rw [h9] at hr
          simp only [uv] at hr
          rw [h2, sv_uv, hd, uv_append, h9, List.length_append, h9]
          have hs : sgn (l.take 9 ++ [l.getD 9 0]) = if l.getD 9 0 % 128 ≥ 64 then -1 else 0 := by
            unfold sgn
            congr 3
            rw [List.length_append, h9]
            simp only [List.length_singleton, Nat.add_one_sub_one, List.getD]
            rw [List.getElem?_append_right (by omega), h9]
            rfl
          rw [hs]
          rcases hg with hg | hg <;> simp only [hg, uv, sv, List.length_singleton] <;> simp <;> omega
        · have hr := sv_range (l.take (len l 10)) (by omega)
          rw [hn] at hr
          have hp : (128 : Int) ^ (len l 10 - 1) ≤ 128 ^ 8 := pow128 (by omega)
          have hp8 : (128 : Int) ^ 8 = 72057594037927936 := by decide
          omega
      · cases h
end Go.Proofs.Ytckhlbpjehbnlaa.LebS

namespace Go.Proofs.Ytckhlbpjehbnlaa.LebF
set_option linter.unusedVariables false
set_option linter.unusedSimpArgs false
open Go.RowKit Go.Proofs.Ytckhlbpjehbnlaa.PB Go.Proofs.YtckhlbpjehbnlaaW.PrintWords Go.Proofs.YtckhlbpjehbnlaaW.PrintLast Go.Proofs.YtckhlbpjehbnlaaW.PrintMore
open Go.Proofs.Ytckhlbpjehbnlaa.Str Go.Proofs.Ytckhlbpjehbnlaa.LebS

theorem or128 (x : Int) : Go.bits .or .u8 (x % 256) 128 = x % 128 + 128 := by
  have h : ∀ y : Fin 256, Go.bits .or .u8 (y.val : Int) 128 = (y.val : Int) % 128 + 128 := by decide +kernel
  have := h ⟨(x % 256).toNat, by omega⟩
  simp only at this
  rw [show (((x % 256).toNat : Nat) : Int) = x % 256 by omega] at this
  rw [this]
  omega

theorem and127 (x : Int) (h0 : 0 ≤ x) (h1 : x < 256) : Go.bits .and .u8 x 127 = x % 128 := by
  have h : ∀ y : Fin 256, Go.bits .and .u8 (y.val : Int) 127 = (y.val : Int) % 128 := by decide +kernel
  have := h ⟨x.toNat, by omega⟩
  simp only at this
  rw [show ((x.toNat : Nat) : Int) = x by omega] at this
  exact this

theorem PutU_l0 : ∀ (j n : Nat) (acc : List Int) (k : Nat), n < 128 ^ (j + 1) → j + 1 ≤ k → acc.length + j + 1 ≤ 1000 → leb_PutU.l0 k (n : Int) acc = some (strOfNums (acc ++ pu n)) := by
  intro j
  induction j with
  | zero =>
    intro n acc k hn hk ha
    obtain ⟨k, rfl⟩ : ∃ m, k = m + 1 := ⟨k - 1, by omega⟩
    simp only [leb_PutU.l0]
    rw [if_neg (by omega), if_pos (by omega), pu_small (by omega), show (n : Int) % 256 = n by omega]
  | succ j ih =>
    intro n acc k hn hk ha
    obtain ⟨k, rfl⟩ : ∃ m, k = m + 1 := ⟨k - 1, by omega⟩
    simp only [leb_PutU.l0]
    by_cases h : n < 128
    · rw [if_neg (by omega), if_pos (by omega), pu_small h, show (n : Int) % 256 = n by omega]
    · rw [Nat.pow_succ] at hn
      rw [if_pos (by omega), if_pos (by omega), pu_big h, or128, show (n : Int) / 128 = ((n / 128 : Nat) : Int) by omega,
        ih (n / 128) _ k (by omega) (by omega) (by simp only [List.length_append, List.length_singleton]; omega)]
      simp only [List.append_assoc, List.singleton_append]
      congr 4

/-- What PutU answers. -/
def puZ (n : Int) : List Int := if n < 0 then [] else pu n.toNat

theorem puZ_range (n : Int) : ∀ x ∈ puZ n, 0 ≤ x ∧ x < 256 := by
  unfold puZ
  split
  · intro x hx; cases hx
  · exact pu_range _

theorem puZ_len (n : Int) (h1 : n < 9223372036854775808) : (puZ n).length ≤ 9 := by
  unfold puZ
  split
  · simp
  · exact pu_len 8 _ (by omega)

theorem PutU_eq (n : Int) (h1 : n < 9223372036854775808) (k : Nat) (hk : 12 ≤ k) : leb_PutU.f k n = some (strOfNums (puZ n)) := by
  unfold leb_PutU.f puZ
  by_cases h : n < 0
  · rw [if_pos h, if_pos h]; rfl
  · rw [if_neg h, if_neg h]
    have := PutU_l0 9 n.toNat [] k (by omega) (by omega) (by simp)
    rw [show ((n.toNat : Nat) : Int) = n by omega] at this
    rw [this, List.nil_append]

theorem PutS_l0 : ∀ (j : Nat) (n : Int) (acc : List Int) (k : Nat), -(64 * 128 ^ j) ≤ n → n < 64 * 128 ^ j → j + 1 ≤ k → acc.length + j + 1 ≤ 1000 → leb_PutS.l0 k n acc = some (strOfNums (acc ++ ps n)) := by
  intro j
  induction j with
  | zero =>
    intro n acc k h0 h1 hk ha
    obtain ⟨k, rfl⟩ : ∃ m, k = m + 1 := ⟨k - 1, by omega⟩
    simp only [leb_PutS.l0]
    rw [if_neg (by omega), if_neg (by omega), if_pos (by omega), ps_small (by omega), and127 _ (by omega) (by omega), show n % 256 % 128 = n % 128 by omega]
  | succ j ih =>
    intro n acc k h0 h1 hk ha
    obtain ⟨k, rfl⟩ : ∃ m, k = m + 1 := ⟨k - 1, by omega⟩
    simp only [leb_PutS.l0]
    by_cases h : -64 ≤ n ∧ n < 64
    · rw [if_neg (by omega), if_neg (by omega), if_pos (by omega), ps_small h, and127 _ (by omega) (by omega), show n % 256 % 128 = n % 128 by omega]
    · rw [Int.pow_succ] at h0 h1
      have go : leb_PutS.l0 k (n / 128) (acc ++ [Go.bits .or .u8 (n % 256) 128]) = some (strOfNums (acc ++ ps n)) := by
        rw [ps_big h, or128, ih (n / 128) _ k (by omega) (by omega) (by omega) (by simp only [List.length_append, List.length_singleton]; omega)]
        simp only [List.append_assoc, List.singleton_append]
      by_cases h2 : n < -64
      · rw [if_pos h2, if_pos (by omega), go]
      · rw [if_neg h2, if_pos (by omega), if_pos (by omega), go]

theorem PutS_eq (n : Int) (h0 : -9223372036854775808 ≤ n) (h1 : n < 9223372036854775808) (k : Nat) (hk : 12 ≤ k) : leb_PutS.f k n = some (strOfNums (ps n)) := by
  unfold leb_PutS.f
  rw [PutS_l0 9 n [] k (by omega) (by omega) (by omega) (by simp), List.nil_append]

theorem bits_or_comm (k : IntKind) (x y : Int) : Go.bits .or k x y = Go.bits .or k y x := by
  simp only [Go.bits, BitVec.or_comm]

theorem wraps_u64 (n : Int) (h0 : 0 ≤ n) (h1 : n < 2 ^ 64) : IntKind.u64.wrap n = n := by
  simp [IntKind.wrap, IntKind.bits, IntKind.signed]
  omega

theorem wrap_u64 (n : Int) : IntKind.u64.wrap n = n % 18446744073709551616 := by
  simp [IntKind.wrap, IntKind.bits, IntKind.signed]

/-- One more group of seven bits. -/
theorem or_group (i : Nat) (hi : i ≤ 9) (u c : Int) (hu0 : 0 ≤ u) (hu : u < 128 ^ i) (hc0 : 0 ≤ c) (hc : c < 256) :
    Go.bits .or .u64 u (shl .u64 (IntKind.u64.wrap (Go.bits .and .u8 c 127)) (wrap64 (7 * (i : Int)))) = (u + c % 128 * 128 ^ i) % 18446744073709551616 := by
  rw [and127 c hc0 hc, wraps_u64 _ (by omega) (by omega), wrap64_id (by omega) (by omega)]
  have e7 : (7 * (i : Int)).toNat = 7 * i := by omega
  unfold shl
  rw [e7, Nat.min_eq_left (by simp [IntKind.bits]; omega), bits_or_comm, wrap_u64]
  have hp : (2 : Int) ^ (7 * i) = 128 ^ i := by rw [Int.pow_mul]; rfl
  rw [hp]
  have hd : 0 ≤ c % 128 ∧ c % 128 < 128 := by omega
  generalize c % 128 = d at hd
  have key : ∀ (p : Int) (j : Nat), (2 : Int) ^ j = p → 0 ≤ d * p % 18446744073709551616 → d * p % 18446744073709551616 % p = 0 → u < p → p < 18446744073709551616 → (d * p % 18446744073709551616 + u < 18446744073709551616) →
      Go.bits .or .u64 (d * p % 18446744073709551616) u = (u + d * p) % 18446744073709551616 := by
    intro p j hj h0 h1 h2 h3 h4
    rw [Go.bits_join .u64 64 (by decide) wraps_u64 j _ u h0 (by rw [hj]; exact h1) (by omega) hu0 (by rw [hj]; exact h2) (by omega)]
    omega
  have hi' : i = 0 ∨ i = 1 ∨ i = 2 ∨ i = 3 ∨ i = 4 ∨ i = 5 ∨ i = 6 ∨ i = 7 ∨ i = 8 ∨ i = 9 := by omega
  rcases hi' with rfl | rfl | rfl | rfl | rfl | rfl | rfl | rfl | rfl | rfl <;>
    refine key _ (7 * _) hp ?_ ?_ hu ?_ ?_ <;> simp only [Int.reducePow] at * <;> omega

/-- What raw answers. -/
def rawR (s : ByteArray) (i n : Nat) (u : Int) : Int × Int × ByteArray × Bool :=
  if n = 0 then (0, 0, ⟨#[]⟩, false) else ((u + 128 ^ i * uv (((bytesOf s).drop i).take n)) % 18446744073709551616, 7 * ((i : Int) + n), s.extract (i + n) s.size, true)

theorem raw_l0 (s : ByteArray) (hs : s.size ≤ 140737488351232) (b : Int) (most : Nat) (hb : (most = 5 ∧ (b = 32 ∨ b = 33)) ∨ (most = 10 ∧ b = 64)) :
    ∀ (m i : Nat) (u : Int) (k : Nat), i + m = most → i ≤ s.size → (i ≤ 9 → u < 128 ^ i) → 0 ≤ u → 2 * m + 2 ≤ k →
      leb_raw.l0 k s b u (i : Int) = some (rawR s i (len ((bytesOf s).drop i) m) u) := by
  intro m
  induction m with
  | zero =>
    intro i u k hm hi hu hu0 hk
    obtain ⟨k, rfl⟩ : ∃ m, k = m + 2 := ⟨k - 2, by omega⟩
    simp only [leb_raw.l0, leb_raw.j1]
    rw [wrap64_id (by omega) (by omega), if_pos (by omega), if_pos trivial]
    simp [rawR, len]
  | succ m ih =>
    intro i u k hm hi hu hu0 hk
    obtain ⟨k, rfl⟩ : ∃ m, k = m + 2 := ⟨k - 2, by omega⟩
    have hw : wrap64 (7 * (i : Int)) = 7 * i := wrap64_id (by omega) (by omega)
    rw [leb_raw.l0, hw, if_neg (by omega)]
    by_cases he : i = s.size
    · rw [show ((i : Int) == (s.size : Int)) = true by simp [he]]
      rw [leb_raw.j1, if_pos rfl]
      have : (bytesOf s).drop i = [] := by rw [List.drop_eq_nil_iff, bytesOf_length]; omega
      simp [rawR, this, len]
    · rw [show ((i : Int) == (s.size : Int)) = false by simp; omega]
      rw [leb_raw.j1, if_neg (by simp), if_pos (by omega), if_pos (by omega), hw, if_pos (by omega)]
      have hlt : i < (bytesOf s).length := by rw [bytesOf_length]; omega
      have hc := bytes_range s _ (getD_mem hlt)
      have hd := drop_cons hlt
      have ew : wrap64 ((i : Int) + 1) = ((i + 1 : Nat) : Int) := by rw [wrap64_id (by omega) (by omega)]; omega
      have hg := or_group i (by omega) u (bt s i) hu0 (hu (by omega)) (bt_range s i).1 (by have := (bt_range s i).2; omega)
      rw [hw] at hg
      rw [hg, ew, bt_nat]
      generalize hcd : (bytesOf s).getD i 0 = c at *
      rw [hd]
      simp only [len]
      have hp : (0 : Int) < 128 ^ i := Int.pow_pos (by omega)
      by_cases h128 : c ≥ 128
      · rw [if_pos h128, if_neg (by omega), ih (i + 1) _ k (by omega) (by omega) ?_ (by omega) (by omega)]
        · unfold rawR
          by_cases h0 : len ((bytesOf s).drop (i + 1)) m = 0
          · rw [if_pos h0, if_pos h0, if_pos rfl]
          · rw [if_neg h0, if_neg h0, if_neg (by omega)]
            rw [hd, List.take_succ_cons]
            simp only [uv, sv]
            rw [Int.pow_succ]
            refine congrArg some ?_
            refine Prod.ext ?_ (Prod.ext ?_ (Prod.ext ?_ rfl))
            · simp only
              generalize sv 0 (((bytesOf s).drop (i + 1)).take (len ((bytesOf s).drop (i + 1)) m)) = q
              rw [Int.mul_add, Int.mul_comm (128 ^ i) (c % 128), Int.mul_assoc (128 ^ i) 128 q]
              generalize 128 ^ i * (128 * q) = z
              omega
            · simp only; omega
            · simp only
              rw [show i + 1 + len ((bytesOf s).drop (i + 1)) m = i + (len ((bytesOf s).drop (i + 1)) m + 1) by omega]
        · intro h9
          rw [Int.pow_succ]
          have hi8 : (128 : Int) ^ i ≤ 128 ^ 8 := pow128 (by omega)
          have hu' := hu (by omega)
          have : c % 128 * 128 ^ i ≤ 127 * 128 ^ i := Int.mul_le_mul_of_nonneg_right (by omega) (by omega)
          have h3 : 0 ≤ c % 128 * 128 ^ i := Int.mul_nonneg (by omega) (by omega)
          omega
      · rw [if_neg h128, if_pos (by omega), if_pos (by omega), if_pos (by omega)]
        unfold rawR
        rw [if_neg (by omega)]
        rw [hd, List.take_succ_cons, List.take_zero]
        simp only [uv, sv]
        refine congrArg some ?_
        refine Prod.ext ?_ (Prod.ext ?_ (Prod.ext ?_ rfl))
        · simp only
          rw [Int.mul_comm (128 ^ i)]
          simp
        · simp only
          rw [wrap64_id (by omega) (by omega)]
          omega
        · simp only
          congr 1

theorem raw_eq (s : ByteArray) (hs : s.size ≤ 140737488351232) (b : Int) (hb : b = 32 ∨ b = 33 ∨ b = 64) (k : Nat) (hk : 22 ≤ k) :
    leb_raw.f k s b = some (rawR s 0 (len (bytesOf s) (mostS b)) 0) := by
  unfold leb_raw.f
  have := raw_l0 s hs b (mostS b) (by unfold mostS; rcases hb with rfl | rfl | rfl <;> simp) (mostS b) 0 0 k (by omega) (by omega) (by intro; simp) (by omega) (by unfold mostS; split <;> omega)
  rw [List.drop_zero] at this
  exact this

/-- An answer of TakeU and TakeS. -/
def resU : Option (Int × List Int) → Int × ByteArray × Int
  | none => (0, ⟨#[]⟩, 2)
  | some (v, r) => (v, strOfNums r, 0)

theorem rest_eq (s : ByteArray) (n : Nat) : s.extract n s.size = strOfNums ((bytesOf s).drop n) := by
  apply bytes_inj
  rw [bytes_rest, bytes_of]
  intro x hx
  exact bytes_range s x (List.mem_of_mem_drop hx)

theorem TakeU_eq (s : ByteArray) (hs : s.size ≤ 140737488351232) (k : Nat) (hk : 22 ≤ k) : leb_TakeU.f k s = some (resU (takeU (bytesOf s))) := by
  unfold leb_TakeU.f takeU
  rw [raw_eq s hs 32 (by omega) k hk]
  have hm : mostS 32 = 5 := rfl
  have h5 := len_le (bytesOf s) 5
  rw [hm]
  simp only [Option.bind_some, rawR]
  by_cases h : len (bytesOf s) 5 = 0
  · rw [if_pos h, if_pos h, if_neg (by simp)]; rfl
  · rw [if_neg h, if_neg h]
    simp only [if_true]
    have hr := uv_range ((bytesOf s).take (len (bytesOf s) 5))
    have h128 : (128 : Int) ^ ((bytesOf s).take (len (bytesOf s) 5)).length ≤ 128 ^ 5 := pow128 (by rw [List.length_take]; omega)
    have e : (0 + 128 ^ 0 * uv (((bytesOf s).drop 0).take (len (bytesOf s) 5))) % 18446744073709551616 = uv ((bytesOf s).take (len (bytesOf s) 5)) := by
      rw [List.drop_zero]; omega
    rw [e]
    by_cases h2 : uv ((bytesOf s).take (len (bytesOf s) 5)) ≥ 4294967296
    · rw [if_pos h2, if_pos h2]; rfl
    · rw [if_neg h2, if_neg h2, wrap64_id (by omega) (by omega), Nat.zero_add, rest_eq]; rfl

/-- Answers of TakeS. -/
def resS (l : List Int) (b : Int) : Int × ByteArray × Int := if b = 32 ∨ b = 33 ∨ b = 64 then resU (takeS l b) else (0, ⟨#[]⟩, 1)

theorem shr_eq (x : Int) (j : Nat) (hj : j ≤ 64) : shr .i64 x (j : Int) = x / 2 ^ j := by
  unfold shr
  rw [show ((j : Int)).toNat = j by omega, Nat.min_eq_left (by simp [IntKind.bits]; omega)]

/-- The sign of n groups, spread. -/
theorem spread (l : List Int) (n : Nat) (h1 : 1 ≤ n) (h9 : n ≤ 9) (hl : l.length = n) (k : Int) (hk : k = 7 * (n : Int)) :
    shr .i64 (wrap64 (shl .u64 (uv l) (wrap64 (64 - k)))) (wrap64 (64 - k)) = sv (sgn l) l := by
  subst hk
  have e : wrap64 (64 - 7 * (n : Int)) = ((64 - 7 * n : Nat) : Int) := by rw [wrap64_id (by omega) (by omega)]; omega
  rw [e, shr_eq _ _ (by omega), sv_uv]
  unfold shl
  rw [show (((64 - 7 * n : Nat) : Int)).toNat = 64 - 7 * n by omega, Nat.min_eq_left (by simp [IntKind.bits]), wrap_u64]
  have hr := uv_range l
  rw [hl] at hr ⊢
  have hs : (sgn l = 0 ∧ 2 * uv l < 128 ^ n) ∨ (sgn l = -1 ∧ 2 * uv l ≥ 128 ^ n) := by
    obtain ⟨m, rfl⟩ : ∃ m, n = m + 1 := ⟨n - 1, by omega⟩
    have hd : l = l.take m ++ [l.getD m 0] := by
      have := List.take_append_drop m l
      rw [drop_cons (by omega)] at this
      rw [List.drop_eq_nil_of_le (by omega)] at this
      exact this.symm
    have hu : uv l = uv (l.take m) + 128 ^ m * (l.getD m 0 % 128) := by
      conv => lhs; rw [hd]
      rw [uv_append, List.length_take, Nat.min_eq_left (by omega)]
      simp [sv]
    have hr2 := uv_range (l.take m)
    rw [List.length_take, Nat.min_eq_left (by omega)] at hr2
    unfold sgn
    rw [hl, Nat.add_sub_cancel]
    have hp : (0 : Int) < 128 ^ m := Int.pow_pos (by omega)
    rw [Int.pow_succ]
    have hc : 0 ≤ l.getD m 0 % 128 ∧ l.getD m 0 % 128 < 128 := by omega
    generalize l.getD m 0 % 128 = c at *
    split
    · right
      refine ⟨rfl, ?_⟩
      have : 128 ^ m * 64 ≤ 128 ^ m * c := Int.mul_le_mul_of_nonneg_left (by omega) (by omega)
      omega
    · left
      refine ⟨rfl, ?_⟩
      have : 128 ^ m * c ≤ 128 ^ m * 63 := Int.mul_le_mul_of_nonneg_left (by omega) (by omega)
      omega
  generalize uv l = u at *
  generalize sgn l = t at *
  have hn : n = 1 ∨ n = 2 ∨ n = 3 ∨ n = 4 ∨ n = 5 ∨ n = 6 ∨ n = 7 ∨ n = 8 ∨ n = 9 := by omega
  unfold wrap64
  rcases hn with rfl | rfl | rfl | rfl | rfl | rfl | rfl | rfl | rfl <;>
    simp only [Nat.reduceMul, Nat.reduceSub, Int.reducePow] at * <;> omega

theorem fits_iff (b v : Int) (hb : b = 32 ∨ b = 33 ∨ b = 64) (h0 : -9223372036854775808 ≤ v) (h1 : v < 9223372036854775808) :
    (shr .i64 v (wrap64 (b - 1)) = 0 ∨ shr .i64 v (wrap64 (b - 1)) = -1) ↔ fitsS b v := by
  unfold fitsS
  rcases hb with rfl | rfl | rfl
  · rw [show wrap64 (32 - 1) = ((31 : Nat) : Int) by (unfold wrap64; omega), shr_eq _ _ (by omega)]
    simp only [Int.reducePow, true_and, true_or, iff_true]; omega
  · rw [show wrap64 (33 - 1) = ((32 : Nat) : Int) by (unfold wrap64; omega), shr_eq _ _ (by omega)]
    simp only [Int.reducePow, true_and, true_or, iff_true]; omega
  · rw [show wrap64 (64 - 1) = ((63 : Nat) : Int) by (unfold wrap64; omega), shr_eq _ _ (by omega)]
    simp only [Int.reducePow, true_and, true_or, iff_true]; omega

/-- Ten groups, of which the last one is 0 or 127. -/
theorem ten (l : List Int) (hl : l.length = 10) (h : l.getD 9 0 = 0 ∨ l.getD 9 0 = 127) : wrap64 (uv l % 18446744073709551616) = sv (sgn l) l ∧ -9223372036854775808 ≤ sv (sgn l) l ∧ sv (sgn l) l < 9223372036854775808 := by
  have hd : l = l.take 9 ++ [l.getD 9 0] := by
    have := List.take_append_drop 9 l
    rw [drop_cons (by omega)] at this
    rw [List.drop_eq_nil_of_le (by omega)] at this
    exact this.symm
  have hu : uv l = uv (l.take 9) + 128 ^ 9 * (l.getD 9 0 % 128) := by
    conv => lhs; rw [hd]
    rw [uv_append, List.length_take, Nat.min_eq_left (by omega)]
    simp [sv]
  have hr2 := uv_range (l.take 9)
  rw [List.length_take, Nat.min_eq_left (by omega)] at hr2
  rw [sv_uv, hu, hl]
  unfold sgn wrap64
  rw [hl]
  rcases h with h | h <;> simp only [Nat.add_one_sub_one, h] <;> simp <;> omega

theorem TakeS_j0 (s : ByteArray) (hs : s.size ≤ 140737488351232) (b : Int) (hb : b = 32 ∨ b = 33 ∨ b = 64) (k : Nat) (hk : 24 ≤ k) : leb_TakeS.j0 k s b false = some (resU (takeS (bytesOf s) b)) := by
  obtain ⟨k, rfl⟩ : ∃ m, k = m + 2 := ⟨k - 2, by omega⟩
  rw [leb_TakeS.j0, if_neg (by simp), raw_eq s hs b hb (k + 1) (by omega)]
  simp only [Option.bind_some, rawR]
  have hle := len_le (bytesOf s) (mostS b)
  have hll := len_le_length (bytesOf s) (mostS b)
  have hm : mostS b ≤ 10 := by unfold mostS; split <;> omega
  have hm5 : b ≠ 64 → mostS b = 5 := by intro h; unfold mostS; rw [if_neg h]
  unfold takeS
  simp only
  generalize hn : len (bytesOf s) (mostS b) = n at *
  by_cases h0 : n = 0
  · rw [if_pos h0, if_pos h0, if_neg (by simp)]; rfl
  · rw [if_neg h0, if_neg h0]
    simp only [if_true, List.drop_zero, Int.pow_zero, Int.one_mul, Int.zero_add, Nat.zero_add]
    have hlen : ((bytesOf s).take n).length = n := by rw [List.length_take]; omega
    have hr := uv_range ((bytesOf s).take n)
    rw [hlen] at hr
    rw [bytesOf_length] at hll
    by_cases h10 : n = 10
    · subst h10
      have hb64 : b = 64 := by
        by_cases h : b = 64
        · exact h
        · have := hm5 h; omega
      have hg : ((bytesOf s).take 10).getD 9 0 = (bytesOf s).getD 9 0 := by simp [List.getD]
      rw [if_pos (by omega), if_pos (by omega), show bt s 9 = (bytesOf s).getD 9 0 from bt_nat s 9]
      have fin : ∀ (h : (bytesOf s).getD 9 0 = 0 ∨ (bytesOf s).getD 9 0 = 127), leb_TakeS.j1 (k + 1) (uv ((bytesOf s).take 10) % 18446744073709551616) (s.extract 10 s.size) false = some (resU (if 10 = 10 ∧ (bytesOf s).getD 9 0 ≠ 0 ∧ (bytesOf s).getD 9 0 ≠ 127 then none else if fitsS b (sv (sgn ((bytesOf s).take 10)) ((bytesOf s).take 10)) then some (sv (sgn ((bytesOf s).take 10)) ((bytesOf s).take 10), (bytesOf s).drop 10) else none)) := by
        intro h
        have ht := ten _ hlen (by rw [hg]; exact h)
        rw [leb_TakeS.j1, if_neg (by simp), ht.1, if_neg (by omega), if_pos (.inl hb64), rest_eq]
        rfl
      by_cases z : (bytesOf s).getD 9 0 = 0
      · rw [if_pos z]; exact fin (.inl z)
      · rw [if_neg z]
        by_cases z' : (bytesOf s).getD 9 0 = 127
        · rw [show ((bytesOf s).getD 9 0 != 127) = false by simp only [bne_eq_false_iff_eq]; exact z']
          exact fin (.inr z')
        · rw [show ((bytesOf s).getD 9 0 != 127) = true by simp only [bne_iff_ne]; exact z']
          rw [leb_TakeS.j1, if_pos rfl, if_pos ⟨rfl, z, z'⟩]
          rfl
    · have h9 : n ≤ 9 := by omega
      have h128 : (128 : Int) ^ n ≤ 128 ^ 9 := pow128 h9
      have e : uv ((bytesOf s).take n) % 18446744073709551616 = uv ((bytesOf s).take n) := by omega
      have hsp := spread ((bytesOf s).take n) n (by omega) h9 hlen (7 * (0 + (n : Int))) (by omega)
      have hsr := sv_range ((bytesOf s).take n) (by omega)
      rw [hlen] at hsr
      have h128' : (128 : Int) ^ (n - 1) ≤ 128 ^ 8 := pow128 (by omega)
      have hp8 : (128 : Int) ^ 8 = 72057594037927936 := by decide
      have hfi := fits_iff b (sv (sgn ((bytesOf s).take n)) ((bytesOf s).take n)) hb (by omega) (by omega)
      rw [if_neg (by omega), wrap64_id (n := 64 - 7 * ((0 : Nat) + (n : Int))) (by omega) (by omega), if_pos (by omega), wrap64_id (n := b - 1) (by omega) (by omega), if_pos (by omega)]
      rw [wrap64_id (n := 64 - 7 * (0 + (n : Int))) (by omega) (by omega)] at hsp
      rw [wrap64_id (n := b - 1) (by omega) (by omega)] at hfi
      have hz : (((0 : Nat) : Int) + (n : Int)) = 0 + (n : Int) := rfl
      have hn10 : ¬ (n = 10 ∧ (bytesOf s).getD 9 0 ≠ 0 ∧ (bytesOf s).getD 9 0 ≠ 127) := fun h => h10 h.1
      rw [hz, e, hsp, if_neg hn10, rest_eq]
      by_cases hf : fitsS b (sv (sgn ((bytesOf s).take n)) ((bytesOf s).take n))
      · rw [if_pos hf]
        rcases hfi.2 hf with h | h
        · rw [if_pos h]; rfl
        · rw [if_neg (by omega), if_pos h]; rfl
      · rw [if_neg hf, if_neg (fun h => hf (hfi.1 (.inl h))), if_neg (fun h => hf (hfi.1 (.inr h)))]; rfl

theorem TakeS_eq (s : ByteArray) (hs : s.size ≤ 140737488351232) (b : Int) (k : Nat) (hk : 24 ≤ k) : leb_TakeS.f k s b = some (resS (bytesOf s) b) := by
  unfold leb_TakeS.f resS
  by_cases h32 : b = 32
  · rw [if_pos h32, TakeS_j0 s hs b (by omega) k hk, if_pos (by omega)]
  · rw [if_neg h32]
    by_cases h33 : b = 33
    · rw [if_pos h33, TakeS_j0 s hs b (by omega) k hk, if_pos (by omega)]
    · rw [if_neg h33]
      by_cases h64 : b = 64
      · rw [show (b != 64) = false by simp [h64], TakeS_j0 s hs b (by omega) k hk, if_pos (by omega)]
      · rw [show (b != 64) = true by simp [h64], if_neg (by omega)]
        obtain ⟨k, rfl⟩ : ∃ m, k = m + 1 := ⟨k - 1, by omega⟩
        rw [leb_TakeS.j0, if_pos rfl]

theorem resU_none : resU none = (0, ⟨#[]⟩, 2) := rfl

theorem resU_some (v : Int) (r : List Int) : resU (some (v, r)) = (v, strOfNums r, 0) := rfl

theorem resS_good (l : List Int) {b : Int} (h : b = 32 ∨ b = 33 ∨ b = 64) : resS l b = resU (takeS l b) := by unfold resS; rw [if_pos h]

theorem app_bytes {l : List Int} (hl : ∀ x ∈ l, 0 ≤ x ∧ x < 256) (s : ByteArray) : bytesOf (strOfNums l ++ s) = l ++ bytesOf s := by
  rw [bytes_append, bytes_of hl]

theorem app_size (l : List Int) (s : ByteArray) : (strOfNums l ++ s).size = l.length + s.size := by
  rw [size_bytes, bytes_append, List.length_append, bytesOf_length, bytesOf_length, strOfNums_size]

theorem empty_toList : (⟨#[]⟩ : ByteArray).toList = [] := by decide +kernel

theorem empty_nums : (strOfNums []).toList = [] := by decide +kernel

def takeN : Nat → List Int → Option (List Int × List Int)
  | 0, l => some ([], l)
  | n + 1, l => match takeU l with
    | none => none
    | some (v, r) => match takeN n r with
      | none => none
      | some (a, b) => some (v :: a, b)

def takeA (l : List Int) (most : Int) : List Int × ByteArray × Int :=
  match takeU l with
  | none => ([], ⟨#[]⟩, 2)
  | some (n, r) => if n > most then ([], ⟨#[]⟩, 14) else match takeN n.toNat r with
    | none => ([], ⟨#[]⟩, 2)
    | some (a, b) => (a, strOfNums b, 0)

def resN (acc : List Int) : Option (List Int × List Int) → List Int × ByteArray × Int
  | none => ([], ⟨#[]⟩, 2)
  | some (a, b) => (acc ++ a, strOfNums b, 0)

theorem TakeAll_l0 : ∀ (m : Nat) (s : ByteArray) (acc : List Int) (n i k : Nat), n - i ≤ m → n < 4294967296 → s.size ≤ 140737488351232 → acc.length + m ≤ 10000000 → m + 40 ≤ k →
    leb_TakeAll.l0 k s acc (n : Int) (i : Int) = some (resN acc (takeN (n - i) (bytesOf s))) := by
  intro m
  induction m with
  | zero =>
    intro s acc n i k hm hn hs ha hk
    obtain ⟨k, rfl⟩ : ∃ m, k = m + 1 := ⟨k - 1, by omega⟩
    rw [leb_TakeAll.l0, if_neg (by omega), show n - i = 0 by omega]
    simp only [takeN, resN, List.append_nil, str_of]
  | succ m ih =>
    intro s acc n i k hm hn hs ha hk
    obtain ⟨k, rfl⟩ : ∃ m, k = m + 1 := ⟨k - 1, by omega⟩
    rw [leb_TakeAll.l0]
    by_cases h : i < n
    · obtain ⟨j, hj⟩ : ∃ j, n - i = j + 1 := ⟨n - i - 1, by omega⟩
      have hnj : n - (i + 1) = j := by omega
      rw [if_pos (by omega), TakeU_eq s hs k (by omega), hj]
      cases ht : takeU (bytesOf s) with
      | none =>
        rw [resU_none]
        simp only [Option.bind_some, takeN, ht, Int.reduceEq, if_false, resN]
      | some p =>
        obtain ⟨v, r⟩ := p
        obtain ⟨h0, h1, _, hlt, d, hd⟩ := takeU_len ht
        rw [bytesOf_length] at hlt
        have hr : ∀ x ∈ r, 0 ≤ x ∧ x < 256 := by
          rw [hd]; intro x hx; exact bytes_range s x (List.mem_of_mem_drop hx)
        rw [resU_some]
        have hi1 : wrap64 ((i : Int) + 1) = ((i + 1 : Nat) : Int) := by rw [wrap64_id (by omega) (by omega)]; omega
        have ha2 : acc.length < 17592186044416 := by omega
        simp only [Option.bind_some, takeN, ht, if_true, ha2]
        rw [hi1, ih (strOfNums r) (acc ++ [v]) n (i + 1) k (by omega) hn (by have := strOfNums_size r; omega) (by rw [List.length_append, List.length_singleton]; omega) (by omega),
          bytes_of hr, hnj]
        cases takeN j r with
        | none => rfl
        | some q => obtain ⟨a, b⟩ := q; simp [resN]
    · rw [if_neg (by omega), show n - i = 0 by omega]
      simp only [takeN, resN, List.append_nil, str_of]

theorem TakeAll_eq (s : ByteArray) (hs : s.size ≤ 140737488351232) : leb_TakeAll.f 1100 s 1000 = some (takeA (bytesOf s) 1000) := by
  unfold leb_TakeAll.f takeA
  rw [TakeU_eq s hs 1100 (by omega)]
  cases ht : takeU (bytesOf s) with
  | none => rw [resU_none]; simp
  | some p =>
    obtain ⟨v, r⟩ := p
    obtain ⟨h0, h1, _, hlt, d, hd⟩ := takeU_len ht
    rw [bytesOf_length] at hlt
    have hr : ∀ x ∈ r, 0 ≤ x ∧ x < 256 := by
      rw [hd]; intro x hx; exact bytes_range s x (List.mem_of_mem_drop hx)
    rw [resU_some]
    simp only [Option.bind_some, if_true]
    by_cases h : v > 1000
    · rw [if_pos h, if_pos h]
    · rw [if_neg h, if_neg h]
      have := TakeAll_l0 1000 (strOfNums r) [] v.toNat 0 1100 (by omega) (by omega) (by have := strOfNums_size r; omega) (by simp) (by omega)
      rw [show ((v.toNat : Nat) : Int) = v by omega, bytes_of hr] at this
      rw [show (0 : Int) = ((0 : Nat) : Int) from rfl, this]
      simp only [Nat.sub_zero]
      cases takeN v.toNat r with
      | none => rfl
      | some q => obtain ⟨a, b⟩ := q; simp [resN]

/-- Numbers laid one behind the other. -/
def puA : List Int → List Int
  | [] => []
  | x :: l => puZ x ++ puA l

theorem puA_range (l : List Int) : ∀ x ∈ puA l, 0 ≤ x ∧ x < 256 := by
  induction l with
  | nil => intro x hx; cases hx
  | cons a l ih =>
    intro x hx
    rcases List.mem_append.1 hx with h | h
    · exact puZ_range a x h
    · exact ih x h

theorem puA_len (l : List Int) (hl : ∀ x ∈ l, (Lit.int .i64 x).wf = true) : (puA l).length ≤ 9 * l.length := by
  induction l with
  | nil => simp [puA]
  | cons a l ih =>
    have := puZ_len a (wf64 (hl a (by simp))).2
    have := ih (fun x hx => hl x (by simp [hx]))
    simp only [puA, List.length_append, List.length_cons]
    omega

theorem PutAll_l0 (l : List Int) (hl : ∀ x ∈ l, (Lit.int .i64 x).wf = true) (hn : l.length ≤ 1000000) :
    ∀ (m i : Nat) (acc : List Int) (k : Nat), i + m = l.length → acc.length + 9 * m ≤ 100000000 → m + 20 ≤ k →
      leb_PutAll.l0 k (strOfNums acc) l (l.length : Int) (i : Int) = some (strOfNums (acc ++ puA (l.drop i))) := by
  intro m
  induction m with
  | zero =>
    intro i acc k hi ha hk
    obtain ⟨k, rfl⟩ : ∃ m, k = m + 1 := ⟨k - 1, by omega⟩
    rw [leb_PutAll.l0, if_neg (by omega), List.drop_eq_nil_of_le (by omega), puA, List.append_nil]
  | succ m ih =>
    intro i acc k hi ha hk
    obtain ⟨k, rfl⟩ : ∃ m, k = m + 1 := ⟨k - 1, by omega⟩
    have hlt : i < l.length := by omega
    have hw := wf64 (hl _ (getD_mem hlt))
    have hz := puZ_len (l.getD i 0) hw.2
    have e : rd l (i : Int) = l.getD i 0 := by simp [rd]
    have hi1 : wrap64 ((i : Int) + 1) = ((i + 1 : Nat) : Int) := by rw [wrap64_id (by omega) (by omega)]; omega
    rw [leb_PutAll.l0, if_pos (by omega), if_pos (by omega), if_pos (by omega), e, PutU_eq _ hw.2 k (by omega)]
    simp only [Option.bind_some]
    rw [if_pos (by rw [strOfNums_size, strOfNums_size]; omega), ← strOfNums_append, hi1, ih (i + 1) _ k (by omega) (by rw [List.length_append]; omega) (by omega), drop_cons hlt, puA, List.append_assoc]

theorem PutAll_eq (l : List Int) (hl : ∀ x ∈ l, (Lit.int .i64 x).wf = true) (hn : l.length ≤ 1000000) (k : Nat) (hk : l.length + 20 ≤ k) :
    leb_PutAll.f k l = some (strOfNums (pu l.length ++ puA l)) := by
  unfold leb_PutAll.f
  have e : puZ (l.length : Int) = pu l.length := by unfold puZ; rw [if_neg (by omega)]; rfl
  have hz := puZ_len (l.length : Int) (by omega)
  rw [PutU_eq _ (by omega) k (by omega)]
  simp only [Option.bind_some]
  have := PutAll_l0 l hl hn l.length 0 (puZ (l.length : Int)) k (by omega) (by omega) (by omega)
  rw [show ((0 : Nat) : Int) = 0 from rfl] at this
  rw [this, e, List.drop_zero]

theorem takeN_len : ∀ (n : Nat) (l a b : List Int), takeN n l = some (a, b) → a.length + b.length ≤ l.length := by
  intro n
  induction n with
  | zero => intro l a b h; simp only [takeN, Option.some.injEq, Prod.mk.injEq] at h; obtain ⟨rfl, rfl⟩ := h; simp
  | succ n ih =>
    intro l a b h
    simp only [takeN] at h
    cases ht : takeU l with
    | none => rw [ht] at h; cases h
    | some p =>
      obtain ⟨v, r⟩ := p
      rw [ht] at h
      simp only at h
      cases hn : takeN n r with
      | none => rw [hn] at h; cases h
      | some q =>
        obtain ⟨a', b'⟩ := q
        rw [hn] at h
        simp only [Option.some.injEq, Prod.mk.injEq] at h
        obtain ⟨rfl, rfl⟩ := h
        have := ih r a' b' hn
        have := takeU_len ht
        simp only [List.length_cons]
        omega

end Go.Proofs.Ytckhlbpjehbnlaa.LebF

namespace Go.Proofs.Ytckhlbpjehbnlaa.PB
open Go.RowKit Go.Proofs.YtckhlbpjehbnlaaW.PrintWords Go.Proofs.YtckhlbpjehbnlaaW.PrintLast Go.Proofs.YtckhlbpjehbnlaaW.PrintMore
open Go.Proofs.Ytckhlbpjehbnlaa.Str Go.Proofs.Ytckhlbpjehbnlaa.LebS Go.Proofs.Ytckhlbpjehbnlaa.LebF
set_option linter.unusedVariables false
set_option linter.unusedSimpArgs false

theorem beq_no {a b : Int} (h : a ≠ b) : (a == b) = false := by simpa using h
def Out (op : Int) : Prop := op < 0 ∨ (255 < op ∧ op < 64512) ∨ 64529 < op
theorem Out.ne {op : Int} (h : Out op) (c : Int) (hc : (0 ≤ c ∧ c ≤ 255) ∨ (64512 ≤ c ∧ c ≤ 64529)) : op ≠ c := by unfold Out at h; omega
theorem Out.nb {op : Int} (h : Out op) (c : Int) (hc : (0 ≤ c ∧ c ≤ 255) ∨ (64512 ≤ c ∧ c ≤ 64529)) : (op == c) = false := beq_no (h.ne c hc)
theorem wid_out (op : Int) (h : Out op) (k : Nat) : mem_Width.f (k + 5) op = some (0, 0, false) := by
  have e : ∀ c : Int, (0 ≤ c ∧ c ≤ 255) → (op = c) = False := fun c hc => eq_false (h.ne c (.inl hc))
  have b : ∀ c : Int, (0 ≤ c ∧ c ≤ 255) → (op == c) = false := fun c hc => h.nb c (.inl hc)
  have j4 : ∀ k, mem_Width.j4 (k + 1) op false = some (0, 0, false) := fun k => by
    simp only [mem_Width.j4, Bool.false_eq_true, if_false, e 54 (by decide), e 55 (by decide), e 58 (by decide), e 59 (by decide), e 60 (by decide), e 61 (by decide), e 62 (by decide)]
  have j3 : ∀ k, mem_Width.j3 (k + 2) op false = some (0, 0, false) := fun k => by
    simp only [mem_Width.j3, Bool.false_eq_true, if_false, e 52 (by decide), b 53 (by decide), j4]
  have j2 : ∀ k, mem_Width.j2 (k + 3) op false = some (0, 0, false) := fun k => by
    simp only [mem_Width.j2, Bool.false_eq_true, if_false, e 50 (by decide), b 51 (by decide), j3]
  have j1 : ∀ k, mem_Width.j1 (k + 4) op false = some (0, 0, false) := fun k => by
    simp only [mem_Width.j1, Bool.false_eq_true, if_false, e 48 (by decide), b 49 (by decide), j2]
  simp only [mem_Width.f, mem_Width.j0, Bool.false_eq_true, if_false, e 40 (by decide), e 41 (by decide), e 44 (by decide), b 45 (by decide), e 46 (by decide), b 47 (by decide), j1]
theorem sig_out (op : Int) (h : Out op) (k : Nat) : num_Sig.f (k + 6) op = some (0, 0, 0) := by
  have e : ∀ c : Int, (0 ≤ c ∧ c ≤ 255) → (op = c) = False := fun c hc => eq_false (h.ne c (.inl hc))
  have b : ∀ c : Int, (0 ≤ c ∧ c ≤ 255) → (op == c) = false := fun c hc => h.nb c (.inl hc)
  have d : ∀ c x : Int, (0 ≤ c ∧ c ≤ 255) → (0 ≤ x ∧ x ≤ 255) → op ≥ c → decide (op ≤ x) = false := fun c x hc hx hg => decide_eq_false (by unfold Out at h; omega)
  have d' : ∀ c x : Int, (0 ≤ c ∧ c ≤ 255) → (0 ≤ x ∧ x ≤ 255) → op ≥ c → decide (op < x) = false := fun c x hc hx hg => decide_eq_false (by unfold Out at h; omega)
  have n : ∀ c x : Int, (0 ≤ c ∧ c ≤ 255) → (0 ≤ x ∧ x ≤ 255) → op ≥ c → ¬ (op < x) := fun c x hc hx hg => by unfold Out at h; omega
  have n' : ∀ c x : Int, (0 ≤ c ∧ c ≤ 255) → (0 ≤ x ∧ x ≤ 255) → op ≥ c → ¬ (op ≤ x) := fun c x hc hx hg => by unfold Out at h; omega
  have j5 : ∀ k, num_Sig.j5 (k + 1) op false = some (0, 0, 0) := fun k => by
    simp only [num_Sig.j5, Bool.false_eq_true, if_false]
    split
    · rename_i q; rw [if_neg (n' 124 138 (by decide) (by decide) q)]
    · rfl
  have j4 : ∀ k, num_Sig.j4 (k + 2) op false = some (0, 0, 0) := fun k => by
    simp only [num_Sig.j4, Bool.false_eq_true, if_false]
    split
    · rename_i q; rw [d 81 90 (by decide) (by decide) q, j5]
    · exact j5 k
  have j3 : ∀ k, num_Sig.j3 (k + 3) op false = some (0, 0, 0) := fun k => by
    simp only [num_Sig.j3, Bool.false_eq_true, if_false]
    have m : (if op ≥ 106 then num_Sig.j4 (k + 2) op (decide (op < 121)) else num_Sig.j4 (k + 2) op false) = some (0, 0, 0) := by
      split
      · rename_i q; rw [d' 106 121 (by decide) (by decide) q, j4]
      · exact j4 k
    split
    · rename_i q; rw [if_neg (n 70 80 (by decide) (by decide) q), m]
    · exact m
  have j2 : ∀ k, num_Sig.j2 (k + 4) op false = some (0, 0, 0) := fun k => by
    simp only [num_Sig.j2, Bool.false_eq_true, if_false, e 172 (by decide), b 173 (by decide), j3]
  have j1 : ∀ k, num_Sig.j1 (k + 5) op false = some (0, 0, 0) := fun k => by
    simp only [num_Sig.j1, Bool.false_eq_true, if_false]
    have m : (if op ≥ 194 then num_Sig.j2 (k + 4) op (decide (op ≤ 196)) else num_Sig.j2 (k + 4) op false) = some (0, 0, 0) := by
      split
      · rename_i q; rw [d 194 196 (by decide) (by decide) q, j2]
      · exact j2 k
    split
    · rename_i q; rw [if_neg (n 121 124 (by decide) (by decide) q), m]
    · exact m
  have j0 : ∀ k, num_Sig.j0 (k + 6) op false = some (0, 0, 0) := fun k => by
    simp only [num_Sig.j0, Bool.false_eq_true, if_false, e 80 (by decide), b 167 (by decide), j1]
  simp only [num_Sig.f, e 69 (by decide), e 192 (by decide), b 193 (by decide), if_false, j0]
  split
  · rename_i q; rw [if_neg (n 103 106 (by decide) (by decide) q)]
  · rfl
theorem flo_out (op : Int) (h : Out op) (k : Nat) : instr_float.f (k + 4) op = some false := by
  have e : ∀ c : Int, (0 ≤ c ∧ c ≤ 255) → (op = c) = False := fun c hc => eq_false (h.ne c (.inl hc))
  have d : ∀ c x : Int, (0 ≤ c ∧ c ≤ 255) → (0 ≤ x ∧ x ≤ 255) → op ≥ c → decide (op ≤ x) = false := fun c x hc hx hg => decide_eq_false (by unfold Out at h; omega)
  have j3 : ∀ k, instr_float.j3 (k + 1) op false = some false := fun k => by
    simp only [instr_float.j3, Bool.false_eq_true, if_false]
    split
    · rw [if_neg (by unfold Out at h; omega)]
    · rfl
  have j2 : ∀ k, instr_float.j2 (k + 2) op false = some false := fun k => by
    simp only [instr_float.j2, Bool.false_eq_true, if_false]
    split
    · rename_i q; rw [d 174 191 (by decide) (by decide) q, j3]
    · exact j3 k
  have j1 : ∀ k, instr_float.j1 (k + 3) op false = some false := fun k => by
    simp only [instr_float.j1, Bool.false_eq_true, if_false]
    split
    · rename_i q; rw [d 168 171 (by decide) (by decide) q, j2]
    · exact j2 k
  have j0 : ∀ k, instr_float.j0 (k + 4) op false = some false := fun k => by
    simp only [instr_float.j0, Bool.false_eq_true, if_false]
    split
    · rename_i q; rw [d 139 166 (by decide) (by decide) q, j1]
    · exact j1 k
  simp only [instr_float.f, e 42 (by decide), e 43 (by decide), e 56 (by decide), e 57 (by decide), e 67 (by decide), e 68 (by decide), if_false]
  split
  · rename_i q; rw [d 91 102 (by decide) (by decide) q, j0]
  · exact j0 k
theorem shp_out (op : Int) (h : Out op) : instr_Shape.f 40 op = some (0, 5) := by
  have e : ∀ c : Int, (0 ≤ c ∧ c ≤ 255) ∨ (64512 ≤ c ∧ c ≤ 64529) → (op = c) = False := fun c hc => eq_false (h.ne c hc)
  have b : ∀ c : Int, (0 ≤ c ∧ c ≤ 255) ∨ (64512 ≤ c ∧ c ≤ 64529) → (op == c) = false := fun c hc => h.nb c hc
  have j5 : instr_Shape.j5 35 op op false = some (0, 5) := by
    simp only [instr_Shape.j5, Bool.false_eq_true, if_false, e 208 (by decide), wid_out op h 29, sig_out op h 28, flo_out op h 30, Option.bind_some, e 253 (by decide), Int.lt_irrefl, gt_iff_lt]
  have j4 : instr_Shape.j4 36 op op false = some (0, 5) := by
    simp only [instr_Shape.j4, Bool.false_eq_true, if_false, e 65 (by decide), b 66 (by decide), j5]
  have j3 : instr_Shape.j3 37 op op false = some (0, 5) := by
    simp only [instr_Shape.j3, Bool.false_eq_true, if_false, e 64522 (by decide), b 64526 (by decide), j4]
  have j2 : instr_Shape.j2 38 op op false = some (0, 5) := by
    simp only [instr_Shape.j2, Bool.false_eq_true, if_false, e 14 (by decide), e 17 (by decide), e 28 (by decide), e 37 (by decide), e 38 (by decide), e 63 (by decide), e 64 (by decide), e 64523 (by decide), e 64527 (by decide), e 64528 (by decide), b 64529 (by decide), j3]
  have j1 : instr_Shape.j1 39 op op false = some (0, 5) := by
    simp only [instr_Shape.j1, Bool.false_eq_true, if_false, e 12 (by decide), e 13 (by decide), e 16 (by decide), e 32 (by decide), e 33 (by decide), e 34 (by decide), e 35 (by decide), e 36 (by decide), b 210 (by decide), j2]
  have j0 : instr_Shape.j0 40 op op false = some (0, 5) := by
    simp only [instr_Shape.j0, Bool.false_eq_true, if_false, e 2 (by decide), e 3 (by decide), b 4 (by decide), j1]
  simp only [instr_Shape.f, e 0 (by decide), e 1 (by decide), e 15 (by decide), e 26 (by decide), e 27 (by decide), b 209 (by decide), if_false, j0]
/-- What there is to know of an opcode's shape. -/
def shB (op s e : Int) : Bool :=
  (e == 0 && decide (1 ≤ s) && decide (s ≤ 11) && ((s == 2) == (decide (2 ≤ op) && decide (op ≤ 4))) && (s != 10 || (op == 65 || op == 66)) && op != 5 && op != 11 && op != 252)
  || (s == 0 && (e == 3 || e == 4 || e == 5) && !(decide (2 ≤ op) && decide (op ≤ 4)))
def shC (op : Int) : Bool := match instr_Shape.f 40 op with
  | some (s, e) => shB op s e
  | none => false
theorem shC_low : ∀ i : Fin 256, shC (i.val : Int) = true := by decide +kernel
theorem shC_high : ∀ i : Fin 18, shC ((i.val : Int) + 64512) = true := by decide +kernel
structure ShOk (op s : Int) : Prop where
  s1 : 1 ≤ s
  s11 : s ≤ 11
  two : s = 2 ↔ 2 ≤ op ∧ op ≤ 4
  ten : s = 10 → op = 65 ∨ op = 66
  n5 : op ≠ 5
  n11 : op ≠ 11
  n252 : op ≠ 252
  range : (0 ≤ op ∧ op ≤ 255) ∨ (64512 ≤ op ∧ op ≤ 64529)
theorem shp_any (op : Int) : ∃ s e, instr_Shape.f 40 op = some (s, e) ∧ ((e = 0 ∧ ShOk op s) ∨ (s = 0 ∧ (e = 3 ∨ e = 4 ∨ e = 5) ∧ ¬ (2 ≤ op ∧ op ≤ 4))) := by
  by_cases h : Out op
  · exact ⟨0, 5, shp_out op h, .inr ⟨rfl, .inr (.inr rfl), by unfold Out at h; omega⟩⟩
  · have hr : (0 ≤ op ∧ op ≤ 255) ∨ (64512 ≤ op ∧ op ≤ 64529) := by unfold Out at h; omega
    have hc : shC op = true := by
      rcases hr with hr | hr
      · have := shC_low ⟨op.toNat, by omega⟩
        simpa [show ((op.toNat : Nat) : Int) = op by omega] using this
      · have := shC_high ⟨(op - 64512).toNat, by omega⟩
        have e : (((op - 64512).toNat : Nat) : Int) + 64512 = op := by omega
        simp only [e] at this
        exact this
    unfold shC at hc
    cases hs : instr_Shape.f 40 op with
    | none => rw [hs] at hc; cases hc
    | some p =>
      obtain ⟨s, e⟩ := p
      rw [hs] at hc
      refine ⟨s, e, rfl, ?_⟩
      simp only [shB, Bool.or_eq_true, Bool.and_eq_true, beq_iff_eq, decide_eq_true_eq, bne_iff_ne, ne_eq, Bool.not_eq_true', Bool.and_eq_false_iff, decide_eq_false_iff_not] at hc
      rcases hc with ⟨⟨⟨⟨⟨⟨⟨h1, h2⟩, h3⟩, h4⟩, h5⟩, h6⟩, h7⟩, h8⟩ | ⟨⟨h1, h2⟩, h3⟩
      · refine .inl ⟨h1, ⟨h2, h3, ?_, fun h => by omega, h6, h7, h8, hr⟩⟩
        have h4' := (Bool.eq_iff_iff.mp h4)
        simpa using h4'
      · exact .inr ⟨h1, by omega, by omega⟩
theorem shp_ok {op s : Int} (h : instr_Shape.f 40 op = some (s, 0)) : ShOk op s := by
  obtain ⟨s', e, h', hk⟩ := shp_any op
  rw [h'] at h
  obtain ⟨rfl, rfl⟩ := Prod.mk.inj (Option.some.inj h)
  rcases hk with ⟨_, hk⟩ | ⟨_, hk, _⟩
  · exact hk
  · omega
theorem ty_at (c : Int) : ∃ t e, instr_Type.f 5 c = some (t, e) ∧ ((e = 0 ∧ t = c ∧ (c = 127 ∨ c = 126 ∨ c = 112)) ∨ (t = 0 ∧ e ≠ 0 ∧ ¬ (c = 127 ∨ c = 126 ∨ c = 112))) := by
  by_cases h1 : c = 127
  · subst h1; exact ⟨127, 0, by decide +kernel, .inl ⟨rfl, rfl, by omega⟩⟩
  by_cases h2 : c = 126
  · subst h2; exact ⟨126, 0, by decide +kernel, .inl ⟨rfl, rfl, by omega⟩⟩
  by_cases h3 : c = 112
  · subst h3; exact ⟨112, 0, by decide +kernel, .inl ⟨rfl, rfl, by omega⟩⟩
  by_cases h4 : c = 125
  · subst h4; exact ⟨0, 3, by decide +kernel, .inr ⟨rfl, by decide, by omega⟩⟩
  by_cases h5 : c = 124
  · subst h5; exact ⟨0, 3, by decide +kernel, .inr ⟨rfl, by decide, by omega⟩⟩
  by_cases h6 : c = 123
  · subst h6; exact ⟨0, 4, by decide +kernel, .inr ⟨rfl, by decide, by omega⟩⟩
  exact ⟨0, 2, by simp [instr_Type.f, instr_Type.j0, instr_Type.j1, h1, h2, h3, h4, h5, h6], .inr ⟨rfl, by decide, by omega⟩⟩

end Go.Proofs.Ytckhlbpjehbnlaa.PB

namespace Go.Proofs.Ytckhlbpjehbnlaa.PB
open Go.RowKit Go.Proofs.YtckhlbpjehbnlaaW.PrintWords Go.Proofs.YtckhlbpjehbnlaaW.PrintLast Go.Proofs.YtckhlbpjehbnlaaW.PrintMore
open Go.Proofs.Ytckhlbpjehbnlaa.Str Go.Proofs.Ytckhlbpjehbnlaa.LebS Go.Proofs.Ytckhlbpjehbnlaa.LebF
set_option linter.unusedVariables false
set_option linter.unusedSimpArgs false

def Rng (l : List Int) : Prop := ∀ x ∈ l, 0 ≤ x ∧ x < 256
theorem Rng.app {a b : List Int} (ha : Rng a) (hb : Rng b) : Rng (a ++ b) := fun x hx => (List.mem_append.mp hx).elim (ha x) (hb x)
theorem Rng.left {a b : List Int} (h : Rng (a ++ b)) : Rng a := fun x hx => h x (List.mem_append_left _ hx)
theorem Rng.right {a b : List Int} (h : Rng (a ++ b)) : Rng b := fun x hx => h x (List.mem_append_right _ hx)
theorem Rng.nil : Rng [] := fun x hx => by cases hx
theorem Rng.cons {c : Int} {l : List Int} (h0 : 0 ≤ c ∧ c < 256) (h : Rng l) : Rng (c :: l) := fun x hx => (List.mem_cons.mp hx).elim (fun e => e ▸ h0) (h x)
theorem Rng.drop {l : List Int} (h : Rng l) (n : Nat) : Rng (l.drop n) := fun x hx => h x (List.mem_of_mem_drop hx)
theorem Rng.pu (n : Nat) : Rng (pu n) := pu_range n
theorem Rng.ps (n : Int) : Rng (ps n) := ps_range _ n (Nat.le_refl _)

theorem takeS_ps33 (n : Int) (more : List Int) : takeS (ps n ++ more) 33 = if -4294967296 ≤ n ∧ n < 4294967296 then some (n, more) else none := by
  have hw := ps_whole _ n (Nat.le_refl _)
  have hp := ps_pos n
  unfold takeS mostS fitsS
  simp only [hw.len more, show ¬ ((33 : Int) = 64) by omega, if_false]
  by_cases h : (ps n).length ≤ 5
  · rw [if_pos h, if_neg (by omega), if_neg (by omega), List.take_left, List.drop_left, sv_ps _ n (Nat.le_refl _)]
    by_cases h2 : -4294967296 ≤ n ∧ n < 4294967296
    · rw [if_pos h2, if_pos]; exact .inr (.inl ⟨by simp, h2⟩)
    · rw [if_neg h2, if_neg]; rintro (h | h | h) <;> omega
  · rw [if_neg h, if_pos rfl, if_neg]
    rintro ⟨h2, h3⟩
    exact h (ps_len 4 n (by omega) (by omega))

/-- A part at the begin, and not the whole. -/
def Cutp (p l : List Int) : Prop := ∃ q, l = p ++ q ∧ q ≠ []
theorem cut_app {p a b : List Int} (h : Cutp p (a ++ b)) : Cutp p a ∨ ∃ p', p = a ++ p' ∧ Cutp p' b := by
  obtain ⟨q, hq, hn⟩ := h
  rcases List.append_eq_append_iff.mp hq with ⟨x, hx, hx2⟩ | ⟨x, hx, hx2⟩
  · exact .inr ⟨x, hx, q, hx2, hn⟩
  · by_cases hx0 : x = []
    · subst hx0
      rw [List.append_nil] at hx
      rw [List.nil_append] at hx2
      exact .inr ⟨[], by rw [hx, List.append_nil], q, by rw [hx2, List.nil_append], hn⟩
    · exact .inl ⟨x, hx, hx0⟩
theorem cut_one {p : List Int} {c : Int} (h : Cutp p [c]) : p = [] := by
  obtain ⟨q, hq, hn⟩ := h
  cases p with
  | nil => rfl
  | cons a p =>
    simp at hq
    exact absurd hq.2.2 hn
theorem cut_nil {p : List Int} (h : Cutp p []) : False := by
  obtain ⟨q, hq, hn⟩ := h
  simp at hq
  exact hn hq.2
theorem cut_rng {p l : List Int} (h : Cutp p l) (hl : Rng l) : Rng p := by
  obtain ⟨q, rfl, _⟩ := h
  exact hl.left
theorem cut_len {p l : List Int} (h : Cutp p l) : p.length < l.length := by
  obtain ⟨q, rfl, hn⟩ := h
  have := List.length_pos_iff.mpr hn
  rw [List.length_append]; omega
theorem whole_cut {l : List Int} (h : Whole l) : ∀ p, Cutp p l → ∀ m, LebS.len p m = 0 := by
  induction h with
  | one h =>
    intro p hp m
    rw [cut_one hp]
    cases m <;> simp [LebS.len]
  | more h k ih =>
    rintro p ⟨q, hq, hn⟩ m
    cases p with
    | nil => cases m <;> simp [LebS.len]
    | cons a p =>
      simp at hq
      obtain ⟨rfl, hq⟩ := hq
      cases m with
      | zero => simp [LebS.len]
      | succ m => simp only [LebS.len, if_neg h, ih p ⟨q, hq, hn⟩ m, if_true]
theorem takeU_cut {n : Nat} {p : List Int} (h : Cutp p (pu n)) : takeU p = none := by
  unfold takeU
  rw [whole_cut (pu_whole n) p h 5, if_pos rfl]
theorem takeS_cut {n : Int} {p : List Int} (h : Cutp p (ps n)) (b : Int) : takeS p b = none := by
  unfold takeS
  rw [whole_cut (ps_whole _ n (Nat.le_refl _)) p h]
  simp

/-! ### the reader's parts -/
abbrev Sm (l : List Int) : Prop := l.length ≤ 140737488351232
theorem rU_some {l r : List Int} {v n : Int} (hl : Rng l) (hs : Sm l) (h : takeU l = some (v, r)) : rU (strOfNums l, n, 0) = some (v, strOfNums r, n, 0) := by
  show instr_reader_u.f 40 (strOfNums l) n 0 = _
  unfold instr_reader_u.f
  rw [if_pos rfl, TakeU_eq (strOfNums l) (by rw [strOfNums_size]; exact hs) 40 (by omega), bytes_of hl, h, resU_some]
  rfl
theorem rU_none {l : List Int} {n : Int} (hl : Rng l) (hs : Sm l) (h : takeU l = none) : rU (strOfNums l, n, 0) = some (0, ⟨#[]⟩, n, 2) := by
  show instr_reader_u.f 40 (strOfNums l) n 0 = _
  unfold instr_reader_u.f
  rw [if_pos rfl, TakeU_eq (strOfNums l) (by rw [strOfNums_size]; exact hs) 40 (by omega), bytes_of hl, h, resU_none]
  rfl
theorem rU_err {s : ByteArray} {n e : Int} (h : e ≠ 0) : rU (s, n, e) = some (0, s, n, e) := by
  show instr_reader_u.f 40 s n e = _
  unfold instr_reader_u.f
  rw [if_neg h]
theorem rS_some {l r : List Int} {v n b : Int} (hb : b = 32 ∨ b = 33 ∨ b = 64) (hl : Rng l) (hs : Sm l) (h : takeS l b = some (v, r)) : rSigned (strOfNums l, n, 0) b = some (v, strOfNums r, n, 0) := by
  show instr_reader_signed.f 40 (strOfNums l) n 0 b = _
  unfold instr_reader_signed.f
  rw [if_pos rfl, TakeS_eq (strOfNums l) (by rw [strOfNums_size]; exact hs) b 40 (by omega), bytes_of hl, resS_good _ hb, h, resU_some]
  rfl
theorem rS_none {l : List Int} {n b : Int} (hb : b = 32 ∨ b = 33 ∨ b = 64) (hl : Rng l) (hs : Sm l) (h : takeS l b = none) : rSigned (strOfNums l, n, 0) b = some (0, ⟨#[]⟩, n, 2) := by
  show instr_reader_signed.f 40 (strOfNums l) n 0 b = _
  unfold instr_reader_signed.f
  rw [if_pos rfl, TakeS_eq (strOfNums l) (by rw [strOfNums_size]; exact hs) b 40 (by omega), bytes_of hl, resS_good _ hb, h, resU_none]
  rfl
theorem rS_err {s : ByteArray} {n e b : Int} (h : e ≠ 0) : rSigned (s, n, e) b = some (0, s, n, e) := by
  show instr_reader_signed.f 40 s n e b = _
  unfold instr_reader_signed.f
  rw [if_neg h]
theorem rFail_0 {s : ByteArray} {n c : Int} : rFail (s, n, 0) c = some (s, n, c) := by
  show instr_reader_fail.f s n 0 c = _
  unfold instr_reader_fail.f
  rw [if_pos rfl]
theorem rFail_e {s : ByteArray} {n e c : Int} (h : e ≠ 0) : rFail (s, n, e) c = some (s, n, e) := by
  show instr_reader_fail.f s n e c = _
  unfold instr_reader_fail.f
  rw [if_neg h]
theorem str_nil : strOfNums [] = (⟨#[]⟩ : ByteArray) := by decide +kernel
theorem toList_ne {c : Int} {l : List Int} : (strOfNums (c :: l)).toList ≠ [] := fun h => by
  have := toList_iff.mp (h.trans empty_nums.symm)
  have h2 := congrArg ByteArray.size this
  rw [strOfNums_size, strOfNums_size] at h2
  simp at h2
theorem head_bt {c : Int} {l : List Int} (h : Rng (c :: l)) : bt (strOfNums (c :: l)) 0 = c := by
  rw [bt_get, bytes_of h]; rfl
theorem tail_ex {c : Int} {l : List Int} (h : Rng (c :: l)) : (strOfNums (c :: l)).extract 1 (strOfNums (c :: l)).size = strOfNums l := by
  rw [rest_eq, bytes_of h]; rfl
theorem rByte_cons {c : Int} {l : List Int} {n : Int} (h : Rng (c :: l)) : rByte (strOfNums (c :: l), n, 0) = some (c, strOfNums l, n, 0) := by
  show instr_reader_byte.f (strOfNums (c :: l)) n 0 = _
  unfold instr_reader_byte.f
  have hc := h c (by simp)
  have hz : (strOfNums (c :: l)).size = l.length + 1 := by rw [strOfNums_size]; rfl
  rw [if_pos rfl, if_neg toList_ne, if_pos (by omega), if_pos (by omega), head_bt h, tail_ex h, wrap64_id (by omega) (by omega)]
theorem rByte_nil {n : Int} : rByte (⟨#[]⟩, n, 0) = some (0, ⟨#[]⟩, n, 2) := by
  show instr_reader_byte.f ⟨#[]⟩ n 0 = _
  unfold instr_reader_byte.f
  rw [if_pos rfl, if_pos empty_toList]
  have := @rFail_0 ⟨#[]⟩ n 2
  rw [show instr_reader_fail.f ⟨#[]⟩ n 0 2 = some (⟨#[]⟩, n, 2) from this]
  rfl
theorem rByte_err {s : ByteArray} {n e : Int} (h : e ≠ 0) : rByte (s, n, e) = some (0, s, n, e) := by
  show instr_reader_byte.f s n e = _
  unfold instr_reader_byte.f
  rw [if_neg h, show instr_reader_fail.f s n e 2 = some (s, n, e) from rFail_e h]
  rfl
theorem rLab {l : List Int} {n : Int} (hl : Rng l) (hs : Sm l) : rLabels (strOfNums l, n, 0) = some ((takeA l 1000).1, (takeA l 1000).2.1, n, (takeA l 1000).2.2) := by
  show instr_reader_labels.f 1100 (strOfNums l) n 0 = _
  unfold instr_reader_labels.f
  rw [if_pos rfl, TakeAll_eq (strOfNums l) (by rw [strOfNums_size]; exact hs), bytes_of hl]
  rfl
theorem rLab_err {s : ByteArray} {n e : Int} (h : e ≠ 0) : rLabels (s, n, e) = some ([], s, n, e) := by
  show instr_reader_labels.f 1100 s n e = _
  unfold instr_reader_labels.f
  rw [if_neg h]
theorem ty_more {c : Int} {r : Int × Int} (h : instr_Type.f 5 c = some r) (k : Nat) (hk : 5 ≤ k) : instr_Type.f k c = some r := at_rounds (instr_Type.mono c) hk h
theorem rBlock_c {c : Int} {l : List Int} {n t e : Int} (h : Rng (c :: l)) (h0 : 64 ≤ c) (h1 : c < 128) (ht : instr_Type.f 5 c = some (t, e)) :
    rBlock (strOfNums (c :: l), n, 0) = some (c - 128, strOfNums l, n, if c = 64 then 0 else e) := by
  show instr_reader_block.f 40 (strOfNums (c :: l)) n 0 = _
  unfold instr_reader_block.f
  have hc := h c (by simp)
  have hz : (strOfNums (c :: l)).size = l.length + 1 := by rw [strOfNums_size]; rfl
  rw [if_pos rfl, if_neg toList_ne, if_pos (by omega), head_bt h, if_pos h0, decide_eq_true h1]
  simp only [instr_reader_block.j0, if_true]
  rw [show instr_reader_byte.f (strOfNums (c :: l)) n 0 = some (c, strOfNums l, n, 0) from rByte_cons h]
  simp only [Option.bind_some]
  by_cases hc4 : c = 64
  · rw [if_pos hc4, if_pos hc4, hc4]; rfl
  · rw [if_neg hc4, if_neg hc4, ty_more ht 39 (by omega)]
    simp only [Option.bind_some]
    rw [show instr_reader_fail.f (strOfNums l) n 0 e = some (strOfNums l, n, e) from rFail_0, wrap64_id (by omega) (by omega)]
    rfl
/-- What begins a number, and no block's type by a letter. -/
def NoC (l : List Int) : Prop := ∀ c r, l = c :: r → ¬ (64 ≤ c ∧ c < 128)
theorem rBlock_j {l : List Int} {n : Int} : NoC l → Rng l → instr_reader_block.f 40 (strOfNums l) n 0 = instr_reader_block.j0 40 false (strOfNums l) n 0 := by
  intro h hl
  unfold instr_reader_block.f
  rw [if_pos rfl]
  cases l with
  | nil => rw [if_pos empty_nums]
  | cons c l =>
    have hz : (strOfNums (c :: l)).size = l.length + 1 := by rw [strOfNums_size]; rfl
    rw [if_neg toList_ne, if_pos (by omega), head_bt hl]
    split
    · rename_i h0
      rw [decide_eq_false (fun h1 => h c l rfl ⟨h0, h1⟩)]
    · rfl
theorem rBlock_some {l r : List Int} {n v : Int} (h : NoC l) (hl : Rng l) (hs : Sm l) (ht : takeS l 33 = some (v, r)) : rBlock (strOfNums l, n, 0) = some (v, strOfNums r, n, if v < 0 then 2 else 0) := by
  show instr_reader_block.f 40 (strOfNums l) n 0 = _
  rw [rBlock_j h hl]
  simp only [instr_reader_block.j0, Bool.false_eq_true, if_false]
  have h2 := rS_some (n := n) (.inr (.inl rfl)) hl hs ht
  have h3 : instr_reader_signed.f 39 (strOfNums l) n 0 33 = some (v, strOfNums r, n, 0) := by
    unfold instr_reader_signed.f
    rw [if_pos rfl, TakeS_eq (strOfNums l) (by rw [strOfNums_size]; exact hs) 33 39 (by omega), bytes_of hl, resS_good _ (.inr (.inl rfl)), ht, resU_some]
    rfl
  rw [h3]
  simp only [Option.bind_some]
  split
  · rw [show instr_reader_fail.f (strOfNums r) n 0 2 = some (strOfNums r, n, 2) from rFail_0]
    rfl
  · rfl
theorem rBlock_none {l : List Int} {n : Int} (h : NoC l) (hl : Rng l) (hs : Sm l) (ht : takeS l 33 = none) : rBlock (strOfNums l, n, 0) = some (0, ⟨#[]⟩, n, 2) := by
  show instr_reader_block.f 40 (strOfNums l) n 0 = _
  rw [rBlock_j h hl]
  simp only [instr_reader_block.j0, Bool.false_eq_true, if_false]
  have h3 : instr_reader_signed.f 39 (strOfNums l) n 0 33 = some (0, ⟨#[]⟩, n, 2) := by
    unfold instr_reader_signed.f
    rw [if_pos rfl, TakeS_eq (strOfNums l) (by rw [strOfNums_size]; exact hs) 33 39 (by omega), bytes_of hl, resS_good _ (.inr (.inl rfl)), ht, resU_none]
    rfl
  rw [h3]
  simp only [Option.bind_some, Int.lt_irrefl, if_false]
theorem rBlock_err {s : ByteArray} {n e : Int} (h : e ≠ 0) : rBlock (s, n, e) = some (0, s, n, e) := by
  show instr_reader_block.f 40 s n e = _
  unfold instr_reader_block.f
  rw [if_neg h]
  simp only [instr_reader_block.j0, Bool.false_eq_true, if_false]
  have h3 : instr_reader_signed.f 39 s n e 33 = some (0, s, n, e) := by
    unfold instr_reader_signed.f
    rw [if_neg h]
  rw [h3]
  simp only [Option.bind_some, Int.lt_irrefl, if_false]

end Go.Proofs.Ytckhlbpjehbnlaa.PB
