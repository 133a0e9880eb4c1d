/- Several texts, laid into one for a claim: PAx0, PAx6, PAx11, PAx12, PAx13, PAx14, PAx15, PAx16, PAx17, PAx36, PAx2, PAx3, PAx7. -/
import Derived.Test.YtlggjgpdiffajaaDoorProg
import Derived.Below
import Derived.Deep.Draws
import Derived.Deep.AppendLies
import Derived.Maps.AppendAt
import Derived.OwnWalk
import Derived.Laws.BytesArg
import Derived.Laws.MakeOwn
import Derived.Laws.OwnMore
import Derived.Deep.OwnRows
import Derived.Tactics
import Derived.Lib.ConvBytes
import Derived.Laws.Slices
import Derived.WalkKit
import Derived.KernelRfl
import Derived.RowKit3
import Derived.Deep.LoopGhost
import Derived.Deep.QuietTactic
import Derived.BigQuiet
import Derived.WideLaws
import Derived.Deep.DeepCutAuto
import Derived.Deep.CutBlock
import Derived.Deep.RegionHeld3
import Derived.Laws.Rows
import Derived.Lib.AppendStr
import Derived.ArgAppend
import Derived.Laws.IdiomCopy
import Derived.OrdersHeld
import Derived.Laws.BitsLemmas
import Derived.RowKit
import Derived.ScopeJumps
import Derived.WalkMore
import Derived.Lib.TrailingZeros
import Derived.Shelf.Small.Strs
import Derived.Shelf.Strings.Search3
import Derived.Shelf.Strings.SlTrimAscii
import Derived.RangeFuncNested
import Derived.RangeFuncBound
import Derived.RangeFuncCalls
import Derived.RangeFuncLeaves
import Derived.Shelf.Abstract
import Derived.Shelf.RegionOpen
import Derived.OwnWalkIn
import Derived.TacticsInMore
import Derived.LoopNIn
import Derived.LoopIn
import Derived.Test.YtlggjgpdiffajaaDoorPLexVersions0
namespace Go.Proofs.YtlggjgpdiffajaaDoor.PA
open Go.RowKit Go.Proofs.YtlggjgpdiffajaaDoorW.PrintWords Go.Proofs.YtlggjgpdiffajaaDoorW.PrintLast Go.Proofs.YtlggjgpdiffajaaDoorW.PrintMore
attribute [local go_sem] max2_int min2_int max_two min_two max_three min_three max_four min_four   -- for this text's walks alone
set_option linter.unusedVariables false
set_option linter.unusedSimpArgs false
def errW : Option Int → Value
  | none => .nilIface
  | some c => .iface 0 (.int .i64 c)
theorem errW_none : errW none = .nilIface := rfl
theorem errW_some (c : Int) : errW (some c) = .iface 0 (.int .i64 c) := rfl
theorem info33 : (Tryd.prog.info? 33).map (fun i => (i.zero, i.size, i.bytes)) = some (some (.agg #[(.int .i64 0), (.string ⟨#[]⟩), (.int .i64 0)]), 3, 32) := by kernel_rfl
-- the values' own types
structure S33 where
  f0 : Int
  f1 : ByteArray
  f2 : Int
def z33 : S33 := ⟨(0 : Int), (⟨#[]⟩ : ByteArray), (0 : Int)⟩
def k33 : Kd S33 := Kd.iso (Kd.pair (Kd.int .i64) (Kd.pair Kd.string (Kd.int .i64))) (fun x : S33 => (x.f0, x.f1, x.f2))
theorem k33_open {w : World} {x : S33} {cs : List Value} (h : k33.K w x cs) : cs = [.int .i64 x.f0, .string x.f1, .int .i64 x.f2] := by
  obtain ⟨_, _, rfl, rfl, ⟨_, _, rfl, rfl, rfl⟩⟩ := h
  exact rfl
theorem k33_mkM (w : World) (base : Nat) (ok : Nat → Prop) (x : S33)  : k33.M w base ok x [.int .i64 x.f0, .string x.f1, .int .i64 x.f2] := ⟨[.int .i64 x.f0], [.string x.f1, .int .i64 x.f2], rfl, rfl, ⟨[.string x.f1], [.int .i64 x.f2], rfl, rfl, rfl⟩⟩
def rd_T33 (xs : List S33) (i : Int) : S33 := xs.getD i.toNat z33
theorem at_T33 {w : World} {A : Option Addr} {n : Nat} {xs : List S33} (h : Kd.C k33 w A n xs) (i : Int) (h0 : 0 ≤ i) (h1 : i < n) : ∃ ad , A = some ad ∧ w.cell? (ad.add (i.toNat * 3)) = some (.int .i64 (rd_T33 xs i).f0) ∧ w.cell? ⟨(ad.add (i.toNat * 3)).block, (ad.add (i.toNat * 3)).off + 1, none⟩ = some (.string (rd_T33 xs i).f1) ∧ w.cell? ⟨(ad.add (i.toNat * 3)).block, (ad.add (i.toNat * 3)).off + 2, none⟩ = some (.int .i64 (rd_T33 xs i).f2) := by
  obtain ⟨ad, c, e, _, hK, hc0⟩ := Kd.C_get h z33 i h0 h1
  have hc : ∀ j u, c[j]? = some u → w.cell? (ad.add (i.toNat * 3 + j)) = some u := hc0
  obtain rfl := k33_open hK
  exact ⟨ad, e, hc 0 _ rfl, by rw [← add_field _ _ 1 (by omega)]; exact hc 1 _ rfl, by rw [← add_field _ _ 2 (by omega)]; exact hc 2 _ rfl⟩
def lx_lays137_ren : Go.Shelf.Ren := ⟨fun | 137 => 30 | 217 => 50 | 266 => 57 | n => n, fun | 9 => 9 | 5 => 5 | 3 => 3 | n => n, fun | n => n⟩
theorem lx_lays137 : Go.Proofs.Lays.n137 Tryd.prog lx_lays137_ren := {
  mixed := by kernel_rfl
  f137 := Tryd.func30.trans (congrArg some (by kernel_rfl))
  f217 := Tryd.func50.trans (congrArg some (by kernel_rfl))
  f266 := Tryd.func57.trans (congrArg some (by kernel_rfl))
  t3 := Tryd.underlying3
  a3 := Tryd.isAgg3
  z3 := Tryd.sizeOf3
  v3 := Tryd.zeroValue3
  t5 := Tryd.underlying5
  a5 := Tryd.isAgg5
  z5 := Tryd.sizeOf5
  v5 := Tryd.zeroValue5
  t9 := Tryd.underlying9
  a9 := Tryd.isAgg9
  z9 := Tryd.sizeOf9
  v9 := Tryd.zeroValue9 }
def lx_lays143_ren : Go.Shelf.Ren := ⟨fun | 143 => 53 | 219 => 59 | 217 => 50 | 225 => 62 | 224 => 63 | 267 => 64 | 266 => 57 | 314 => 66 | n => n, fun | 9 => 9 | 3 => 3 | 4 => 4 | 5 => 5 | 46 => 71 | 146 => 78 | 51 => 77 | n => n, fun | 1 => 0 | n => n⟩
theorem lx_lays143 : Go.Proofs.Lays.n143 Tryd.prog lx_lays143_ren := {
  mixed := by kernel_rfl
  f143 := Tryd.func53.trans (congrArg some (by kernel_rfl))
  f217 := Tryd.func50.trans (congrArg some (by kernel_rfl))
  f219 := Tryd.func59.trans (congrArg some (by kernel_rfl))
  f224 := Tryd.func63.trans (congrArg some (by kernel_rfl))
  f225 := Tryd.func62.trans (congrArg some (by kernel_rfl))
  f266 := Tryd.func57.trans (congrArg some (by kernel_rfl))
  f267 := Tryd.func64.trans (congrArg some (by kernel_rfl))
  f314 := Tryd.func66.trans (congrArg some (by kernel_rfl))
  t3 := Tryd.underlying3
  a3 := Tryd.isAgg3
  z3 := Tryd.sizeOf3
  v3 := Tryd.zeroValue3
  t4 := Tryd.underlying4
  a4 := Tryd.isAgg4
  z4 := Tryd.sizeOf4
  v4 := Tryd.zeroValue4
  t5 := Tryd.underlying5
  a5 := Tryd.isAgg5
  z5 := Tryd.sizeOf5
  v5 := Tryd.zeroValue5
  t9 := Tryd.underlying9
  a9 := Tryd.isAgg9
  z9 := Tryd.sizeOf9
  v9 := Tryd.zeroValue9
  t46 := Tryd.underlying71
  a46 := Tryd.isAgg71
  z46 := Tryd.sizeOf71
  v46 := Tryd.zeroValue71
  t51 := Tryd.underlying77
  a51 := Tryd.isAgg77
  z51 := Tryd.sizeOf77
  v51 := Tryd.zeroValue77
  t146 := Tryd.underlying78
  a146 := Tryd.isAgg78
  z146 := Tryd.sizeOf78
  v146 := Tryd.zeroValue78
  g1 := by kernel_rfl }
open Go.RowKit in
theorem lx_strings_IndexByte (s : ByteArray) (c : Int) (w : World) :
    Calls Tryd.prog 30 #[.string s, .int .u8 c] w fun e w' => e = .returned (.int .i64 (Lib.indexByte s.data.toList c.toNat.toUInt8)) ∧ w' = w := Any.strings_IndexByte lx_lays137 s c w
open Go.RowKit Go.Lib in
theorem lx_strings_Index_one (s : ByteArray) (c : UInt8) (w : World) :
    Calls Tryd.prog 53 #[.string s, .string ⟨#[c]⟩] w fun e w' => e = .returned (.int .i64 (Lib.indexByte s.data.toList c)) ∧ w' = w := Any.strings_Index_one lx_lays143 s c w
def lx_lays160_ren : Go.Shelf.Ren := ⟨fun | 160 => 26 | 232 => 43 | 231 => 42 | 227 => 44 | 234 => 46 | 233 => 45 | 236 => 48 | 235 => 47 | 228 => 54 | 271 => 56 | 151 => 55 | 197 => 52 | 120 => 61 | 152 => 60 | 260 => 58 | 137 => 30 | 119 => 65 | 224 => 63 | 225 => 62 | 217 => 50 | 266 => 57 | n => n, fun | 9 => 9 | 4 => 4 | 3 => 3 | 5 => 5 | 117 => 61 | 116 => 60 | 0 => 0 | 124 => 64 | 21 => 21 | 105 => 65 | 46 => 71 | 119 => 70 | 139 => 74 | 138 => 73 | n => n, fun | 3 => 1 | 4 => 2 | n => n⟩
theorem lx_lays160 : Go.Proofs.Lays.n160 Tryd.prog lx_lays160_ren := {
  mixed := by kernel_rfl
  f119 := Tryd.func65.trans (congrArg some (by kernel_rfl))
  f120 := Tryd.func61.trans (congrArg some (by kernel_rfl))
  f137 := Tryd.func30.trans (congrArg some (by kernel_rfl))
  f151 := Tryd.func55.trans (congrArg some (by kernel_rfl))
  f152 := Tryd.func60.trans (congrArg some (by kernel_rfl))
  f160 := Tryd.func26.trans (congrArg some (by kernel_rfl))
  f197 := Tryd.func52.trans (congrArg some (by kernel_rfl))
  f217 := Tryd.func50.trans (congrArg some (by kernel_rfl))
  f224 := Tryd.func63.trans (congrArg some (by kernel_rfl))
  f225 := Tryd.func62.trans (congrArg some (by kernel_rfl))
  f227 := Tryd.func44.trans (congrArg some (by kernel_rfl))
  f228 := Tryd.func54.trans (congrArg some (by kernel_rfl))
  f231 := Tryd.func42.trans (congrArg some (by kernel_rfl))
  f232 := Tryd.func43.trans (congrArg some (by kernel_rfl))
  f233 := Tryd.func45.trans (congrArg some (by kernel_rfl))
  f234 := Tryd.func46.trans (congrArg some (by kernel_rfl))
  f235 := Tryd.func47.trans (congrArg some (by kernel_rfl))
  f236 := Tryd.func48.trans (congrArg some (by kernel_rfl))
  f260 := Tryd.func58.trans (congrArg some (by kernel_rfl))
  f266 := Tryd.func57.trans (congrArg some (by kernel_rfl))
  f271 := Tryd.func56.trans (congrArg some (by kernel_rfl))
  t0 := Tryd.underlying0
  a0 := Tryd.isAgg0
  z0 := Tryd.sizeOf0
  v0 := Tryd.zeroValue0
  t3 := Tryd.underlying3
  a3 := Tryd.isAgg3
  z3 := Tryd.sizeOf3
  v3 := Tryd.zeroValue3
  t4 := Tryd.underlying4
  a4 := Tryd.isAgg4
  z4 := Tryd.sizeOf4
  v4 := Tryd.zeroValue4
  t5 := Tryd.underlying5
  a5 := Tryd.isAgg5
  z5 := Tryd.sizeOf5
  v5 := Tryd.zeroValue5
  t9 := Tryd.underlying9
  a9 := Tryd.isAgg9
  z9 := Tryd.sizeOf9
  v9 := Tryd.zeroValue9
  t21 := Tryd.underlying21
  a21 := Tryd.isAgg21
  z21 := Tryd.sizeOf21
  v21 := Tryd.zeroValue21
  t46 := Tryd.underlying71
  a46 := Tryd.isAgg71
  z46 := Tryd.sizeOf71
  v46 := Tryd.zeroValue71
  t105 := Tryd.underlying65
  a105 := Tryd.isAgg65
  z105 := Tryd.sizeOf65
  v105 := Tryd.zeroValue65
  t116 := Tryd.underlying60
  a116 := Tryd.isAgg60
  z116 := Tryd.sizeOf60
  t117 := Tryd.underlying61
  a117 := Tryd.isAgg61
  z117 := Tryd.sizeOf61
  v117 := Tryd.zeroValue61
  t119 := Tryd.underlying70
  a119 := Tryd.isAgg70
  z119 := Tryd.sizeOf70
  t124 := Tryd.underlying64
  a124 := Tryd.isAgg64
  z124 := Tryd.sizeOf64
  v124 := Tryd.zeroValue64
  t138 := Tryd.underlying73
  a138 := Tryd.isAgg73
  z138 := Tryd.sizeOf73
  v138 := Tryd.zeroValue73
  t139 := Tryd.underlying74
  a139 := Tryd.isAgg74
  z139 := Tryd.sizeOf74
  v139 := Tryd.zeroValue74
  g3 := by kernel_rfl
  g4 := by kernel_rfl }
open Go.RowKit Go.Lib in
theorem lx_strings_Trim_digits (s : ByteArray) (w : World) (hs : s.size ≤ 9223372036854775807) :
    Calls Tryd.prog 26 #[.string s, .string ⟨#[48, 49, 50, 51, 52, 53, 54, 55, 56, 57]⟩] w fun e w' => e = .returned (.string ⟨(Lib.trimS s.data.toList [48, 49, 50, 51, 52, 53, 54, 55, 56, 57]).toArray⟩) ∧ Below w.heap.size w w' := Any.strings_Trim_laid lx_lays160 (by kernel_rfl) s ⟨#[48, 49, 50, 51, 52, 53, 54, 55, 56, 57]⟩ w hs (by decide) (ascii_of_all (by decide))
def strings_IndexByte.f (a0 : ByteArray) (a1 : Int) : Option (Int) := some (Go.Lib.indexByte a0.data.toList a1.toNat.toUInt8)
theorem strings_IndexByte.calls (a0 : ByteArray) (a1 : Int) (r : Int) (w : World) (h : strings_IndexByte.f a0 a1 = some r) :
    Calls Tryd.prog 30 #[.string a0, .int .u8 a1] w fun e w' => e = .returned (.int .i64 r) ∧ Drawn0 w w' := by
  cases h
  refine (lx_strings_IndexByte a0 a1 w).mono ?_
  rintro e w' ⟨rfl, rfl⟩
  exact ⟨rfl, ⟨0, by first | rfl | simp⟩⟩
def lex_lower.f (a0 : Int) : Option (Bool) := if a0 ≥ 97 then (some (decide (a0 ≤ 122))) else (some false)
set_option maxHeartbeats 8000000 in
set_option maxRecDepth 100000 in
theorem lex_lower.calls (a0 : Int) (r : Bool) (w : World) (h : lex_lower.f a0 = some r) :
    Calls Tryd.prog 34 #[.int .u8 a0] w fun e w' => e = .returned (.bool r) ∧ Drawn0 w w' := by
  have H : (if a0 ≥ 97 then (some (decide (a0 ≤ 122))) else (some false)) = some r := h
  clear h
  by_cases c2 : a0 ≥ 97
  · rw [if_pos c2] at H
    have c2b0 : decide (97 ≤ a0) = true := decide_eq_true c2
    clear c2
    obtain rfl := Option.some.inj H
    go_enter Tryd.func34, Tryd.ntmps34
    go_wp2
    go_ret
    exact ⟨by first | rfl | (simp; done) | (simp [*]; done), by repeat (first | exact Drawn0.refl _ | apply Drawn0.step)⟩
  · rw [if_neg c2] at H
    have c2b0 : decide (97 ≤ a0) = false := decide_eq_false c2
    clear c2
    obtain rfl := Option.some.inj H
    go_enter Tryd.func34, Tryd.ntmps34
    go_wp2
    go_ret
    exact ⟨by first | rfl | (simp; done) | (simp [*]; done), by repeat (first | exact Drawn0.refl _ | apply Drawn0.step)⟩
def lex_upper.f (a0 : Int) : Option (Bool) := if a0 ≥ 65 then (some (decide (a0 ≤ 90))) else (some false)
set_option maxHeartbeats 8000000 in
set_option maxRecDepth 100000 in
theorem lex_upper.calls (a0 : Int) (r : Bool) (w : World) (h : lex_upper.f a0 = some r) :
    Calls Tryd.prog 35 #[.int .u8 a0] w fun e w' => e = .returned (.bool r) ∧ Drawn0 w w' := by
  have H : (if a0 ≥ 65 then (some (decide (a0 ≤ 90))) else (some false)) = some r := h
  clear h
  by_cases c2 : a0 ≥ 65
  · rw [if_pos c2] at H
    have c2b0 : decide (65 ≤ a0) = true := decide_eq_true c2
    clear c2
    obtain rfl := Option.some.inj H
    go_enter Tryd.func35, Tryd.ntmps35
    go_wp2
    go_ret
    exact ⟨by first | rfl | (simp; done) | (simp [*]; done), by repeat (first | exact Drawn0.refl _ | apply Drawn0.step)⟩
  · rw [if_neg c2] at H
    have c2b0 : decide (65 ≤ a0) = false := decide_eq_false c2
    clear c2
    obtain rfl := Option.some.inj H
    go_enter Tryd.func35, Tryd.ntmps35
    go_wp2
    go_ret
    exact ⟨by first | rfl | (simp; done) | (simp [*]; done), by repeat (first | exact Drawn0.refl _ | apply Drawn0.step)⟩
def lex_digit.f (a0 : Int) : Option (Bool) := if a0 ≥ 48 then (some (decide (a0 ≤ 57))) else (some false)
set_option maxHeartbeats 8000000 in
set_option maxRecDepth 100000 in
theorem lex_digit.calls (a0 : Int) (r : Bool) (w : World) (h : lex_digit.f a0 = some r) :
    Calls Tryd.prog 36 #[.int .u8 a0] w fun e w' => e = .returned (.bool r) ∧ Drawn0 w w' := by
  have H : (if a0 ≥ 48 then (some (decide (a0 ≤ 57))) else (some false)) = some r := h
  clear h
  by_cases c2 : a0 ≥ 48
  · rw [if_pos c2] at H
    have c2b0 : decide (48 ≤ a0) = true := decide_eq_true c2
    clear c2
    obtain rfl := Option.some.inj H
    go_enter Tryd.func36, Tryd.ntmps36
    go_wp2
    go_ret
    exact ⟨by first | rfl | (simp; done) | (simp [*]; done), by repeat (first | exact Drawn0.refl _ | apply Drawn0.step)⟩
  · rw [if_neg c2] at H
    have c2b0 : decide (48 ≤ a0) = false := decide_eq_false c2
    clear c2
    obtain rfl := Option.some.inj H
    go_enter Tryd.func36, Tryd.ntmps36
    go_wp2
    go_ret
    exact ⟨by first | rfl | (simp; done) | (simp [*]; done), by repeat (first | exact Drawn0.refl _ | apply Drawn0.step)⟩
def lex_inName.f (a0 : Int) : Option (Bool) := (lex_lower.f a0).bind fun t106 => (if t106 = true then (some true) else ((lex_upper.f a0).bind fun t107 => (if t107 = true then (some true) else ((lex_digit.f a0).bind fun t108 => (if t108 = true then (some true) else (some (a0 == 45)))))))
set_option maxHeartbeats 8000000 in
set_option maxRecDepth 100000 in
theorem lex_inName.calls (a0 : Int) (r : Bool) (w : World) (h : lex_inName.f a0 = some r) :
    Calls Tryd.prog 33 #[.int .u8 a0] w fun e w' => e = .returned (.bool r) ∧ Drawn0 w w' := by
  have H : ((lex_lower.f a0).bind fun t106 => (if t106 = true then (some true) else ((lex_upper.f a0).bind fun t107 => (if t107 = true then (some true) else ((lex_digit.f a0).bind fun t108 => (if t108 = true then (some true) else (some (a0 == 45)))))))) = some r := h
  clear h
  replace H := Option.bind_eq_some_iff.mp H
  obtain ⟨t106, A20, H⟩ := H
  replace H : (if t106 = true then (some true) else ((lex_upper.f a0).bind fun t107 => (if t107 = true then (some true) else ((lex_digit.f a0).bind fun t108 => (if t108 = true then (some true) else (some (a0 == 45))))))) = some r := H
  have A2 := Aside0.mk A20
  clear A20
  by_cases c3 : t106 = true
  · subst c3
    have H1 : (some true) = some r := by rw [if_pos rfl] at H; exact H
    clear H
    have H := H1
    clear H1
    obtain rfl := Option.some.inj H
    go_enter Tryd.func33, Tryd.ntmps33
    go_wp2_with (first | ((with_reducible refine gate_callee (f := 34) rfl ?_); refine goesL_ (some 4) rfl rfl Tryd.func34 (by kernel_rfl) rfl #[.int .u8 a0] rfl (by (try simp only [List.map_toArray, List.map_cons, List.map_nil]); first | done | rfl | (simp only [List.length_drop, List.length_take]; rfl)) ?_; (with_reducible refine (lex_lower.calls a0 true _ A2.out).mono ?_); rintro e w' ⟨rfl, ⟨nd, rfl⟩⟩; refine ⟨_, rfl, ?_⟩))
    go_ret
    exact ⟨by first | rfl | (simp; done) | (simp [*]; done), by repeat (first | exact Drawn0.refl _ | apply Drawn0.step)⟩
  · replace c3 := Bool.eq_false_iff.mpr c3
    subst c3
    have H1 : ((lex_upper.f a0).bind fun t107 => (if t107 = true then (some true) else ((lex_digit.f a0).bind fun t108 => (if t108 = true then (some true) else (some (a0 == 45)))))) = some r := by rw [if_neg (show ¬ (false = true) by decide)] at H; exact H
    clear H
    have H := H1
    clear H1
    replace H := Option.bind_eq_some_iff.mp H
    obtain ⟨t107, A40, H⟩ := H
    replace H : (if t107 = true then (some true) else ((lex_digit.f a0).bind fun t108 => (if t108 = true then (some true) else (some (a0 == 45))))) = some r := H
    have A4 := Aside0.mk A40
    clear A40
    by_cases c5 : t107 = true
    · subst c5
      have H1 : (some true) = some r := by rw [if_pos rfl] at H; exact H
      clear H
      have H := H1
      clear H1
      obtain rfl := Option.some.inj H
      go_enter Tryd.func33, Tryd.ntmps33
      go_wp2_with (first | ((with_reducible refine gate_callee (f := 34) rfl ?_); refine goesL_ (some 4) rfl rfl Tryd.func34 (by kernel_rfl) rfl #[.int .u8 a0] rfl (by (try simp only [List.map_toArray, List.map_cons, List.map_nil]); first | done | rfl | (simp only [List.length_drop, List.length_take]; rfl)) ?_; (with_reducible refine (lex_lower.calls a0 false _ A2.out).mono ?_); rintro e w' ⟨rfl, ⟨nd, rfl⟩⟩; refine ⟨_, rfl, ?_⟩) | (go_at_call 35; (with_reducible refine (lex_upper.calls a0 true _ A4.out).mono ?_); rintro e w' ⟨rfl, ⟨nd, rfl⟩⟩))
      go_ret
      exact ⟨by first | rfl | (simp; done) | (simp [*]; done), by repeat (first | exact Drawn0.refl _ | apply Drawn0.step)⟩
    · replace c5 := Bool.eq_false_iff.mpr c5
      subst c5
      have H1 : ((lex_digit.f a0).bind fun t108 => (if t108 = true then (some true) else (some (a0 == 45)))) = some r := by rw [if_neg (show ¬ (false = true) by decide)] at H; exact H
      clear H
      have H := H1
      clear H1
      replace H := Option.bind_eq_some_iff.mp H
      obtain ⟨t108, A60, H⟩ := H
      replace H : (if t108 = true then (some true) else (some (a0 == 45))) = some r := H
      have A6 := Aside0.mk A60
      clear A60
      by_cases c7 : t108 = true
      · subst c7
        have H1 : (some true) = some r := by rw [if_pos rfl] at H; exact H
        clear H
        have H := H1
        clear H1
        obtain rfl := Option.some.inj H
        go_enter Tryd.func33, Tryd.ntmps33
        go_wp2_with (first | ((with_reducible refine gate_callee (f := 34) rfl ?_); refine goesL_ (some 4) rfl rfl Tryd.func34 (by kernel_rfl) rfl #[.int .u8 a0] rfl (by (try simp only [List.map_toArray, List.map_cons, List.map_nil]); first | done | rfl | (simp only [List.length_drop, List.length_take]; rfl)) ?_; (with_reducible refine (lex_lower.calls a0 false _ A2.out).mono ?_); rintro e w' ⟨rfl, ⟨nd, rfl⟩⟩; refine ⟨_, rfl, ?_⟩) | (go_at_call 35; (with_reducible refine (lex_upper.calls a0 false _ A4.out).mono ?_); rintro e w' ⟨rfl, ⟨nd, rfl⟩⟩) | (go_at_call 36; (with_reducible refine (lex_digit.calls a0 true _ A6.out).mono ?_); rintro e w' ⟨rfl, ⟨nd, rfl⟩⟩))
        go_ret
        exact ⟨by first | rfl | (simp; done) | (simp [*]; done), by repeat (first | exact Drawn0.refl _ | apply Drawn0.step)⟩
      · replace c7 := Bool.eq_false_iff.mpr c7
        subst c7
        have H1 : (some (a0 == 45)) = some r := by rw [if_neg (show ¬ (false = true) by decide)] at H; exact H
        clear H
        have H := H1
        clear H1
        obtain rfl := Option.some.inj H
        go_enter Tryd.func33, Tryd.ntmps33
        go_wp2_with (first | ((with_reducible refine gate_callee (f := 34) rfl ?_); refine goesL_ (some 4) rfl rfl Tryd.func34 (by kernel_rfl) rfl #[.int .u8 a0] rfl (by (try simp only [List.map_toArray, List.map_cons, List.map_nil]); first | done | rfl | (simp only [List.length_drop, List.length_take]; rfl)) ?_; (with_reducible refine (lex_lower.calls a0 false _ A2.out).mono ?_); rintro e w' ⟨rfl, ⟨nd, rfl⟩⟩; refine ⟨_, rfl, ?_⟩) | (go_at_call 35; (with_reducible refine (lex_upper.calls a0 false _ A4.out).mono ?_); rintro e w' ⟨rfl, ⟨nd, rfl⟩⟩) | (go_at_call 36; (with_reducible refine (lex_digit.calls a0 false _ A6.out).mono ?_); rintro e w' ⟨rfl, ⟨nd, rfl⟩⟩))
        go_ret
        exact ⟨by first | rfl | (simp; done) | (simp [*]; done), by repeat (first | exact Drawn0.refl _ | apply Drawn0.step)⟩
def lxLo (a : Int) : Bool := decide (97 ≤ a) && decide (a ≤ 122)
def lxUp (a : Int) : Bool := decide (65 ≤ a) && decide (a ≤ 90)
def lxDi (a : Int) : Bool := decide (48 ≤ a) && decide (a ≤ 57)
theorem lower_at (a : Int) : lex_lower.f a = some (lxLo a) := by
  unfold lex_lower.f lxLo
  by_cases h : a ≥ 97
  · rw [if_pos h, decide_eq_true (show (97 : Int) ≤ a from h), Bool.true_and]
  · rw [if_neg h, decide_eq_false (show ¬ (97 : Int) ≤ a from h), Bool.false_and]
theorem upper_at (a : Int) : lex_upper.f a = some (lxUp a) := by
  unfold lex_upper.f lxUp
  by_cases h : a ≥ 65
  · rw [if_pos h, decide_eq_true (show (65 : Int) ≤ a from h), Bool.true_and]
  · rw [if_neg h, decide_eq_false (show ¬ (65 : Int) ≤ a from h), Bool.false_and]
theorem digit_at (a : Int) : lex_digit.f a = some (lxDi a) := by
  unfold lex_digit.f lxDi
  by_cases h : a ≥ 48
  · rw [if_pos h, decide_eq_true (show (48 : Int) ≤ a from h), Bool.true_and]
  · rw [if_neg h, decide_eq_false (show ¬ (48 : Int) ≤ a from h), Bool.false_and]
def lxName (a : Int) : Bool := lxLo a || lxUp a || lxDi a || a == 45
theorem inName_at (a : Int) : lex_inName.f a = some (lxName a) := by
  unfold lex_inName.f lxName
  rw [lower_at, upper_at, digit_at]
  cases lxLo a <;> cases lxUp a <;> cases lxDi a <;> simp
def lxNum (a : Int) : Bool := lxDi a || a == 46
theorem inName_calls (a : Int) (w : World) : Calls Tryd.prog 33 #[.int .u8 a] w fun e w' => e = .returned (.bool (lxName a)) ∧ Drawn0 w w' := lex_inName.calls a _ w (inName_at a)
set_option maxHeartbeats 8000000 in
set_option maxRecDepth 100000 in
theorem num_calls (a : Int) (w : World) : Calls Tryd.prog 37 #[.int .u8 a] w fun e w' => e = .returned (.bool (lxNum a)) ∧ Drawn0 w w' := by
  have A1 := Aside0.mk (digit_at a)
  cases c : lxDi a with
  | true =>
    rw [c] at A1
    have E : lxNum a = true := by simp [lxNum, c]
    rw [E]
    clear E c
    go_enter Tryd.func37, Tryd.ntmps37
    go_wp2_with (first | (go_at_call 36; (with_reducible refine (lex_digit.calls a true _ A1.out).mono ?_); rintro e w' ⟨rfl, ⟨nd, rfl⟩⟩))
    go_ret
    exact ⟨by first | rfl | (simp; done) | (simp [*]; done), by repeat (first | exact Drawn0.refl _ | apply Drawn0.step)⟩
  | false =>
    rw [c] at A1
    have E : lxNum a = (a == 46) := by simp [lxNum, c]
    rw [E]
    clear E c
    go_enter Tryd.func37, Tryd.ntmps37
    go_wp2_with (first | (go_at_call 36; (with_reducible refine (lex_digit.calls a false _ A1.out).mono ?_); rintro e w' ⟨rfl, ⟨nd, rfl⟩⟩))
    go_ret
    exact ⟨by first | rfl | (simp; done) | (simp [*]; done), by repeat (first | exact Drawn0.refl _ | apply Drawn0.step)⟩
def lex_row.l0 (may : Int → Bool) : Nat → ByteArray → Int → Option Int
  | 0, _, _ => none
  | k + 1, x0, x5 => if x5 < (x0.size : Int) then (if 0 ≤ x5 then (if may (bt x0 x5) = true then lex_row.l0 may k x0 (wrap64 (x5 + 1)) else some x5) else none) else some x5
def lex_row.f (a0 : ByteArray) (a1 : Int) : Option Int := if a1 = 33 then lex_row.l0 lxName (a0.size + 1) a0 0 else if a1 = 37 then lex_row.l0 lxNum (a0.size + 1) a0 0 else none
set_option maxHeartbeats 8000000 in
set_option maxRecDepth 100000 in
theorem lex_row.walk_33 (k : Nat) (a0 : ByteArray) (r : Int) (w : World) (h : lex_row.l0 lxName k a0 0 = some r) :
    Calls Tryd.prog 32 #[.string a0, .func (.func 33) #[] #[]] w fun e w' => e = .returned (.int .i64 r) ∧ Drawn0 w w' := by
  have H' := Aside0.mk h
  clear h
  go_enter Tryd.func32, Tryd.ntmps32
  go_wp2
  go_loopg [5] k (fun kq v5 w' => ∃ (x5_1 : Int), v5 = .int .i64 x5_1 ∧ Aside0 (lex_row.l0 lxName kq a0 x5_1 = some r) ∧ Aside0 (kq ≤ k) ∧ Drawn0 w w')
  case atStart => exact ⟨(0), (by first | rfl | (simp; done) | (simp [*]; done)), H', ⟨Nat.le_refl _⟩, by repeat (first | exact Drawn0.refl _ | apply Drawn0.step)⟩
  case round =>
    clear H'
    try clear p2
    obtain ⟨x5_1, rfl, HA, HK1, ⟨m1, rfl⟩⟩ := hrel
    cases gk with
    | zero => exact absurd HA.out (by simp [lex_row.l0])
    | succ k1 =>
      have H := HA.out
      clear HA
      simp only [lex_row.l0] at H
      by_cases c3 : x5_1 < (a0.size : Int)
      · rw [if_pos c3] at H
        have c3b0 : decide (x5_1 < (a0.size : Int)) = true := decide_eq_true c3
        clear c3
        by_cases c4 : 0 ≤ x5_1
        · rw [if_pos c4] at H
          have c4b0 : decide (0 ≤ x5_1) = true := decide_eq_true c4
          clear c4
          have p5 : 0 ≤ (x5_1 : Int) := of_decide_eq_true (by first | (with_reducible assumption) | assumption)
          have q5 : x5_1 < (a0.size : Int) := of_decide_eq_true (by first | (with_reducible assumption) | assumption)
          have hx5 := bt_at a0 x5_1
          replace p5 := eq_true p5
          replace q5 := eq_true q5
          by_cases c7 : lxName (bt a0 x5_1) = true
          · have H1 : (lex_row.l0 lxName k1 a0 (wrap64 (x5_1 + 1))) = some r := by rw [if_pos c7] at H; exact H
            clear H
            have H' := Aside0.mk H1
            clear H1
            have A6 := Aside0.mk c7
            clear c7
            go_wp2_with (first | (go_at_call 33; (refine (inName_calls (bt a0 x5_1) _).mono ?_); rintro e w' ⟨rfl, ⟨nd, rfl⟩⟩; rw [A6.out]))
            go_roundg k1
            case measure => have := HK1.out; omega
            case rel => exact ⟨(wrap64 (x5_1 + 1)), (by first | rfl | (simp; done) | (simp [*]; done)), H', ⟨by have := HK1.out; omega⟩, by repeat (first | exact Drawn0.refl _ | apply Drawn0.step)⟩
          · have H1 : (some x5_1) = some r := by rw [if_neg c7] at H; exact H
            clear H
            obtain rfl := Option.some.inj H1
            have A6 := Aside0.mk (Bool.eq_false_iff.mpr c7)
            clear c7 H1
            go_wp2_with (first | (go_at_call 33; (refine (inName_calls (bt a0 x5_1) _).mono ?_); rintro e w' ⟨rfl, ⟨nd, rfl⟩⟩; rw [A6.out]))
            go_ret
            exact ⟨by first | rfl | (simp; done) | (simp [*]; done), by repeat (first | exact Drawn0.refl _ | apply Drawn0.step)⟩
        · rw [if_neg c4] at H
          exact absurd H (by simp)
      · rw [if_neg c3] at H
        have c3b0 : decide (x5_1 < (a0.size : Int)) = false := decide_eq_false c3
        clear c3
        obtain rfl := Option.some.inj H
        go_wp2
        go_ret
        exact ⟨by first | rfl | (simp; done) | (simp [*]; done), by repeat (first | exact Drawn0.refl _ | apply Drawn0.step)⟩
set_option maxHeartbeats 8000000 in
set_option maxRecDepth 100000 in
theorem lex_row.walk_37 (k : Nat) (a0 : ByteArray) (r : Int) (w : World) (h : lex_row.l0 lxNum k a0 0 = some r) :
    Calls Tryd.prog 32 #[.string a0, .func (.func 37) #[] #[]] w fun e w' => e = .returned (.int .i64 r) ∧ Drawn0 w w' := by
  have H' := Aside0.mk h
  clear h
  go_enter Tryd.func32, Tryd.ntmps32
  go_wp2
  go_loopg [5] k (fun kq v5 w' => ∃ (x5_1 : Int), v5 = .int .i64 x5_1 ∧ Aside0 (lex_row.l0 lxNum kq a0 x5_1 = some r) ∧ Aside0 (kq ≤ k) ∧ Drawn0 w w')
  case atStart => exact ⟨(0), (by first | rfl | (simp; done) | (simp [*]; done)), H', ⟨Nat.le_refl _⟩, by repeat (first | exact Drawn0.refl _ | apply Drawn0.step)⟩
  case round =>
    clear H'
    try clear p2
    obtain ⟨x5_1, rfl, HA, HK1, ⟨m1, rfl⟩⟩ := hrel
    cases gk with
    | zero => exact absurd HA.out (by simp [lex_row.l0])
    | succ k1 =>
      have H := HA.out
      clear HA
      simp only [lex_row.l0] at H
      by_cases c3 : x5_1 < (a0.size : Int)
      · rw [if_pos c3] at H
        have c3b0 : decide (x5_1 < (a0.size : Int)) = true := decide_eq_true c3
        clear c3
        by_cases c4 : 0 ≤ x5_1
        · rw [if_pos c4] at H
          have c4b0 : decide (0 ≤ x5_1) = true := decide_eq_true c4
          clear c4
          have p5 : 0 ≤ (x5_1 : Int) := of_decide_eq_true (by first | (with_reducible assumption) | assumption)
          have q5 : x5_1 < (a0.size : Int) := of_decide_eq_true (by first | (with_reducible assumption) | assumption)
          have hx5 := bt_at a0 x5_1
          replace p5 := eq_true p5
          replace q5 := eq_true q5
          by_cases c7 : lxNum (bt a0 x5_1) = true
          · have H1 : (lex_row.l0 lxNum k1 a0 (wrap64 (x5_1 + 1))) = some r := by rw [if_pos c7] at H; exact H
            clear H
            have H' := Aside0.mk H1
            clear H1
            have A6 := Aside0.mk c7
            clear c7
            go_wp2_with (first | (go_at_call 37; (refine (num_calls (bt a0 x5_1) _).mono ?_); rintro e w' ⟨rfl, ⟨nd, rfl⟩⟩; rw [A6.out]))
            go_roundg k1
            case measure => have := HK1.out; omega
            case rel => exact ⟨(wrap64 (x5_1 + 1)), (by first | rfl | (simp; done) | (simp [*]; done)), H', ⟨by have := HK1.out; omega⟩, by repeat (first | exact Drawn0.refl _ | apply Drawn0.step)⟩
          · have H1 : (some x5_1) = some r := by rw [if_neg c7] at H; exact H
            clear H
            obtain rfl := Option.some.inj H1
            have A6 := Aside0.mk (Bool.eq_false_iff.mpr c7)
            clear c7 H1
            go_wp2_with (first | (go_at_call 37; (refine (num_calls (bt a0 x5_1) _).mono ?_); rintro e w' ⟨rfl, ⟨nd, rfl⟩⟩; rw [A6.out]))
            go_ret
            exact ⟨by first | rfl | (simp; done) | (simp [*]; done), by repeat (first | exact Drawn0.refl _ | apply Drawn0.step)⟩
        · rw [if_neg c4] at H
          exact absurd H (by simp)
      · rw [if_neg c3] at H
        have c3b0 : decide (x5_1 < (a0.size : Int)) = false := decide_eq_false c3
        clear c3
        obtain rfl := Option.some.inj H
        go_wp2
        go_ret
        exact ⟨by first | rfl | (simp; done) | (simp [*]; done), by repeat (first | exact Drawn0.refl _ | apply Drawn0.step)⟩
theorem lex_row.calls (a0 : ByteArray) (a1 : Int) (r : Int) (w : World) (h : lex_row.f a0 a1 = some r) :
    Calls Tryd.prog 32 #[.string a0, .func (.func a1.toNat) #[] #[]] w fun e w' => e = .returned (.int .i64 r) ∧ Drawn0 w w' := by
  unfold lex_row.f at h
  by_cases c : a1 = 33
  · subst c
    rw [if_pos rfl] at h
    exact lex_row.walk_33 _ a0 r w h
  · rw [if_neg c] at h
    by_cases d : a1 = 37
    · subst d
      rw [if_pos rfl] at h
      exact lex_row.walk_37 _ a0 r w h
    · rw [if_neg d] at h
      cases h
mutual
def lex_part.j0 : Nat → ByteArray → Bool → Option (Bool)
  | 0, _, _ => none
  | k + 1, x0, x19 => if x19 = true then (some false) else (if 0 < (x0.size : Int) then ((lex_lower.f (bt x0 0)).bind fun t111 => (lex_part.l0 k t111 x0 (x0.size : Int) 0)) else (none))
def lex_part.l0 : Nat → Bool → ByteArray → Int → Int → Option (Bool)
  | 0, _, _, _, _ => none
  | k + 1, x3, x24, x25, x26 => if x26 < x25 then (if 0 ≤ x26 then (if x26 < (x24.size : Int) then ((lex_digit.f (bt x24 x26)).bind fun t112 => (if t112 = true then ((lex_digit.f (bt x24 x26)).bind fun t113 => (if t113 = true then (lex_part.l0 k x3 x24 x25 (wrap64 (x26 + 1))) else ((lex_lower.f (bt x24 x26)).bind fun t114 => (if t114 = true then (lex_part.l0 k x3 x24 x25 (wrap64 (x26 + 1))) else ((lex_upper.f (bt x24 x26)).bind fun t115 => (if t115 = true then (lex_part.l0 k x3 x24 x25 (wrap64 (x26 + 1))) else (some false))))))) else ((lex_lower.f (bt x24 x26)).bind fun t116 => (if (t116 != x3) = true then (some false) else ((lex_digit.f (bt x24 x26)).bind fun t117 => (if t117 = true then (lex_part.l0 k x3 x24 x25 (wrap64 (x26 + 1))) else ((lex_lower.f (bt x24 x26)).bind fun t118 => (if t118 = true then (lex_part.l0 k x3 x24 x25 (wrap64 (x26 + 1))) else ((lex_upper.f (bt x24 x26)).bind fun t119 => (if t119 = true then (lex_part.l0 k x3 x24 x25 (wrap64 (x26 + 1))) else (some false))))))))))) else (none)) else (none)) else (some true)
end
def lex_part.f (k : Nat) (a0 : ByteArray) : Option (Bool) := if a0.toList = ([] : List UInt8) then (lex_part.j0 k a0 true) else (if 0 < (a0.size : Int) then ((lex_lower.f (bt a0 0)).bind fun t109 => (if t109 = true then (lex_part.j0 k a0 false) else ((lex_upper.f (bt a0 0)).bind fun t110 => (lex_part.j0 k a0 (!t110))))) else (none))
set_option maxHeartbeats 8000000 in
set_option maxRecDepth 100000 in
theorem lex_part.calls (k : Nat) (a0 : ByteArray) (r : Bool) (w : World) (h : lex_part.f k a0 = some r) :
    Calls Tryd.prog 25 #[.string a0] w fun e w' => e = .returned (.bool r) ∧ Below w.heap.size w w' := by
  have HB := Aside0.mk (Below.refl w.heap.size w)
  have H : (if a0.toList = ([] : List UInt8) then (lex_part.j0 k a0 true) else (if 0 < (a0.size : Int) then ((lex_lower.f (bt a0 0)).bind fun t109 => (if t109 = true then (lex_part.j0 k a0 false) else ((lex_upper.f (bt a0 0)).bind fun t110 => (lex_part.j0 k a0 (!t110))))) else (none))) = some r := h
  clear h
  have HC2 := Aside0.mk H
  clear H
  go_enter Tryd.func25, Tryd.ntmps25
  go_upto_region 1 with (fail)
  go_cut [19] (fun v19 wc => ∃ (kq : Nat) (x19_1 : Bool), v19 = .bool x19_1 ∧ Aside0 (lex_part.j0 kq a0 x19_1 = some r) ∧ Aside0 (kq ≤ k) ∧ Aside0 (Below w.heap.size w wc))
  case first =>
    have H := HC2.out
    clear HC2
    by_cases c3 : a0.toList = ([] : List UInt8)
    · rw [if_pos c3] at H
      have c3b0 : (a0.toList == ([] : List UInt8)) = true := beq_iff_eq.mpr c3
      have c3b1 : (a0.toList != ([] : List UInt8)) = false := bne_eq_false_iff_eq.mpr c3
      clear c3
      (first | rw [c3b0] | (simp only [i64_w, i32_w]; rw [c3b0]) | skip)
      have H' := Aside0.mk H
      clear H
      go_wp2
      go_meet
      case rel => exact ⟨_, (true), (by first | rfl | (simp; done) | (simp [*]; done)), H', ⟨by first | omega | exact Nat.le_refl _⟩, ⟨by repeat (first | (with_reducible first | exact HB.out | apply below_alloc | apply pw_below_drewN | apply below_drew1) | exact HB.out)⟩⟩
    · rw [if_neg c3] at H
      have c3b0 : (a0.toList == ([] : List UInt8)) = false := beq_eq_false_iff_ne.mpr c3
      have c3b1 : (a0.toList != ([] : List UInt8)) = true := bne_iff_ne.mpr c3
      (first | rw [c3b0] | (simp only [i64_w, i32_w]; rw [c3b0]) | skip)
      by_cases c4 : 0 < (a0.size : Int)
      · rw [if_pos c4] at H
        have c4b0 : decide (0 < (a0.size : Int)) = true := decide_eq_true c4
        have c4b1 : decide (0 < a0.size) = true := decide_eq_true (by omega)
        clear c4
        replace H := Option.bind_eq_some_iff.mp H
        obtain ⟨t109, A60, H⟩ := H
        replace H : (if t109 = true then (lex_part.j0 k a0 false) else ((lex_upper.f (bt a0 0)).bind fun t110 => (lex_part.j0 k a0 (!t110)))) = some r := H
        have A6 := Aside0.mk A60
        clear A60
        by_cases c7 : t109 = true
        · subst c7
          have H1 : (lex_part.j0 k a0 false) = some r := by rw [if_pos rfl] at H; exact H
          clear H
          have H := H1
          clear H1
          have H' := Aside0.mk H
          clear H
          have p5 : 0 ≤ (0 : Int) := (by omega)
          have q5 : 0 < a0.size := (by have : (0 : Int) < (a0.size : Int) := of_decide_eq_true (by first | (with_reducible assumption) | assumption); omega)
          have hx5 : ∀ h : 0 < a0.size, ((a0[0]'h).toNat : Int) = bt a0 0 := bt_at a0 0
          clear p5
          have qi5 : (0 < (a0.size : Int)) = True := eq_true (of_decide_eq_true (by first | (with_reducible assumption) | assumption))
          replace q5 := eq_true q5
          go_wp2_with (first | (go_at_call 34; (with_reducible refine (lex_lower.calls (bt a0 0) true _ A6.out).mono ?_); rintro e w' ⟨rfl, ⟨nd, rfl⟩⟩))
          go_meet
          case rel => exact ⟨_, (false), (by first | rfl | (simp; done) | (simp [*]; done)), H', ⟨by first | omega | exact Nat.le_refl _⟩, ⟨by repeat (first | (with_reducible first | exact HB.out | apply below_alloc | apply pw_below_drewN | apply below_drew1) | exact HB.out)⟩⟩
        · replace c7 := Bool.eq_false_iff.mpr c7
          subst c7
          have H1 : ((lex_upper.f (bt a0 0)).bind fun t110 => (lex_part.j0 k a0 (!t110))) = some r := by rw [if_neg (show ¬ (false = true) by decide)] at H; exact H
          clear H
          have H := H1
          clear H1
          replace H := Option.bind_eq_some_iff.mp H
          obtain ⟨t110, A90, H⟩ := H
          replace H : (lex_part.j0 k a0 (!t110)) = some r := H
          have A9 := Aside0.mk A90
          clear A90
          have H' := Aside0.mk H
          clear H
          have p5 : 0 ≤ (0 : Int) := (by omega)
          have q5 : 0 < a0.size := (by have : (0 : Int) < (a0.size : Int) := of_decide_eq_true (by first | (with_reducible assumption) | assumption); omega)
          have hx5 : ∀ h : 0 < a0.size, ((a0[0]'h).toNat : Int) = bt a0 0 := bt_at a0 0
          clear p5
          have qi5 : (0 < (a0.size : Int)) = True := eq_true (of_decide_eq_true (by first | (with_reducible assumption) | assumption))
          replace q5 := eq_true q5
          go_wp2_with (first | (go_at_call 34; (with_reducible refine (lex_lower.calls (bt a0 0) false _ A6.out).mono ?_); rintro e w' ⟨rfl, ⟨nd, rfl⟩⟩; have p8 : 0 ≤ (0 : Int) := (by omega); have q8 : 0 < a0.size := (by have : (0 : Int) < (a0.size : Int) := of_decide_eq_true (by first | (with_reducible assumption) | assumption); omega); have hx8 : ∀ h : 0 < a0.size, ((a0[0]'h).toNat : Int) = bt a0 0 := bt_at a0 0; clear p8; have qi8 : (0 < (a0.size : Int)) = True := eq_true (of_decide_eq_true (by first | (with_reducible assumption) | assumption)); replace q8 := eq_true q8) | (go_at_call 35; (with_reducible refine (lex_upper.calls (bt a0 0) t110 _ A9.out).mono ?_); rintro e w' ⟨rfl, ⟨nd, rfl⟩⟩))
          go_meet
          case rel => exact ⟨_, (!t110), (by first | rfl | (simp; done) | (simp [*]; done)), H', ⟨by first | omega | exact Nat.le_refl _⟩, ⟨by repeat (first | (with_reducible first | exact HB.out | apply below_alloc | apply pw_below_drewN | apply below_drew1) | exact HB.out)⟩⟩
      · rw [if_neg c4] at H
        exact absurd H (by simp)
  case rest =>
    clear HC2
    try clear c2
    try clear p2
    try clear c3
    try clear c3b0
    try clear c3b1
    try clear c4
    try clear c4b0
    try clear c4b1
    try clear p5
    try clear q5
    try clear hx5
    try clear qi5
    try clear c7
    try clear p8
    try clear q8
    try clear hx8
    try clear qi8
    try clear p5
    try clear p8
    try clear q5
    try clear q8
    obtain ⟨kq, x19_1, rfl, HA, HJ1, HB⟩ := hcut
    cases kq with
    | zero => exact absurd HA.out (by simp [lex_part.j0])
    | succ kj1 =>
      have H := HA.out
      clear HA
      simp only [lex_part.j0] at H
      by_cases c10 : x19_1 = true
      · subst c10
        have H1 : (some false) = some r := by rw [if_pos rfl] at H; exact H
        clear H
        have H := H1
        clear H1
        obtain rfl := Option.some.inj H
        go_wp2
        go_ret
        exact ⟨by first | rfl | (simp [errW_none, errW_some] <;> rfl) | (simp [*, errW_none, errW_some] <;> rfl), by repeat (first | (with_reducible first | exact HB.out | apply below_alloc | apply pw_below_drewN | apply below_drew1) | exact HB.out)⟩
      · replace c10 := Bool.eq_false_iff.mpr c10
        subst c10
        have H1 : (if 0 < (a0.size : Int) then ((lex_lower.f (bt a0 0)).bind fun t111 => (lex_part.l0 kj1 t111 a0 (a0.size : Int) 0)) else (none)) = some r := by rw [if_neg (show ¬ (false = true) by decide)] at H; exact H
        clear H
        have H := H1
        clear H1
        by_cases c11 : 0 < (a0.size : Int)
        · rw [if_pos c11] at H
          have c11b0 : decide (0 < (a0.size : Int)) = true := decide_eq_true c11
          have c11b1 : decide (0 < a0.size) = true := decide_eq_true (by omega)
          clear c11
          replace H := Option.bind_eq_some_iff.mp H
          obtain ⟨t111, A130, H⟩ := H
          replace H : (lex_part.l0 kj1 t111 a0 (a0.size : Int) 0) = some r := H
          have A13 := Aside0.mk A130
          clear A130
          have H' := Aside0.mk H
          clear H
          have p12 : 0 ≤ (0 : Int) := (by omega)
          have q12 : 0 < a0.size := (by have : (0 : Int) < (a0.size : Int) := of_decide_eq_true (by first | (with_reducible assumption) | assumption); omega)
          have hx12 : ∀ h : 0 < a0.size, ((a0[0]'h).toNat : Int) = bt a0 0 := bt_at a0 0
          clear p12
          have qi12 : (0 < (a0.size : Int)) = True := eq_true (of_decide_eq_true (by first | (with_reducible assumption) | assumption))
          replace q12 := eq_true q12
          go_upto_region 4 with (first | ((with_reducible refine gate_callee (f := 34) rfl ?_); refine goesL_ (some 22) rfl rfl Tryd.func34 (by kernel_rfl) rfl #[.int .u8 (bt a0 0)] rfl (by (try simp only [List.map_toArray, List.map_cons, List.map_nil]); first | done | rfl | (simp only [List.length_drop, List.length_take]; rfl)) ?_; (with_reducible refine (lex_lower.calls (bt a0 0) t111 _ A13.out).mono ?_); rintro e w' ⟨rfl, ⟨nd, rfl⟩⟩; refine ⟨_, rfl, ?_⟩))
          have n0_ := Aside0.mk (show Below w.heap.size w (World.drewN wc nd) by repeat (first | (with_reducible first | exact HB.out | apply below_alloc | apply pw_below_drewN | apply below_drew1) | exact HB.out))
          clear HB
          have HB := n0_
          clear n0_
          generalize World.drewN wc nd = we at HB ⊢
          have kb := fun W => print_bytes (P := Tryd.prog) 9 47 5 Tryd.underlying9 Tryd.underlying47 Tryd.underlying5 a0 W
          go_wp2
          clear kb
          have hb_ : ∀ (t_ : ByteArray) (i_ : Int), i_.toNat < t_.data.toList.length → ((t_.data.toList.getD i_.toNat 0).toNat : Int) = rd (bytesOf t_) i_ := by
            intro t_ i_ h_
            simp [rd, bytesOf, List.getD_eq_getElem?_getD, List.getElem?_eq_getElem h_]
          have HR := Aside0.mk (show (∀ i_ : Int, 0 ≤ i_ → i_ < (a0.size : Int) → (Lib.bytesWorld we 5 a0).cell? ((⟨we.heap.size, 0, none⟩ : Addr).add i_.toNat) = some (.int .u8 (bt a0 i_))) from by
            intro i_ h0_ h1_
            rw [add_plain, Lib.bytesWorld_cell we 5 a0 i_.toNat (by omega), ← rd_bytesOf]
            have h2_ : i_.toNat < a0.data.toList.length := by rw [data_length]; omega
            rw [hb_ _ _ h2_])
          clear hb_
          have n0_ := Aside0.mk (bytes_below HB.out (below_size HB.out) 5 a0)
          clear HB
          have HB := n0_
          clear n0_
          generalize Lib.bytesWorld we 5 a0 = wd at HB HR ⊢
          go_loopg [26] kj1 (fun kq v26 w' => ∃ (x26_2 : Int), v26 = .int .i64 x26_2 ∧ Aside0 (lex_part.l0 kq t111 a0 (a0.size : Int) x26_2 = some r) ∧ Aside0 (kq ≤ kj1) ∧ Aside0 (Below w.heap.size w w') ∧ Aside0 (∀ i_ : Int, 0 ≤ i_ → i_ < (a0.size : Int) → w'.cell? ((⟨we.heap.size, 0, none⟩ : Addr).add i_.toNat) = some (.int .u8 (bt a0 i_))))
          case atStart => exact ⟨(0), (by first | rfl | (simp; done) | (simp [*]; done)), H', ⟨Nat.le_refl _⟩, ⟨by repeat (first | (with_reducible first | exact HB.out | apply below_alloc | apply pw_below_drewN | apply below_drew1) | exact HB.out)⟩, HR⟩
          case round =>
            clear HR
            clear H'
            try clear c1
            try clear p1
            try clear q1
            try clear hx1
            try clear qi1
            try clear c2
            try clear p2
            try clear c3
            try clear c3b0
            try clear c3b1
            try clear c4
            try clear c4b0
            try clear c4b1
            try clear p5
            try clear q5
            try clear hx5
            try clear qi5
            try clear c7
            try clear p8
            try clear q8
            try clear hx8
            try clear qi8
            try clear c10
            try clear c11
            try clear c11b0
            try clear c11b1
            try clear p12
            try clear q12
            try clear hx12
            try clear qi12
            try clear p12
            try clear p2
            try clear p5
            try clear p8
            try clear q12
            try clear q5
            try clear q8
            obtain ⟨x26_2, rfl, HA, HK2, HB, HR⟩ := hrel
            cases gk with
            | zero => exact absurd HA.out (by simp [lex_part.l0])
            | succ k2 =>
              have H := HA.out
              clear HA
              simp only [lex_part.l0] at H
              by_cases c14 : x26_2 < (a0.size : Int)
              · rw [if_pos c14] at H
                have c14b0 : decide (x26_2 < (a0.size : Int)) = true := decide_eq_true c14
                clear c14
                by_cases c15 : 0 ≤ x26_2
                · rw [if_pos c15] at H
                  have c15b0 : decide (0 ≤ x26_2) = true := decide_eq_true c15
                  clear c15
                  by_cases c16 : x26_2 < (a0.size : Int)
                  · rw [if_pos c16] at H
                    have c16b0 : decide (x26_2 < (a0.size : Int)) = true := decide_eq_true c16
                    clear c16
                    replace H := Option.bind_eq_some_iff.mp H
                    obtain ⟨t112, A180, H⟩ := H
                    replace H : (if t112 = true then ((lex_digit.f (bt a0 x26_2)).bind fun t113 => (if t113 = true then (lex_part.l0 k2 t111 a0 (a0.size : Int) (wrap64 (x26_2 + 1))) else ((lex_lower.f (bt a0 x26_2)).bind fun t114 => (if t114 = true then (lex_part.l0 k2 t111 a0 (a0.size : Int) (wrap64 (x26_2 + 1))) else ((lex_upper.f (bt a0 x26_2)).bind fun t115 => (if t115 = true then (lex_part.l0 k2 t111 a0 (a0.size : Int) (wrap64 (x26_2 + 1))) else (some false))))))) else ((lex_lower.f (bt a0 x26_2)).bind fun t116 => (if (t116 != t111) = true then (some false) else ((lex_digit.f (bt a0 x26_2)).bind fun t117 => (if t117 = true then (lex_part.l0 k2 t111 a0 (a0.size : Int) (wrap64 (x26_2 + 1))) else ((lex_lower.f (bt a0 x26_2)).bind fun t118 => (if t118 = true then (lex_part.l0 k2 t111 a0 (a0.size : Int) (wrap64 (x26_2 + 1))) else ((lex_upper.f (bt a0 x26_2)).bind fun t119 => (if t119 = true then (lex_part.l0 k2 t111 a0 (a0.size : Int) (wrap64 (x26_2 + 1))) else (some false)))))))))) = some r := H
                    have A18 := Aside0.mk A180
                    clear A180
                    by_cases c19 : t112 = true
                    · subst c19
                      have H1 : ((lex_digit.f (bt a0 x26_2)).bind fun t113 => (if t113 = true then (lex_part.l0 k2 t111 a0 (a0.size : Int) (wrap64 (x26_2 + 1))) else ((lex_lower.f (bt a0 x26_2)).bind fun t114 => (if t114 = true then (lex_part.l0 k2 t111 a0 (a0.size : Int) (wrap64 (x26_2 + 1))) else ((lex_upper.f (bt a0 x26_2)).bind fun t115 => (if t115 = true then (lex_part.l0 k2 t111 a0 (a0.size : Int) (wrap64 (x26_2 + 1))) else (some false))))))) = some r := by rw [if_pos rfl] at H; exact H
                      clear H
                      have H := H1
                      clear H1
                      replace H := Option.bind_eq_some_iff.mp H
                      obtain ⟨t113, A200, H⟩ := H
                      replace H : (if t113 = true then (lex_part.l0 k2 t111 a0 (a0.size : Int) (wrap64 (x26_2 + 1))) else ((lex_lower.f (bt a0 x26_2)).bind fun t114 => (if t114 = true then (lex_part.l0 k2 t111 a0 (a0.size : Int) (wrap64 (x26_2 + 1))) else ((lex_upper.f (bt a0 x26_2)).bind fun t115 => (if t115 = true then (lex_part.l0 k2 t111 a0 (a0.size : Int) (wrap64 (x26_2 + 1))) else (some false)))))) = some r := H
                      have A20 := Aside0.mk A200
                      clear A200
                      by_cases c21 : t113 = true
                      · subst c21
                        have H1 : (lex_part.l0 k2 t111 a0 (a0.size : Int) (wrap64 (x26_2 + 1))) = some r := by rw [if_pos rfl] at H; exact H
                        clear H
                        have H := H1
                        clear H1
                        have H' := Aside0.mk H
                        clear H
                        have p17 : 0 ≤ (x26_2 : Int) := of_decide_eq_true (by first | (with_reducible assumption) | assumption)
                        have q17 : x26_2 < (a0.size : Int) := of_decide_eq_true (by first | (with_reducible assumption) | assumption)
                        have hx17 := HR.out x26_2 p17 q17
                        have hy17 := hx17
                        rw [add_plain] at hy17
                        replace p17 := eq_true p17
                        replace q17 := eq_true q17
                        go_wp2_with (first | ((with_reducible refine gate_callee (f := 36) rfl ?_); refine goesL_ (some 31) rfl rfl Tryd.func36 (by kernel_rfl) rfl #[.int .u8 (bt a0 x26_2)] rfl (by (try simp only [List.map_toArray, List.map_cons, List.map_nil]); first | done | rfl | (simp only [List.length_drop, List.length_take]; rfl)) ?_; (with_reducible refine (lex_digit.calls (bt a0 x26_2) true _ A18.out).mono ?_); rintro e w' ⟨rfl, ⟨nd, rfl⟩⟩; refine ⟨_, rfl, ?_⟩) | (go_at_call 36; (with_reducible refine (lex_digit.calls (bt a0 x26_2) true _ A20.out).mono ?_); rintro e w' ⟨rfl, ⟨nd, rfl⟩⟩))
                        go_roundg k2
                        case measure => have := HJ1.out; have := HK2.out; omega
                        case rel => exact ⟨(wrap64 (x26_2 + 1)), (by first | rfl | (simp; done) | (simp [*]; done)), H', ⟨by have := HJ1.out; have := HK2.out; omega⟩, ⟨by repeat (first | (with_reducible first | exact HB.out | apply below_alloc | apply pw_below_drewN | apply below_drew1) | exact HB.out)⟩, HR⟩
                      · replace c21 := Bool.eq_false_iff.mpr c21
                        subst c21
                        have H1 : ((lex_lower.f (bt a0 x26_2)).bind fun t114 => (if t114 = true then (lex_part.l0 k2 t111 a0 (a0.size : Int) (wrap64 (x26_2 + 1))) else ((lex_upper.f (bt a0 x26_2)).bind fun t115 => (if t115 = true then (lex_part.l0 k2 t111 a0 (a0.size : Int) (wrap64 (x26_2 + 1))) else (some false))))) = some r := by rw [if_neg (show ¬ (false = true) by decide)] at H; exact H
                        clear H
                        have H := H1
                        clear H1
                        replace H := Option.bind_eq_some_iff.mp H
                        obtain ⟨t114, A220, H⟩ := H
                        replace H : (if t114 = true then (lex_part.l0 k2 t111 a0 (a0.size : Int) (wrap64 (x26_2 + 1))) else ((lex_upper.f (bt a0 x26_2)).bind fun t115 => (if t115 = true then (lex_part.l0 k2 t111 a0 (a0.size : Int) (wrap64 (x26_2 + 1))) else (some false)))) = some r := H
                        have A22 := Aside0.mk A220
                        clear A220
                        by_cases c23 : t114 = true
                        · subst c23
                          have H1 : (lex_part.l0 k2 t111 a0 (a0.size : Int) (wrap64 (x26_2 + 1))) = some r := by rw [if_pos rfl] at H; exact H
                          clear H
                          have H := H1
                          clear H1
                          have H' := Aside0.mk H
                          clear H
                          have p17 : 0 ≤ (x26_2 : Int) := of_decide_eq_true (by first | (with_reducible assumption) | assumption)
                          have q17 : x26_2 < (a0.size : Int) := of_decide_eq_true (by first | (with_reducible assumption) | assumption)
                          have hx17 := HR.out x26_2 p17 q17
                          have hy17 := hx17
                          rw [add_plain] at hy17
                          replace p17 := eq_true p17
                          replace q17 := eq_true q17
                          go_wp2_with (first | ((with_reducible refine gate_callee (f := 36) rfl ?_); refine goesL_ (some 31) rfl rfl Tryd.func36 (by kernel_rfl) rfl #[.int .u8 (bt a0 x26_2)] rfl (by (try simp only [List.map_toArray, List.map_cons, List.map_nil]); first | done | rfl | (simp only [List.length_drop, List.length_take]; rfl)) ?_; (with_reducible refine (lex_digit.calls (bt a0 x26_2) true _ A18.out).mono ?_); rintro e w' ⟨rfl, ⟨nd, rfl⟩⟩; refine ⟨_, rfl, ?_⟩) | (go_at_call 36; (with_reducible refine (lex_digit.calls (bt a0 x26_2) false _ A20.out).mono ?_); rintro e w' ⟨rfl, ⟨nd, rfl⟩⟩) | (go_at_call 34; (with_reducible refine (lex_lower.calls (bt a0 x26_2) true _ A22.out).mono ?_); rintro e w' ⟨rfl, ⟨nd, rfl⟩⟩))
                          go_roundg k2
                          case measure => have := HJ1.out; have := HK2.out; omega
                          case rel => exact ⟨(wrap64 (x26_2 + 1)), (by first | rfl | (simp; done) | (simp [*]; done)), H', ⟨by have := HJ1.out; have := HK2.out; omega⟩, ⟨by repeat (first | (with_reducible first | exact HB.out | apply below_alloc | apply pw_below_drewN | apply below_drew1) | exact HB.out)⟩, HR⟩
                        · replace c23 := Bool.eq_false_iff.mpr c23
                          subst c23
                          have H1 : ((lex_upper.f (bt a0 x26_2)).bind fun t115 => (if t115 = true then (lex_part.l0 k2 t111 a0 (a0.size : Int) (wrap64 (x26_2 + 1))) else (some false))) = some r := by rw [if_neg (show ¬ (false = true) by decide)] at H; exact H
                          clear H
                          have H := H1
                          clear H1
                          replace H := Option.bind_eq_some_iff.mp H
                          obtain ⟨t115, A240, H⟩ := H
                          replace H : (if t115 = true then (lex_part.l0 k2 t111 a0 (a0.size : Int) (wrap64 (x26_2 + 1))) else (some false)) = some r := H
                          have A24 := Aside0.mk A240
                          clear A240
                          by_cases c25 : t115 = true
                          · subst c25
                            have H1 : (lex_part.l0 k2 t111 a0 (a0.size : Int) (wrap64 (x26_2 + 1))) = some r := by rw [if_pos rfl] at H; exact H
                            clear H
                            have H := H1
                            clear H1
                            have H' := Aside0.mk H
                            clear H
                            have p17 : 0 ≤ (x26_2 : Int) := of_decide_eq_true (by first | (with_reducible assumption) | assumption)
                            have q17 : x26_2 < (a0.size : Int) := of_decide_eq_true (by first | (with_reducible assumption) | assumption)
                            have hx17 := HR.out x26_2 p17 q17
                            have hy17 := hx17
                            rw [add_plain] at hy17
                            replace p17 := eq_true p17
                            replace q17 := eq_true q17
                            go_wp2_with (first | ((with_reducible refine gate_callee (f := 36) rfl ?_); refine goesL_ (some 31) rfl rfl Tryd.func36 (by kernel_rfl) rfl #[.int .u8 (bt a0 x26_2)] rfl (by (try simp only [List.map_toArray, List.map_cons, List.map_nil]); first | done | rfl | (simp only [List.length_drop, List.length_take]; rfl)) ?_; (with_reducible refine (lex_digit.calls (bt a0 x26_2) true _ A18.out).mono ?_); rintro e w' ⟨rfl, ⟨nd, rfl⟩⟩; refine ⟨_, rfl, ?_⟩) | (go_at_call 36; (with_reducible refine (lex_digit.calls (bt a0 x26_2) false _ A20.out).mono ?_); rintro e w' ⟨rfl, ⟨nd, rfl⟩⟩) | (go_at_call 34; (with_reducible refine (lex_lower.calls (bt a0 x26_2) false _ A22.out).mono ?_); rintro e w' ⟨rfl, ⟨nd, rfl⟩⟩) | (go_at_call 35; (with_reducible refine (lex_upper.calls (bt a0 x26_2) true _ A24.out).mono ?_); rintro e w' ⟨rfl, ⟨nd, rfl⟩⟩))
                            go_roundg k2
                            case measure => have := HJ1.out; have := HK2.out; omega
                            case rel => exact ⟨(wrap64 (x26_2 + 1)), (by first | rfl | (simp; done) | (simp [*]; done)), H', ⟨by have := HJ1.out; have := HK2.out; omega⟩, ⟨by repeat (first | (with_reducible first | exact HB.out | apply below_alloc | apply pw_below_drewN | apply below_drew1) | exact HB.out)⟩, HR⟩
                          · replace c25 := Bool.eq_false_iff.mpr c25
                            subst c25
                            have H1 : (some false) = some r := by rw [if_neg (show ¬ (false = true) by decide)] at H; exact H
                            clear H
                            have H := H1
                            clear H1
                            obtain rfl := Option.some.inj H
                            have p17 : 0 ≤ (x26_2 : Int) := of_decide_eq_true (by first | (with_reducible assumption) | assumption)
                            have q17 : x26_2 < (a0.size : Int) := of_decide_eq_true (by first | (with_reducible assumption) | assumption)
                            have hx17 := HR.out x26_2 p17 q17
                            have hy17 := hx17
                            rw [add_plain] at hy17
                            replace p17 := eq_true p17
                            replace q17 := eq_true q17
                            go_wp2_with (first | ((with_reducible refine gate_callee (f := 36) rfl ?_); refine goesL_ (some 31) rfl rfl Tryd.func36 (by kernel_rfl) rfl #[.int .u8 (bt a0 x26_2)] rfl (by (try simp only [List.map_toArray, List.map_cons, List.map_nil]); first | done | rfl | (simp only [List.length_drop, List.length_take]; rfl)) ?_; (with_reducible refine (lex_digit.calls (bt a0 x26_2) true _ A18.out).mono ?_); rintro e w' ⟨rfl, ⟨nd, rfl⟩⟩; refine ⟨_, rfl, ?_⟩) | (go_at_call 36; (with_reducible refine (lex_digit.calls (bt a0 x26_2) false _ A20.out).mono ?_); rintro e w' ⟨rfl, ⟨nd, rfl⟩⟩) | (go_at_call 34; (with_reducible refine (lex_lower.calls (bt a0 x26_2) false _ A22.out).mono ?_); rintro e w' ⟨rfl, ⟨nd, rfl⟩⟩) | (go_at_call 35; (with_reducible refine (lex_upper.calls (bt a0 x26_2) false _ A24.out).mono ?_); rintro e w' ⟨rfl, ⟨nd, rfl⟩⟩))
                            go_ret
                            exact ⟨by first | rfl | (simp [errW_none, errW_some] <;> rfl) | (simp [*, errW_none, errW_some] <;> rfl), by repeat (first | (with_reducible first | exact HB.out | apply below_alloc | apply pw_below_drewN | apply below_drew1) | exact HB.out)⟩
                    · replace c19 := Bool.eq_false_iff.mpr c19
                      subst c19
                      have H1 : ((lex_lower.f (bt a0 x26_2)).bind fun t116 => (if (t116 != t111) = true then (some false) else ((lex_digit.f (bt a0 x26_2)).bind fun t117 => (if t117 = true then (lex_part.l0 k2 t111 a0 (a0.size : Int) (wrap64 (x26_2 + 1))) else ((lex_lower.f (bt a0 x26_2)).bind fun t118 => (if t118 = true then (lex_part.l0 k2 t111 a0 (a0.size : Int) (wrap64 (x26_2 + 1))) else ((lex_upper.f (bt a0 x26_2)).bind fun t119 => (if t119 = true then (lex_part.l0 k2 t111 a0 (a0.size : Int) (wrap64 (x26_2 + 1))) else (some false))))))))) = some r := by rw [if_neg (show ¬ (false = true) by decide)] at H; exact H
                      clear H
                      have H := H1
                      clear H1
                      replace H := Option.bind_eq_some_iff.mp H
                      obtain ⟨t116, A260, H⟩ := H
                      replace H : (if (t116 != t111) = true then (some false) else ((lex_digit.f (bt a0 x26_2)).bind fun t117 => (if t117 = true then (lex_part.l0 k2 t111 a0 (a0.size : Int) (wrap64 (x26_2 + 1))) else ((lex_lower.f (bt a0 x26_2)).bind fun t118 => (if t118 = true then (lex_part.l0 k2 t111 a0 (a0.size : Int) (wrap64 (x26_2 + 1))) else ((lex_upper.f (bt a0 x26_2)).bind fun t119 => (if t119 = true then (lex_part.l0 k2 t111 a0 (a0.size : Int) (wrap64 (x26_2 + 1))) else (some false)))))))) = some r := H
                      have A26 := Aside0.mk A260
                      clear A260
                      by_cases c27 : (t116 != t111) = true
                      · rw [if_pos c27] at H
                        have c27b0 : (t116 != t111) = true := c27
                        (try (have c27b1 : decide (t116 = t111) = false := by simpa using c27))
                        (try (have c27b2 : (t116 == t111) = false := by simpa using c27))
                        (try (have c27b3 : ¬ (t116 = t111) := by simpa using c27))
                        clear c27
                        obtain rfl := Option.some.inj H
                        have p17 : 0 ≤ (x26_2 : Int) := of_decide_eq_true (by first | (with_reducible assumption) | assumption)
                        have q17 : x26_2 < (a0.size : Int) := of_decide_eq_true (by first | (with_reducible assumption) | assumption)
                        have hx17 := HR.out x26_2 p17 q17
                        have hy17 := hx17
                        rw [add_plain] at hy17
                        replace p17 := eq_true p17
                        replace q17 := eq_true q17
                        go_wp2_with (first | ((with_reducible refine gate_callee (f := 36) rfl ?_); refine goesL_ (some 31) rfl rfl Tryd.func36 (by kernel_rfl) rfl #[.int .u8 (bt a0 x26_2)] rfl (by (try simp only [List.map_toArray, List.map_cons, List.map_nil]); first | done | rfl | (simp only [List.length_drop, List.length_take]; rfl)) ?_; (with_reducible refine (lex_digit.calls (bt a0 x26_2) false _ A18.out).mono ?_); rintro e w' ⟨rfl, ⟨nd, rfl⟩⟩; refine ⟨_, rfl, ?_⟩) | (go_at_call 34; (with_reducible refine (lex_lower.calls (bt a0 x26_2) t116 _ A26.out).mono ?_); rintro e w' ⟨rfl, ⟨nd, rfl⟩⟩))
                        go_ret
                        exact ⟨by first | rfl | (simp [errW_none, errW_some] <;> rfl) | (simp [*, errW_none, errW_some] <;> rfl), by repeat (first | (with_reducible first | exact HB.out | apply below_alloc | apply pw_below_drewN | apply below_drew1) | exact HB.out)⟩
                      · rw [if_neg c27] at H
                        have c27b0 : (t116 != t111) = false := by simpa using c27
                        (try (have c27b1 : decide (t116 = t111) = true := by simpa using c27))
                        (try (have c27b2 : (t116 == t111) = true := by simpa using c27))
                        clear c27
                        replace H := Option.bind_eq_some_iff.mp H
                        obtain ⟨t117, A280, H⟩ := H
                        replace H : (if t117 = true then (lex_part.l0 k2 t111 a0 (a0.size : Int) (wrap64 (x26_2 + 1))) else ((lex_lower.f (bt a0 x26_2)).bind fun t118 => (if t118 = true then (lex_part.l0 k2 t111 a0 (a0.size : Int) (wrap64 (x26_2 + 1))) else ((lex_upper.f (bt a0 x26_2)).bind fun t119 => (if t119 = true then (lex_part.l0 k2 t111 a0 (a0.size : Int) (wrap64 (x26_2 + 1))) else (some false)))))) = some r := H
                        have A28 := Aside0.mk A280
                        clear A280
                        by_cases c29 : t117 = true
                        · subst c29
                          have H1 : (lex_part.l0 k2 t111 a0 (a0.size : Int) (wrap64 (x26_2 + 1))) = some r := by rw [if_pos rfl] at H; exact H
                          clear H
                          have H := H1
                          clear H1
                          have H' := Aside0.mk H
                          clear H
                          have p17 : 0 ≤ (x26_2 : Int) := of_decide_eq_true (by first | (with_reducible assumption) | assumption)
                          have q17 : x26_2 < (a0.size : Int) := of_decide_eq_true (by first | (with_reducible assumption) | assumption)
                          have hx17 := HR.out x26_2 p17 q17
                          have hy17 := hx17
                          rw [add_plain] at hy17
                          replace p17 := eq_true p17
                          replace q17 := eq_true q17
                          go_wp2_with (first | ((with_reducible refine gate_callee (f := 36) rfl ?_); refine goesL_ (some 31) rfl rfl Tryd.func36 (by kernel_rfl) rfl #[.int .u8 (bt a0 x26_2)] rfl (by (try simp only [List.map_toArray, List.map_cons, List.map_nil]); first | done | rfl | (simp only [List.length_drop, List.length_take]; rfl)) ?_; (with_reducible refine (lex_digit.calls (bt a0 x26_2) false _ A18.out).mono ?_); rintro e w' ⟨rfl, ⟨nd, rfl⟩⟩; refine ⟨_, rfl, ?_⟩) | (go_at_call 34; (with_reducible refine (lex_lower.calls (bt a0 x26_2) t116 _ A26.out).mono ?_); rintro e w' ⟨rfl, ⟨nd, rfl⟩⟩) | (go_at_call 36; (with_reducible refine (lex_digit.calls (bt a0 x26_2) true _ A28.out).mono ?_); rintro e w' ⟨rfl, ⟨nd, rfl⟩⟩))
                          go_roundg k2
                          case measure => have := HJ1.out; have := HK2.out; omega
                          case rel => exact ⟨(wrap64 (x26_2 + 1)), (by first | rfl | (simp; done) | (simp [*]; done)), H', ⟨by have := HJ1.out; have := HK2.out; omega⟩, ⟨by repeat (first | (with_reducible first | exact HB.out | apply below_alloc | apply pw_below_drewN | apply below_drew1) | exact HB.out)⟩, HR⟩
                        · replace c29 := Bool.eq_false_iff.mpr c29
                          subst c29
                          have H1 : ((lex_lower.f (bt a0 x26_2)).bind fun t118 => (if t118 = true then (lex_part.l0 k2 t111 a0 (a0.size : Int) (wrap64 (x26_2 + 1))) else ((lex_upper.f (bt a0 x26_2)).bind fun t119 => (if t119 = true then (lex_part.l0 k2 t111 a0 (a0.size : Int) (wrap64 (x26_2 + 1))) else (some false))))) = some r := by rw [if_neg (show ¬ (false = true) by decide)] at H; exact H
                          clear H
                          have H := H1
                          clear H1
                          replace H := Option.bind_eq_some_iff.mp H
                          obtain ⟨t118, A300, H⟩ := H
                          replace H : (if t118 = true then (lex_part.l0 k2 t111 a0 (a0.size : Int) (wrap64 (x26_2 + 1))) else ((lex_upper.f (bt a0 x26_2)).bind fun t119 => (if t119 = true then (lex_part.l0 k2 t111 a0 (a0.size : Int) (wrap64 (x26_2 + 1))) else (some false)))) = some r := H
                          have A30 := Aside0.mk A300
                          clear A300
                          have e1_ : t118 = t116 := Option.some.inj (A30.out.symm.trans A26.out)
                          subst e1_
                          by_cases c31 : t118 = true
                          · subst c31
                            have H1 : (lex_part.l0 k2 t111 a0 (a0.size : Int) (wrap64 (x26_2 + 1))) = some r := by rw [if_pos rfl] at H; exact H
                            clear H
                            have H := H1
                            clear H1
                            have H' := Aside0.mk H
                            clear H
                            have p17 : 0 ≤ (x26_2 : Int) := of_decide_eq_true (by first | (with_reducible assumption) | assumption)
                            have q17 : x26_2 < (a0.size : Int) := of_decide_eq_true (by first | (with_reducible assumption) | assumption)
                            have hx17 := HR.out x26_2 p17 q17
                            have hy17 := hx17
                            rw [add_plain] at hy17
                            replace p17 := eq_true p17
                            replace q17 := eq_true q17
                            go_wp2_with (first | ((with_reducible refine gate_callee (f := 36) rfl ?_); refine goesL_ (some 31) rfl rfl Tryd.func36 (by kernel_rfl) rfl #[.int .u8 (bt a0 x26_2)] rfl (by (try simp only [List.map_toArray, List.map_cons, List.map_nil]); first | done | rfl | (simp only [List.length_drop, List.length_take]; rfl)) ?_; (with_reducible refine (lex_digit.calls (bt a0 x26_2) false _ A18.out).mono ?_); rintro e w' ⟨rfl, ⟨nd, rfl⟩⟩; refine ⟨_, rfl, ?_⟩) | (go_at_call 34; (with_reducible refine (lex_lower.calls (bt a0 x26_2) _ _ A26.out).mono ?_); rintro e w' ⟨rfl, ⟨nd, rfl⟩⟩) | (go_at_call 36; (with_reducible refine (lex_digit.calls (bt a0 x26_2) false _ A28.out).mono ?_); rintro e w' ⟨rfl, ⟨nd, rfl⟩⟩) | (go_at_call 34; (with_reducible refine (lex_lower.calls (bt a0 x26_2) true _ A30.out).mono ?_); rintro e w' ⟨rfl, ⟨nd, rfl⟩⟩))
                            go_roundg k2
                            case measure => have := HJ1.out; have := HK2.out; omega
                            case rel => exact ⟨(wrap64 (x26_2 + 1)), (by first | rfl | (simp; done) | (simp [*]; done)), H', ⟨by have := HJ1.out; have := HK2.out; omega⟩, ⟨by repeat (first | (with_reducible first | exact HB.out | apply below_alloc | apply pw_below_drewN | apply below_drew1) | exact HB.out)⟩, HR⟩
                          · replace c31 := Bool.eq_false_iff.mpr c31
                            subst c31
                            have H1 : ((lex_upper.f (bt a0 x26_2)).bind fun t119 => (if t119 = true then (lex_part.l0 k2 t111 a0 (a0.size : Int) (wrap64 (x26_2 + 1))) else (some false))) = some r := by rw [if_neg (show ¬ (false = true) by decide)] at H; exact H
                            clear H
                            have H := H1
                            clear H1
                            replace H := Option.bind_eq_some_iff.mp H
                            obtain ⟨t119, A320, H⟩ := H
                            replace H : (if t119 = true then (lex_part.l0 k2 t111 a0 (a0.size : Int) (wrap64 (x26_2 + 1))) else (some false)) = some r := H
                            have A32 := Aside0.mk A320
                            clear A320
                            by_cases c33 : t119 = true
                            · subst c33
                              have H1 : (lex_part.l0 k2 t111 a0 (a0.size : Int) (wrap64 (x26_2 + 1))) = some r := by rw [if_pos rfl] at H; exact H
                              clear H
                              have H := H1
                              clear H1
                              have H' := Aside0.mk H
                              clear H
                              have p17 : 0 ≤ (x26_2 : Int) := of_decide_eq_true (by first | (with_reducible assumption) | assumption)
                              have q17 : x26_2 < (a0.size : Int) := of_decide_eq_true (by first | (with_reducible assumption) | assumption)
                              have hx17 := HR.out x26_2 p17 q17
                              have hy17 := hx17
                              rw [add_plain] at hy17
                              replace p17 := eq_true p17
                              replace q17 := eq_true q17
                              go_wp2_with (first | ((with_reducible refine gate_callee (f := 36) rfl ?_); refine goesL_ (some 31) rfl rfl Tryd.func36 (by kernel_rfl) rfl #[.int .u8 (bt a0 x26_2)] rfl (by (try simp only [List.map_toArray, List.map_cons, List.map_nil]); first | done | rfl | (simp only [List.length_drop, List.length_take]; rfl)) ?_; (with_reducible refine (lex_digit.calls (bt a0 x26_2) false _ A18.out).mono ?_); rintro e w' ⟨rfl, ⟨nd, rfl⟩⟩; refine ⟨_, rfl, ?_⟩) | (go_at_call 34; (with_reducible refine (lex_lower.calls (bt a0 x26_2) _ _ A26.out).mono ?_); rintro e w' ⟨rfl, ⟨nd, rfl⟩⟩) | (go_at_call 36; (with_reducible refine (lex_digit.calls (bt a0 x26_2) false _ A28.out).mono ?_); rintro e w' ⟨rfl, ⟨nd, rfl⟩⟩) | (go_at_call 34; (with_reducible refine (lex_lower.calls (bt a0 x26_2) false _ A30.out).mono ?_); rintro e w' ⟨rfl, ⟨nd, rfl⟩⟩) | (go_at_call 35; (with_reducible refine (lex_upper.calls (bt a0 x26_2) true _ A32.out).mono ?_); rintro e w' ⟨rfl, ⟨nd, rfl⟩⟩))
                              go_roundg k2
                              case measure => have := HJ1.out; have := HK2.out; omega
                              case rel => exact ⟨(wrap64 (x26_2 + 1)), (by first | rfl | (simp; done) | (simp [*]; done)), H', ⟨by have := HJ1.out; have := HK2.out; omega⟩, ⟨by repeat (first | (with_reducible first | exact HB.out | apply below_alloc | apply pw_below_drewN | apply below_drew1) | exact HB.out)⟩, HR⟩
                            · replace c33 := Bool.eq_false_iff.mpr c33
                              subst c33
                              have H1 : (some false) = some r := by rw [if_neg (show ¬ (false = true) by decide)] at H; exact H
                              clear H
                              have H := H1
                              clear H1
                              obtain rfl := Option.some.inj H
                              have p17 : 0 ≤ (x26_2 : Int) := of_decide_eq_true (by first | (with_reducible assumption) | assumption)
                              have q17 : x26_2 < (a0.size : Int) := of_decide_eq_true (by first | (with_reducible assumption) | assumption)
                              have hx17 := HR.out x26_2 p17 q17
                              have hy17 := hx17
                              rw [add_plain] at hy17
                              replace p17 := eq_true p17
                              replace q17 := eq_true q17
                              go_wp2_with (first | ((with_reducible refine gate_callee (f := 36) rfl ?_); refine goesL_ (some 31) rfl rfl Tryd.func36 (by kernel_rfl) rfl #[.int .u8 (bt a0 x26_2)] rfl (by (try simp only [List.map_toArray, List.map_cons, List.map_nil]); first | done | rfl | (simp only [List.length_drop, List.length_take]; rfl)) ?_; (with_reducible refine (lex_digit.calls (bt a0 x26_2) false _ A18.out).mono ?_); rintro e w' ⟨rfl, ⟨nd, rfl⟩⟩; refine ⟨_, rfl, ?_⟩) | (go_at_call 34; (with_reducible refine (lex_lower.calls (bt a0 x26_2) _ _ A26.out).mono ?_); rintro e w' ⟨rfl, ⟨nd, rfl⟩⟩) | (go_at_call 36; (with_reducible refine (lex_digit.calls (bt a0 x26_2) false _ A28.out).mono ?_); rintro e w' ⟨rfl, ⟨nd, rfl⟩⟩) | (go_at_call 34; (with_reducible refine (lex_lower.calls (bt a0 x26_2) false _ A30.out).mono ?_); rintro e w' ⟨rfl, ⟨nd, rfl⟩⟩) | (go_at_call 35; (with_reducible refine (lex_upper.calls (bt a0 x26_2) false _ A32.out).mono ?_); rintro e w' ⟨rfl, ⟨nd, rfl⟩⟩))
                              go_ret
                              exact ⟨by first | rfl | (simp [errW_none, errW_some] <;> rfl) | (simp [*, errW_none, errW_some] <;> rfl), by repeat (first | (with_reducible first | exact HB.out | apply below_alloc | apply pw_below_drewN | apply below_drew1) | exact HB.out)⟩
                  · rw [if_neg c16] at H
                    exact absurd H (by simp)
                · rw [if_neg c15] at H
                  exact absurd H (by simp)
              · rw [if_neg c14] at H
                have c14b0 : decide (x26_2 < (a0.size : Int)) = false := decide_eq_false c14
                clear c14
                obtain rfl := Option.some.inj H
                go_wp2
                go_ret
                exact ⟨by first | rfl | (simp [errW_none, errW_some] <;> rfl) | (simp [*, errW_none, errW_some] <;> rfl), by repeat (first | (with_reducible first | exact HB.out | apply below_alloc | apply pw_below_drewN | apply below_drew1) | exact HB.out)⟩
        · rw [if_neg c11] at H
          exact absurd H (by simp)
attribute [local go_sem] Oper.semAt_some
/-- A loop over an iterator that goes over the pieces ps and writes the box B between two rounds: what is said between rounds abides B and whatever is no cell. -/
def Held (B n0 : Nat) (J : List ByteArray → World → Prop) : Prop := ∀ s A C k, J s A → A.grownBy C (some k) → (k = B ∨ n0 ≤ k ∧ ∀ o : Obj, A.heap[k]? = some o → o.isCells = false) → J s C
def BoxesKept (T : List Nat) (A C : World) : Prop := A.heap.size ≤ C.heap.size ∧ ∀ k ∈ T, k < A.heap.size → C.heap[k]? = A.heap[k]?
theorem BoxesKept.trans {T : List Nat} {A C D : World} (h : BoxesKept T A C) (k : BoxesKept T C D) : BoxesKept T A D := ⟨Nat.le_trans h.1 k.1, fun i hi hl => (k.2 i hi (Nat.lt_of_lt_of_le hl h.1)).trans (h.2 i hi hl)⟩
theorem BoxesKept.putObj {T : List Nat} (A : World) (l : Nat) (o : Obj) (h : l ∉ T) : BoxesKept T A (A.putObj l o) := ⟨by simp, fun i hi _ => World.putObj_heap_other (fun e => h (by rw [← e]; exact hi))⟩
def PiecesGo (F : Fence) (n : Nat) (P : Program) (g : Nat) (lb : Array Value) (B : Nat) (T : List Nat) (ps : List ByteArray) (w : World) : Prop :=
  ∀ (l : Nat) (J Jx : List ByteArray → World → Prop) (W : World), (∀ k ∈ T, W.heap[k]? = w.heap[k]?) → w.heap.size ≤ W.heap.size →
    (∀ s A C, J s A → A.grownBy C (some B) → J s C) →
    (∀ s A C, Jx s A → A.grownBy C (some B) → Jx s C) →
    (∀ pre x W1, J pre W1 → pre ++ [x] <+: ps → YieldAt F (n - 1) P l #[.string x] W1 fun e W' => (e = .returned (.bool true) ∧ J (pre ++ [x]) W' ∧ BoxesKept T W1 W') ∨ (e = .returned (.bool false) ∧ Jx (pre ++ [x]) W')) →
    J [] W → CallsIn F n P g (#[.func (.yield l) #[] #[]] ++ lb) W fun e W' => (∃ v, e = .returned v) ∧ (J ps W' ∨ ∃ pre, pre <+: ps ∧ Jx pre W')
def piecePost (T : List Nat) (I Ix : List ByteArray → World → Prop) (xs : List ByteArray) (W : World) : Exit → Act → World → Prop
  | .normal, _, W' => KeepsOthers W W' ∧ BoxesKept T W W' ∧ I xs W'
  | .ret, _, W' => KeepsOthers W W' ∧ Ix xs W'
  | _, _, _ => False
theorem range_pieces {F : Fence} {n : Nat} {P : Program} {g : Operand} {p : Tmp} {assign body : Code} {Q : Exit → Act → World → Prop} {a : Act} {w : World}
    (hro : F.round = none) (h1 : 1 ≤ n) {gf : Nat} {lb : Array Value} (hg : a.eval g = .func (.func gf) #[] lb) (hFg : F.fn gf) (eg : ∀ args w, (callFunc gf args).run P w = .ok (.enter gf args) w)
    {B : Nat} {T : List Nat} (hB : B < w.heap.size) (hT : ∀ k ∈ T, k < w.heap.size) {qs : List ByteArray} (hseq : PiecesGo F (n - 1) P gf lb B T qs w)
    (I Ix : List ByteArray → World → Prop) (hI : Held B w.heap.size I) (hIx : Held B w.heap.size Ix) (h0 : I [] w) (a₁ : ByteArray → Act)
    (hassign : ∀ (l : Nat) (x : ByteArray) (W : World) (K : Act → World → Prop), K (a₁ x) W → assign.wpIn (F.inRound l) (n - 1 - 1) P (Exit.then K (fun _ _ _ => False)) { tmps := a.tmps.setIfInBounds p (.string x), defers := [] } W)
    (hbody : ∀ (l : Nat) (pre : List ByteArray) (x : ByteArray) (W : World), I pre W → pre ++ [x] <+: qs → body.wpIn (F.inRound l) (n - 1 - 1) P (piecePost T I Ix (pre ++ [x]) W) (a₁ x) W)
    (hdone : ∀ (D : Nat) (W : World), w.heap.size ≤ D → I qs W → W.heap[D]? = some (.deferred (some [])) → Q .normal { a with defers := { target := .collected D, args := #[] } :: a.defers } W)
    (hstop : ∀ (D : Nat) (pre : List ByteArray) (W : World), w.heap.size ≤ D → pre <+: qs → Ix pre W → W.heap[D]? = some (.deferred (some [])) → Code.ret.wpIn F n P Q { a with defers := { target := .collected D, args := #[] } :: a.defers } W) :
    (Code.rangeFunc g #[p] assign body).wpIn F n P Q a w := by
  refine wpIn_rangeFunc fun fn hfn => ?_
  rw [hro]
  let rec_ : LoopState → Option Code → Loop := fun st pe => { state := st, pending := pe, fn, tmps := a.tmps, params := #[p], assign, body, defers := w.heap.size }
  have hlB : w.heap.size + 1 ≠ B := by omega
  have hlT : w.heap.size + 1 ∉ T := fun h => by have := hT _ h; omega
  generalize hW1 : (w.alloc (.deferred (some []))).alloc (.loop (rec_ .ready none)) = W1
  have hs1 : W1.heap.size = w.heap.size + 2 := by rw [← hW1]; simp
  have hL1 : W1.heap[w.heap.size + 1]? = some (.loop (rec_ .ready none)) := by
    rw [← hW1]; have := World.alloc_heap_new (w.alloc (.deferred (some []))) (.loop (rec_ .ready none)); rwa [World.size_alloc] at this
  have hK1 : W1.heap[w.heap.size]? = some (.deferred (some [])) := by rw [← hW1]; exact (Below.heap_alloc _ _ _ (by simp)).trans (World.alloc_heap_new w _)
  have hold : ∀ k, k < w.heap.size → W1.heap[k]? = w.heap[k]? := fun k hk => by
    rw [← hW1]; exact (Below.heap_alloc _ _ _ (by simp; omega)).trans (Below.heap_alloc _ _ _ hk)
  have hfree : ∀ (A : World) (k : Nat), A.heap.size ≤ k → ∀ o : Obj, A.heap[k]? = some o → o.isCells = false := fun A k hk o ho => by rw [Array.getElem?_eq_none hk] at ho; cases ho
  have hI1 : I [] W1 := by
    rw [← hW1]
    have i1 := hI [] w _ w.heap.size h0 (World.grownBy_alloc w (.deferred (some [])) (some w.heap.size)) (.inr ⟨Nat.le_refl _, hfree w _ (Nat.le_refl _)⟩)
    exact hI [] _ _ (w.heap.size + 1) i1 (World.grownBy_alloc _ _ (some (w.heap.size + 1))) (.inr ⟨by omega, hfree _ _ (by simp)⟩)
  refine ⟨w.heap.size + 1, [{ target := .collected w.heap.size, args := #[] }], W1, { target := .fn (.func gf) lb, args := #[.func (.yield (w.heap.size + 1)) #[] #[]] }, W1, gf, #[.func (.yield (w.heap.size + 1)) #[] #[]] ++ lb, W1, ?_, ?_, ?_, ?_, fun _ => h1, ?_⟩
  · rw [← hW1]; exact run_enterLoop_outer _ _ _ _ _
  · simp only [resolve, hg]
    simp [go_sem]
  · intro f' hf'; simp [Target.leads] at hf'; subst hf'; exact hFg
  · simp [invoke, go_sem, eg]
  · have other : ∀ {A C : World} (_ : A.grownBy C (some B)) {k : Nat} {o : Obj}, k ≠ B → A.heap[k]? = some o → C.heap[k]? = some o := fun {A C} hg' {k o} hk ho => (hg'.block k (Array.getElem?_eq_some_iff.1 ho).1 (fun e => hk (Option.some.inj e))).trans ho
    have hturn : ∀ {J : List ByteArray → World → Prop} (_ : Held B w.heap.size J) {s : List ByteArray} {A : World} {o : Obj} (o' : Obj), J s A → A.heap[w.heap.size + 1]? = some o → o.isCells = false → J s (A.putObj (w.heap.size + 1) o') :=
      fun {J} hJ {s A o} o' hs ho hc => hJ s A _ (w.heap.size + 1) hs (grownBy_putObj' A _ o') (.inr ⟨by omega, fun o2 h2 => by rw [ho] at h2; cases h2; exact hc⟩)
    refine (hseq (w.heap.size + 1)
      (fun pre W => I pre W ∧ W.heap[w.heap.size + 1]? = some (.loop (rec_ .ready none)) ∧ W.heap[w.heap.size]? = some (.deferred (some [])))
      (fun pre W => Ix pre W ∧ W.heap[w.heap.size + 1]? = some (.loop (rec_ .done (some .ret))) ∧ W.heap[w.heap.size]? = some (.deferred (some [])))
      W1 (fun k hk => hold k (hT k hk)) (by omega)
      (fun s A C hs hg' => ⟨hI s A C B hs.1 hg' (.inl rfl), other hg' hlB hs.2.1, other hg' (by omega) hs.2.2⟩)
      (fun s A C hs hg' => ⟨hIx s A C B hs.1 hg' (.inl rfl), other hg' hlB hs.2.1, other hg' (by omega) hs.2.2⟩)
      ?_ ⟨hI1, hL1, hK1⟩).mono ?_
    · rintro pre x W ⟨hi, hl, hk⟩ hlen
      have hlt : w.heap.size + 1 < W.heap.size := (Array.getElem?_eq_some_iff.1 hl).1
      refine ⟨fn, a.tmps.setIfInBounds p (.string x), assign, body, (run_yield (P := P) (args := #[.string x]) hl rfl).trans (by simp [rec_]), roundIn_of_wpIn hfn ?_⟩
      refine hassign _ x W _ ?_
      refine ⟨_, run_beginRound hl rfl, ?_⟩
      have hl2 : (W.putObj (w.heap.size + 1) (.loop (rec_ .busy none))).heap[w.heap.size + 1]? = some (.loop (rec_ .busy none)) := World.putObj_heap_same hlt
      have hk2 : (W.putObj (w.heap.size + 1) (.loop (rec_ .busy none))).heap[w.heap.size]? = some (.deferred (some [])) := (World.putObj_heap_other (by omega)).trans hk
      refine wpIn_mono (hbody _ pre x _ (hturn hI _ hi hl rfl) hlen) ?_
      intro e a3 W3 hp
      cases e with
      | normal =>
        obtain ⟨hk3, hb3, hi3⟩ := hp
        have hl3 := hk3.same _ _ hl2 rfl
        refine ⟨_, _, run_endRound (P := P) none hl3, .inl ⟨rfl, ⟨hturn hI _ hi3 hl3 rfl, World.putObj_heap_same (Array.getElem?_eq_some_iff.1 hl3).1, (World.putObj_heap_other (by omega)).trans (hk3.same _ _ hk2 rfl)⟩, ?_⟩⟩
        exact ((BoxesKept.putObj W _ _ hlT).trans hb3).trans (BoxesKept.putObj W3 _ _ hlT)
      | ret =>
        obtain ⟨hk3, hi3⟩ := hp
        have hl3 := hk3.same _ _ hl2 rfl
        exact ⟨_, _, run_endRound (P := P) (some .ret) hl3, .inr ⟨rfl, hturn hIx _ hi3 hl3 rfl, World.putObj_heap_same (Array.getElem?_eq_some_iff.1 hl3).1, (World.putObj_heap_other (by omega)).trans (hk3.same _ _ hk2 rfl)⟩⟩
      | exit id => exact hp.elim
      | goto t => exact hp.elim
      | panic ch => exact hp.elim
      | outgrown => exact hp.elim
    · rintro e W2 ⟨⟨v, rfl⟩, (⟨hi, hl, hk⟩ | ⟨pre, hpx, hi, hl, hk⟩)⟩
      · exact ⟨none, _, run_endLoop (P := P) hl (by simp [rec_]), hdone _ _ (Nat.le_refl _) (hturn hI _ hi hl rfl) ((World.putObj_heap_other (by omega)).trans hk)⟩
      · exact ⟨some .ret, _, run_endLoop (P := P) hl (by simp [rec_]), hstop _ pre _ (Nat.le_refl _) hpx (hturn hIx _ hi hl rfl) ((World.putObj_heap_other (by omega)).trans hk)⟩
def piecesF (c : UInt8) : Nat → ByteArray → List ByteArray
  | 0, s => [s]
  | k + 1, s => if Go.Lib.indexByte s.data.toList c < 0 then [s] else s.extract 0 (Go.Lib.indexByte s.data.toList c).toNat :: piecesF c k (s.extract ((Go.Lib.indexByte s.data.toList c).toNat + 1) s.size)
theorem indexByte_lt (l : List UInt8) (c : UInt8) : Go.Lib.indexByte l c < l.length := by
  induction l with
  | nil => simp [Go.Lib.indexByte]
  | cons b l ih =>
    unfold Go.Lib.indexByte
    rw [List.length_cons]
    split
    · omega
    · split <;> omega
theorem indexByte_lt' (s : ByteArray) (c : UInt8) : Go.Lib.indexByte s.data.toList c < s.size := by
  have := indexByte_lt s.data.toList c
  rwa [data_length] at this
theorem piecesF_succ (c : UInt8) (k : Nat) (s : ByteArray) : piecesF c (k + 1) s = if Go.Lib.indexByte s.data.toList c < 0 then [s] else s.extract 0 (Go.Lib.indexByte s.data.toList c).toNat :: piecesF c k (s.extract ((Go.Lib.indexByte s.data.toList c).toNat + 1) s.size) := rfl
theorem piecesF_fuel (c : UInt8) : ∀ (k m : Nat) (s : ByteArray), s.size ≤ k → s.size ≤ m → piecesF c k s = piecesF c m s
  | 0, 0, s, _, _ => rfl
  | 0, m + 1, s, h, _ => by
    have hi := indexByte_lt' s c
    rw [piecesF_succ, if_pos (by omega)]; rfl
  | k + 1, 0, s, _, h => by
    have hi := indexByte_lt' s c
    rw [piecesF_succ, if_pos (by omega)]; rfl
  | k + 1, m + 1, s, h, h' => by
    have hi := indexByte_lt' s c
    rw [piecesF_succ, piecesF_succ]
    split
    · rfl
    · have hz := ByteArray.size_extract (a := s) (b := (Go.Lib.indexByte s.data.toList c).toNat + 1) (e := s.size)
      rw [piecesF_fuel c k m _ (by omega) (by omega)]
theorem pieces_end (c : UInt8) (s : ByteArray) (h : Go.Lib.indexByte s.data.toList c < 0) : piecesF c s.size s = [s] := by
  rw [piecesF_fuel c s.size (s.size + 1) s (by omega) (by omega), piecesF_succ, if_pos h]
theorem pieces_more (c : UInt8) (s : ByteArray) (h : ¬ Go.Lib.indexByte s.data.toList c < 0) : piecesF c s.size s = s.extract 0 (Go.Lib.indexByte s.data.toList c).toNat :: piecesF c (s.extract ((Go.Lib.indexByte s.data.toList c).toNat + 1) s.size).size (s.extract ((Go.Lib.indexByte s.data.toList c).toNat + 1) s.size) := by
  have hi := indexByte_lt' s c
  have hz := ByteArray.size_extract (a := s) (b := (Go.Lib.indexByte s.data.toList c).toNat + 1) (e := s.size)
  rw [piecesF_fuel c s.size (s.size + 1) s (by omega) (by omega), piecesF_succ, if_neg h, piecesF_fuel c s.size _ (s.extract _ s.size) (by omega) (Nat.le_refl _)]
def strAt (W : World) (b : Nat) : Nat := match W.cell? ⟨b, 0, none⟩ with | some (.string s) => s.size | _ => 0
theorem wrap_in (n : Int) (h : -9223372036854775808 ≤ n) (h' : n ≤ 9223372036854775807) : wrap64 n = n := by unfold wrap64; omega
theorem strAt_of {W : World} {b : Nat} {s : ByteArray} (h : W.heap[b]? = some (.cells #[.string s] 9 (0, 0))) : strAt W b = s.size := by
  unfold strAt
  rw [show W.cell? ⟨b, 0, none⟩ = some (.string s) from (blk_cell h 0).trans rfl]
set_option maxHeartbeats 8000000 in
set_option maxRecDepth 100000 in
theorem split_go (n : Nat) (hn : 1 ≤ n) (Bs Bp Bv : Nat) (h1 : Bs ≠ Bp) (h2 : Bs ≠ Bv) (c : UInt8) (s : ByteArray) (w : World) (hs : w.heap[Bs]? = some (.cells #[.string s] 9 (0, 0))) (hp : w.heap[Bp]? = some (.cells #[.string ⟨#[c]⟩] 9 (0, 0))) (hv : w.heap[Bv]? = some (.cells #[.int .i64 0] 3 (0, 0))) (hsz : s.size ≤ 140737488355328) :
    PiecesGo Fence.wide n Tryd.prog 51 #[.pointer (some ⟨Bp, 0, none⟩), .pointer (some ⟨Bs, 0, none⟩), .pointer (some ⟨Bv, 0, none⟩)] Bs [Bs, Bp, Bv] (piecesF c s.size s) w := by
  intro l J Jx W hT hW hJ hJx hY h0
  have hs1 := (hT Bs (by simp)).trans hs
  have hp1 := (hT Bp (by simp)).trans hp
  have hv1 := (hT Bv (by simp)).trans hv
  clear hs hp hv hT hW
  refine callsIn_of_wp Tryd.func51 rfl trivial ?_ rfl
  simp only [Tryd.ntmps51, List.size_toArray, List.length_cons, List.length_nil, Nat.reduceAdd, Nat.reduceSub, Array.replicate_succ, Array.replicate_zero, List.push_toArray, List.append_toArray, List.nil_append, List.cons_append]
  have hcp : W.cell? ⟨Bp, 0, none⟩ = some (.string ⟨#[c]⟩) := (blk_cell hp1 0).trans rfl
  gi_wp2
  gi_loopw [7] (fun p wr => ∃ (pre : List ByteArray) (t : ByteArray), pre ++ piecesF c t.size t = piecesF c s.size s ∧ t.size ≤ 140737488355328 ∧ wr.heap[Bs]? = some (.cells #[.string t] 9 (0, 0)) ∧ wr.heap[Bp]? = some (.cells #[.string ⟨#[c]⟩] 9 (0, 0)) ∧ wr.heap[Bv]? = some (.cells #[.int .i64 0] 3 (0, 0)) ∧ J pre wr) (fun p wr => strAt wr Bs)
  case atStart => exact ⟨[], s, rfl, hsz, hs1, hp1, hv1, h0⟩
  case round =>
    obtain ⟨pre, t, hpre, htz, hs2, hp2, hv2, hJ2⟩ := hrel
    have hcs : wr.cell? ⟨Bs, 0, none⟩ = some (.string t) := (blk_cell hs2 0).trans rfl
    have hcp2 : wr.cell? ⟨Bp, 0, none⟩ = some (.string ⟨#[c]⟩) := (blk_cell hp2 0).trans rfl
    have hcv : wr.cell? ⟨Bv, 0, none⟩ = some (.int .i64 0) := (blk_cell hv2 0).trans rfl
    have hix := callsIn_wide (n := n - 1).2 (lx_strings_Index_one t c wr)
    have hlt := indexByte_lt' t c
    by_cases hc : Go.Lib.indexByte t.data.toList c < 0
    · rw [pieces_end c t hc] at hpre
      obtain ⟨fn, tmps, assign, body, hy, hR⟩ := hY pre t wr hJ2 (by rw [hpre]; exact List.prefix_refl _)
      generalize Go.Lib.indexByte t.data.toList c = ix at hix hc hlt
      have hc0 : decide (ix < 0) = true := decide_eq_true hc
      gi_wp2
      refine ⟨trivial, hix.mono ?_⟩
      rintro e w' ⟨rfl, rfl⟩
      gi_wp2
      refine hR.mono ?_
      rintro e W' (⟨rfl, hJ3, hk3⟩ | ⟨rfl, hJx3⟩)
      · gi_wp2
        go_end0
        rw [hpre] at hJ3
        exact ⟨⟨_, rfl⟩, .inl hJ3⟩
      · gi_wp2
        go_end0
        exact ⟨⟨_, rfl⟩, .inr ⟨_, by rw [hpre]; exact List.prefix_refl _, hJx3⟩⟩
    · rw [pieces_more c t hc] at hpre
      obtain ⟨fn, tmps, assign, body, hy, hR⟩ := hY pre (t.extract 0 (Go.Lib.indexByte t.data.toList c).toNat) wr hJ2 ⟨piecesF c (t.extract ((Go.Lib.indexByte t.data.toList c).toNat + 1) t.size).size (t.extract ((Go.Lib.indexByte t.data.toList c).toNat + 1) t.size), by rw [← hpre]; simp⟩
      generalize Go.Lib.indexByte t.data.toList c = ix at hix hc hlt hpre hy hR
      have hc0 : decide (ix < 0) = false := decide_eq_false hc
      have hw0 : wrap64 (ix + 0) = ix := by rw [Int.add_zero]; exact wrap_in _ (by omega) (by omega)
      have hw1 : wrap64 (ix + 1) = ix + 1 := wrap_in _ (by omega) (by omega)
      have hp1' : (0 : Int) ≤ ix := by omega
      have hp2' : ix ≤ (t.size : Int) := by omega
      have hp3' : (0 : Int) ≤ ix + 1 := by omega
      have hp4' : ix + 1 ≤ (t.size : Int) := by omega
      gi_wp2
      refine ⟨trivial, hix.mono ?_⟩
      rintro e w' ⟨rfl, rfl⟩
      gi_wp2
      refine hR.mono ?_
      rintro e W' (⟨rfl, hJ3, hk3⟩ | ⟨rfl, hJx3⟩)
      · have hs3 := (hk3.2 Bs (by simp) (Array.getElem?_eq_some_iff.1 hs2).1).trans hs2
        have hp3 := (hk3.2 Bp (by simp) (Array.getElem?_eq_some_iff.1 hp2).1).trans hp2
        have hv3 := (hk3.2 Bv (by simp) (Array.getElem?_eq_some_iff.1 hv2).1).trans hv2
        have hcs3 : W'.cell? ⟨Bs, 0, none⟩ = some (.string t) := (blk_cell hs3 0).trans rfl
        have hcp3 : W'.cell? ⟨Bp, 0, none⟩ = some (.string ⟨#[c]⟩) := (blk_cell hp3 0).trans rfl
        have hfs3 := blk_frozen hs3 0
        gi_wp2
        have e1 : (ix + 1).toNat = ix.toNat + 1 := by omega
        have e2 := ByteArray.size_extract (a := t) (b := (ix + 1).toNat) (e := t.size)
        have hs4 : (W'.setCell ⟨Bs, 0, none⟩ (.string (t.extract (ix + 1).toNat t.size))).heap[Bs]? = some (.cells #[.string (t.extract (ix + 1).toNat t.size)] 9 (0, 0)) := by simpa using blk_set hs3 0 (.string (t.extract (ix + 1).toNat t.size))
        refine ⟨⟨pre ++ [t.extract 0 ix.toNat], t.extract (ix + 1).toNat t.size, ?_, by omega, hs4, (Below.heap_setCell W' ⟨Bs, 0, none⟩ _ Bp (Ne.symm h1)).trans hp3, (Below.heap_setCell W' ⟨Bs, 0, none⟩ _ Bv (Ne.symm h2)).trans hv3, hJ _ _ _ hJ3 (grownBy_setCell' W' Bs _)⟩, ?_⟩
        · rw [← hpre, e1, List.append_assoc]; rfl
        · rw [strAt_of hs4, strAt_of hs2]; omega
      · gi_wp2
        refine bodyPost_ret (results_none rfl _ _ _) rfl ?_
        exact ⟨⟨_, rfl⟩, .inr ⟨_, ⟨piecesF c (t.extract (ix.toNat + 1) t.size).size (t.extract (ix.toNat + 1) t.size), by rw [← hpre]; simp⟩, hJx3⟩⟩
def splitW (s p : ByteArray) (w : World) : World := ((w.alloc (.cells #[.string s] 9)).alloc (.cells #[.string p] 9)).alloc (.cells #[.int .i64 0] 3)
set_option maxHeartbeats 8000000 in
set_option maxRecDepth 100000 in
theorem split_seq0 (s p : ByteArray) (w : World) : Calls Tryd.prog 41 #[.string s, .string p, .int .i64 0] w fun e w' => e = .returned (.func (.func 51) #[] #[.pointer (some ⟨w.heap.size + 1, 0, none⟩), .pointer (some ⟨w.heap.size, 0, none⟩), .pointer (some ⟨w.heap.size + 2, 0, none⟩)]) ∧ w' = splitW s p w := by
  go_enter Tryd.func41, Tryd.ntmps41
  go_wp2
  go_ret
  exact ⟨by first | rfl | simp, by first | rfl | simp [splitW]⟩
set_option maxHeartbeats 8000000 in
set_option maxRecDepth 100000 in
theorem split_seq (s p : ByteArray) (w : World) : Calls Tryd.prog 24 #[.string s, .string p] w fun e w' => e = .returned (.func (.func 51) #[] #[.pointer (some ⟨w.heap.size + 1, 0, none⟩), .pointer (some ⟨w.heap.size, 0, none⟩), .pointer (some ⟨w.heap.size + 2, 0, none⟩)]) ∧ w' = splitW s p w := by
  have h0 := split_seq0 s p w
  generalize splitW s p w = w2 at h0 ⊢
  go_enter Tryd.func24, Tryd.ntmps24
  go_wp2_with (first | (go_at_call 41; refine h0.mono ?_; rintro e w' ⟨rfl, rfl⟩))
  go_ret
  exact ⟨rfl, rfl⟩
theorem splitW_heap (s p : ByteArray) (w : World) : (splitW s p w).heap[w.heap.size]? = some (.cells #[.string s] 9 (0, 0)) ∧ (splitW s p w).heap[w.heap.size + 1]? = some (.cells #[.string p] 9 (0, 0)) ∧ (splitW s p w).heap[w.heap.size + 2]? = some (.cells #[.int .i64 0] 3 (0, 0)) ∧ (splitW s p w).heap.size = w.heap.size + 3 := by
  unfold splitW
  refine ⟨?_, ?_, ?_, by simp⟩
  · exact (Below.heap_alloc _ _ _ (by simp; omega)).trans ((Below.heap_alloc _ _ _ (by simp)).trans (World.alloc_heap_new w _))
  · exact (Below.heap_alloc _ _ _ (by simp)).trans (by have := World.alloc_heap_new (w.alloc (.cells #[.string s] 9)) (.cells #[.string p] 9); rwa [World.size_alloc] at this)
  · have := World.alloc_heap_new ((w.alloc (.cells #[.string s] 9)).alloc (.cells #[.string p] 9)) (.cells #[.int .i64 0] 3); rwa [World.size_alloc, World.size_alloc] at this
theorem splitW_below (s p : ByteArray) (w : World) : Below w.heap.size w (splitW s p w) := (((Below.refl _ w).alloc (Nat.le_refl _) _).alloc (by simp) _).alloc (by simp; omega) _
def lxOk (t : Bool) (c : Int) : Bool := lxDi c || (lxLo c == t && (lxLo c || lxUp c))
def partAll (t : Bool) (s : ByteArray) : Nat → Nat → Bool
  | 0, _ => true
  | m + 1, i => lxOk t (bt s (i : Int)) && partAll t s m (i + 1)
theorem part_l0 (t : Bool) (s : ByteArray) (hs : s.size ≤ 4611686018427387904) : ∀ (m i k : Nat), i + m = s.size → m + 1 ≤ k → lex_part.l0 k t s (s.size : Int) (i : Int) = some (partAll t s m i) := by
  intro m
  induction m with
  | zero =>
    intro i k h hk
    obtain ⟨k, rfl⟩ : ∃ k', k = k' + 1 := ⟨k - 1, by omega⟩
    rw [lex_part.l0, if_neg (by omega)]
    rfl
  | succ m ih =>
    intro i k h hk
    obtain ⟨k, rfl⟩ : ∃ k', k = k' + 1 := ⟨k - 1, by omega⟩
    have hw : wrap64 ((i : Int) + 1) = ((i + 1 : Nat) : Int) := by unfold wrap64; omega
    have hr := ih (i + 1) k (by omega) (by omega)
    rw [lex_part.l0, if_pos (by omega), if_pos (by omega), if_pos (by omega), partAll]
    rw [hw, hr]
    generalize partAll t s m (i + 1) = R
    generalize bt s (i : Int) = c
    rw [digit_at, lower_at, upper_at]
    unfold lxOk
    cases lxDi c <;> cases lxLo c <;> cases lxUp c <;> cases t <;> simp
def partB (s : ByteArray) : Bool := decide (0 < s.size) && (lxLo (bt s 0) || lxUp (bt s 0)) && partAll (lxLo (bt s 0)) s s.size 0
theorem str_empty (a : ByteArray) : a.toList = [] ↔ a.size = 0 := by
  have h : a.toList = a.data.toList := ByteArray.toList_eq a
  rw [h, ← data_length]
  exact List.length_eq_zero_iff.symm
theorem part_at (s : ByteArray) (hs : s.size ≤ 4611686018427387904) (k : Nat) (hk : s.size + 2 ≤ k) : lex_part.f k s = some (partB s) := by
  obtain ⟨k, rfl⟩ : ∃ k', k = k' + 1 := ⟨k - 1, by omega⟩
  unfold lex_part.f partB
  by_cases h0 : s.size = 0
  · rw [if_pos ((str_empty s).2 h0), lex_part.j0, if_pos rfl, decide_eq_false (by omega)]
    rfl
  · rw [if_neg (fun h => h0 ((str_empty s).1 h)), if_pos (by omega), lower_at, upper_at, decide_eq_true (by omega), Bool.true_and]
    have hj : lex_part.j0 (k + 1) s false = some (partAll (lxLo (bt s 0)) s s.size 0) := by
      rw [lex_part.j0, if_neg (by decide), if_pos (by omega), lower_at]
      exact part_l0 (lxLo (bt s 0)) s hs s.size 0 k (by omega) (by omega)
    have hj1 : lex_part.j0 (k + 1) s true = some false := by rw [lex_part.j0, if_pos rfl]
    simp only [Option.bind_some]
    generalize lxLo (bt s 0) = t at hj ⊢
    generalize partAll t s s.size 0 = R at hj ⊢
    cases t <;> cases lxUp (bt s 0) <;> simp [hj, hj1]
theorem part_calls (s : ByteArray) (hs : s.size ≤ 4611686018427387904) (w : World) : Calls Tryd.prog 25 #[.string s] w fun e w' => e = .returned (.bool (partB s)) ∧ Below w.heap.size w w' := lex_part.calls _ s _ w (part_at s hs _ (Nat.le_refl _))
def lex_Name.f (a0 : ByteArray) : Option Bool := some (if a0.size = 0 then false else if 100 < a0.size then false else (piecesF 45 a0.size a0).all partB)
theorem pieces_size (c : UInt8) : ∀ (k : Nat) (s x : ByteArray), x ∈ piecesF c k s → x.size ≤ s.size
  | 0, s, x, h => by rw [List.mem_singleton.1 h]; exact Nat.le_refl _
  | k + 1, s, x, h => by
    rw [piecesF_succ] at h
    split at h
    · rw [List.mem_singleton.1 h]; exact Nat.le_refl _
    · rcases List.mem_cons.1 h with h | h
      · rw [h, ByteArray.size_extract]; omega
      · have := pieces_size c k _ x h
        rw [ByteArray.size_extract] at this; omega
theorem held_cell (Bs n0 N : Nat) (w : World) (o : Obj) (q : List ByteArray → Prop) (h1 : n0 < Bs) (h2 : n0 < N) (h3 : w.heap.size ≤ n0) : Held Bs N (fun pre W => W.heap[n0]? = some o ∧ q pre ∧ Below w.heap.size w W) := by
  rintro s A C k ⟨hc, hq, hb⟩ hg hk
  have hkn : w.heap.size ≤ k ∧ n0 ≠ k := by
    rcases hk with rfl | ⟨hk, _⟩ <;> omega
  exact ⟨(hg.block n0 (Array.getElem?_eq_some_iff.1 hc).1 (fun e => hkn.2 (Option.some.inj e))).trans hc, hq, hb.grown hg hb.size (fun k' e => by cases e; exact hkn.1)⟩
set_option maxHeartbeats 8000000 in
set_option maxRecDepth 100000 in
theorem lex_Name.main (a0 : ByteArray) (w : World) (h0 : a0.size ≠ 0) (h100 : ¬ 100 < a0.size) :
    Calls Tryd.prog 13 #[.string a0] w fun e w' => e = .returned (.bool ((piecesF 45 a0.size a0).all partB)) ∧ Below w.heap.size w w' := by
  have hsq := (callsIn_wide (n := 5)).2 (split_seq a0 ⟨#[45]⟩ (w.alloc (.cells #[.bool false] 4)))
  obtain ⟨q1, q2, q3, q4⟩ := splitW_heap a0 ⟨#[45]⟩ (w.alloc (.cells #[.bool false] 4))
  have qb := splitW_below a0 ⟨#[45]⟩ (w.alloc (.cells #[.bool false] 4))
  have q0 : (splitW a0 ⟨#[45]⟩ (w.alloc (.cells #[.bool false] 4))).heap[w.heap.size]? = some (.cells #[.bool false] 4 (0, 0)) := (qb.block _ (by simp)).trans (World.alloc_heap_new w _)
  have qB : Below w.heap.size w (splitW a0 ⟨#[45]⟩ (w.alloc (.cells #[.bool false] 4))) := ((Below.refl _ w).alloc (Nat.le_refl _) _).trans (qb.mono (by simp))
  rw [World.size_alloc] at q1 q2 q3 q4 hsq
  generalize hw2 : splitW a0 ⟨#[45]⟩ (w.alloc (.cells #[.bool false] 4)) = w2 at *
  have e0 : (a0.toList == ([] : List UInt8)) = false := by
    have := str_empty a0
    cases hh : (a0.toList == ([] : List UInt8)) with
    | false => rfl
    | true => exact absurd (this.1 (beq_iff_eq.1 hh)) h0
  have e1 : decide ((100 : Int) < (a0.size : Int)) = false := decide_eq_false (by omega)
  refine (callsIn_wide (n := 6)).1 ?_
  refine callsIn_of_wp_marks Tryd.func13 rfl trivial ?_ rfl
  simp only [Tryd.ntmps13, List.size_toArray, List.length_cons, List.length_nil, Nat.reduceAdd, Nat.reduceSub, Array.replicate_succ, Array.replicate_zero, List.push_toArray, List.append_toArray, List.nil_append, List.cons_append]
  gi_wp2
  refine ⟨trivial, hsq.mono ?_⟩
  rintro e w' ⟨rfl, rfl⟩
  gi_wp2
  refine range_pieces (F := Fence.wide) (n := 6) rfl (by omega) (gf := 51) (lb := #[.pointer (some ⟨w.heap.size + 1 + 1, 0, none⟩), .pointer (some ⟨w.heap.size + 1, 0, none⟩), .pointer (some ⟨w.heap.size + 1 + 2, 0, none⟩)]) rfl trivial (enters_of Tryd.func51 (by kernel_rfl) rfl)
    (B := w.heap.size + 1) (T := [w.heap.size + 1, w.heap.size + 1 + 1, w.heap.size + 1 + 2]) (by omega) (by intro k hk; simp at hk; omega)
    (split_go 5 (by omega) _ _ _ (by omega) (by omega) 45 a0 w' q1 q2 q3 (by omega))
    (fun pre W => W.heap[w.heap.size]? = some (.cells #[.bool false] 4 (0, 0)) ∧ (∀ x ∈ pre, partB x = true) ∧ Below w.heap.size w W)
    (fun pre W => W.heap[w.heap.size]? = some (.cells #[.bool false] 4 (0, 0)) ∧ (∃ x ∈ pre, partB x = false) ∧ Below w.heap.size w W)
    (held_cell _ _ _ w _ (fun pre => ∀ x ∈ pre, partB x = true) (by omega) (by omega) (Nat.le_refl _)) (held_cell _ _ _ w _ (fun pre => ∃ x ∈ pre, partB x = false) (by omega) (by omega) (Nat.le_refl _)) ⟨q0, by simp, qB⟩
    (fun x => { tmps := #[.string a0, undef, .pointer (some ⟨w.heap.size, 0, none⟩), .string x, .string a0, .bool false, .bool false, .string a0, .int .i64 a0.size, .bool false, .bool false, .string a0, .func (.func 51) #[] #[.pointer (some ⟨w.heap.size + 1 + 1, 0, none⟩), .pointer (some ⟨w.heap.size + 1, 0, none⟩), .pointer (some ⟨w.heap.size + 1 + 2, 0, none⟩)], .string x, undef, undef, undef], defers := [] }) ?assign ?body ?done ?stop
  case assign =>
    intro l x W K hK
    gi_wp2
    exact hK
  case body =>
    rintro l pre x W ⟨hc, hq, hb⟩ hpre
    have hpc := CallsIn.inRound l ((callsIn_wide (n := 3)).2 (part_calls x (by have := pieces_size 45 a0.size a0 x (hpre.subset (by simp)); omega) W))
    gi_wp2
    refine ⟨trivial, hpc.mono ?_⟩
    rintro e W' ⟨rfl, hb'⟩
    have hc' := (hb'.block _ (Array.getElem?_eq_some_iff.1 hc).1).trans hc
    have hcc : W'.cell? ⟨w.heap.size, 0, none⟩ = some (.bool false) := (blk_cell hc' 0).trans rfl
    have hff := blk_frozen hc' 0
    have hko : KeepsOthers W W' := ⟨hb'.size, fun k o hk _ => (hb'.block k (Array.getElem?_eq_some_iff.1 hk).1).trans hk⟩
    have hbx : BoxesKept [w.heap.size + 1, w.heap.size + 1 + 1, w.heap.size + 1 + 2] W W' := ⟨hb'.size, fun k _ hk => hb'.block k hk⟩
    have hbw : Below w.heap.size w W' := hb.trans (hb'.mono hb.size)
    cases hv : partB x with
    | true =>
      gi_wp2
      exact ⟨hko, hbx, hc', fun y hy => by
        rcases List.mem_append.1 hy with h | h
        · exact hq y h
        · rw [List.mem_singleton.1 h]; exact hv, hbw⟩
    | false =>
      gi_wp2
      exact ⟨hko.trans (KeepsOthers.setCell _ _ _), by simpa using blk_set hc' 0 (.bool false), ⟨x, by simp, hv⟩, hbw.setCell (p := ⟨w.heap.size, 0, none⟩) (Nat.le_refl _) _⟩
  case done =>
    rintro D W hD ⟨hc, hq, hb⟩ hK
    have hcc : W.cell? ⟨w.heap.size, 0, none⟩ = some (.bool false) := (blk_cell hc 0).trans rfl
    have hff := blk_frozen hc 0
    gi_wp2
    have hc2 : (W.setCell ⟨w.heap.size, 0, none⟩ (.bool true)).heap[w.heap.size]? = some (.cells #[.bool true] 4 (0, 0)) := by simpa using blk_set hc 0 (.bool true)
    have hK2 := (KeepsOthers.setCell W ⟨w.heap.size, 0, none⟩ (.bool true)).same D _ hK rfl
    have hb2 := hb.setCell (p := ⟨w.heap.size, 0, none⟩) (Nat.le_refl _) (.bool true)
    refine ⟨by simp, .inl ⟨_, _, rfl, run_takeDeferred hK2, ?_⟩⟩
    have hc5 := cell_kept (a := ⟨w.heap.size, 0, none⟩) ((blk_cell hc2 0).trans rfl) (grownBy_putObj' _ D (.deferred none)) (fun r e => by cases e; exact ⟨_, hK2, rfl⟩)
    refine ⟨.bool true, ?_, ?_, hb2.trans (belowK_b (w := w) (Nat.le_refl _) _ D _ _ (by omega) hK2 rfl rfl)⟩
    · simp [results, Tryd.f13, go_sem, hc5]
    · rw [show (piecesF 45 a0.size a0).all partB = true from List.all_eq_true.2 hq]
  case stop =>
    rintro D pre W hD hpx ⟨hc, ⟨x, hx, hf⟩, hb⟩ hK
    gi_wp2
    refine ⟨by simp, .inl ⟨_, _, rfl, run_takeDeferred hK, ?_⟩⟩
    have hc5 := cell_kept (a := ⟨w.heap.size, 0, none⟩) ((blk_cell hc 0).trans rfl) (grownBy_putObj' _ D (.deferred none)) (fun r e => by cases e; exact ⟨_, hK, rfl⟩)
    refine ⟨.bool false, ?_, ?_, hb.trans (belowK_b (w := w) (Nat.le_refl _) _ D _ _ (by omega) hK rfl rfl)⟩
    · simp [results, Tryd.f13, go_sem, hc5]
    · rw [show (piecesF 45 a0.size a0).all partB = false from List.all_eq_false.2 ⟨x, hpx.subset hx, by simp [hf]⟩]
theorem cell_false (w : World) : ((w.alloc (.cells #[.bool false] 4)).setCell ⟨w.heap.size, 0, none⟩ (.bool false)).cell? ⟨w.heap.size, 0, none⟩ = some (.bool false) :=
  (blk_cell (show ((w.alloc (.cells #[.bool false] 4)).setCell ⟨w.heap.size, 0, none⟩ (.bool false)).heap[w.heap.size]? = some (.cells #[.bool false] 4 (0, 0)) from by simpa using blk_set (World.alloc_heap_new w (.cells #[.bool false] 4)) 0 (.bool false)) 0).trans rfl
set_option maxHeartbeats 8000000 in
set_option maxRecDepth 100000 in
theorem lex_Name.calls (a0 : ByteArray) (r : Bool) (w : World) (h : lex_Name.f a0 = some r) :
    Calls Tryd.prog 13 #[.string a0] w fun e w' => e = .returned (.bool r) ∧ Below w.heap.size w w' := by
  unfold lex_Name.f at h
  by_cases h0 : a0.size = 0
  · rw [if_pos h0] at h
    cases h
    have e0 : (a0.toList == ([] : List UInt8)) = true := beq_iff_eq.2 ((str_empty a0).2 h0)
    go_enter Tryd.func13, Tryd.ntmps13
    go_wp2
    refine bodyPost_ret (v := .bool false) (by simp [results, Tryd.f13, go_sem, cell_false w]) rfl ?_
    exact ⟨rfl, (Below.refl _ w).alloc (Nat.le_refl _) _⟩
  · by_cases h100 : 100 < a0.size
    · rw [if_neg h0, if_pos h100] at h
      cases h
      have e0 : (a0.toList == ([] : List UInt8)) = false := by
        cases hh : (a0.toList == ([] : List UInt8)) with
        | false => rfl
        | true => exact absurd ((str_empty a0).1 (beq_iff_eq.1 hh)) h0
      have e1 : decide ((100 : Int) < (a0.size : Int)) = true := decide_eq_true (by omega)
      go_enter Tryd.func13, Tryd.ntmps13
      go_wp2
      refine bodyPost_ret (v := .bool false) (by simp [results, Tryd.f13, go_sem, cell_false w]) rfl ?_
      exact ⟨rfl, (Below.refl _ w).alloc (Nat.le_refl _) _⟩
    · rw [if_neg h0, if_neg h100] at h
      cases h
      exact lex_Name.main a0 w h0 h100
attribute [local go_sem] Oper.semAt_some
def trimmed (x : ByteArray) : ByteArray := ⟨(Go.Lib.trimS x.data.toList [48, 49, 50, 51, 52, 53, 54, 55, 56, 57]).toArray⟩
def verBad (x : ByteArray) : Bool := x.toList == [] || (trimmed x).toList != [] || (decide ((x.size : Int) > 1) && bt x 0 == 48) || decide ((x.size : Int) > 9)
def lex_Version.f (a0 : ByteArray) : Option Bool := if a0.size ≤ 140737488355328 then some ((piecesF 46 a0.size a0).all (fun x => !verBad x) && (piecesF 46 a0.size a0).length == 3) else none
theorem pieces_len (c : UInt8) : ∀ (k : Nat) (s : ByteArray), (piecesF c k s).length ≤ k + 1
  | 0, s => by simp [piecesF]
  | k + 1, s => by
    rw [piecesF_succ]
    split
    · simp
    · have := pieces_len c k (s.extract ((Go.Lib.indexByte s.data.toList c).toNat + 1) s.size)
      rw [List.length_cons]; omega
theorem held_cell2 (Bs n0 n1 N : Nat) (w : World) (o : Obj) (f : List ByteArray → Obj) (q : List ByteArray → Prop) (h1 : n0 < Bs) (h2 : n0 < N) (h3 : w.heap.size ≤ n0) (h4 : n1 < Bs) (h5 : n1 < N) : Held Bs N (fun pre W => W.heap[n0]? = some o ∧ W.heap[n1]? = some (f pre) ∧ q pre ∧ Below w.heap.size w W) := by
  rintro s A C k ⟨hc, hd, hq, hb⟩ hg hk
  have hkn : w.heap.size ≤ k ∧ n0 ≠ k ∧ n1 ≠ k := by
    rcases hk with rfl | ⟨hk, _⟩ <;> omega
  exact ⟨(hg.block n0 (Array.getElem?_eq_some_iff.1 hc).1 (fun e => hkn.2.1 (Option.some.inj e))).trans hc, (hg.block n1 (Array.getElem?_eq_some_iff.1 hd).1 (fun e => hkn.2.2 (Option.some.inj e))).trans hd, hq, hb.grown hg hb.size (fun k' e => by cases e; exact hkn.1)⟩
def verW (w : World) : World := (w.alloc (.cells #[.bool false] 4)).alloc (.cells #[.int .i64 0] 3)
set_option maxHeartbeats 8000000 in
set_option maxRecDepth 100000 in
theorem lex_Version.main (a0 : ByteArray) (w : World) (hsz : a0.size ≤ 140737488355328) :
    Calls Tryd.prog 15 #[.string a0] w fun e w' => e = .returned (.bool ((piecesF 46 a0.size a0).all (fun x => !verBad x) && (piecesF 46 a0.size a0).length == 3)) ∧ Below w.heap.size w w' := by
  have hsq := (callsIn_wide (n := 5)).2 (split_seq a0 ⟨#[46]⟩ (verW w))
  obtain ⟨q1, q2, q3, q4⟩ := splitW_heap a0 ⟨#[46]⟩ (verW w)
  have qb := splitW_below a0 ⟨#[46]⟩ (verW w)
  have qs : (verW w).heap.size = w.heap.size + 2 := by simp [verW]
  have q0 : (splitW a0 ⟨#[46]⟩ (verW w)).heap[w.heap.size]? = some (.cells #[.bool false] 4 (0, 0)) := (qb.block _ (by omega)).trans ((Below.heap_alloc _ _ _ (by simp)).trans (World.alloc_heap_new w _))
  have q0' : (splitW a0 ⟨#[46]⟩ (verW w)).heap[w.heap.size + 1]? = some (.cells #[.int .i64 0] 3 (0, 0)) := (qb.block _ (by omega)).trans (by have := World.alloc_heap_new (w.alloc (.cells #[.bool false] 4)) (.cells #[.int .i64 0] 3); rwa [World.size_alloc] at this)
  have qB : Below w.heap.size w (splitW a0 ⟨#[46]⟩ (verW w)) := (((Below.refl _ w).alloc (Nat.le_refl _) _).alloc (by simp) _).trans (qb.mono (by omega))
  rw [qs] at q1 q2 q3 q4 hsq
  generalize hw2 : splitW a0 ⟨#[46]⟩ (verW w) = w2 at *
  unfold verW at hsq
  refine (callsIn_wide (n := 6)).1 ?_
  refine callsIn_of_wp_marks Tryd.func15 rfl trivial ?_ rfl
  simp only [Tryd.ntmps15, List.size_toArray, List.length_cons, List.length_nil, Nat.reduceAdd, Nat.reduceSub, Array.replicate_succ, Array.replicate_zero, List.push_toArray, List.append_toArray, List.nil_append, List.cons_append]
  gi_wp2
  refine ⟨trivial, hsq.mono ?_⟩
  rintro e w' ⟨rfl, rfl⟩
  gi_wp2
  refine range_pieces (F := Fence.wide) (n := 6) rfl (by omega) (gf := 51) (lb := #[.pointer (some ⟨w.heap.size + 2 + 1, 0, none⟩), .pointer (some ⟨w.heap.size + 2, 0, none⟩), .pointer (some ⟨w.heap.size + 2 + 2, 0, none⟩)]) rfl trivial (enters_of Tryd.func51 (by kernel_rfl) rfl)
    (B := w.heap.size + 2) (T := [w.heap.size + 2, w.heap.size + 2 + 1, w.heap.size + 2 + 2]) (by omega) (by intro k hk; simp at hk; omega)
    (split_go 5 (by omega) _ _ _ (by omega) (by omega) 46 a0 w' q1 q2 q3 hsz)
    (fun pre W => W.heap[w.heap.size]? = some (.cells #[.bool false] 4 (0, 0)) ∧ W.heap[w.heap.size + 1]? = some (.cells #[.int .i64 (pre.length : Int)] 3 (0, 0)) ∧ (∀ x ∈ pre, verBad x = false) ∧ Below w.heap.size w W)
    (fun pre W => W.heap[w.heap.size]? = some (.cells #[.bool false] 4 (0, 0)) ∧ (∃ x ∈ pre, verBad x = true) ∧ Below w.heap.size w W)
    (held_cell2 _ _ _ _ w _ (fun pre => .cells #[.int .i64 (pre.length : Int)] 3 (0, 0)) (fun pre => ∀ x ∈ pre, verBad x = false) (by omega) (by omega) (Nat.le_refl _) (by omega) (by omega)) (held_cell _ _ _ w _ (fun pre => ∃ x ∈ pre, verBad x = true) (by omega) (by omega) (Nat.le_refl _)) ⟨q0, q0', by simp, qB⟩
    (fun x => { tmps := #[.string a0, undef, .pointer (some ⟨w.heap.size, 0, none⟩), .pointer (some ⟨w.heap.size + 1, 0, none⟩), .string x, .string a0, .func (.func 51) #[] #[.pointer (some ⟨w.heap.size + 2 + 1, 0, none⟩), .pointer (some ⟨w.heap.size + 2, 0, none⟩), .pointer (some ⟨w.heap.size + 2 + 2, 0, none⟩)], .string x, undef, undef, undef, undef, undef, undef, undef, undef, undef, undef, undef, undef, undef, undef, undef, undef, undef, undef, undef, undef, undef, undef, undef, undef, undef, undef], defers := [] }) ?assign ?body ?done ?stop
  case assign =>
    intro l x W K hK
    gi_wp2
    exact hK
  case body =>
    rintro l pre x W ⟨hc, hd, hq, hb⟩ hpre
    have hxz : x.size ≤ a0.size := pieces_size 46 a0.size a0 x (hpre.subset (by simp))
    have hlz : pre.length + 1 ≤ a0.size + 1 := by
      have h1 := hpre.length_le
      have h2 := pieces_len 46 a0.size a0
      simp at h1; omega
    have hct : ∀ W1 : World, CallsIn (Fence.wide.inRound l) 3 Tryd.prog 26 #[.string x, .string ⟨#[48, 49, 50, 51, 52, 53, 54, 55, 56, 57]⟩] W1 fun e w' => e = .returned (.string (trimmed x)) ∧ Below W1.heap.size W1 w' := fun W1 => CallsIn.inRound l ((callsIn_wide (n := 3)).2 (lx_strings_Trim_digits x W1 (by omega)))
    have hc1 : W.cell? ⟨w.heap.size + 1, 0, none⟩ = some (.int .i64 (pre.length : Int)) := (blk_cell hd 0).trans rfl
    have hf1 := blk_frozen hd 0
    have hwr : wrap64 ((pre.length : Int) + 1) = ((pre.length : Int) + 1) := wrap_in _ (by omega) (by omega)
    obtain ⟨W1, hW1⟩ : ∃ W1, W.setCell ⟨w.heap.size + 1, 0, none⟩ (.int .i64 ((pre.length : Int) + 1)) = W1 := ⟨_, rfl⟩
    have hd1 : W1.heap[w.heap.size + 1]? = some (.cells #[.int .i64 ((pre.length : Int) + 1)] 3 (0, 0)) := by rw [← hW1]; simpa using blk_set hd 0 (.int .i64 ((pre.length : Int) + 1))
    have hc0 : W1.heap[w.heap.size]? = some (.cells #[.bool false] 4 (0, 0)) := by rw [← hW1]; exact (Below.heap_setCell W ⟨w.heap.size + 1, 0, none⟩ _ _ (by simp)).trans hc
    have hko : KeepsOthers W W1 := by rw [← hW1]; exact KeepsOthers.setCell _ _ _
    have hbx : BoxesKept [w.heap.size + 2, w.heap.size + 2 + 1, w.heap.size + 2 + 2] W W1 := ⟨hko.size, fun k hk _ => by rw [← hW1]; exact Below.heap_setCell W ⟨w.heap.size + 1, 0, none⟩ _ _ (by simp at hk; simp; omega)⟩
    have hb1 : Below w.heap.size w W1 := by rw [← hW1]; exact hb.setCell (p := ⟨w.heap.size + 1, 0, none⟩) (by simp) _
    have fin1 : ∀ W2, Below W1.heap.size W1 W2 → verBad x = true → piecePost [w.heap.size + 2, w.heap.size + 2 + 1, w.heap.size + 2 + 2] (fun pre W => W.heap[w.heap.size]? = some (.cells #[.bool false] 4 (0, 0)) ∧ W.heap[w.heap.size + 1]? = some (.cells #[.int .i64 (pre.length : Int)] 3 (0, 0)) ∧ (∀ x ∈ pre, verBad x = false) ∧ Below w.heap.size w W) (fun pre W => W.heap[w.heap.size]? = some (.cells #[.bool false] 4 (0, 0)) ∧ (∃ x ∈ pre, verBad x = true) ∧ Below w.heap.size w W) (pre ++ [x]) W .ret ⟨#[], []⟩ (W2.setCell ⟨w.heap.size, 0, none⟩ (.bool false)) := by
      intro W2 h2 hv
      have hc2 := (h2.block _ (Array.getElem?_eq_some_iff.1 hc0).1).trans hc0
      have hk2 : KeepsOthers W1 W2 := ⟨h2.size, fun k o hk _ => (h2.block k (Array.getElem?_eq_some_iff.1 hk).1).trans hk⟩
      exact ⟨(hko.trans hk2).trans (KeepsOthers.setCell _ _ _), by simpa using blk_set hc2 0 (.bool false), ⟨x, by simp, hv⟩, (hb1.trans (h2.mono hb1.size)).setCell (p := ⟨w.heap.size, 0, none⟩) (Nat.le_refl _) _⟩
    have fin0 : ∀ W2, Below W1.heap.size W1 W2 → verBad x = false → piecePost [w.heap.size + 2, w.heap.size + 2 + 1, w.heap.size + 2 + 2] (fun pre W => W.heap[w.heap.size]? = some (.cells #[.bool false] 4 (0, 0)) ∧ W.heap[w.heap.size + 1]? = some (.cells #[.int .i64 (pre.length : Int)] 3 (0, 0)) ∧ (∀ x ∈ pre, verBad x = false) ∧ Below w.heap.size w W) (fun pre W => W.heap[w.heap.size]? = some (.cells #[.bool false] 4 (0, 0)) ∧ (∃ x ∈ pre, verBad x = true) ∧ Below w.heap.size w W) (pre ++ [x]) W .normal ⟨#[], []⟩ W2 := by
      intro W2 h2 hv
      have hc2 := (h2.block _ (Array.getElem?_eq_some_iff.1 hc0).1).trans hc0
      have hd2 := (h2.block _ (Array.getElem?_eq_some_iff.1 hd1).1).trans hd1
      have hk2 : KeepsOthers W1 W2 := ⟨h2.size, fun k o hk _ => (h2.block k (Array.getElem?_eq_some_iff.1 hk).1).trans hk⟩
      refine ⟨hko.trans hk2, hbx.trans ⟨h2.size, fun k _ hk => h2.block k hk⟩, hc2, by rw [show (((pre ++ [x]).length : Nat) : Int) = (pre.length : Int) + 1 from by simp]; exact hd2, fun y hy => ?_, hb1.trans (h2.mono hb1.size)⟩
      rcases List.mem_append.1 hy with h | h
      · exact hq y h
      · rw [List.mem_singleton.1 h]; exact hv
    have hcf : ∀ W2, Below W1.heap.size W1 W2 → W2.cell? ⟨w.heap.size, 0, none⟩ = some (.bool false) ∧ W2.frozen? ⟨w.heap.size, 0, none⟩ = false := fun W2 h2 => by
      have hc2 := (h2.block _ (Array.getElem?_eq_some_iff.1 hc0).1).trans hc0
      exact ⟨(blk_cell hc2 0).trans rfl, blk_frozen hc2 0⟩
    have hcw := hcf W1 (Below.refl _ _)
    obtain ⟨hcw1, hcw2⟩ := hcw
    cases e0 : (x.toList == ([] : List UInt8)) with
    | true =>
      gi_wp2
      refine ⟨trivial, ?_⟩
      gi_wp2
      exact fin1 W1 (Below.refl _ _) (by simp [verBad, e0])
    | false =>
      have hz : 0 < x.size := by
        rcases Nat.eq_zero_or_pos x.size with h | h
        · rw [beq_iff_eq.2 ((str_empty x).2 h)] at e0; cases e0
        · exact h
      have hx7 : ∀ h : 0 < x.size, ((x[0]'h).toNat : Int) = bt x 0 := bt_at x 0
      have qi7 : ((0 : Int) < (x.size : Int)) = True := eq_true (by omega)
      have q7 : (0 < x.size) = True := eq_true hz
      cases e1 : ((trimmed x).toList != ([] : List UInt8)) with
      | true =>
        have e1' : ((trimmed x).toList == ([] : List UInt8)) = false := by simpa using e1
        gi_wp2
        refine ⟨trivial, (hct _).mono ?_⟩
        rintro e W2 ⟨rfl, hb2⟩
        obtain ⟨hcv1, hcv2⟩ := hcf W2 hb2
        gi_wp2
        exact fin1 W2 hb2 (by simp [verBad, e0, e1])
      | false =>
        have e1' : ((trimmed x).toList == ([] : List UInt8)) = true := by simpa using e1
        cases e2 : (decide ((1 : Int) < (x.size : Int)) && bt x 0 == 48) with
        | true =>
          have e3 : decide ((1 : Int) < (x.size : Int)) = true := by revert e2; cases decide ((1 : Int) < (x.size : Int)) <;> simp
          have e4 : (bt x 0 == 48) = true := by revert e2; cases (bt x 0 == 48) <;> simp
          gi_wp2
          refine ⟨trivial, (hct _).mono ?_⟩
          rintro e W2 ⟨rfl, hb2⟩
          obtain ⟨hcv1, hcv2⟩ := hcf W2 hb2
          gi_wp2
          exact fin1 W2 hb2 (by unfold verBad; rw [e0, e1, show (decide ((x.size : Int) > 1) && bt x 0 == 48) = true from e2]; rfl)
        | false =>
          cases e5 : decide ((9 : Int) < (x.size : Int)) with
          | true =>
            gi_wp2
            refine ⟨trivial, (hct _).mono ?_⟩
            rintro e W2 ⟨rfl, hb2⟩
            obtain ⟨hcv1, hcv2⟩ := hcf W2 hb2
            have e3 : decide ((1 : Int) < (x.size : Int)) = true := decide_eq_true (by have := of_decide_eq_true e5; omega)
            have e4 : (bt x 0 == 48) = false := by rw [e3, Bool.true_and] at e2; exact e2
            gi_wp2
            exact fin1 W2 hb2 (by unfold verBad; rw [e0, e1, show (decide ((x.size : Int) > 1) && bt x 0 == 48) = false from e2, show decide ((x.size : Int) > 9) = true from e5]; rfl)
          | false =>
            have hv : verBad x = false := by unfold verBad; rw [e0, e1, show (decide ((x.size : Int) > 1) && bt x 0 == 48) = false from e2, show decide ((x.size : Int) > 9) = false from e5]; rfl
            cases e3 : decide ((1 : Int) < (x.size : Int)) with
            | true =>
              have e4 : (bt x 0 == 48) = false := by rw [e3, Bool.true_and] at e2; exact e2
              gi_wp2
              refine ⟨trivial, (hct _).mono ?_⟩
              rintro e W2 ⟨rfl, hb2⟩
              obtain ⟨hcv1, hcv2⟩ := hcf W2 hb2
              gi_wp2
              exact fin0 W2 hb2 hv
            | false =>
              gi_wp2
              refine ⟨trivial, (hct _).mono ?_⟩
              rintro e W2 ⟨rfl, hb2⟩
              obtain ⟨hcv1, hcv2⟩ := hcf W2 hb2
              gi_wp2
              exact fin0 W2 hb2 hv
  case done =>
    rintro D W hD ⟨hc, hd, hq, hb⟩ hK
    have hcc : W.cell? ⟨w.heap.size, 0, none⟩ = some (.bool false) := (blk_cell hc 0).trans rfl
    have hff := blk_frozen hc 0
    have hdd : W.cell? ⟨w.heap.size + 1, 0, none⟩ = some (.int .i64 ((piecesF 46 a0.size a0).length : Int)) := (blk_cell hd 0).trans rfl
    gi_wp2
    obtain ⟨v, hv⟩ : ∃ v : Bool, (((piecesF 46 a0.size a0).length : Int) == 3) = v := ⟨_, rfl⟩
    rw [hv]
    have hc2 : (W.setCell ⟨w.heap.size, 0, none⟩ (.bool v)).heap[w.heap.size]? = some (.cells #[.bool v] 4 (0, 0)) := by simpa using blk_set hc 0 (.bool v)
    have hK2 := (KeepsOthers.setCell W ⟨w.heap.size, 0, none⟩ (.bool v)).same D _ hK rfl
    have hb2 := hb.setCell (p := ⟨w.heap.size, 0, none⟩) (Nat.le_refl _) (.bool v)
    refine ⟨by simp, .inl ⟨_, _, rfl, run_takeDeferred hK2, ?_⟩⟩
    have hc5 := cell_kept (a := ⟨w.heap.size, 0, none⟩) ((blk_cell hc2 0).trans rfl) (grownBy_putObj' _ D (.deferred none)) (fun r e => by cases e; exact ⟨_, hK2, rfl⟩)
    refine ⟨.bool v, ?_, ?_, hb2.trans (belowK_b (w := w) (Nat.le_refl _) _ D _ _ (by omega) hK2 rfl rfl)⟩
    · simp [results, Tryd.f15, go_sem, hc5]
    · rw [show (piecesF 46 a0.size a0).all (fun x => !verBad x) = true from List.all_eq_true.2 fun x hx => by rw [hq x hx]; rfl, Bool.true_and, ← hv]
      congr 2
      rw [Bool.eq_iff_iff]
      simp only [beq_iff_eq]
      omega
  case stop =>
    rintro D pre W hD hpx ⟨hc, ⟨x, hx, hf⟩, hb⟩ hK
    gi_wp2
    refine ⟨by simp, .inl ⟨_, _, rfl, run_takeDeferred hK, ?_⟩⟩
    have hc5 := cell_kept (a := ⟨w.heap.size, 0, none⟩) ((blk_cell hc 0).trans rfl) (grownBy_putObj' _ D (.deferred none)) (fun r e => by cases e; exact ⟨_, hK, rfl⟩)
    refine ⟨.bool false, ?_, ?_, hb.trans (belowK_b (w := w) (Nat.le_refl _) _ D _ _ (by omega) hK rfl rfl)⟩
    · simp [results, Tryd.f15, go_sem, hc5]
    · rw [show (piecesF 46 a0.size a0).all (fun x => !verBad x) = false from List.all_eq_false.2 ⟨x, hpx.subset hx, by simp [hf]⟩]; rfl
theorem lex_Version.calls (a0 : ByteArray) (r : Bool) (w : World) (h : lex_Version.f a0 = some r) :
    Calls Tryd.prog 15 #[.string a0] w fun e w' => e = .returned (.bool r) ∧ Below w.heap.size w w' := by
  unfold lex_Version.f at h
  by_cases hs : a0.size ≤ 140737488355328
  · rw [if_pos hs] at h
    cases h
    exact lex_Version.main a0 w hs
  · rw [if_neg hs] at h
    cases h
def stringslite_HasPrefix.f (a0 : ByteArray) (a1 : ByteArray) : Option (Bool) := if (a0.size : Int) ≥ (a1.size : Int) then (if 0 ≤ (a1.size : Int) then (if (a1.size : Int) ≤ (a0.size : Int) then (some ((a0.extract 0 ((a1.size : Int) : Int).toNat).toList == a1.toList)) else (none)) else (none)) else (some false)
set_option maxHeartbeats 8000000 in
set_option maxRecDepth 100000 in
theorem stringslite_HasPrefix.calls (a0 : ByteArray) (a1 : ByteArray) (r : Bool) (w : World) (h : stringslite_HasPrefix.f a0 a1 = some r) :
    Calls Tryd.prog 49 #[.string a0, .string a1] w fun e w' => e = .returned (.bool r) ∧ Drawn0 w w' := by
  have H : (if (a0.size : Int) ≥ (a1.size : Int) then (if 0 ≤ (a1.size : Int) then (if (a1.size : Int) ≤ (a0.size : Int) then (some ((a0.extract 0 ((a1.size : Int) : Int).toNat).toList == a1.toList)) else (none)) else (none)) else (some false)) = some r := h
  clear h
  by_cases c3 : (a0.size : Int) ≥ (a1.size : Int)
  · rw [if_pos c3] at H
    have c3b0 : decide ((a1.size : Int) ≤ (a0.size : Int)) = true := decide_eq_true c3
    have c3b1 : decide (a1.size ≤ a0.size) = true := decide_eq_true (Int.ofNat_le.mp c3)
    clear c3
    by_cases c4 : 0 ≤ (a1.size : Int)
    · rw [if_pos c4] at H
      have c4b0 := eq_true c4
      have c4b1 : decide (0 ≤ (a1.size : Int)) = true := decide_eq_true c4
      clear c4
      by_cases c5 : (a1.size : Int) ≤ (a0.size : Int)
      · rw [if_pos c5] at H
        have c5b0 := eq_true c5
        have c5b1 : decide ((a1.size : Int) ≤ (a0.size : Int)) = true := decide_eq_true c5
        clear c5
        obtain rfl := Option.some.inj H
        go_enter Tryd.func49, Tryd.ntmps49
        go_wp2
        go_ret
        exact ⟨by first | rfl | (simp; done) | (simp [*]; done), by repeat (first | exact Drawn0.refl _ | apply Drawn0.step)⟩
      · rw [if_neg c5] at H
        exact absurd H (by simp)
    · rw [if_neg c4] at H
      exact absurd H (by simp)
  · rw [if_neg c3] at H
    have c3b0 : decide ((a1.size : Int) ≤ (a0.size : Int)) = false := decide_eq_false c3
    have c3b1 : decide (a1.size ≤ a0.size) = false := decide_eq_false (fun h => c3 (Int.ofNat_le.mpr h))
    clear c3
    obtain rfl := Option.some.inj H
    go_enter Tryd.func49, Tryd.ntmps49
    go_wp2
    go_ret
    exact ⟨by first | rfl | (simp; done) | (simp [*]; done), by repeat (first | exact Drawn0.refl _ | apply Drawn0.step)⟩
def strings_HasPrefix.f (a0 : ByteArray) (a1 : ByteArray) : Option (Bool) := (stringslite_HasPrefix.f a0 a1).bind fun t101 => (some t101)
set_option maxHeartbeats 8000000 in
set_option maxRecDepth 100000 in
theorem strings_HasPrefix.calls (a0 : ByteArray) (a1 : ByteArray) (r : Bool) (w : World) (h : strings_HasPrefix.f a0 a1 = some r) :
    Calls Tryd.prog 29 #[.string a0, .string a1] w fun e w' => e = .returned (.bool r) ∧ Drawn0 w w' := by
  have H : ((stringslite_HasPrefix.f a0 a1).bind fun t101 => (some t101)) = some r := h
  clear h
  replace H := Option.bind_eq_some_iff.mp H
  obtain ⟨t101, A30, H⟩ := H
  replace H : (some t101) = some r := H
  have A3 := Aside0.mk A30
  clear A30
  obtain rfl := Option.some.inj H
  go_enter Tryd.func29, Tryd.ntmps29
  go_wp2_with (first | ((with_reducible refine gate_callee (f := 49) rfl ?_); refine goesL_ (some 7) rfl rfl Tryd.func49 (by kernel_rfl) rfl #[.string a0, .string a1] rfl (by (try simp only [List.map_toArray, List.map_cons, List.map_nil]); first | done | rfl | (simp only [List.length_drop, List.length_take]; rfl)) ?_; (with_reducible refine (stringslite_HasPrefix.calls a0 a1 t101 _ A3.out).mono ?_); rintro e w' ⟨rfl, ⟨nd, rfl⟩⟩; refine ⟨_, rfl, ?_⟩))
  go_ret
  exact ⟨by first | rfl | (simp; done) | (simp [*]; done), by repeat (first | exact Drawn0.refl _ | apply Drawn0.step)⟩
def lex_remark.l0 : Nat → ByteArray → Int → Int → Option (Int)
  | 0, _, _, _ => none
  | k + 1, x0, x3, x4 => if (wrap64 (x4 + 1)) < (x0.size : Int) then (if 0 ≤ x4 then (if x4 ≤ (wrap64 (x4 + 2)) then (if (wrap64 (x4 + 2)) ≤ (x0.size : Int) then (if (x0.extract (x4 : Int).toNat ((wrap64 (x4 + 2)) : Int).toNat).toList = ([47, 42] : List UInt8) then (if (wrap64 (x3 + 1)) = 0 then (some (wrap64 (x4 + 2))) else (lex_remark.l0 k x0 (wrap64 (x3 + 1)) (wrap64 (x4 + 2)))) else (if (x0.extract (x4 : Int).toNat ((wrap64 (x4 + 2)) : Int).toNat).toList = ([42, 47] : List UInt8) then (if (wrap64 (x3 - 1)) = 0 then (some (wrap64 (x4 + 2))) else (lex_remark.l0 k x0 (wrap64 (x3 - 1)) (wrap64 (x4 + 2)))) else (if x3 = 0 then (some (wrap64 (x4 + 1))) else (lex_remark.l0 k x0 x3 (wrap64 (x4 + 1)))))) else (none)) else (none)) else (none)) else (some 0)
def lex_remark.f (k : Nat) (a0 : ByteArray) : Option (Int) := lex_remark.l0 k a0 0 0
theorem lex_remark.mono_l : ∀ k, (∀ y0 y1 y2, LeO (lex_remark.l0 k y0 y1 y2) (lex_remark.l0 (k + 1) y0 y1 y2))
  | 0 => fun _ _ _ r h => by simp [lex_remark.l0] at h
  | k + 1 => by
    have ih0 := lex_remark.mono_l k
    · intro y0 y1 y2
      unfold lex_remark.l0
      repeat' first
      | (with_reducible exact ih0 _ _ _)
      | (with_reducible exact LeO.refl _)
      | (with_reducible exact LeO.none _)
      | (with_reducible refine LeO.ite ?_ ?_)
      | (with_reducible refine LeO.bind ?_ (fun _ => ?_))
      | exact ih0 _ _ _
      | exact LeO.none _
      | refine LeO.ite ?_ ?_
      | refine LeO.bind ?_ (fun _ => ?_)
theorem lex_remark.mono : ∀ a0 k, LeO (lex_remark.f k a0) (lex_remark.f (k + 1) a0) := by
  intro a0 k
  have ih0 := lex_remark.mono_l k
  unfold lex_remark.f
  repeat' first
      | (with_reducible exact ih0 _ _ _)
      | (with_reducible exact LeO.refl _)
      | (with_reducible exact LeO.none _)
      | (with_reducible refine LeO.ite ?_ ?_)
      | (with_reducible refine LeO.bind ?_ (fun _ => ?_))
      | exact ih0 _ _ _
      | exact LeO.none _
      | refine LeO.ite ?_ ?_
      | refine LeO.bind ?_ (fun _ => ?_)
set_option maxHeartbeats 8000000 in
set_option maxRecDepth 100000 in
theorem lex_remark.calls (k : Nat) (a0 : ByteArray) (r : Int) (w : World) (h : lex_remark.f k a0 = some r) :
    Calls Tryd.prog 31 #[.string a0] w fun e w' => e = .returned (.int .i64 r) ∧ Drawn0 w w' := by
  have H : (lex_remark.l0 k a0 0 0) = some r := h
  clear h
  have H' := Aside0.mk H
  clear H
  go_enter Tryd.func31, Tryd.ntmps31
  go_wp2
  go_loopg [3, 4] k (fun kq v3 v4 w' => ∃ (x3_1 : Int) (x4_1 : Int), v3 = .int .i64 x3_1 ∧ v4 = .int .i64 x4_1 ∧ Aside0 (lex_remark.l0 kq a0 x3_1 x4_1 = some r) ∧ Aside0 (kq ≤ k) ∧ Drawn0 w w')
  case atStart => exact ⟨(0), (0), (by first | rfl | (simp; done) | (simp [*]; done)), (by first | rfl | (simp; done) | (simp [*]; done)), H', ⟨Nat.le_refl _⟩, by repeat (first | exact Drawn0.refl _ | apply Drawn0.step)⟩
  case round =>
    clear H'
    obtain ⟨x3_1, x4_1, rfl, rfl, HA, HK1, ⟨m1, rfl⟩⟩ := hrel
    cases gk with
    | zero => exact absurd HA.out (by simp [lex_remark.l0])
    | succ k1 =>
      have H := HA.out
      clear HA
      simp only [lex_remark.l0] at H
      by_cases c2 : (wrap64 (x4_1 + 1)) < (a0.size : Int)
      · rw [if_pos c2] at H
        have c2b0 : decide ((wrap64 (x4_1 + 1)) < (a0.size : Int)) = true := decide_eq_true c2
        clear c2
        by_cases c3 : 0 ≤ x4_1
        · rw [if_pos c3] at H
          have c3b0 := eq_true c3
          have c3b1 : decide (0 ≤ x4_1) = true := decide_eq_true c3
          clear c3
          by_cases c4 : x4_1 ≤ (wrap64 (x4_1 + 2))
          · rw [if_pos c4] at H
            have c4b0 := eq_true c4
            have c4b1 : decide (x4_1 ≤ (wrap64 (x4_1 + 2))) = true := decide_eq_true c4
            by_cases c5 : (wrap64 (x4_1 + 2)) ≤ (a0.size : Int)
            · rw [if_pos c5] at H
              have c5b0 := eq_true c5
              have c5b1 : decide ((wrap64 (x4_1 + 2)) ≤ (a0.size : Int)) = true := decide_eq_true c5
              by_cases c6 : (a0.extract (x4_1 : Int).toNat ((wrap64 (x4_1 + 2)) : Int).toNat).toList = ([47, 42] : List UInt8)
              · rw [if_pos c6] at H
                have c6b0 : ((a0.extract (x4_1 : Int).toNat ((wrap64 (x4_1 + 2)) : Int).toNat).toList == ([47, 42] : List UInt8)) = true := beq_iff_eq.mpr c6
                have c6b1 : ((a0.extract (x4_1 : Int).toNat ((wrap64 (x4_1 + 2)) : Int).toNat).toList != ([47, 42] : List UInt8)) = false := bne_eq_false_iff_eq.mpr c6
                clear c6
                by_cases c7 : (wrap64 (x3_1 + 1)) = 0
                · rw [if_pos c7] at H
                  have c7b0 : ((wrap64 (x3_1 + 1)) == 0) = true := beq_iff_eq.mpr c7
                  have c7b1 : ((wrap64 (x3_1 + 1)) != 0) = false := bne_eq_false_iff_eq.mpr c7
                  clear c7
                  obtain rfl := Option.some.inj H
                  go_wp2
                  go_ret
                  exact ⟨by first | rfl | (simp; done) | (simp [*]; done), by repeat (first | exact Drawn0.refl _ | apply Drawn0.step)⟩
                · rw [if_neg c7] at H
                  have c7b0 : ((wrap64 (x3_1 + 1)) == 0) = false := beq_eq_false_iff_ne.mpr c7
                  have c7b1 : ((wrap64 (x3_1 + 1)) != 0) = true := bne_iff_ne.mpr c7
                  have H' := Aside0.mk H
                  clear H
                  go_wp2
                  go_roundg k1
                  case measure => have := HK1.out; omega
                  case rel => exact ⟨(wrap64 (x3_1 + 1)), (wrap64 (x4_1 + 2)), (by first | rfl | (simp; done) | (simp [*]; done)), (by first | rfl | (simp; done) | (simp [*]; done)), H', ⟨by have := HK1.out; omega⟩, by repeat (first | exact Drawn0.refl _ | apply Drawn0.step)⟩
              · rw [if_neg c6] at H
                have c6b0 : ((a0.extract (x4_1 : Int).toNat ((wrap64 (x4_1 + 2)) : Int).toNat).toList == ([47, 42] : List UInt8)) = false := beq_eq_false_iff_ne.mpr c6
                have c6b1 : ((a0.extract (x4_1 : Int).toNat ((wrap64 (x4_1 + 2)) : Int).toNat).toList != ([47, 42] : List UInt8)) = true := bne_iff_ne.mpr c6
                by_cases c8 : (a0.extract (x4_1 : Int).toNat ((wrap64 (x4_1 + 2)) : Int).toNat).toList = ([42, 47] : List UInt8)
                · rw [if_pos c8] at H
                  have c8b0 : ((a0.extract (x4_1 : Int).toNat ((wrap64 (x4_1 + 2)) : Int).toNat).toList == ([42, 47] : List UInt8)) = true := beq_iff_eq.mpr c8
                  have c8b1 : ((a0.extract (x4_1 : Int).toNat ((wrap64 (x4_1 + 2)) : Int).toNat).toList != ([42, 47] : List UInt8)) = false := bne_eq_false_iff_eq.mpr c8
                  clear c8
                  by_cases c9 : (wrap64 (x3_1 - 1)) = 0
                  · rw [if_pos c9] at H
                    have c9b0 : ((wrap64 (x3_1 - 1)) == 0) = true := beq_iff_eq.mpr c9
                    have c9b1 : ((wrap64 (x3_1 - 1)) != 0) = false := bne_eq_false_iff_eq.mpr c9
                    clear c9
                    obtain rfl := Option.some.inj H
                    go_wp2
                    go_ret
                    exact ⟨by first | rfl | (simp; done) | (simp [*]; done), by repeat (first | exact Drawn0.refl _ | apply Drawn0.step)⟩
                  · rw [if_neg c9] at H
                    have c9b0 : ((wrap64 (x3_1 - 1)) == 0) = false := beq_eq_false_iff_ne.mpr c9
                    have c9b1 : ((wrap64 (x3_1 - 1)) != 0) = true := bne_iff_ne.mpr c9
                    have H' := Aside0.mk H
                    clear H
                    go_wp2
                    go_roundg k1
                    case measure => have := HK1.out; omega
                    case rel => exact ⟨(wrap64 (x3_1 - 1)), (wrap64 (x4_1 + 2)), (by first | rfl | (simp; done) | (simp [*]; done)), (by first | rfl | (simp; done) | (simp [*]; done)), H', ⟨by have := HK1.out; omega⟩, by repeat (first | exact Drawn0.refl _ | apply Drawn0.step)⟩
                · rw [if_neg c8] at H
                  have c8b0 : ((a0.extract (x4_1 : Int).toNat ((wrap64 (x4_1 + 2)) : Int).toNat).toList == ([42, 47] : List UInt8)) = false := beq_eq_false_iff_ne.mpr c8
                  have c8b1 : ((a0.extract (x4_1 : Int).toNat ((wrap64 (x4_1 + 2)) : Int).toNat).toList != ([42, 47] : List UInt8)) = true := bne_iff_ne.mpr c8
                  by_cases c10 : x3_1 = 0
                  · rw [if_pos c10] at H
                    have c10b0 : (x3_1 == 0) = true := beq_iff_eq.mpr c10
                    have c10b1 : (x3_1 != 0) = false := bne_eq_false_iff_eq.mpr c10
                    clear c10
                    obtain rfl := Option.some.inj H
                    go_wp2
                    go_ret
                    exact ⟨by first | rfl | (simp; done) | (simp [*]; done), by repeat (first | exact Drawn0.refl _ | apply Drawn0.step)⟩
                  · rw [if_neg c10] at H
                    have c10b0 : (x3_1 == 0) = false := beq_eq_false_iff_ne.mpr c10
                    have c10b1 : (x3_1 != 0) = true := bne_iff_ne.mpr c10
                    have H' := Aside0.mk H
                    clear H
                    go_wp2
                    go_roundg k1
                    case measure => have := HK1.out; omega
                    case rel => exact ⟨(x3_1), (wrap64 (x4_1 + 1)), (by first | rfl | (simp; done) | (simp [*]; done)), (by first | rfl | (simp; done) | (simp [*]; done)), H', ⟨by have := HK1.out; omega⟩, by repeat (first | exact Drawn0.refl _ | apply Drawn0.step)⟩
            · rw [if_neg c5] at H
              exact absurd H (by simp)
          · rw [if_neg c4] at H
            exact absurd H (by simp)
        · rw [if_neg c3] at H
          exact absurd H (by simp)
      · rw [if_neg c2] at H
        have c2b0 : decide ((wrap64 (x4_1 + 1)) < (a0.size : Int)) = false := decide_eq_false c2
        clear c2
        obtain rfl := Option.some.inj H
        go_wp2
        go_ret
        exact ⟨by first | rfl | (simp; done) | (simp [*]; done), by repeat (first | exact Drawn0.refl _ | apply Drawn0.step)⟩
end Go.Proofs.YtlggjgpdiffajaaDoor.PA
