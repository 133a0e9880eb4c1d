/- Several texts, laid into one for a claim: PBx0, PBx1, PBx2, PBx3, PBx4. -/
import Derived.Test.YtckhlbpjehbnlaaProg
import Derived.Below
import Derived.Deep.Draws
import Derived.Deep.AppendLies
import Derived.Maps.AppendAt
import Derived.OwnWalk
import Derived.Laws.BytesArg
import Derived.Laws.MakeOwn
import Derived.Laws.OwnMore
import Derived.Deep.OwnRows
import Derived.Tactics
import Derived.Lib.ConvBytes
import Derived.Laws.Slices
import Derived.WalkKit
import Derived.KernelRfl
import Derived.RowKit3
import Derived.Deep.LoopGhost
import Derived.Deep.QuietTactic
import Derived.BigQuiet
import Derived.WideLaws
import Derived.Deep.DeepCutAuto
import Derived.Deep.CutBlock
import Derived.Deep.RegionHeld3
import Derived.Laws.Rows
import Derived.Lib.AppendStr
import Derived.ArgAppend
import Derived.Laws.IdiomCopy
import Derived.OrdersHeld
import Derived.Laws.BitsLemmas
import Derived.RowKit
import Derived.ScopeJumps
import Derived.WalkMore
import Derived.Lib.TrailingZeros
import Derived.Lib.OthersKept
import Derived.Lib.FrozenHead2
import Derived.Shelf.Strings.BuilderK
import Derived.Test.YtckhlbpjehbnlaaPInstrPuts0
namespace Go.Proofs.Ytckhlbpjehbnlaa.PB
open Go.RowKit Go.Proofs.YtckhlbpjehbnlaaW.PrintWords Go.Proofs.YtckhlbpjehbnlaaW.PrintLast Go.Proofs.YtckhlbpjehbnlaaW.PrintMore
attribute [local go_sem] max2_int min2_int max_two min_two max_three min_three max_four min_four   -- for this text's walks alone
set_option linter.unusedVariables false
set_option linter.unusedSimpArgs false
def errW : Option Int → Value
 | none => .nilIface
 | some c => .iface 0 (.int .i64 c)
theorem errW_none : errW none = .nilIface := rfl
theorem errW_some (c : Int) : errW (some c) = .iface 0 (.int .i64 c) := rfl
theorem info3 : (Try.prog.info? 3).map (fun i => (i.zero, i.size, i.bytes)) = some (some (.int .i64 0), 1, 8) := by kernel_rfl
theorem info5 : (Try.prog.info? 5).map (fun i => (i.zero, i.size, i.bytes)) = some (some (.int .u8 0), 1, 1) := by kernel_rfl
theorem info54 : (Try.prog.info? 54).map (fun i => (i.zero, i.size, i.bytes)) = some (some (.agg #[(.int .i64 0), (.int .i64 0), (.int .i64 0), (.int .i64 0), (.slice none 0 0), (.slice none 0 0), (.slice none 0 0)]), 7, 104) := by kernel_rfl
structure S54 where
 f0 : Int
 f1 : Int
 f2 : Int
 f3 : Int
 f4 : (List Int)
 f5 : (List S54)
 f6 : (List S54)
def z54 : S54 := ⟨(0 : Int), (0 : Int), (0 : Int), (0 : Int), ([] : List Int), ([] : List S54), ([] : List S54)⟩
def F54 (d : Kd S54) : Kd S54 := Kd.iso (Kd.pair (Kd.int .i64) (Kd.pair (Kd.int .i64) (Kd.pair (Kd.int .i64) (Kd.pair (Kd.int .i64) (Kd.pair (Kd.slice 3 (Kd.int .i64)) (Kd.pair (Kd.slice 54 d) (Kd.slice 54 d))))))) (fun x : S54 => (x.f0, x.f1, x.f2, x.f3, x.f4, x.f5, x.f6))
theorem mono54 : Kd.Mono F54 := Kd.mono_iso _ (Kd.mono_pair (Kd.mono_const _) (Kd.mono_pair (Kd.mono_const _) (Kd.mono_pair (Kd.mono_const _) (Kd.mono_pair (Kd.mono_const _) (Kd.mono_pair (Kd.mono_const _) (Kd.mono_pair (Kd.mono_slice 54 Kd.mono_id) (Kd.mono_slice 54 Kd.mono_id)))))))
theorem sub54 : Kd.Sub F54 [3, 54] := Kd.sub_iso _ (Kd.sub_pair (Kd.sub_const _ (by decide)) (Kd.sub_pair (Kd.sub_const _ (by decide)) (Kd.sub_pair (Kd.sub_const _ (by decide)) (Kd.sub_pair (Kd.sub_const _ (by decide)) (Kd.sub_pair (Kd.sub_const _ (by decide)) (Kd.sub_pair (Kd.sub_slice 54 (by decide) Kd.sub_id) (Kd.sub_slice 54 (by decide) Kd.sub_id)))))))
theorem sz54 : ∀ n, (Kd.upto F54 7 [3, 54] n).sz = 7 := Kd.upto_sz (fun _ => rfl)
def k54 : Kd S54 := Kd.fix F54 7 [3, 54] sz54 (Kd.upto_E sub54)
theorem k54_open {w : World} {x : S54} {cs : List Value} (h : k54.K w x cs) : ∃ A4 c4 A5 c5 A6 c6, cs = [.int .i64 x.f0, .int .i64 x.f1, .int .i64 x.f2, .int .i64 x.f3, .slice A4 x.f4.length c4, .slice A5 x.f5.length c5, .slice A6 x.f6.length c6] ∧ x.f4.length ≤ c4 ∧ (Kd.int .i64).C w A4 x.f4.length x.f4 ∧ x.f5.length ≤ c5 ∧ k54.C w A5 x.f5.length x.f5 ∧ x.f6.length ≤ c6 ∧ k54.C w A6 x.f6.length x.f6 := by
 obtain ⟨n, h⟩ := h; cases n with
 | zero => exact h.elim
 | succ n =>
  obtain ⟨_, _, rfl, rfl, ⟨_, _, rfl, rfl, ⟨_, _, rfl, rfl, ⟨_, _, rfl, rfl, ⟨_, _, rfl, ⟨A4, c4, rfl, l4, g4⟩, ⟨_, _, rfl, ⟨A5, c5, rfl, l5, g5⟩, ⟨A6, c6, rfl, l6, g6⟩⟩⟩⟩⟩⟩⟩ := h; exact ⟨A4, c4, A5, c5, A6, c6, rfl, l4, g4, l5, Kd.fix_C g5, l6, Kd.fix_C g6⟩
theorem k54_mk (w : World) (x : S54) {A4 : Option Addr} {c4 : Nat} (l4 : x.f4.length ≤ c4) (g4 : (Kd.int .i64).C w A4 x.f4.length x.f4) {A5 : Option Addr} {c5 : Nat} (l5 : x.f5.length ≤ c5) (g5 : k54.C w A5 x.f5.length x.f5) {A6 : Option Addr} {c6 : Nat} (l6 : x.f6.length ≤ c6) (g6 : k54.C w A6 x.f6.length x.f6) : k54.K w x [.int .i64 x.f0, .int .i64 x.f1, .int .i64 x.f2, .int .i64 x.f3, .slice A4 x.f4.length c4, .slice A5 x.f5.length c5, .slice A6 x.f6.length c6] := by
 obtain ⟨n5, q5⟩ := Kd.fix_C_back mono54 g5; obtain ⟨n6, q6⟩ := Kd.fix_C_back mono54 g6; have r5 := Kd.upto_C_le mono54 sz54 (show n5 ≤ (max n5 n6) by omega) q5; have r6 := Kd.upto_C_le mono54 sz54 (show n6 ≤ (max n5 n6) by omega) q6; exact ⟨(max n5 n6) + 1, ⟨[.int .i64 x.f0], [.int .i64 x.f1, .int .i64 x.f2, .int .i64 x.f3, .slice A4 x.f4.length c4, .slice A5 x.f5.length c5, .slice A6 x.f6.length c6], rfl, rfl, ⟨[.int .i64 x.f1], [.int .i64 x.f2, .int .i64 x.f3, .slice A4 x.f4.length c4, .slice A5 x.f5.length c5, .slice A6 x.f6.length c6], rfl, rfl, ⟨[.int .i64 x.f2], [.int .i64 x.f3, .slice A4 x.f4.length c4, .slice A5 x.f5.length c5, .slice A6 x.f6.length c6], rfl, rfl, ⟨[.int .i64 x.f3], [.slice A4 x.f4.length c4, .slice A5 x.f5.length c5, .slice A6 x.f6.length c6], rfl, rfl, ⟨[.slice A4 x.f4.length c4], [.slice A5 x.f5.length c5, .slice A6 x.f6.length c6], rfl, ⟨A4, c4, rfl, l4, g4⟩, ⟨[.slice A5 x.f5.length c5], [.slice A6 x.f6.length c6], rfl, ⟨A5, c5, rfl, l5, r5⟩, ⟨A6, c6, rfl, l6, r6⟩⟩⟩⟩⟩⟩⟩⟩
theorem k54_mkM (w : World) (base : Nat) (ok : Nat → Prop) (x : S54) {v4 : Value} (g4 : (Kd.int .i64).R 3 w base ok v4 x.f4) {v5 : Value} (g5 : k54.R 54 w base ok v5 x.f5) {v6 : Value} (g6 : k54.R 54 w base ok v6 x.f6) : k54.M w base ok x [.int .i64 x.f0, .int .i64 x.f1, .int .i64 x.f2, .int .i64 x.f3, v4, v5, v6] := by
 obtain ⟨n5, q5⟩ := Kd.fix_R_back mono54 g5; obtain ⟨n6, q6⟩ := Kd.fix_R_back mono54 g6; have r5 := Kd.upto_R_le mono54 sz54 (show n5 ≤ (max n5 n6) by omega) q5; have r6 := Kd.upto_R_le mono54 sz54 (show n6 ≤ (max n5 n6) by omega) q6; exact ⟨(max n5 n6) + 1, ⟨[.int .i64 x.f0], [.int .i64 x.f1, .int .i64 x.f2, .int .i64 x.f3, v4, v5, v6], rfl, rfl, ⟨[.int .i64 x.f1], [.int .i64 x.f2, .int .i64 x.f3, v4, v5, v6], rfl, rfl, ⟨[.int .i64 x.f2], [.int .i64 x.f3, v4, v5, v6], rfl, rfl, ⟨[.int .i64 x.f3], [v4, v5, v6], rfl, rfl, ⟨[v4], [v5, v6], rfl, ⟨v4, rfl, g4⟩, ⟨[v5], [v6], rfl, ⟨v5, rfl, r5⟩, ⟨v6, rfl, r6⟩⟩⟩⟩⟩⟩⟩⟩
theorem k54_mkF (W : World) (ok : Nat → Prop) (x : S54) {A4 : Option Addr} {c4 : Nat} (l4 : x.f4.length ≤ c4) (g4 : Kd.F (Kd.int .i64) W ok A4 x.f4.length x.f4) {A5 : Option Addr} {c5 : Nat} (l5 : x.f5.length ≤ c5) (g5 : Kd.F k54 W ok A5 x.f5.length x.f5) {A6 : Option Addr} {c6 : Nat} (l6 : x.f6.length ≤ c6) (g6 : Kd.F k54 W ok A6 x.f6.length x.f6) : Kd.FK k54 W ok x [.int .i64 x.f0, .int .i64 x.f1, .int .i64 x.f2, .int .i64 x.f3, .slice A4 x.f4.length c4, .slice A5 x.f5.length c5, .slice A6 x.f6.length c6] := fun W2 hW => k54_mk W2 x l4 (g4 W2 hW) l5 (g5 W2 hW) l6 (g6 W2 hW)
def rd_T54 (xs : List S54) (i : Int) : S54 := xs.getD i.toNat z54
theorem at_T54 {w : World} {A : Option Addr} {n : Nat} {xs : List S54} (h : Kd.C k54 w A n xs) (i : Int) (h0 : 0 ≤ i) (h1 : i < n) : ∃ ad A4 c4 A5 c5 A6 c6, A = some ad ∧ w.cell? (ad.add (i.toNat * 7)) = some (.int .i64 (rd_T54 xs i).f0) ∧ w.cell? ⟨(ad.add (i.toNat * 7)).block, (ad.add (i.toNat * 7)).off + 1, none⟩ = some (.int .i64 (rd_T54 xs i).f1) ∧ w.cell? ⟨(ad.add (i.toNat * 7)).block, (ad.add (i.toNat * 7)).off + 2, none⟩ = some (.int .i64 (rd_T54 xs i).f2) ∧ w.cell? ⟨(ad.add (i.toNat * 7)).block, (ad.add (i.toNat * 7)).off + 3, none⟩ = some (.int .i64 (rd_T54 xs i).f3) ∧ w.cell? ⟨(ad.add (i.toNat * 7)).block, (ad.add (i.toNat * 7)).off + 4, none⟩ = some (.slice A4 (rd_T54 xs i).f4.length c4) ∧ w.cell? ⟨(ad.add (i.toNat * 7)).block, (ad.add (i.toNat * 7)).off + 5, none⟩ = some (.slice A5 (rd_T54 xs i).f5.length c5) ∧ w.cell? ⟨(ad.add (i.toNat * 7)).block, (ad.add (i.toNat * 7)).off + 6, none⟩ = some (.slice A6 (rd_T54 xs i).f6.length c6) ∧ (rd_T54 xs i).f4.length ≤ c4 ∧ (Kd.int .i64).C w A4 (rd_T54 xs i).f4.length (rd_T54 xs i).f4 ∧ (rd_T54 xs i).f5.length ≤ c5 ∧ k54.C w A5 (rd_T54 xs i).f5.length (rd_T54 xs i).f5 ∧ (rd_T54 xs i).f6.length ≤ c6 ∧ k54.C w A6 (rd_T54 xs i).f6.length (rd_T54 xs i).f6 := by
 obtain ⟨ad, c, e, _, hK, hc0⟩ := Kd.C_get h z54 i h0 h1; have hc : ∀ j u, c[j]? = some u → w.cell? (ad.add (i.toNat * 7 + j)) = some u := hc0; obtain ⟨A4, c4, A5, c5, A6, c6, rfl, l4, g4, l5, g5, l6, g6⟩ := k54_open hK; exact ⟨ad, A4, c4, A5, c5, A6, c6, e, hc 0 _ rfl, by rw [← add_field _ _ 1 (by omega)]; exact hc 1 _ rfl, by rw [← add_field _ _ 2 (by omega)]; exact hc 2 _ rfl, by rw [← add_field _ _ 3 (by omega)]; exact hc 3 _ rfl, by rw [← add_field _ _ 4 (by omega)]; exact hc 4 _ rfl, by rw [← add_field _ _ 5 (by omega)]; exact hc 5 _ rfl, by rw [← add_field _ _ 6 (by omega)]; exact hc 6 _ rfl, l4, g4, l5, g5, l6, g6⟩
mutual
def mem_Width.j0 : Nat → Int → Bool → Option (Int × Int × Bool)
 | 0, _, _ => none
 | k + 1, x5, x10 => if x10 = true then (some (1, 127, false)) else (if x5 = 46 then (mem_Width.j1 k x5 (x5 == 46)) else (mem_Width.j1 k x5 (x5 == 47)))
def mem_Width.j1 : Nat → Int → Bool → Option (Int × Int × Bool)
 | 0, _, _ => none
 | k + 1, x5, x13 => if x13 = true then (some (2, 127, false)) else (if x5 = 48 then (mem_Width.j2 k x5 (x5 == 48)) else (mem_Width.j2 k x5 (x5 == 49)))
def mem_Width.j2 : Nat → Int → Bool → Option (Int × Int × Bool)
 | 0, _, _ => none
 | k + 1, x5, x16 => if x16 = true then (some (1, 126, false)) else (if x5 = 50 then (mem_Width.j3 k x5 (x5 == 50)) else (mem_Width.j3 k x5 (x5 == 51)))
def mem_Width.j3 : Nat → Int → Bool → Option (Int × Int × Bool)
 | 0, _, _ => none
 | k + 1, x5, x19 => if x19 = true then (some (2, 126, false)) else (if x5 = 52 then (mem_Width.j4 k x5 (x5 == 52)) else (mem_Width.j4 k x5 (x5 == 53)))
def mem_Width.j4 : Nat → Int → Bool → Option (Int × Int × Bool)
 | 0, _, _ => none
 | k + 1, x5, x22 => if x22 = true then (some (4, 126, false)) else (if x5 = 54 then (some (4, 127, true)) else (if x5 = 55 then (some (8, 126, true)) else (if x5 = 58 then (some (1, 127, true)) else (if x5 = 59 then (some (2, 127, true)) else (if x5 = 60 then (some (1, 126, true)) else (if x5 = 61 then (some (2, 126, true)) else (if x5 = 62 then (some (4, 126, true)) else (some (0, 0, false)))))))))
end
def mem_Width.f (k : Nat) (a0 : Int) : Option (Int × Int × Bool) := if a0 = 40 then (some (4, 127, false)) else (if a0 = 41 then (some (8, 126, false)) else (if a0 = 44 then (mem_Width.j0 k a0 (a0 == 44)) else (mem_Width.j0 k a0 (a0 == 45))))
theorem mem_Width.mono_l : ∀ k, (∀ y0 y1, LeO (mem_Width.j0 k y0 y1) (mem_Width.j0 (k + 1) y0 y1)) ∧ (∀ y0 y1, LeO (mem_Width.j1 k y0 y1) (mem_Width.j1 (k + 1) y0 y1)) ∧ (∀ y0 y1, LeO (mem_Width.j2 k y0 y1) (mem_Width.j2 (k + 1) y0 y1)) ∧ (∀ y0 y1, LeO (mem_Width.j3 k y0 y1) (mem_Width.j3 (k + 1) y0 y1)) ∧ (∀ y0 y1, LeO (mem_Width.j4 k y0 y1) (mem_Width.j4 (k + 1) y0 y1))
 | 0 => ⟨fun _ _ r h => by simp [mem_Width.j0] at h, fun _ _ r h => by simp [mem_Width.j1] at h, fun _ _ r h => by simp [mem_Width.j2] at h, fun _ _ r h => by simp [mem_Width.j3] at h, fun _ _ r h => by simp [mem_Width.j4] at h⟩
 | k + 1 => by
  obtain ⟨ih0, ih1, ih2, ih3, ih4⟩ := mem_Width.mono_l k; refine ⟨?_, ?_, ?_, ?_, ?_⟩
  ·intro y0 y1; unfold mem_Width.j0; repeat' first
   | (with_reducible exact ih0 _ _)
   | (with_reducible exact ih1 _ _)
   | (with_reducible exact ih2 _ _)
   | (with_reducible exact ih3 _ _)
   | (with_reducible exact ih4 _ _)
   | (with_reducible exact LeO.refl _)
   | (with_reducible exact LeO.none _)
   | (with_reducible refine LeO.ite ?_ ?_)
   | (with_reducible refine LeO.bind ?_ (fun _ => ?_))
   | exact ih0 _ _
   | exact ih1 _ _
   | exact ih2 _ _
   | exact ih3 _ _
   | exact ih4 _ _
   | exact LeO.none _
   | refine LeO.ite ?_ ?_
   | refine LeO.bind ?_ (fun _ => ?_)
  ·intro y0 y1; unfold mem_Width.j1; repeat' first
   | (with_reducible exact ih0 _ _)
   | (with_reducible exact ih1 _ _)
   | (with_reducible exact ih2 _ _)
   | (with_reducible exact ih3 _ _)
   | (with_reducible exact ih4 _ _)
   | (with_reducible exact LeO.refl _)
   | (with_reducible exact LeO.none _)
   | (with_reducible refine LeO.ite ?_ ?_)
   | (with_reducible refine LeO.bind ?_ (fun _ => ?_))
   | exact ih0 _ _
   | exact ih1 _ _
   | exact ih2 _ _
   | exact ih3 _ _
   | exact ih4 _ _
   | exact LeO.none _
   | refine LeO.ite ?_ ?_
   | refine LeO.bind ?_ (fun _ => ?_)
  ·intro y0 y1; unfold mem_Width.j2; repeat' first
   | (with_reducible exact ih0 _ _)
   | (with_reducible exact ih1 _ _)
   | (with_reducible exact ih2 _ _)
   | (with_reducible exact ih3 _ _)
   | (with_reducible exact ih4 _ _)
   | (with_reducible exact LeO.refl _)
   | (with_reducible exact LeO.none _)
   | (with_reducible refine LeO.ite ?_ ?_)
   | (with_reducible refine LeO.bind ?_ (fun _ => ?_))
   | exact ih0 _ _
   | exact ih1 _ _
   | exact ih2 _ _
   | exact ih3 _ _
   | exact ih4 _ _
   | exact LeO.none _
   | refine LeO.ite ?_ ?_
   | refine LeO.bind ?_ (fun _ => ?_)
  ·intro y0 y1; unfold mem_Width.j3; repeat' first
   | (with_reducible exact ih0 _ _)
   | (with_reducible exact ih1 _ _)
   | (with_reducible exact ih2 _ _)
   | (with_reducible exact ih3 _ _)
   | (with_reducible exact ih4 _ _)
   | (with_reducible exact LeO.refl _)
   | (with_reducible exact LeO.none _)
   | (with_reducible refine LeO.ite ?_ ?_)
   | (with_reducible refine LeO.bind ?_ (fun _ => ?_))
   | exact ih0 _ _
   | exact ih1 _ _
   | exact ih2 _ _
   | exact ih3 _ _
   | exact ih4 _ _
   | exact LeO.none _
   | refine LeO.ite ?_ ?_
   | refine LeO.bind ?_ (fun _ => ?_)
  ·intro y0 y1; unfold mem_Width.j4; repeat' first
   | (with_reducible exact ih0 _ _)
   | (with_reducible exact ih1 _ _)
   | (with_reducible exact ih2 _ _)
   | (with_reducible exact ih3 _ _)
   | (with_reducible exact ih4 _ _)
   | (with_reducible exact LeO.refl _)
   | (with_reducible exact LeO.none _)
   | (with_reducible refine LeO.ite ?_ ?_)
   | (with_reducible refine LeO.bind ?_ (fun _ => ?_))
   | exact ih0 _ _
   | exact ih1 _ _
   | exact ih2 _ _
   | exact ih3 _ _
   | exact ih4 _ _
   | exact LeO.none _
   | refine LeO.ite ?_ ?_
   | refine LeO.bind ?_ (fun _ => ?_)
theorem mem_Width.mono : ∀ a0 k, LeO (mem_Width.f k a0) (mem_Width.f (k + 1) a0) := by
 intro a0 k; obtain ⟨ih0, ih1, ih2, ih3, ih4⟩ := mem_Width.mono_l k; unfold mem_Width.f; repeat' first
  | (with_reducible exact ih0 _ _)
  | (with_reducible exact ih1 _ _)
  | (with_reducible exact ih2 _ _)
  | (with_reducible exact ih3 _ _)
  | (with_reducible exact ih4 _ _)
  | (with_reducible exact LeO.refl _)
  | (with_reducible exact LeO.none _)
  | (with_reducible refine LeO.ite ?_ ?_)
  | (with_reducible refine LeO.bind ?_ (fun _ => ?_))
  | exact ih0 _ _
  | exact ih1 _ _
  | exact ih2 _ _
  | exact ih3 _ _
  | exact ih4 _ _
  | exact LeO.none _
  | refine LeO.ite ?_ ?_
  | refine LeO.bind ?_ (fun _ => ?_)
set_option maxHeartbeats 8000000 in
set_option maxRecDepth 100000 in
theorem mem_Width.calls (k : Nat) (a0 : Int) (r1 : Int) (r2 : Int) (r3 : Bool) (w : World) (h : mem_Width.f k a0 = some (r1, r2, r3)) :
 Calls Try.prog 22 #[.int .i64 a0] w fun e w' => e = .returned (.tuple #[.int .i64 r1, .int .i64 r2, .bool r3]) ∧ Drawn0 w w' := by
 have H : (if a0 = 40 then (some (4, 127, false)) else (if a0 = 41 then (some (8, 126, false)) else (if a0 = 44 then (mem_Width.j0 k a0 (a0 == 44)) else (mem_Width.j0 k a0 (a0 == 45))))) = some (r1, r2, r3) := h; clear h; by_cases c2 : a0 = 40
 ·rw [if_pos c2] at H; have c2b0 : (a0 == 40) = true := beq_iff_eq.mpr c2; have c2b1 : (a0 != 40) = false := bne_eq_false_iff_eq.mpr c2; clear c2; simp only [Option.some.injEq, Prod.mk.injEq] at H; obtain ⟨rfl, rfl, rfl⟩ := H; go_enter Try.func22, Try.ntmps22; go_wp2
  go_ret3
  exact ⟨by first | rfl | (simp; done) | (simp [*]; done), by repeat (first | exact Drawn0.refl _ | apply Drawn0.step)⟩
 ·rw [if_neg c2] at H; have c2b0 : (a0 == 40) = false := beq_eq_false_iff_ne.mpr c2; have c2b1 : (a0 != 40) = true := bne_iff_ne.mpr c2; by_cases c3 : a0 = 41
  ·rw [if_pos c3] at H; have c3b0 : (a0 == 41) = true := beq_iff_eq.mpr c3; have c3b1 : (a0 != 41) = false := bne_eq_false_iff_eq.mpr c3; clear c3; simp only [Option.some.injEq, Prod.mk.injEq] at H; obtain ⟨rfl, rfl, rfl⟩ := H; go_enter Try.func22, Try.ntmps22; go_wp2
   go_ret3
   exact ⟨by first | rfl | (simp; done) | (simp [*]; done), by repeat (first | exact Drawn0.refl _ | apply Drawn0.step)⟩
  ·rw [if_neg c3] at H; have c3b0 : (a0 == 41) = false := beq_eq_false_iff_ne.mpr c3; have c3b1 : (a0 != 41) = true := bne_iff_ne.mpr c3; have HC4 := Aside0.mk H; clear H; go_enter Try.func22, Try.ntmps22; go_upto_if 10 with (fail)
   go_cut [10] (fun v10 wc => ∃ (kq : Nat) (x10_3 : Bool), v10 = .bool x10_3 ∧ Aside0 (mem_Width.j0 kq a0 x10_3 = some (r1, r2, r3)) ∧ Aside0 (kq ≤ k) ∧ Drawn0 w wc)
   case first =>
    have H := HC4.out; clear HC4; by_cases c5 : a0 = 44
    ·rw [if_pos c5] at H; have c5b0 : (a0 == 44) = true := beq_iff_eq.mpr c5; have c5b1 : (a0 != 44) = false := bne_eq_false_iff_eq.mpr c5; clear c5; (first | rw [c5b0] | (simp only [i64_w, i32_w]; rw [c5b0]) | skip); have H' := Aside0.mk H; clear H; go_wp2; go_meet; case rel => exact ⟨_, ((a0 == 44)), (by first | rfl | (simp; done) | (simp [*]; done)), H', ⟨by first | omega | exact Nat.le_refl _⟩, by repeat (first | exact Drawn0.refl _ | apply Drawn0.step)⟩
    ·rw [if_neg c5] at H; have c5b0 : (a0 == 44) = false := beq_eq_false_iff_ne.mpr c5; have c5b1 : (a0 != 44) = true := bne_iff_ne.mpr c5; (first | rw [c5b0] | (simp only [i64_w, i32_w]; rw [c5b0]) | skip); have H' := Aside0.mk H; clear H; go_wp2; go_meet; case rel => exact ⟨_, ((a0 == 45)), (by first | rfl | (simp; done) | (simp [*]; done)), H', ⟨by first | omega | exact Nat.le_refl _⟩, by repeat (first | exact Drawn0.refl _ | apply Drawn0.step)⟩
   case rest =>
    clear HC4; (try clear c2 c2b0 c2b1); (try clear p2); (try clear c3 c3b0 c3b1); (try clear c5 c5b0 c5b1); obtain ⟨kq, x10_3, rfl, HA, HJ3, ⟨mc3, rfl⟩⟩ := hcut; cases kq with
    | zero => exact absurd HA.out (by simp [mem_Width.j0])
    | succ kj3 =>
     have H := HA.out; clear HA; simp only [mem_Width.j0] at H; by_cases c6 : x10_3 = true
     ·subst c6; have H1 : (some (1, 127, false)) = some (r1, r2, r3) := by rw [if_pos rfl] at H; exact H
      clear H; have H := H1; clear H1; simp only [Option.some.injEq, Prod.mk.injEq] at H; obtain ⟨rfl, rfl, rfl⟩ := H; go_wp2
      go_ret3
      exact ⟨by first | rfl | (simp; done) | (simp [*]; done), by repeat (first | exact Drawn0.refl _ | apply Drawn0.step)⟩
     ·replace c6 := Bool.eq_false_iff.mpr c6; subst c6; have H1 : (if a0 = 46 then (mem_Width.j1 kj3 a0 (a0 == 46)) else (mem_Width.j1 kj3 a0 (a0 == 47))) = some (r1, r2, r3) := by rw [if_neg (show ¬ (false = true) by decide)] at H; exact H
      clear H; have H := H1; clear H1; have HC7 := Aside0.mk H; clear H; go_upto_if 13 with (fail)
      go_cut [13] (fun v13 wc => ∃ (kq : Nat) (x13_6 : Bool), v13 = .bool x13_6 ∧ Aside0 (mem_Width.j1 kq a0 x13_6 = some (r1, r2, r3)) ∧ Aside0 (kq ≤ kj3) ∧ Drawn0 w wc)
      case first =>
       have H := HC7.out; clear HC7; by_cases c8 : a0 = 46
       ·rw [if_pos c8] at H; have c8b0 : (a0 == 46) = true := beq_iff_eq.mpr c8; have c8b1 : (a0 != 46) = false := bne_eq_false_iff_eq.mpr c8; clear c8; (first | rw [c8b0] | (simp only [i64_w, i32_w]; rw [c8b0]) | skip); have H' := Aside0.mk H; clear H; go_wp2; go_meet; case rel => exact ⟨_, ((a0 == 46)), (by first | rfl | (simp; done) | (simp [*]; done)), H', ⟨by have := HJ3.out; first | omega | exact Nat.le_refl _⟩, by repeat (first | exact Drawn0.refl _ | apply Drawn0.step)⟩
       ·rw [if_neg c8] at H; have c8b0 : (a0 == 46) = false := beq_eq_false_iff_ne.mpr c8; have c8b1 : (a0 != 46) = true := bne_iff_ne.mpr c8; (first | rw [c8b0] | (simp only [i64_w, i32_w]; rw [c8b0]) | skip); have H' := Aside0.mk H; clear H; go_wp2; go_meet; case rel => exact ⟨_, ((a0 == 47)), (by first | rfl | (simp; done) | (simp [*]; done)), H', ⟨by have := HJ3.out; first | omega | exact Nat.le_refl _⟩, by repeat (first | exact Drawn0.refl _ | apply Drawn0.step)⟩
      case rest =>
       clear HC7; (try clear c2 c2b0 c2b1); (try clear p2 p2); (try clear c3 c3b0 c3b1); (try clear c5 c5b0 c5b1); (try clear c6); (try clear c8 c8b0 c8b1); obtain ⟨kq, x13_6, rfl, HA, HJ6, ⟨mc6, rfl⟩⟩ := hcut; cases kq with
       | zero => exact absurd HA.out (by simp [mem_Width.j1])
       | succ kj6 =>
        have H := HA.out; clear HA; simp only [mem_Width.j1] at H; by_cases c9 : x13_6 = true
        ·subst c9; have H1 : (some (2, 127, false)) = some (r1, r2, r3) := by rw [if_pos rfl] at H; exact H
         clear H; have H := H1; clear H1; simp only [Option.some.injEq, Prod.mk.injEq] at H; obtain ⟨rfl, rfl, rfl⟩ := H; go_wp2
         go_ret3
         exact ⟨by first | rfl | (simp; done) | (simp [*]; done), by repeat (first | exact Drawn0.refl _ | apply Drawn0.step)⟩
        ·replace c9 := Bool.eq_false_iff.mpr c9; subst c9; have H1 : (if a0 = 48 then (mem_Width.j2 kj6 a0 (a0 == 48)) else (mem_Width.j2 kj6 a0 (a0 == 49))) = some (r1, r2, r3) := by rw [if_neg (show ¬ (false = true) by decide)] at H; exact H
         clear H; have H := H1; clear H1; have HC10 := Aside0.mk H; clear H; go_upto_if 16 with (fail)
         go_cut [16] (fun v16 wc => ∃ (kq : Nat) (x16_9 : Bool), v16 = .bool x16_9 ∧ Aside0 (mem_Width.j2 kq a0 x16_9 = some (r1, r2, r3)) ∧ Aside0 (kq ≤ kj6) ∧ Drawn0 w wc)
         case first =>
          have H := HC10.out; clear HC10; by_cases c11 : a0 = 48
          ·rw [if_pos c11] at H; have c11b0 : (a0 == 48) = true := beq_iff_eq.mpr c11; have c11b1 : (a0 != 48) = false := bne_eq_false_iff_eq.mpr c11; clear c11; (first | rw [c11b0] | (simp only [i64_w, i32_w]; rw [c11b0]) | skip); have H' := Aside0.mk H; clear H; go_wp2; go_meet; case rel => exact ⟨_, ((a0 == 48)), (by first | rfl | (simp; done) | (simp [*]; done)), H', ⟨by have := HJ3.out; have := HJ6.out; first | omega | exact Nat.le_refl _⟩, by repeat (first | exact Drawn0.refl _ | apply Drawn0.step)⟩
          ·rw [if_neg c11] at H; have c11b0 : (a0 == 48) = false := beq_eq_false_iff_ne.mpr c11; have c11b1 : (a0 != 48) = true := bne_iff_ne.mpr c11; (first | rw [c11b0] | (simp only [i64_w, i32_w]; rw [c11b0]) | skip); have H' := Aside0.mk H; clear H; go_wp2; go_meet; case rel => exact ⟨_, ((a0 == 49)), (by first | rfl | (simp; done) | (simp [*]; done)), H', ⟨by have := HJ3.out; have := HJ6.out; first | omega | exact Nat.le_refl _⟩, by repeat (first | exact Drawn0.refl _ | apply Drawn0.step)⟩
         case rest =>
          clear HC10; (try clear c1); (try clear c2 c2b0 c2b1); (try clear p2 p2); (try clear c3 c3b0 c3b1); (try clear c5 c5b0 c5b1); (try clear c6); (try clear c8 c8b0 c8b1); (try clear c9); (try clear c11 c11b0 c11b1); obtain ⟨kq, x16_9, rfl, HA, HJ9, ⟨mc9, rfl⟩⟩ := hcut; cases kq with
          | zero => exact absurd HA.out (by simp [mem_Width.j2])
          | succ kj9 =>
           have H := HA.out; clear HA; simp only [mem_Width.j2] at H; by_cases c12 : x16_9 = true
           ·subst c12; have H1 : (some (1, 126, false)) = some (r1, r2, r3) := by rw [if_pos rfl] at H; exact H
            clear H; have H := H1; clear H1; simp only [Option.some.injEq, Prod.mk.injEq] at H; obtain ⟨rfl, rfl, rfl⟩ := H; go_wp2
            go_ret3
            exact ⟨by first | rfl | (simp; done) | (simp [*]; done), by repeat (first | exact Drawn0.refl _ | apply Drawn0.step)⟩
           ·replace c12 := Bool.eq_false_iff.mpr c12; subst c12; have H1 : (if a0 = 50 then (mem_Width.j3 kj9 a0 (a0 == 50)) else (mem_Width.j3 kj9 a0 (a0 == 51))) = some (r1, r2, r3) := by rw [if_neg (show ¬ (false = true) by decide)] at H; exact H
            clear H; have H := H1; clear H1; have HC13 := Aside0.mk H; clear H; go_upto_if 19 with (fail)
            go_cut [19] (fun v19 wc => ∃ (kq : Nat) (x19_12 : Bool), v19 = .bool x19_12 ∧ Aside0 (mem_Width.j3 kq a0 x19_12 = some (r1, r2, r3)) ∧ Aside0 (kq ≤ kj9) ∧ Drawn0 w wc)
            case first =>
             have H := HC13.out; clear HC13; by_cases c14 : a0 = 50
             ·rw [if_pos c14] at H; have c14b0 : (a0 == 50) = true := beq_iff_eq.mpr c14; have c14b1 : (a0 != 50) = false := bne_eq_false_iff_eq.mpr c14; clear c14; (first | rw [c14b0] | (simp only [i64_w, i32_w]; rw [c14b0]) | skip); have H' := Aside0.mk H; clear H; go_wp2; go_meet; case rel => exact ⟨_, ((a0 == 50)), (by first | rfl | (simp; done) | (simp [*]; done)), H', ⟨by have := HJ3.out; have := HJ6.out; have := HJ9.out; first | omega | exact Nat.le_refl _⟩, by repeat (first | exact Drawn0.refl _ | apply Drawn0.step)⟩
             ·rw [if_neg c14] at H; have c14b0 : (a0 == 50) = false := beq_eq_false_iff_ne.mpr c14; have c14b1 : (a0 != 50) = true := bne_iff_ne.mpr c14; (first | rw [c14b0] | (simp only [i64_w, i32_w]; rw [c14b0]) | skip); have H' := Aside0.mk H; clear H; go_wp2; go_meet; case rel => exact ⟨_, ((a0 == 51)), (by first | rfl | (simp; done) | (simp [*]; done)), H', ⟨by have := HJ3.out; have := HJ6.out; have := HJ9.out; first | omega | exact Nat.le_refl _⟩, by repeat (first | exact Drawn0.refl _ | apply Drawn0.step)⟩
            case rest =>
             clear HC13; (try clear c1); (try clear c2 c2b0 c2b1); (try clear p2 p2); (try clear c3 c3b0 c3b1); (try clear c5 c5b0 c5b1); (try clear c6); (try clear c8 c8b0 c8b1); (try clear c9); (try clear c11 c11b0 c11b1); (try clear c12); (try clear c14 c14b0 c14b1); obtain ⟨kq, x19_12, rfl, HA, HJ12, ⟨mc12, rfl⟩⟩ := hcut; cases kq with
             | zero => exact absurd HA.out (by simp [mem_Width.j3])
             | succ kj12 =>
              have H := HA.out; clear HA; simp only [mem_Width.j3] at H; by_cases c15 : x19_12 = true
              ·subst c15; have H1 : (some (2, 126, false)) = some (r1, r2, r3) := by rw [if_pos rfl] at H; exact H
               clear H; have H := H1; clear H1; simp only [Option.some.injEq, Prod.mk.injEq] at H; obtain ⟨rfl, rfl, rfl⟩ := H; go_wp2
               go_ret3
               exact ⟨by first | rfl | (simp; done) | (simp [*]; done), by repeat (first | exact Drawn0.refl _ | apply Drawn0.step)⟩
              ·replace c15 := Bool.eq_false_iff.mpr c15; subst c15; have H1 : (if a0 = 52 then (mem_Width.j4 kj12 a0 (a0 == 52)) else (mem_Width.j4 kj12 a0 (a0 == 53))) = some (r1, r2, r3) := by rw [if_neg (show ¬ (false = true) by decide)] at H; exact H
               clear H; have H := H1; clear H1; have HC16 := Aside0.mk H; clear H; go_upto_if 22 with (fail)
               go_cut [22] (fun v22 wc => ∃ (kq : Nat) (x22_15 : Bool), v22 = .bool x22_15 ∧ Aside0 (mem_Width.j4 kq a0 x22_15 = some (r1, r2, r3)) ∧ Aside0 (kq ≤ kj12) ∧ Drawn0 w wc)
               case first =>
                have H := HC16.out; clear HC16; by_cases c17 : a0 = 52
                ·rw [if_pos c17] at H; have c17b0 : (a0 == 52) = true := beq_iff_eq.mpr c17; have c17b1 : (a0 != 52) = false := bne_eq_false_iff_eq.mpr c17; clear c17; (first | rw [c17b0] | (simp only [i64_w, i32_w]; rw [c17b0]) | skip); have H' := Aside0.mk H; clear H; go_wp2; go_meet; case rel => exact ⟨_, ((a0 == 52)), (by first | rfl | (simp; done) | (simp [*]; done)), H', ⟨by have := HJ3.out; have := HJ6.out; have := HJ9.out; have := HJ12.out; first | omega | exact Nat.le_refl _⟩, by repeat (first | exact Drawn0.refl _ | apply Drawn0.step)⟩
                ·rw [if_neg c17] at H; have c17b0 : (a0 == 52) = false := beq_eq_false_iff_ne.mpr c17; have c17b1 : (a0 != 52) = true := bne_iff_ne.mpr c17; (first | rw [c17b0] | (simp only [i64_w, i32_w]; rw [c17b0]) | skip); have H' := Aside0.mk H; clear H; go_wp2; go_meet; case rel => exact ⟨_, ((a0 == 53)), (by first | rfl | (simp; done) | (simp [*]; done)), H', ⟨by have := HJ3.out; have := HJ6.out; have := HJ9.out; have := HJ12.out; first | omega | exact Nat.le_refl _⟩, by repeat (first | exact Drawn0.refl _ | apply Drawn0.step)⟩
               case rest =>
                clear HC16; (try clear c1); (try clear c2 c2b0 c2b1); (try clear p2 p2); (try clear c3 c3b0 c3b1); (try clear c5 c5b0 c5b1); (try clear c6); (try clear c8 c8b0 c8b1); (try clear c9); (try clear c11 c11b0 c11b1); (try clear c12); (try clear c14 c14b0 c14b1); (try clear c15); (try clear c17 c17b0 c17b1); obtain ⟨kq, x22_15, rfl, HA, HJ15, ⟨mc15, rfl⟩⟩ := hcut; cases kq with
                | zero => exact absurd HA.out (by simp [mem_Width.j4])
                | succ kj15 =>
                 have H := HA.out; clear HA; simp only [mem_Width.j4] at H; by_cases c18 : x22_15 = true
                 ·subst c18; have H1 : (some (4, 126, false)) = some (r1, r2, r3) := by rw [if_pos rfl] at H; exact H
                  clear H; have H := H1; clear H1; simp only [Option.some.injEq, Prod.mk.injEq] at H; obtain ⟨rfl, rfl, rfl⟩ := H; go_wp2
                  go_ret3
                  exact ⟨by first | rfl | (simp; done) | (simp [*]; done), by repeat (first | exact Drawn0.refl _ | apply Drawn0.step)⟩
                 ·replace c18 := Bool.eq_false_iff.mpr c18; subst c18; have H1 : (if a0 = 54 then (some (4, 127, true)) else (if a0 = 55 then (some (8, 126, true)) else (if a0 = 58 then (some (1, 127, true)) else (if a0 = 59 then (some (2, 127, true)) else (if a0 = 60 then (some (1, 126, true)) else (if a0 = 61 then (some (2, 126, true)) else (if a0 = 62 then (some (4, 126, true)) else (some (0, 0, false))))))))) = some (r1, r2, r3) := by rw [if_neg (show ¬ (false = true) by decide)] at H; exact H
                  clear H; have H := H1; clear H1; by_cases c19 : a0 = 54
                  ·rw [if_pos c19] at H; have c19b0 : (a0 == 54) = true := beq_iff_eq.mpr c19; have c19b1 : (a0 != 54) = false := bne_eq_false_iff_eq.mpr c19; clear c19; simp only [Option.some.injEq, Prod.mk.injEq] at H; obtain ⟨rfl, rfl, rfl⟩ := H; go_wp2
                   go_ret3
                   exact ⟨by first | rfl | (simp; done) | (simp [*]; done), by repeat (first | exact Drawn0.refl _ | apply Drawn0.step)⟩
                  ·rw [if_neg c19] at H; have c19b0 : (a0 == 54) = false := beq_eq_false_iff_ne.mpr c19; have c19b1 : (a0 != 54) = true := bne_iff_ne.mpr c19; by_cases c20 : a0 = 55
                   ·rw [if_pos c20] at H; have c20b0 : (a0 == 55) = true := beq_iff_eq.mpr c20; have c20b1 : (a0 != 55) = false := bne_eq_false_iff_eq.mpr c20; clear c20; simp only [Option.some.injEq, Prod.mk.injEq] at H; obtain ⟨rfl, rfl, rfl⟩ := H; go_wp2
                    go_ret3
                    exact ⟨by first | rfl | (simp; done) | (simp [*]; done), by repeat (first | exact Drawn0.refl _ | apply Drawn0.step)⟩
                   ·rw [if_neg c20] at H; have c20b0 : (a0 == 55) = false := beq_eq_false_iff_ne.mpr c20; have c20b1 : (a0 != 55) = true := bne_iff_ne.mpr c20; by_cases c21 : a0 = 58
                    ·rw [if_pos c21] at H; have c21b0 : (a0 == 58) = true := beq_iff_eq.mpr c21; have c21b1 : (a0 != 58) = false := bne_eq_false_iff_eq.mpr c21; clear c21; simp only [Option.some.injEq, Prod.mk.injEq] at H; obtain ⟨rfl, rfl, rfl⟩ := H; go_wp2
                     go_ret3
                     exact ⟨by first | rfl | (simp; done) | (simp [*]; done), by repeat (first | exact Drawn0.refl _ | apply Drawn0.step)⟩
                    ·rw [if_neg c21] at H; have c21b0 : (a0 == 58) = false := beq_eq_false_iff_ne.mpr c21; have c21b1 : (a0 != 58) = true := bne_iff_ne.mpr c21; by_cases c22 : a0 = 59
                     ·rw [if_pos c22] at H; have c22b0 : (a0 == 59) = true := beq_iff_eq.mpr c22; have c22b1 : (a0 != 59) = false := bne_eq_false_iff_eq.mpr c22; clear c22; simp only [Option.some.injEq, Prod.mk.injEq] at H; obtain ⟨rfl, rfl, rfl⟩ := H; go_wp2
                      go_ret3
                      exact ⟨by first | rfl | (simp; done) | (simp [*]; done), by repeat (first | exact Drawn0.refl _ | apply Drawn0.step)⟩
                     ·rw [if_neg c22] at H; have c22b0 : (a0 == 59) = false := beq_eq_false_iff_ne.mpr c22; have c22b1 : (a0 != 59) = true := bne_iff_ne.mpr c22; by_cases c23 : a0 = 60
                      ·rw [if_pos c23] at H; have c23b0 : (a0 == 60) = true := beq_iff_eq.mpr c23; have c23b1 : (a0 != 60) = false := bne_eq_false_iff_eq.mpr c23; clear c23; simp only [Option.some.injEq, Prod.mk.injEq] at H; obtain ⟨rfl, rfl, rfl⟩ := H; go_wp2
                       go_ret3
                       exact ⟨by first | rfl | (simp; done) | (simp [*]; done), by repeat (first | exact Drawn0.refl _ | apply Drawn0.step)⟩
                      ·rw [if_neg c23] at H; have c23b0 : (a0 == 60) = false := beq_eq_false_iff_ne.mpr c23; have c23b1 : (a0 != 60) = true := bne_iff_ne.mpr c23; by_cases c24 : a0 = 61
                       ·rw [if_pos c24] at H; have c24b0 : (a0 == 61) = true := beq_iff_eq.mpr c24; have c24b1 : (a0 != 61) = false := bne_eq_false_iff_eq.mpr c24; clear c24; simp only [Option.some.injEq, Prod.mk.injEq] at H; obtain ⟨rfl, rfl, rfl⟩ := H; go_wp2
                        go_ret3
                        exact ⟨by first | rfl | (simp; done) | (simp [*]; done), by repeat (first | exact Drawn0.refl _ | apply Drawn0.step)⟩
                       ·rw [if_neg c24] at H; have c24b0 : (a0 == 61) = false := beq_eq_false_iff_ne.mpr c24; have c24b1 : (a0 != 61) = true := bne_iff_ne.mpr c24; by_cases c25 : a0 = 62
                        ·rw [if_pos c25] at H; have c25b0 : (a0 == 62) = true := beq_iff_eq.mpr c25; have c25b1 : (a0 != 62) = false := bne_eq_false_iff_eq.mpr c25; clear c25; simp only [Option.some.injEq, Prod.mk.injEq] at H; obtain ⟨rfl, rfl, rfl⟩ := H; go_wp2
                         go_ret3
                         exact ⟨by first | rfl | (simp; done) | (simp [*]; done), by repeat (first | exact Drawn0.refl _ | apply Drawn0.step)⟩
                        ·rw [if_neg c25] at H; have c25b0 : (a0 == 62) = false := beq_eq_false_iff_ne.mpr c25; have c25b1 : (a0 != 62) = true := bne_iff_ne.mpr c25; simp only [Option.some.injEq, Prod.mk.injEq] at H; obtain ⟨rfl, rfl, rfl⟩ := H; go_wp2
                         go_ret3
                         exact ⟨by first | rfl | (simp; done) | (simp [*]; done), by repeat (first | exact Drawn0.refl _ | apply Drawn0.step)⟩
mutual
def num_Sig.j0 : Nat → Int → Bool → Option (Int × Int × Int)
 | 0, _, _ => none
 | k + 1, x0, x5 => if x5 = true then (some (1, 127, 127)) else (if x0 = 80 then (num_Sig.j1 k x0 true) else (num_Sig.j1 k x0 (x0 == 167)))
def num_Sig.j1 : Nat → Int → Bool → Option (Int × Int × Int)
 | 0, _, _ => none
 | k + 1, x0, x24 => if x24 = true then (some (1, 126, 127)) else (if x0 ≥ 121 then (if x0 < 124 then (num_Sig.j2 k x0 true) else (if x0 ≥ 194 then (num_Sig.j2 k x0 (decide (x0 ≤ 196))) else (num_Sig.j2 k x0 false))) else (if x0 ≥ 194 then (num_Sig.j2 k x0 (decide (x0 ≤ 196))) else (num_Sig.j2 k x0 false)))
def num_Sig.j2 : Nat → Int → Bool → Option (Int × Int × Int)
 | 0, _, _ => none
 | k + 1, x0, x31 => if x31 = true then (some (1, 126, 126)) else (if x0 = 172 then (num_Sig.j3 k x0 true) else (num_Sig.j3 k x0 (x0 == 173)))
def num_Sig.j3 : Nat → Int → Bool → Option (Int × Int × Int)
 | 0, _, _ => none
 | k + 1, x0, x46 => if x46 = true then (some (1, 127, 126)) else (if x0 ≥ 70 then (if x0 < 80 then (num_Sig.j4 k x0 true) else (if x0 ≥ 106 then (num_Sig.j4 k x0 (decide (x0 < 121))) else (num_Sig.j4 k x0 false))) else (if x0 ≥ 106 then (num_Sig.j4 k x0 (decide (x0 < 121))) else (num_Sig.j4 k x0 false)))
def num_Sig.j4 : Nat → Int → Bool → Option (Int × Int × Int)
 | 0, _, _ => none
 | k + 1, x0, x53 => if x53 = true then (some (2, 127, 127)) else (if x0 ≥ 81 then (num_Sig.j5 k x0 (decide (x0 ≤ 90))) else (num_Sig.j5 k x0 false))
def num_Sig.j5 : Nat → Int → Bool → Option (Int × Int × Int)
 | 0, _, _ => none
 | k + 1, x0, x68 => if x68 = true then (some (2, 126, 127)) else (if x0 ≥ 124 then (if x0 ≤ 138 then (some (2, 126, 126)) else (some (0, 0, 0))) else (some (0, 0, 0)))
end
def num_Sig.f (k : Nat) (a0 : Int) : Option (Int × Int × Int) := if a0 = 69 then (num_Sig.j0 k a0 true) else (if a0 ≥ 103 then (if a0 < 106 then (num_Sig.j0 k a0 true) else (if a0 = 192 then (num_Sig.j0 k a0 true) else (num_Sig.j0 k a0 (a0 == 193)))) else (if a0 = 192 then (num_Sig.j0 k a0 true) else (num_Sig.j0 k a0 (a0 == 193))))
theorem num_Sig.mono_l : ∀ k, (∀ y0 y1, LeO (num_Sig.j0 k y0 y1) (num_Sig.j0 (k + 1) y0 y1)) ∧ (∀ y0 y1, LeO (num_Sig.j1 k y0 y1) (num_Sig.j1 (k + 1) y0 y1)) ∧ (∀ y0 y1, LeO (num_Sig.j2 k y0 y1) (num_Sig.j2 (k + 1) y0 y1)) ∧ (∀ y0 y1, LeO (num_Sig.j3 k y0 y1) (num_Sig.j3 (k + 1) y0 y1)) ∧ (∀ y0 y1, LeO (num_Sig.j4 k y0 y1) (num_Sig.j4 (k + 1) y0 y1)) ∧ (∀ y0 y1, LeO (num_Sig.j5 k y0 y1) (num_Sig.j5 (k + 1) y0 y1))
 | 0 => ⟨fun _ _ r h => by simp [num_Sig.j0] at h, fun _ _ r h => by simp [num_Sig.j1] at h, fun _ _ r h => by simp [num_Sig.j2] at h, fun _ _ r h => by simp [num_Sig.j3] at h, fun _ _ r h => by simp [num_Sig.j4] at h, fun _ _ r h => by simp [num_Sig.j5] at h⟩
 | k + 1 => by
  obtain ⟨ih0, ih1, ih2, ih3, ih4, ih5⟩ := num_Sig.mono_l k; refine ⟨?_, ?_, ?_, ?_, ?_, ?_⟩
  ·intro y0 y1; unfold num_Sig.j0; repeat' first
   | (with_reducible exact ih0 _ _)
   | (with_reducible exact ih1 _ _)
   | (with_reducible exact ih2 _ _)
   | (with_reducible exact ih3 _ _)
   | (with_reducible exact ih4 _ _)
   | (with_reducible exact ih5 _ _)
   | (with_reducible exact LeO.refl _)
   | (with_reducible exact LeO.none _)
   | (with_reducible refine LeO.ite ?_ ?_)
   | (with_reducible refine LeO.bind ?_ (fun _ => ?_))
   | exact ih0 _ _
   | exact ih1 _ _
   | exact ih2 _ _
   | exact ih3 _ _
   | exact ih4 _ _
   | exact ih5 _ _
   | exact LeO.none _
   | refine LeO.ite ?_ ?_
   | refine LeO.bind ?_ (fun _ => ?_)
  ·intro y0 y1; unfold num_Sig.j1; repeat' first
   | (with_reducible exact ih0 _ _)
   | (with_reducible exact ih1 _ _)
   | (with_reducible exact ih2 _ _)
   | (with_reducible exact ih3 _ _)
   | (with_reducible exact ih4 _ _)
   | (with_reducible exact ih5 _ _)
   | (with_reducible exact LeO.refl _)
   | (with_reducible exact LeO.none _)
   | (with_reducible refine LeO.ite ?_ ?_)
   | (with_reducible refine LeO.bind ?_ (fun _ => ?_))
   | exact ih0 _ _
   | exact ih1 _ _
   | exact ih2 _ _
   | exact ih3 _ _
   | exact ih4 _ _
   | exact ih5 _ _
   | exact LeO.none _
   | refine LeO.ite ?_ ?_
   | refine LeO.bind ?_ (fun _ => ?_)
  ·intro y0 y1; unfold num_Sig.j2; repeat' first
   | (with_reducible exact ih0 _ _)
   | (with_reducible exact ih1 _ _)
   | (with_reducible exact ih2 _ _)
   | (with_reducible exact ih3 _ _)
   | (with_reducible exact ih4 _ _)
   | (with_reducible exact ih5 _ _)
   | (with_reducible exact LeO.refl _)
   | (with_reducible exact LeO.none _)
   | (with_reducible refine LeO.ite ?_ ?_)
   | (with_reducible refine LeO.bind ?_ (fun _ => ?_))
   | exact ih0 _ _
   | exact ih1 _ _
   | exact ih2 _ _
   | exact ih3 _ _
   | exact ih4 _ _
   | exact ih5 _ _
   | exact LeO.none _
   | refine LeO.ite ?_ ?_
   | refine LeO.bind ?_ (fun _ => ?_)
  ·intro y0 y1; unfold num_Sig.j3; repeat' first
   | (with_reducible exact ih0 _ _)
   | (with_reducible exact ih1 _ _)
   | (with_reducible exact ih2 _ _)
   | (with_reducible exact ih3 _ _)
   | (with_reducible exact ih4 _ _)
   | (with_reducible exact ih5 _ _)
   | (with_reducible exact LeO.refl _)
   | (with_reducible exact LeO.none _)
   | (with_reducible refine LeO.ite ?_ ?_)
   | (with_reducible refine LeO.bind ?_ (fun _ => ?_))
   | exact ih0 _ _
   | exact ih1 _ _
   | exact ih2 _ _
   | exact ih3 _ _
   | exact ih4 _ _
   | exact ih5 _ _
   | exact LeO.none _
   | refine LeO.ite ?_ ?_
   | refine LeO.bind ?_ (fun _ => ?_)
  ·intro y0 y1; unfold num_Sig.j4; repeat' first
   | (with_reducible exact ih0 _ _)
   | (with_reducible exact ih1 _ _)
   | (with_reducible exact ih2 _ _)
   | (with_reducible exact ih3 _ _)
   | (with_reducible exact ih4 _ _)
   | (with_reducible exact ih5 _ _)
   | (with_reducible exact LeO.refl _)
   | (with_reducible exact LeO.none _)
   | (with_reducible refine LeO.ite ?_ ?_)
   | (with_reducible refine LeO.bind ?_ (fun _ => ?_))
   | exact ih0 _ _
   | exact ih1 _ _
   | exact ih2 _ _
   | exact ih3 _ _
   | exact ih4 _ _
   | exact ih5 _ _
   | exact LeO.none _
   | refine LeO.ite ?_ ?_
   | refine LeO.bind ?_ (fun _ => ?_)
  ·intro y0 y1; unfold num_Sig.j5; repeat' first
   | (with_reducible exact ih0 _ _)
   | (with_reducible exact ih1 _ _)
   | (with_reducible exact ih2 _ _)
   | (with_reducible exact ih3 _ _)
   | (with_reducible exact ih4 _ _)
   | (with_reducible exact ih5 _ _)
   | (with_reducible exact LeO.refl _)
   | (with_reducible exact LeO.none _)
   | (with_reducible refine LeO.ite ?_ ?_)
   | (with_reducible refine LeO.bind ?_ (fun _ => ?_))
   | exact ih0 _ _
   | exact ih1 _ _
   | exact ih2 _ _
   | exact ih3 _ _
   | exact ih4 _ _
   | exact ih5 _ _
   | exact LeO.none _
   | refine LeO.ite ?_ ?_
   | refine LeO.bind ?_ (fun _ => ?_)
theorem num_Sig.mono : ∀ a0 k, LeO (num_Sig.f k a0) (num_Sig.f (k + 1) a0) := by
 intro a0 k; obtain ⟨ih0, ih1, ih2, ih3, ih4, ih5⟩ := num_Sig.mono_l k; unfold num_Sig.f; repeat' first
  | (with_reducible exact ih0 _ _)
  | (with_reducible exact ih1 _ _)
  | (with_reducible exact ih2 _ _)
  | (with_reducible exact ih3 _ _)
  | (with_reducible exact ih4 _ _)
  | (with_reducible exact ih5 _ _)
  | (with_reducible exact LeO.refl _)
  | (with_reducible exact LeO.none _)
  | (with_reducible refine LeO.ite ?_ ?_)
  | (with_reducible refine LeO.bind ?_ (fun _ => ?_))
  | exact ih0 _ _
  | exact ih1 _ _
  | exact ih2 _ _
  | exact ih3 _ _
  | exact ih4 _ _
  | exact ih5 _ _
  | exact LeO.none _
  | refine LeO.ite ?_ ?_
  | refine LeO.bind ?_ (fun _ => ?_)
set_option maxHeartbeats 8000000 in
set_option maxRecDepth 100000 in
theorem num_Sig.calls (k : Nat) (a0 : Int) (r1 : Int) (r2 : Int) (r3 : Int) (w : World) (h : num_Sig.f k a0 = some (r1, r2, r3)) :
 Calls Try.prog 23 #[.int .i64 a0] w fun e w' => e = .returned (.tuple #[.int .i64 r1, .int .i64 r2, .int .i64 r3]) ∧ Drawn0 w w' := by
 have H : (if a0 = 69 then (num_Sig.j0 k a0 true) else (if a0 ≥ 103 then (if a0 < 106 then (num_Sig.j0 k a0 true) else (if a0 = 192 then (num_Sig.j0 k a0 true) else (num_Sig.j0 k a0 (a0 == 193)))) else (if a0 = 192 then (num_Sig.j0 k a0 true) else (num_Sig.j0 k a0 (a0 == 193))))) = some (r1, r2, r3) := h; clear h; have HC2 := Aside0.mk H; clear H; go_enter Try.func23, Try.ntmps23; go_upto_region 1 with (fail)
 go_cut [5] (fun v5 wc => ∃ (kq : Nat) (x5_1 : Bool), v5 = .bool x5_1 ∧ Aside0 (num_Sig.j0 kq a0 x5_1 = some (r1, r2, r3)) ∧ Aside0 (kq ≤ k) ∧ Drawn0 w wc)
 case first =>
  have H := HC2.out; clear HC2; by_cases c3 : a0 = 69
  ·rw [if_pos c3] at H; have c3b0 : (a0 == 69) = true := beq_iff_eq.mpr c3; have c3b1 : (a0 != 69) = false := bne_eq_false_iff_eq.mpr c3; clear c3; (first | rw [c3b0] | (simp only [i64_w, i32_w]; rw [c3b0]) | skip); have H' := Aside0.mk H; clear H; go_wp2; go_meet; case rel => exact ⟨_, (true), (by first | rfl | (simp; done) | (simp [*]; done)), H', ⟨by first | omega | exact Nat.le_refl _⟩, by repeat (first | exact Drawn0.refl _ | apply Drawn0.step)⟩
  ·rw [if_neg c3] at H; have c3b0 : (a0 == 69) = false := beq_eq_false_iff_ne.mpr c3; have c3b1 : (a0 != 69) = true := bne_iff_ne.mpr c3; (first | rw [c3b0] | (simp only [i64_w, i32_w]; rw [c3b0]) | skip); by_cases c4 : a0 ≥ 103
   ·rw [if_pos c4] at H; have c4b0 : decide (103 ≤ a0) = true := decide_eq_true c4; clear c4; by_cases c5 : a0 < 106
    ·rw [if_pos c5] at H; have c5b0 : decide (a0 < 106) = true := decide_eq_true c5; clear c5; have H' := Aside0.mk H; clear H; go_wp2; go_meet; case rel => exact ⟨_, (true), (by first | rfl | (simp; done) | (simp [*]; done)), H', ⟨by first | omega | exact Nat.le_refl _⟩, by repeat (first | exact Drawn0.refl _ | apply Drawn0.step)⟩
    ·rw [if_neg c5] at H; have c5b0 : decide (a0 < 106) = false := decide_eq_false c5; clear c5; by_cases c6 : a0 = 192
     ·rw [if_pos c6] at H; have c6b0 : (a0 == 192) = true := beq_iff_eq.mpr c6; have c6b1 : (a0 != 192) = false := bne_eq_false_iff_eq.mpr c6; clear c6; have H' := Aside0.mk H; clear H; go_wp2; go_meet; case rel => exact ⟨_, (true), (by first | rfl | (simp; done) | (simp [*]; done)), H', ⟨by first | omega | exact Nat.le_refl _⟩, by repeat (first | exact Drawn0.refl _ | apply Drawn0.step)⟩
     ·rw [if_neg c6] at H; have c6b0 : (a0 == 192) = false := beq_eq_false_iff_ne.mpr c6; have c6b1 : (a0 != 192) = true := bne_iff_ne.mpr c6; have H' := Aside0.mk H; clear H; go_wp2; go_meet; case rel => exact ⟨_, ((a0 == 193)), (by first | rfl | (simp; done) | (simp [*]; done)), H', ⟨by first | omega | exact Nat.le_refl _⟩, by repeat (first | exact Drawn0.refl _ | apply Drawn0.step)⟩
   ·rw [if_neg c4] at H; have c4b0 : decide (103 ≤ a0) = false := decide_eq_false c4; clear c4; by_cases c7 : a0 = 192
    ·rw [if_pos c7] at H; have c7b0 : (a0 == 192) = true := beq_iff_eq.mpr c7; have c7b1 : (a0 != 192) = false := bne_eq_false_iff_eq.mpr c7; clear c7; have H' := Aside0.mk H; clear H; go_wp2; go_meet; case rel => exact ⟨_, (true), (by first | rfl | (simp; done) | (simp [*]; done)), H', ⟨by first | omega | exact Nat.le_refl _⟩, by repeat (first | exact Drawn0.refl _ | apply Drawn0.step)⟩
    ·rw [if_neg c7] at H; have c7b0 : (a0 == 192) = false := beq_eq_false_iff_ne.mpr c7; have c7b1 : (a0 != 192) = true := bne_iff_ne.mpr c7; have H' := Aside0.mk H; clear H; go_wp2; go_meet; case rel => exact ⟨_, ((a0 == 193)), (by first | rfl | (simp; done) | (simp [*]; done)), H', ⟨by first | omega | exact Nat.le_refl _⟩, by repeat (first | exact Drawn0.refl _ | apply Drawn0.step)⟩
 case rest =>
  clear HC2; (try clear c2); (try clear p2); (try clear c3 c3b0 c3b1); (try clear c4 c4b0); (try clear c5 c5b0); (try clear c6 c6b0 c6b1); (try clear c7 c7b0 c7b1); obtain ⟨kq, x5_1, rfl, HA, HJ1, ⟨mc1, rfl⟩⟩ := hcut; cases kq with
  | zero => exact absurd HA.out (by simp [num_Sig.j0])
  | succ kj1 =>
   have H := HA.out; clear HA; simp only [num_Sig.j0] at H; by_cases c8 : x5_1 = true
   ·subst c8; have H1 : (some (1, 127, 127)) = some (r1, r2, r3) := by rw [if_pos rfl] at H; exact H
    clear H; have H := H1; clear H1; simp only [Option.some.injEq, Prod.mk.injEq] at H; obtain ⟨rfl, rfl, rfl⟩ := H; go_wp2
    go_ret3
    exact ⟨by first | rfl | (simp; done) | (simp [*]; done), by repeat (first | exact Drawn0.refl _ | apply Drawn0.step)⟩
   ·replace c8 := Bool.eq_false_iff.mpr c8; subst c8; have H1 : (if a0 = 80 then (num_Sig.j1 kj1 a0 true) else (num_Sig.j1 kj1 a0 (a0 == 167))) = some (r1, r2, r3) := by rw [if_neg (show ¬ (false = true) by decide)] at H; exact H
    clear H; have H := H1; clear H1; have HC9 := Aside0.mk H; clear H; go_upto_region 3 with (fail)
    go_cut [24] (fun v24 wc => ∃ (kq : Nat) (x24_8 : Bool), v24 = .bool x24_8 ∧ Aside0 (num_Sig.j1 kq a0 x24_8 = some (r1, r2, r3)) ∧ Aside0 (kq ≤ kj1) ∧ Drawn0 w wc)
    case first =>
     have H := HC9.out; clear HC9; by_cases c10 : a0 = 80
     ·rw [if_pos c10] at H; have c10b0 : (a0 == 80) = true := beq_iff_eq.mpr c10; have c10b1 : (a0 != 80) = false := bne_eq_false_iff_eq.mpr c10; clear c10; (first | rw [c10b0] | (simp only [i64_w, i32_w]; rw [c10b0]) | skip); have H' := Aside0.mk H; clear H; go_wp2; go_meet; case rel => exact ⟨_, (true), (by first | rfl | (simp; done) | (simp [*]; done)), H', ⟨by have := HJ1.out; first | omega | exact Nat.le_refl _⟩, by repeat (first | exact Drawn0.refl _ | apply Drawn0.step)⟩
     ·rw [if_neg c10] at H; have c10b0 : (a0 == 80) = false := beq_eq_false_iff_ne.mpr c10; have c10b1 : (a0 != 80) = true := bne_iff_ne.mpr c10; (first | rw [c10b0] | (simp only [i64_w, i32_w]; rw [c10b0]) | skip); have H' := Aside0.mk H; clear H; go_wp2; go_meet; case rel => exact ⟨_, ((a0 == 167)), (by first | rfl | (simp; done) | (simp [*]; done)), H', ⟨by have := HJ1.out; first | omega | exact Nat.le_refl _⟩, by repeat (first | exact Drawn0.refl _ | apply Drawn0.step)⟩
    case rest =>
     clear HC9; (try clear c1); (try clear c2); (try clear p2 p2); (try clear c3 c3b0 c3b1); (try clear c4 c4b0); (try clear c5 c5b0); (try clear c6 c6b0 c6b1); (try clear c7 c7b0 c7b1); (try clear c8); (try clear c10 c10b0 c10b1); obtain ⟨kq, x24_8, rfl, HA, HJ8, ⟨mc8, rfl⟩⟩ := hcut; cases kq with
     | zero => exact absurd HA.out (by simp [num_Sig.j1])
     | succ kj8 =>
      have H := HA.out; clear HA; simp only [num_Sig.j1] at H; by_cases c11 : x24_8 = true
      ·subst c11; have H1 : (some (1, 126, 127)) = some (r1, r2, r3) := by rw [if_pos rfl] at H; exact H
       clear H; have H := H1; clear H1; simp only [Option.some.injEq, Prod.mk.injEq] at H; obtain ⟨rfl, rfl, rfl⟩ := H; go_wp2
       go_ret3
       exact ⟨by first | rfl | (simp; done) | (simp [*]; done), by repeat (first | exact Drawn0.refl _ | apply Drawn0.step)⟩
      ·replace c11 := Bool.eq_false_iff.mpr c11; subst c11; have H1 : (if a0 ≥ 121 then (if a0 < 124 then (num_Sig.j2 kj8 a0 true) else (if a0 ≥ 194 then (num_Sig.j2 kj8 a0 (decide (a0 ≤ 196))) else (num_Sig.j2 kj8 a0 false))) else (if a0 ≥ 194 then (num_Sig.j2 kj8 a0 (decide (a0 ≤ 196))) else (num_Sig.j2 kj8 a0 false))) = some (r1, r2, r3) := by rw [if_neg (show ¬ (false = true) by decide)] at H; exact H
       clear H; have H := H1; clear H1; have HC12 := Aside0.mk H; clear H; go_upto_region 5 with (fail)
       go_cut [31] (fun v31 wc => ∃ (kq : Nat) (x31_11 : Bool), v31 = .bool x31_11 ∧ Aside0 (num_Sig.j2 kq a0 x31_11 = some (r1, r2, r3)) ∧ Aside0 (kq ≤ kj8) ∧ Drawn0 w wc)
       case first =>
        have H := HC12.out; clear HC12; by_cases c13 : a0 ≥ 121
        ·rw [if_pos c13] at H; have c13b0 : decide (121 ≤ a0) = true := decide_eq_true c13; clear c13; (first | rw [c13b0] | (simp only [i64_w, i32_w]; rw [c13b0]) | skip); by_cases c14 : a0 < 124
         ·rw [if_pos c14] at H; have c14b0 : decide (a0 < 124) = true := decide_eq_true c14; clear c14; have H' := Aside0.mk H; clear H; go_wp2; go_meet; case rel => exact ⟨_, (true), (by first | rfl | (simp; done) | (simp [*]; done)), H', ⟨by have := HJ1.out; have := HJ8.out; first | omega | exact Nat.le_refl _⟩, by repeat (first | exact Drawn0.refl _ | apply Drawn0.step)⟩
         ·rw [if_neg c14] at H; have c14b0 : decide (a0 < 124) = false := decide_eq_false c14; clear c14; by_cases c15 : a0 ≥ 194
          ·rw [if_pos c15] at H; have c15b0 : decide (194 ≤ a0) = true := decide_eq_true c15; clear c15; have H' := Aside0.mk H; clear H; go_wp2; go_meet; case rel => exact ⟨_, (decide (a0 ≤ 196)), (by first | rfl | (simp; done) | (simp [*]; done)), H', ⟨by have := HJ1.out; have := HJ8.out; first | omega | exact Nat.le_refl _⟩, by repeat (first | exact Drawn0.refl _ | apply Drawn0.step)⟩
          ·rw [if_neg c15] at H; have c15b0 : decide (194 ≤ a0) = false := decide_eq_false c15; clear c15; have H' := Aside0.mk H; clear H; go_wp2; go_meet; case rel => exact ⟨_, (false), (by first | rfl | (simp; done) | (simp [*]; done)), H', ⟨by have := HJ1.out; have := HJ8.out; first | omega | exact Nat.le_refl _⟩, by repeat (first | exact Drawn0.refl _ | apply Drawn0.step)⟩
        ·rw [if_neg c13] at H; have c13b0 : decide (121 ≤ a0) = false := decide_eq_false c13; clear c13; (first | rw [c13b0] | (simp only [i64_w, i32_w]; rw [c13b0]) | skip); by_cases c16 : a0 ≥ 194
         ·rw [if_pos c16] at H; have c16b0 : decide (194 ≤ a0) = true := decide_eq_true c16; clear c16; have H' := Aside0.mk H; clear H; go_wp2; go_meet; case rel => exact ⟨_, (decide (a0 ≤ 196)), (by first | rfl | (simp; done) | (simp [*]; done)), H', ⟨by have := HJ1.out; have := HJ8.out; first | omega | exact Nat.le_refl _⟩, by repeat (first | exact Drawn0.refl _ | apply Drawn0.step)⟩
         ·rw [if_neg c16] at H; have c16b0 : decide (194 ≤ a0) = false := decide_eq_false c16; clear c16; have H' := Aside0.mk H; clear H; go_wp2; go_meet; case rel => exact ⟨_, (false), (by first | rfl | (simp; done) | (simp [*]; done)), H', ⟨by have := HJ1.out; have := HJ8.out; first | omega | exact Nat.le_refl _⟩, by repeat (first | exact Drawn0.refl _ | apply Drawn0.step)⟩
       case rest =>
        clear HC12; (try clear c1); (try clear c2); (try clear p2 p2); (try clear c3 c3b0 c3b1); (try clear c4 c4b0); (try clear c5 c5b0); (try clear c6 c6b0 c6b1); (try clear c7 c7b0 c7b1); (try clear c8); (try clear c10 c10b0 c10b1); (try clear c11); (try clear c13 c13b0); (try clear c14 c14b0); (try clear c15 c15b0); (try clear c16 c16b0); obtain ⟨kq, x31_11, rfl, HA, HJ11, ⟨mc11, rfl⟩⟩ := hcut; cases kq with
        | zero => exact absurd HA.out (by simp [num_Sig.j2])
        | succ kj11 =>
         have H := HA.out; clear HA; simp only [num_Sig.j2] at H; by_cases c17 : x31_11 = true
         ·subst c17; have H1 : (some (1, 126, 126)) = some (r1, r2, r3) := by rw [if_pos rfl] at H; exact H
          clear H; have H := H1; clear H1; simp only [Option.some.injEq, Prod.mk.injEq] at H; obtain ⟨rfl, rfl, rfl⟩ := H; go_wp2
          go_ret3
          exact ⟨by first | rfl | (simp; done) | (simp [*]; done), by repeat (first | exact Drawn0.refl _ | apply Drawn0.step)⟩
         ·replace c17 := Bool.eq_false_iff.mpr c17; subst c17; have H1 : (if a0 = 172 then (num_Sig.j3 kj11 a0 true) else (num_Sig.j3 kj11 a0 (a0 == 173))) = some (r1, r2, r3) := by rw [if_neg (show ¬ (false = true) by decide)] at H; exact H
          clear H; have H := H1; clear H1; have HC18 := Aside0.mk H; clear H; go_upto_region 7 with (fail)
          go_cut [46] (fun v46 wc => ∃ (kq : Nat) (x46_17 : Bool), v46 = .bool x46_17 ∧ Aside0 (num_Sig.j3 kq a0 x46_17 = some (r1, r2, r3)) ∧ Aside0 (kq ≤ kj11) ∧ Drawn0 w wc)
          case first =>
           have H := HC18.out; clear HC18; by_cases c19 : a0 = 172
           ·rw [if_pos c19] at H; have c19b0 : (a0 == 172) = true := beq_iff_eq.mpr c19; have c19b1 : (a0 != 172) = false := bne_eq_false_iff_eq.mpr c19; clear c19; (first | rw [c19b0] | (simp only [i64_w, i32_w]; rw [c19b0]) | skip); have H' := Aside0.mk H; clear H; go_wp2; go_meet; case rel => exact ⟨_, (true), (by first | rfl | (simp; done) | (simp [*]; done)), H', ⟨by have := HJ1.out; have := HJ8.out; have := HJ11.out; first | omega | exact Nat.le_refl _⟩, by repeat (first | exact Drawn0.refl _ | apply Drawn0.step)⟩
           ·rw [if_neg c19] at H; have c19b0 : (a0 == 172) = false := beq_eq_false_iff_ne.mpr c19; have c19b1 : (a0 != 172) = true := bne_iff_ne.mpr c19; (first | rw [c19b0] | (simp only [i64_w, i32_w]; rw [c19b0]) | skip); have H' := Aside0.mk H; clear H; go_wp2; go_meet; case rel => exact ⟨_, ((a0 == 173)), (by first | rfl | (simp; done) | (simp [*]; done)), H', ⟨by have := HJ1.out; have := HJ8.out; have := HJ11.out; first | omega | exact Nat.le_refl _⟩, by repeat (first | exact Drawn0.refl _ | apply Drawn0.step)⟩
          case rest =>
           clear HC18; (try clear c1); (try clear c2); (try clear p2 p2); (try clear c3 c3b0 c3b1); (try clear c4 c4b0); (try clear c5 c5b0); (try clear c6 c6b0 c6b1); (try clear c7 c7b0 c7b1); (try clear c8); (try clear c10 c10b0 c10b1); (try clear c11); (try clear c13 c13b0); (try clear c14 c14b0); (try clear c15 c15b0); (try clear c16 c16b0); (try clear c17); (try clear c19 c19b0 c19b1); obtain ⟨kq, x46_17, rfl, HA, HJ17, ⟨mc17, rfl⟩⟩ := hcut; cases kq with
           | zero => exact absurd HA.out (by simp [num_Sig.j3])
           | succ kj17 =>
            have H := HA.out; clear HA; simp only [num_Sig.j3] at H; by_cases c20 : x46_17 = true
            ·subst c20; have H1 : (some (1, 127, 126)) = some (r1, r2, r3) := by rw [if_pos rfl] at H; exact H
             clear H; have H := H1; clear H1; simp only [Option.some.injEq, Prod.mk.injEq] at H; obtain ⟨rfl, rfl, rfl⟩ := H; go_wp2
             go_ret3
             exact ⟨by first | rfl | (simp; done) | (simp [*]; done), by repeat (first | exact Drawn0.refl _ | apply Drawn0.step)⟩
            ·replace c20 := Bool.eq_false_iff.mpr c20; subst c20; have H1 : (if a0 ≥ 70 then (if a0 < 80 then (num_Sig.j4 kj17 a0 true) else (if a0 ≥ 106 then (num_Sig.j4 kj17 a0 (decide (a0 < 121))) else (num_Sig.j4 kj17 a0 false))) else (if a0 ≥ 106 then (num_Sig.j4 kj17 a0 (decide (a0 < 121))) else (num_Sig.j4 kj17 a0 false))) = some (r1, r2, r3) := by rw [if_neg (show ¬ (false = true) by decide)] at H; exact H
             clear H; have H := H1; clear H1; have HC21 := Aside0.mk H; clear H; go_upto_region 9 with (fail)
             go_cut [53] (fun v53 wc => ∃ (kq : Nat) (x53_20 : Bool), v53 = .bool x53_20 ∧ Aside0 (num_Sig.j4 kq a0 x53_20 = some (r1, r2, r3)) ∧ Aside0 (kq ≤ kj17) ∧ Drawn0 w wc)
             case first =>
              have H := HC21.out; clear HC21; by_cases c22 : a0 ≥ 70
              ·rw [if_pos c22] at H; have c22b0 : decide (70 ≤ a0) = true := decide_eq_true c22; clear c22; (first | rw [c22b0] | (simp only [i64_w, i32_w]; rw [c22b0]) | skip); by_cases c23 : a0 < 80
               ·rw [if_pos c23] at H; have c23b0 : decide (a0 < 80) = true := decide_eq_true c23; clear c23; have H' := Aside0.mk H; clear H; go_wp2; go_meet; case rel => exact ⟨_, (true), (by first | rfl | (simp; done) | (simp [*]; done)), H', ⟨by have := HJ1.out; have := HJ8.out; have := HJ11.out; have := HJ17.out; first | omega | exact Nat.le_refl _⟩, by repeat (first | exact Drawn0.refl _ | apply Drawn0.step)⟩
               ·rw [if_neg c23] at H; have c23b0 : decide (a0 < 80) = false := decide_eq_false c23; clear c23; by_cases c24 : a0 ≥ 106
                ·rw [if_pos c24] at H; have c24b0 : decide (106 ≤ a0) = true := decide_eq_true c24; clear c24; have H' := Aside0.mk H; clear H; go_wp2; go_meet; case rel => exact ⟨_, (decide (a0 < 121)), (by first | rfl | (simp; done) | (simp [*]; done)), H', ⟨by have := HJ1.out; have := HJ8.out; have := HJ11.out; have := HJ17.out; first | omega | exact Nat.le_refl _⟩, by repeat (first | exact Drawn0.refl _ | apply Drawn0.step)⟩
                ·rw [if_neg c24] at H; have c24b0 : decide (106 ≤ a0) = false := decide_eq_false c24; clear c24; have H' := Aside0.mk H; clear H; go_wp2; go_meet; case rel => exact ⟨_, (false), (by first | rfl | (simp; done) | (simp [*]; done)), H', ⟨by have := HJ1.out; have := HJ8.out; have := HJ11.out; have := HJ17.out; first | omega | exact Nat.le_refl _⟩, by repeat (first | exact Drawn0.refl _ | apply Drawn0.step)⟩
              ·rw [if_neg c22] at H; have c22b0 : decide (70 ≤ a0) = false := decide_eq_false c22; clear c22; (first | rw [c22b0] | (simp only [i64_w, i32_w]; rw [c22b0]) | skip); by_cases c25 : a0 ≥ 106
               ·rw [if_pos c25] at H; have c25b0 : decide (106 ≤ a0) = true := decide_eq_true c25; clear c25; have H' := Aside0.mk H; clear H; go_wp2; go_meet; case rel => exact ⟨_, (decide (a0 < 121)), (by first | rfl | (simp; done) | (simp [*]; done)), H', ⟨by have := HJ1.out; have := HJ8.out; have := HJ11.out; have := HJ17.out; first | omega | exact Nat.le_refl _⟩, by repeat (first | exact Drawn0.refl _ | apply Drawn0.step)⟩
               ·rw [if_neg c25] at H; have c25b0 : decide (106 ≤ a0) = false := decide_eq_false c25; clear c25; have H' := Aside0.mk H; clear H; go_wp2; go_meet; case rel => exact ⟨_, (false), (by first | rfl | (simp; done) | (simp [*]; done)), H', ⟨by have := HJ1.out; have := HJ8.out; have := HJ11.out; have := HJ17.out; first | omega | exact Nat.le_refl _⟩, by repeat (first | exact Drawn0.refl _ | apply Drawn0.step)⟩
             case rest =>
              clear HC21; (try clear c1); (try clear c2); (try clear p2 p2); (try clear c3 c3b0 c3b1); (try clear c4 c4b0); (try clear c5 c5b0); (try clear c6 c6b0 c6b1); (try clear c7 c7b0 c7b1); (try clear c8); (try clear c10 c10b0 c10b1); (try clear c11); (try clear c13 c13b0); (try clear c14 c14b0); (try clear c15 c15b0); (try clear c16 c16b0); (try clear c17); (try clear c19 c19b0 c19b1); (try clear c20); (try clear c22 c22b0); (try clear c23 c23b0); (try clear c24 c24b0); (try clear c25 c25b0); obtain ⟨kq, x53_20, rfl, HA, HJ20, ⟨mc20, rfl⟩⟩ := hcut; cases kq with
              | zero => exact absurd HA.out (by simp [num_Sig.j4])
              | succ kj20 =>
               have H := HA.out; clear HA; simp only [num_Sig.j4] at H; by_cases c26 : x53_20 = true
               ·subst c26; have H1 : (some (2, 127, 127)) = some (r1, r2, r3) := by rw [if_pos rfl] at H; exact H
                clear H; have H := H1; clear H1; simp only [Option.some.injEq, Prod.mk.injEq] at H; obtain ⟨rfl, rfl, rfl⟩ := H; go_wp2
                go_ret3
                exact ⟨by first | rfl | (simp; done) | (simp [*]; done), by repeat (first | exact Drawn0.refl _ | apply Drawn0.step)⟩
               ·replace c26 := Bool.eq_false_iff.mpr c26; subst c26; have H1 : (if a0 ≥ 81 then (num_Sig.j5 kj20 a0 (decide (a0 ≤ 90))) else (num_Sig.j5 kj20 a0 false)) = some (r1, r2, r3) := by rw [if_neg (show ¬ (false = true) by decide)] at H; exact H
                clear H; have H := H1; clear H1; have HC27 := Aside0.mk H; clear H; go_upto_region 11 with (fail)
                go_cut [68] (fun v68 wc => ∃ (kq : Nat) (x68_26 : Bool), v68 = .bool x68_26 ∧ Aside0 (num_Sig.j5 kq a0 x68_26 = some (r1, r2, r3)) ∧ Aside0 (kq ≤ kj20) ∧ Drawn0 w wc)
                case first =>
                 have H := HC27.out; clear HC27; by_cases c28 : a0 ≥ 81
                 ·rw [if_pos c28] at H; have c28b0 : decide (81 ≤ a0) = true := decide_eq_true c28; clear c28; (first | rw [c28b0] | (simp only [i64_w, i32_w]; rw [c28b0]) | skip); have H' := Aside0.mk H; clear H; go_wp2; go_meet; case rel => exact ⟨_, (decide (a0 ≤ 90)), (by first | rfl | (simp; done) | (simp [*]; done)), H', ⟨by have := HJ1.out; have := HJ8.out; have := HJ11.out; have := HJ17.out; have := HJ20.out; first | omega | exact Nat.le_refl _⟩, by repeat (first | exact Drawn0.refl _ | apply Drawn0.step)⟩
                 ·rw [if_neg c28] at H; have c28b0 : decide (81 ≤ a0) = false := decide_eq_false c28; clear c28; (first | rw [c28b0] | (simp only [i64_w, i32_w]; rw [c28b0]) | skip); have H' := Aside0.mk H; clear H; go_wp2; go_meet; case rel => exact ⟨_, (false), (by first | rfl | (simp; done) | (simp [*]; done)), H', ⟨by have := HJ1.out; have := HJ8.out; have := HJ11.out; have := HJ17.out; have := HJ20.out; first | omega | exact Nat.le_refl _⟩, by repeat (first | exact Drawn0.refl _ | apply Drawn0.step)⟩
                case rest =>
                 clear HC27; (try clear c1); (try clear c2); (try clear p2 p2); (try clear c3 c3b0 c3b1); (try clear c4 c4b0); (try clear c5 c5b0); (try clear c6 c6b0 c6b1); (try clear c7 c7b0 c7b1); (try clear c8); (try clear c10 c10b0 c10b1); (try clear c11); (try clear c13 c13b0); (try clear c14 c14b0); (try clear c15 c15b0); (try clear c16 c16b0); (try clear c17); (try clear c19 c19b0 c19b1); (try clear c20); (try clear c22 c22b0); (try clear c23 c23b0); (try clear c24 c24b0); (try clear c25 c25b0); (try clear c26); (try clear c28 c28b0); obtain ⟨kq, x68_26, rfl, HA, HJ26, ⟨mc26, rfl⟩⟩ := hcut; cases kq with
                 | zero => exact absurd HA.out (by simp [num_Sig.j5])
                 | succ kj26 =>
                  have H := HA.out; clear HA; simp only [num_Sig.j5] at H; by_cases c29 : x68_26 = true
                  ·subst c29; have H1 : (some (2, 126, 127)) = some (r1, r2, r3) := by rw [if_pos rfl] at H; exact H
                   clear H; have H := H1; clear H1; simp only [Option.some.injEq, Prod.mk.injEq] at H; obtain ⟨rfl, rfl, rfl⟩ := H; go_wp2
                   go_ret3
                   exact ⟨by first | rfl | (simp; done) | (simp [*]; done), by repeat (first | exact Drawn0.refl _ | apply Drawn0.step)⟩
                  ·replace c29 := Bool.eq_false_iff.mpr c29; subst c29; have H1 : (if a0 ≥ 124 then (if a0 ≤ 138 then (some (2, 126, 126)) else (some (0, 0, 0))) else (some (0, 0, 0))) = some (r1, r2, r3) := by rw [if_neg (show ¬ (false = true) by decide)] at H; exact H
                   clear H; have H := H1; clear H1; by_cases c30 : a0 ≥ 124
                   ·rw [if_pos c30] at H; have c30b0 : decide (124 ≤ a0) = true := decide_eq_true c30; clear c30; by_cases c31 : a0 ≤ 138
                    ·rw [if_pos c31] at H; have c31b0 : decide (a0 ≤ 138) = true := decide_eq_true c31; clear c31; simp only [Option.some.injEq, Prod.mk.injEq] at H; obtain ⟨rfl, rfl, rfl⟩ := H; go_wp2
                     go_ret3
                     exact ⟨by first | rfl | (simp; done) | (simp [*]; done), by repeat (first | exact Drawn0.refl _ | apply Drawn0.step)⟩
                    ·rw [if_neg c31] at H; have c31b0 : decide (a0 ≤ 138) = false := decide_eq_false c31; clear c31; simp only [Option.some.injEq, Prod.mk.injEq] at H; obtain ⟨rfl, rfl, rfl⟩ := H; go_wp2
                     go_ret3
                     exact ⟨by first | rfl | (simp; done) | (simp [*]; done), by repeat (first | exact Drawn0.refl _ | apply Drawn0.step)⟩
                   ·rw [if_neg c30] at H; have c30b0 : decide (124 ≤ a0) = false := decide_eq_false c30; clear c30; simp only [Option.some.injEq, Prod.mk.injEq] at H; obtain ⟨rfl, rfl, rfl⟩ := H; go_wp2
                    go_ret3
                    exact ⟨by first | rfl | (simp; done) | (simp [*]; done), by repeat (first | exact Drawn0.refl _ | apply Drawn0.step)⟩
mutual
def instr_float.j0 : Nat → Int → Bool → Option (Bool)
 | 0, _, _ => none
 | k + 1, x0, x3 => if x3 = true then (some true) else (if x0 ≥ 139 then (instr_float.j1 k x0 (decide (x0 ≤ 166))) else (instr_float.j1 k x0 false))
def instr_float.j1 : Nat → Int → Bool → Option (Bool)
 | 0, _, _ => none
 | k + 1, x0, x3 => if x3 = true then (some true) else (if x0 ≥ 168 then (instr_float.j2 k x0 (decide (x0 ≤ 171))) else (instr_float.j2 k x0 false))
def instr_float.j2 : Nat → Int → Bool → Option (Bool)
 | 0, _, _ => none
 | k + 1, x0, x3 => if x3 = true then (some true) else (if x0 ≥ 174 then (instr_float.j3 k x0 (decide (x0 ≤ 191))) else (instr_float.j3 k x0 false))
def instr_float.j3 : Nat → Int → Bool → Option (Bool)
 | 0, _, _ => none
 | k + 1, x0, x3 => if x3 = true then (some true) else (if x0 ≥ 64512 then (if x0 ≤ 64519 then (some true) else (some false)) else (some false))
end
def instr_float.f (k : Nat) (a0 : Int) : Option (Bool) := if a0 = 42 then (some true) else (if a0 = 43 then (some true) else (if a0 = 56 then (some true) else (if a0 = 57 then (some true) else (if a0 = 67 then (some true) else (if a0 = 68 then (some true) else (if a0 ≥ 91 then (instr_float.j0 k a0 (decide (a0 ≤ 102))) else (instr_float.j0 k a0 false)))))))
theorem instr_float.mono_l : ∀ k, (∀ y0 y1, LeO (instr_float.j0 k y0 y1) (instr_float.j0 (k + 1) y0 y1)) ∧ (∀ y0 y1, LeO (instr_float.j1 k y0 y1) (instr_float.j1 (k + 1) y0 y1)) ∧ (∀ y0 y1, LeO (instr_float.j2 k y0 y1) (instr_float.j2 (k + 1) y0 y1)) ∧ (∀ y0 y1, LeO (instr_float.j3 k y0 y1) (instr_float.j3 (k + 1) y0 y1))
 | 0 => ⟨fun _ _ r h => by simp [instr_float.j0] at h, fun _ _ r h => by simp [instr_float.j1] at h, fun _ _ r h => by simp [instr_float.j2] at h, fun _ _ r h => by simp [instr_float.j3] at h⟩
 | k + 1 => by
  obtain ⟨ih0, ih1, ih2, ih3⟩ := instr_float.mono_l k; refine ⟨?_, ?_, ?_, ?_⟩
  ·intro y0 y1; unfold instr_float.j0; repeat' first
   | (with_reducible exact ih0 _ _)
   | (with_reducible exact ih1 _ _)
   | (with_reducible exact ih2 _ _)
   | (with_reducible exact ih3 _ _)
   | (with_reducible exact LeO.refl _)
   | (with_reducible exact LeO.none _)
   | (with_reducible refine LeO.ite ?_ ?_)
   | (with_reducible refine LeO.bind ?_ (fun _ => ?_))
   | exact ih0 _ _
   | exact ih1 _ _
   | exact ih2 _ _
   | exact ih3 _ _
   | exact LeO.none _
   | refine LeO.ite ?_ ?_
   | refine LeO.bind ?_ (fun _ => ?_)
  ·intro y0 y1; unfold instr_float.j1; repeat' first
   | (with_reducible exact ih0 _ _)
   | (with_reducible exact ih1 _ _)
   | (with_reducible exact ih2 _ _)
   | (with_reducible exact ih3 _ _)
   | (with_reducible exact LeO.refl _)
   | (with_reducible exact LeO.none _)
   | (with_reducible refine LeO.ite ?_ ?_)
   | (with_reducible refine LeO.bind ?_ (fun _ => ?_))
   | exact ih0 _ _
   | exact ih1 _ _
   | exact ih2 _ _
   | exact ih3 _ _
   | exact LeO.none _
   | refine LeO.ite ?_ ?_
   | refine LeO.bind ?_ (fun _ => ?_)
  ·intro y0 y1; unfold instr_float.j2; repeat' first
   | (with_reducible exact ih0 _ _)
   | (with_reducible exact ih1 _ _)
   | (with_reducible exact ih2 _ _)
   | (with_reducible exact ih3 _ _)
   | (with_reducible exact LeO.refl _)
   | (with_reducible exact LeO.none _)
   | (with_reducible refine LeO.ite ?_ ?_)
   | (with_reducible refine LeO.bind ?_ (fun _ => ?_))
   | exact ih0 _ _
   | exact ih1 _ _
   | exact ih2 _ _
   | exact ih3 _ _
   | exact LeO.none _
   | refine LeO.ite ?_ ?_
   | refine LeO.bind ?_ (fun _ => ?_)
  ·intro y0 y1; unfold instr_float.j3; repeat' first
   | (with_reducible exact ih0 _ _)
   | (with_reducible exact ih1 _ _)
   | (with_reducible exact ih2 _ _)
   | (with_reducible exact ih3 _ _)
   | (with_reducible exact LeO.refl _)
   | (with_reducible exact LeO.none _)
   | (with_reducible refine LeO.ite ?_ ?_)
   | (with_reducible refine LeO.bind ?_ (fun _ => ?_))
   | exact ih0 _ _
   | exact ih1 _ _
   | exact ih2 _ _
   | exact ih3 _ _
   | exact LeO.none _
   | refine LeO.ite ?_ ?_
   | refine LeO.bind ?_ (fun _ => ?_)
theorem instr_float.mono : ∀ a0 k, LeO (instr_float.f k a0) (instr_float.f (k + 1) a0) := by
 intro a0 k; obtain ⟨ih0, ih1, ih2, ih3⟩ := instr_float.mono_l k; unfold instr_float.f; repeat' first
  | (with_reducible exact ih0 _ _)
  | (with_reducible exact ih1 _ _)
  | (with_reducible exact ih2 _ _)
  | (with_reducible exact ih3 _ _)
  | (with_reducible exact LeO.refl _)
  | (with_reducible exact LeO.none _)
  | (with_reducible refine LeO.ite ?_ ?_)
  | (with_reducible refine LeO.bind ?_ (fun _ => ?_))
  | exact ih0 _ _
  | exact ih1 _ _
  | exact ih2 _ _
  | exact ih3 _ _
  | exact LeO.none _
  | refine LeO.ite ?_ ?_
  | refine LeO.bind ?_ (fun _ => ?_)
set_option maxHeartbeats 8000000 in
set_option maxRecDepth 100000 in
theorem instr_float.calls (k : Nat) (a0 : Int) (r : Bool) (w : World) (h : instr_float.f k a0 = some r) :
 Calls Try.prog 24 #[.int .i64 a0] w fun e w' => e = .returned (.bool r) ∧ Drawn0 w w' := by
 have H : (if a0 = 42 then (some true) else (if a0 = 43 then (some true) else (if a0 = 56 then (some true) else (if a0 = 57 then (some true) else (if a0 = 67 then (some true) else (if a0 = 68 then (some true) else (if a0 ≥ 91 then (instr_float.j0 k a0 (decide (a0 ≤ 102))) else (instr_float.j0 k a0 false)))))))) = some r := h; clear h; by_cases c2 : a0 = 42
 ·rw [if_pos c2] at H; have c2b0 : (a0 == 42) = true := beq_iff_eq.mpr c2; have c2b1 : (a0 != 42) = false := bne_eq_false_iff_eq.mpr c2; clear c2; obtain rfl := Option.some.inj H; go_enter Try.func24, Try.ntmps24; go_wp2
  go_ret
  exact ⟨by first | rfl | (simp; done) | (simp [*]; done), by repeat (first | exact Drawn0.refl _ | apply Drawn0.step)⟩
 ·rw [if_neg c2] at H; have c2b0 : (a0 == 42) = false := beq_eq_false_iff_ne.mpr c2; have c2b1 : (a0 != 42) = true := bne_iff_ne.mpr c2; by_cases c3 : a0 = 43
  ·rw [if_pos c3] at H; have c3b0 : (a0 == 43) = true := beq_iff_eq.mpr c3; have c3b1 : (a0 != 43) = false := bne_eq_false_iff_eq.mpr c3; clear c3; obtain rfl := Option.some.inj H; go_enter Try.func24, Try.ntmps24; go_wp2
   go_ret
   exact ⟨by first | rfl | (simp; done) | (simp [*]; done), by repeat (first | exact Drawn0.refl _ | apply Drawn0.step)⟩
  ·rw [if_neg c3] at H; have c3b0 : (a0 == 43) = false := beq_eq_false_iff_ne.mpr c3; have c3b1 : (a0 != 43) = true := bne_iff_ne.mpr c3; by_cases c4 : a0 = 56
   ·rw [if_pos c4] at H; have c4b0 : (a0 == 56) = true := beq_iff_eq.mpr c4; have c4b1 : (a0 != 56) = false := bne_eq_false_iff_eq.mpr c4; clear c4; obtain rfl := Option.some.inj H; go_enter Try.func24, Try.ntmps24; go_wp2
    go_ret
    exact ⟨by first | rfl | (simp; done) | (simp [*]; done), by repeat (first | exact Drawn0.refl _ | apply Drawn0.step)⟩
   ·rw [if_neg c4] at H; have c4b0 : (a0 == 56) = false := beq_eq_false_iff_ne.mpr c4; have c4b1 : (a0 != 56) = true := bne_iff_ne.mpr c4; by_cases c5 : a0 = 57
    ·rw [if_pos c5] at H; have c5b0 : (a0 == 57) = true := beq_iff_eq.mpr c5; have c5b1 : (a0 != 57) = false := bne_eq_false_iff_eq.mpr c5; clear c5; obtain rfl := Option.some.inj H; go_enter Try.func24, Try.ntmps24; go_wp2
     go_ret
     exact ⟨by first | rfl | (simp; done) | (simp [*]; done), by repeat (first | exact Drawn0.refl _ | apply Drawn0.step)⟩
    ·rw [if_neg c5] at H; have c5b0 : (a0 == 57) = false := beq_eq_false_iff_ne.mpr c5; have c5b1 : (a0 != 57) = true := bne_iff_ne.mpr c5; by_cases c6 : a0 = 67
     ·rw [if_pos c6] at H; have c6b0 : (a0 == 67) = true := beq_iff_eq.mpr c6; have c6b1 : (a0 != 67) = false := bne_eq_false_iff_eq.mpr c6; clear c6; obtain rfl := Option.some.inj H; go_enter Try.func24, Try.ntmps24; go_wp2
      go_ret
      exact ⟨by first | rfl | (simp; done) | (simp [*]; done), by repeat (first | exact Drawn0.refl _ | apply Drawn0.step)⟩
     ·rw [if_neg c6] at H; have c6b0 : (a0 == 67) = false := beq_eq_false_iff_ne.mpr c6; have c6b1 : (a0 != 67) = true := bne_iff_ne.mpr c6; by_cases c7 : a0 = 68
      ·rw [if_pos c7] at H; have c7b0 : (a0 == 68) = true := beq_iff_eq.mpr c7; have c7b1 : (a0 != 68) = false := bne_eq_false_iff_eq.mpr c7; clear c7; obtain rfl := Option.some.inj H; go_enter Try.func24, Try.ntmps24; go_wp2
       go_ret
       exact ⟨by first | rfl | (simp; done) | (simp [*]; done), by repeat (first | exact Drawn0.refl _ | apply Drawn0.step)⟩
      ·rw [if_neg c7] at H; have c7b0 : (a0 == 68) = false := beq_eq_false_iff_ne.mpr c7; have c7b1 : (a0 != 68) = true := bne_iff_ne.mpr c7; have HC8 := Aside0.mk H; clear H; go_enter Try.func24, Try.ntmps24; go_upto_region 7 with (fail)
       go_cut [3] (fun v3 wc => ∃ (kq : Nat) (x3_7 : Bool), v3 = .bool x3_7 ∧ Aside0 (instr_float.j0 kq a0 x3_7 = some r) ∧ Aside0 (kq ≤ k) ∧ Drawn0 w wc)
       case first =>
        have H := HC8.out; clear HC8; by_cases c9 : a0 ≥ 91
        ·rw [if_pos c9] at H; have c9b0 : decide (91 ≤ a0) = true := decide_eq_true c9; clear c9; (first | rw [c9b0] | (simp only [i64_w, i32_w]; rw [c9b0]) | skip); have H' := Aside0.mk H; clear H; go_wp2; go_meet; case rel => exact ⟨_, (decide (a0 ≤ 102)), (by first | rfl | (simp; done) | (simp [*]; done)), H', ⟨by first | omega | exact Nat.le_refl _⟩, by repeat (first | exact Drawn0.refl _ | apply Drawn0.step)⟩
        ·rw [if_neg c9] at H; have c9b0 : decide (91 ≤ a0) = false := decide_eq_false c9; clear c9; (first | rw [c9b0] | (simp only [i64_w, i32_w]; rw [c9b0]) | skip); have H' := Aside0.mk H; clear H; go_wp2; go_meet; case rel => exact ⟨_, (false), (by first | rfl | (simp; done) | (simp [*]; done)), H', ⟨by first | omega | exact Nat.le_refl _⟩, by repeat (first | exact Drawn0.refl _ | apply Drawn0.step)⟩
       case rest =>
        clear HC8; (try clear c2 c2b0 c2b1); (try clear p2); (try clear c3 c3b0 c3b1); (try clear c4 c4b0 c4b1); (try clear c5 c5b0 c5b1); (try clear c6 c6b0 c6b1); (try clear c7 c7b0 c7b1); (try clear c9 c9b0); obtain ⟨kq, x3_7, rfl, HA, HJ7, ⟨mc7, rfl⟩⟩ := hcut; cases kq with
        | zero => exact absurd HA.out (by simp [instr_float.j0])
        | succ kj7 =>
         have H := HA.out; clear HA; simp only [instr_float.j0] at H; by_cases c10 : x3_7 = true
         ·subst c10; have H1 : (some true) = some r := by rw [if_pos rfl] at H; exact H
          clear H; have H := H1; clear H1; obtain rfl := Option.some.inj H; go_wp2
          go_ret
          exact ⟨by first | rfl | (simp; done) | (simp [*]; done), by repeat (first | exact Drawn0.refl _ | apply Drawn0.step)⟩
         ·replace c10 := Bool.eq_false_iff.mpr c10; subst c10; have H1 : (if a0 ≥ 139 then (instr_float.j1 kj7 a0 (decide (a0 ≤ 166))) else (instr_float.j1 kj7 a0 false)) = some r := by rw [if_neg (show ¬ (false = true) by decide)] at H; exact H
          clear H; have H := H1; clear H1; have HC11 := Aside0.mk H; clear H; go_upto_region 8 with (fail)
          go_cut [3] (fun v3 wc => ∃ (kq : Nat) (x3_10 : Bool), v3 = .bool x3_10 ∧ Aside0 (instr_float.j1 kq a0 x3_10 = some r) ∧ Aside0 (kq ≤ kj7) ∧ Drawn0 w wc)
          case first =>
           have H := HC11.out; clear HC11; by_cases c12 : a0 ≥ 139
           ·rw [if_pos c12] at H; have c12b0 : decide (139 ≤ a0) = true := decide_eq_true c12; clear c12; (first | rw [c12b0] | (simp only [i64_w, i32_w]; rw [c12b0]) | skip); have H' := Aside0.mk H; clear H; go_wp2; go_meet; case rel => exact ⟨_, (decide (a0 ≤ 166)), (by first | rfl | (simp; done) | (simp [*]; done)), H', ⟨by have := HJ7.out; first | omega | exact Nat.le_refl _⟩, by repeat (first | exact Drawn0.refl _ | apply Drawn0.step)⟩
           ·rw [if_neg c12] at H; have c12b0 : decide (139 ≤ a0) = false := decide_eq_false c12; clear c12; (first | rw [c12b0] | (simp only [i64_w, i32_w]; rw [c12b0]) | skip); have H' := Aside0.mk H; clear H; go_wp2; go_meet; case rel => exact ⟨_, (false), (by first | rfl | (simp; done) | (simp [*]; done)), H', ⟨by have := HJ7.out; first | omega | exact Nat.le_refl _⟩, by repeat (first | exact Drawn0.refl _ | apply Drawn0.step)⟩
          case rest =>
           clear HC11; (try clear c1); (try clear c2 c2b0 c2b1); (try clear p2 p2); (try clear c3 c3b0 c3b1); (try clear c4 c4b0 c4b1); (try clear c5 c5b0 c5b1); (try clear c6 c6b0 c6b1); (try clear c7 c7b0 c7b1); (try clear c9 c9b0); (try clear c10); (try clear c12 c12b0); obtain ⟨kq, x3_10, rfl, HA, HJ10, ⟨mc10, rfl⟩⟩ := hcut; cases kq with
           | zero => exact absurd HA.out (by simp [instr_float.j1])
           | succ kj10 =>
            have H := HA.out; clear HA; simp only [instr_float.j1] at H; by_cases c13 : x3_10 = true
            ·subst c13; have H1 : (some true) = some r := by rw [if_pos rfl] at H; exact H
             clear H; have H := H1; clear H1; obtain rfl := Option.some.inj H; go_wp2
             go_ret
             exact ⟨by first | rfl | (simp; done) | (simp [*]; done), by repeat (first | exact Drawn0.refl _ | apply Drawn0.step)⟩
            ·replace c13 := Bool.eq_false_iff.mpr c13; subst c13; have H1 : (if a0 ≥ 168 then (instr_float.j2 kj10 a0 (decide (a0 ≤ 171))) else (instr_float.j2 kj10 a0 false)) = some r := by rw [if_neg (show ¬ (false = true) by decide)] at H; exact H
             clear H; have H := H1; clear H1; have HC14 := Aside0.mk H; clear H; go_upto_region 9 with (fail)
             go_cut [3] (fun v3 wc => ∃ (kq : Nat) (x3_13 : Bool), v3 = .bool x3_13 ∧ Aside0 (instr_float.j2 kq a0 x3_13 = some r) ∧ Aside0 (kq ≤ kj10) ∧ Drawn0 w wc)
             case first =>
              have H := HC14.out; clear HC14; by_cases c15 : a0 ≥ 168
              ·rw [if_pos c15] at H; have c15b0 : decide (168 ≤ a0) = true := decide_eq_true c15; clear c15; (first | rw [c15b0] | (simp only [i64_w, i32_w]; rw [c15b0]) | skip); have H' := Aside0.mk H; clear H; go_wp2; go_meet; case rel => exact ⟨_, (decide (a0 ≤ 171)), (by first | rfl | (simp; done) | (simp [*]; done)), H', ⟨by have := HJ7.out; have := HJ10.out; first | omega | exact Nat.le_refl _⟩, by repeat (first | exact Drawn0.refl _ | apply Drawn0.step)⟩
              ·rw [if_neg c15] at H; have c15b0 : decide (168 ≤ a0) = false := decide_eq_false c15; clear c15; (first | rw [c15b0] | (simp only [i64_w, i32_w]; rw [c15b0]) | skip); have H' := Aside0.mk H; clear H; go_wp2; go_meet; case rel => exact ⟨_, (false), (by first | rfl | (simp; done) | (simp [*]; done)), H', ⟨by have := HJ7.out; have := HJ10.out; first | omega | exact Nat.le_refl _⟩, by repeat (first | exact Drawn0.refl _ | apply Drawn0.step)⟩
             case rest =>
              clear HC14; (try clear c1); (try clear c2 c2b0 c2b1); (try clear p2 p2); (try clear c3 c3b0 c3b1); (try clear c4 c4b0 c4b1); (try clear c5 c5b0 c5b1); (try clear c6 c6b0 c6b1); (try clear c7 c7b0 c7b1); (try clear c9 c9b0); (try clear c10); (try clear c12 c12b0); (try clear c13); (try clear c15 c15b0); obtain ⟨kq, x3_13, rfl, HA, HJ13, ⟨mc13, rfl⟩⟩ := hcut; cases kq with
              | zero => exact absurd HA.out (by simp [instr_float.j2])
              | succ kj13 =>
               have H := HA.out; clear HA; simp only [instr_float.j2] at H; by_cases c16 : x3_13 = true
               ·subst c16; have H1 : (some true) = some r := by rw [if_pos rfl] at H; exact H
                clear H; have H := H1; clear H1; obtain rfl := Option.some.inj H; go_wp2
                go_ret
                exact ⟨by first | rfl | (simp; done) | (simp [*]; done), by repeat (first | exact Drawn0.refl _ | apply Drawn0.step)⟩
               ·replace c16 := Bool.eq_false_iff.mpr c16; subst c16; have H1 : (if a0 ≥ 174 then (instr_float.j3 kj13 a0 (decide (a0 ≤ 191))) else (instr_float.j3 kj13 a0 false)) = some r := by rw [if_neg (show ¬ (false = true) by decide)] at H; exact H
                clear H; have H := H1; clear H1; have HC17 := Aside0.mk H; clear H; go_upto_region 10 with (fail)
                go_cut [3] (fun v3 wc => ∃ (kq : Nat) (x3_16 : Bool), v3 = .bool x3_16 ∧ Aside0 (instr_float.j3 kq a0 x3_16 = some r) ∧ Aside0 (kq ≤ kj13) ∧ Drawn0 w wc)
                case first =>
                 have H := HC17.out; clear HC17; by_cases c18 : a0 ≥ 174
                 ·rw [if_pos c18] at H; have c18b0 : decide (174 ≤ a0) = true := decide_eq_true c18; clear c18; (first | rw [c18b0] | (simp only [i64_w, i32_w]; rw [c18b0]) | skip); have H' := Aside0.mk H; clear H; go_wp2; go_meet; case rel => exact ⟨_, (decide (a0 ≤ 191)), (by first | rfl | (simp; done) | (simp [*]; done)), H', ⟨by have := HJ7.out; have := HJ10.out; have := HJ13.out; first | omega | exact Nat.le_refl _⟩, by repeat (first | exact Drawn0.refl _ | apply Drawn0.step)⟩
                 ·rw [if_neg c18] at H; have c18b0 : decide (174 ≤ a0) = false := decide_eq_false c18; clear c18; (first | rw [c18b0] | (simp only [i64_w, i32_w]; rw [c18b0]) | skip); have H' := Aside0.mk H; clear H; go_wp2; go_meet; case rel => exact ⟨_, (false), (by first | rfl | (simp; done) | (simp [*]; done)), H', ⟨by have := HJ7.out; have := HJ10.out; have := HJ13.out; first | omega | exact Nat.le_refl _⟩, by repeat (first | exact Drawn0.refl _ | apply Drawn0.step)⟩
                case rest =>
                 clear HC17; (try clear c1); (try clear c2 c2b0 c2b1); (try clear p2 p2); (try clear c3 c3b0 c3b1); (try clear c4 c4b0 c4b1); (try clear c5 c5b0 c5b1); (try clear c6 c6b0 c6b1); (try clear c7 c7b0 c7b1); (try clear c9 c9b0); (try clear c10); (try clear c12 c12b0); (try clear c13); (try clear c15 c15b0); (try clear c16); (try clear c18 c18b0); obtain ⟨kq, x3_16, rfl, HA, HJ16, ⟨mc16, rfl⟩⟩ := hcut; cases kq with
                 | zero => exact absurd HA.out (by simp [instr_float.j3])
                 | succ kj16 =>
                  have H := HA.out; clear HA; simp only [instr_float.j3] at H; by_cases c19 : x3_16 = true
                  ·subst c19; have H1 : (some true) = some r := by rw [if_pos rfl] at H; exact H
                   clear H; have H := H1; clear H1; obtain rfl := Option.some.inj H; go_wp2
                   go_ret
                   exact ⟨by first | rfl | (simp; done) | (simp [*]; done), by repeat (first | exact Drawn0.refl _ | apply Drawn0.step)⟩
                  ·replace c19 := Bool.eq_false_iff.mpr c19; subst c19; have H1 : (if a0 ≥ 64512 then (if a0 ≤ 64519 then (some true) else (some false)) else (some false)) = some r := by rw [if_neg (show ¬ (false = true) by decide)] at H; exact H
                   clear H; have H := H1; clear H1; by_cases c20 : a0 ≥ 64512
                   ·rw [if_pos c20] at H; have c20b0 : decide (64512 ≤ a0) = true := decide_eq_true c20; clear c20; by_cases c21 : a0 ≤ 64519
                    ·rw [if_pos c21] at H; have c21b0 : decide (a0 ≤ 64519) = true := decide_eq_true c21; clear c21; obtain rfl := Option.some.inj H; go_wp2
                     go_ret
                     exact ⟨by first | rfl | (simp; done) | (simp [*]; done), by repeat (first | exact Drawn0.refl _ | apply Drawn0.step)⟩
                    ·rw [if_neg c21] at H; have c21b0 : decide (a0 ≤ 64519) = false := decide_eq_false c21; clear c21; obtain rfl := Option.some.inj H; go_wp2
                     go_ret
                     exact ⟨by first | rfl | (simp; done) | (simp [*]; done), by repeat (first | exact Drawn0.refl _ | apply Drawn0.step)⟩
                   ·rw [if_neg c20] at H; have c20b0 : decide (64512 ≤ a0) = false := decide_eq_false c20; clear c20; obtain rfl := Option.some.inj H; go_wp2
                    go_ret
                    exact ⟨by first | rfl | (simp; done) | (simp [*]; done), by repeat (first | exact Drawn0.refl _ | apply Drawn0.step)⟩
mutual
def instr_Shape.j0 : Nat → Int → Int → Bool → Option (Int × Int)
 | 0, _, _, _ => none
 | k + 1, x0, x10, x11 => if x11 = true then (some (1, 0)) else (if x10 = 2 then (instr_Shape.j1 k x0 x10 (x10 == 2)) else (if x10 = 3 then (instr_Shape.j1 k x0 x10 (x10 == 3)) else (instr_Shape.j1 k x0 x10 (x10 == 4))))
def instr_Shape.j1 : Nat → Int → Int → Bool → Option (Int × Int)
 | 0, _, _, _ => none
 | k + 1, x0, x10, x18 => if x18 = true then (some (2, 0)) else (if x10 = 12 then (instr_Shape.j2 k x0 x10 (x10 == 12)) else (if x10 = 13 then (instr_Shape.j2 k x0 x10 (x10 == 13)) else (if x10 = 16 then (instr_Shape.j2 k x0 x10 (x10 == 16)) else (if x10 = 32 then (instr_Shape.j2 k x0 x10 (x10 == 32)) else (if x10 = 33 then (instr_Shape.j2 k x0 x10 (x10 == 33)) else (if x10 = 34 then (instr_Shape.j2 k x0 x10 (x10 == 34)) else (if x10 = 35 then (instr_Shape.j2 k x0 x10 (x10 == 35)) else (if x10 = 36 then (instr_Shape.j2 k x0 x10 (x10 == 36)) else (instr_Shape.j2 k x0 x10 (x10 == 210))))))))))
def instr_Shape.j2 : Nat → Int → Int → Bool → Option (Int × Int)
 | 0, _, _, _ => none
 | k + 1, x0, x10, x22 => if x22 = true then (some (3, 0)) else (if x10 = 14 then (some (4, 0)) else (if x10 = 17 then (some (5, 0)) else (if x10 = 28 then (some (6, 0)) else (if x10 = 37 then (instr_Shape.j3 k x0 x10 (x10 == 37)) else (if x10 = 38 then (instr_Shape.j3 k x0 x10 (x10 == 38)) else (if x10 = 63 then (instr_Shape.j3 k x0 x10 (x10 == 63)) else (if x10 = 64 then (instr_Shape.j3 k x0 x10 (x10 == 64)) else (if x10 = 64523 then (instr_Shape.j3 k x0 x10 (x10 == 64523)) else (if x10 = 64527 then (instr_Shape.j3 k x0 x10 (x10 == 64527)) else (if x10 = 64528 then (instr_Shape.j3 k x0 x10 (x10 == 64528)) else (instr_Shape.j3 k x0 x10 (x10 == 64529))))))))))))
def instr_Shape.j3 : Nat → Int → Int → Bool → Option (Int × Int)
 | 0, _, _, _ => none
 | k + 1, x0, x10, x38 => if x38 = true then (some (8, 0)) else (if x10 = 64522 then (instr_Shape.j4 k x0 x10 (x10 == 64522)) else (instr_Shape.j4 k x0 x10 (x10 == 64526)))
def instr_Shape.j4 : Nat → Int → Int → Bool → Option (Int × Int)
 | 0, _, _, _ => none
 | k + 1, x0, x10, x47 => if x47 = true then (some (9, 0)) else (if x10 = 65 then (instr_Shape.j5 k x0 x10 (x10 == 65)) else (instr_Shape.j5 k x0 x10 (x10 == 66)))
def instr_Shape.j5 : Nat → Int → Int → Bool → Option (Int × Int)
 | 0, _, _, _ => none
 | k + 1, x0, x10, x50 => if x50 = true then (some (10, 0)) else (if x10 = 208 then (some (11, 0)) else ((mem_Width.f k x0).bind fun bt101 => (if bt101.1 > 0 then (some (7, 0)) else ((num_Sig.f k x0).bind fun bt104 => (if bt104.1 > 0 then (some (1, 0)) else ((instr_float.f k x0).bind fun t107 => (if t107 = true then (some (0, 3)) else (if x0 = 253 then (some (0, 4)) else (some (0, 5))))))))))
end
def instr_Shape.f (k : Nat) (a0 : Int) : Option (Int × Int) := if a0 = 0 then (instr_Shape.j0 k a0 a0 (a0 == 0)) else (if a0 = 1 then (instr_Shape.j0 k a0 a0 (a0 == 1)) else (if a0 = 15 then (instr_Shape.j0 k a0 a0 (a0 == 15)) else (if a0 = 26 then (instr_Shape.j0 k a0 a0 (a0 == 26)) else (if a0 = 27 then (instr_Shape.j0 k a0 a0 (a0 == 27)) else (instr_Shape.j0 k a0 a0 (a0 == 209))))))
theorem instr_Shape.mono_l : ∀ k, (∀ y0 y1 y2, LeO (instr_Shape.j0 k y0 y1 y2) (instr_Shape.j0 (k + 1) y0 y1 y2)) ∧ (∀ y0 y1 y2, LeO (instr_Shape.j1 k y0 y1 y2) (instr_Shape.j1 (k + 1) y0 y1 y2)) ∧ (∀ y0 y1 y2, LeO (instr_Shape.j2 k y0 y1 y2) (instr_Shape.j2 (k + 1) y0 y1 y2)) ∧ (∀ y0 y1 y2, LeO (instr_Shape.j3 k y0 y1 y2) (instr_Shape.j3 (k + 1) y0 y1 y2)) ∧ (∀ y0 y1 y2, LeO (instr_Shape.j4 k y0 y1 y2) (instr_Shape.j4 (k + 1) y0 y1 y2)) ∧ (∀ y0 y1 y2, LeO (instr_Shape.j5 k y0 y1 y2) (instr_Shape.j5 (k + 1) y0 y1 y2))
 | 0 => ⟨fun _ _ _ r h => by simp [instr_Shape.j0] at h, fun _ _ _ r h => by simp [instr_Shape.j1] at h, fun _ _ _ r h => by simp [instr_Shape.j2] at h, fun _ _ _ r h => by simp [instr_Shape.j3] at h, fun _ _ _ r h => by simp [instr_Shape.j4] at h, fun _ _ _ r h => by simp [instr_Shape.j5] at h⟩
 | k + 1 => by
  obtain ⟨ih0, ih1, ih2, ih3, ih4, ih5⟩ := instr_Shape.mono_l k; refine ⟨?_, ?_, ?_, ?_, ?_, ?_⟩
  ·intro y0 y1 y2; unfold instr_Shape.j0; repeat' first
   | (with_reducible exact ih0 _ _ _)
   | (with_reducible exact ih1 _ _ _)
   | (with_reducible exact ih2 _ _ _)
   | (with_reducible exact ih3 _ _ _)
   | (with_reducible exact ih4 _ _ _)
   | (with_reducible exact ih5 _ _ _)
   | (with_reducible exact instr_float.mono _ _)
   | (with_reducible exact mem_Width.mono _ _)
   | (with_reducible exact num_Sig.mono _ _)
   | (with_reducible exact LeO.refl _)
   | (with_reducible exact LeO.none _)
   | (with_reducible refine LeO.ite ?_ ?_)
   | (with_reducible refine LeO.bind ?_ (fun _ => ?_))
   | exact ih0 _ _ _
   | exact ih1 _ _ _
   | exact ih2 _ _ _
   | exact ih3 _ _ _
   | exact ih4 _ _ _
   | exact ih5 _ _ _
   | exact instr_float.mono _ _
   | exact mem_Width.mono _ _
   | exact num_Sig.mono _ _
   | exact LeO.none _
   | refine LeO.ite ?_ ?_
   | refine LeO.bind ?_ (fun _ => ?_)
  ·intro y0 y1 y2; unfold instr_Shape.j1; repeat' first
   | (with_reducible exact ih0 _ _ _)
   | (with_reducible exact ih1 _ _ _)
   | (with_reducible exact ih2 _ _ _)
   | (with_reducible exact ih3 _ _ _)
   | (with_reducible exact ih4 _ _ _)
   | (with_reducible exact ih5 _ _ _)
   | (with_reducible exact instr_float.mono _ _)
   | (with_reducible exact mem_Width.mono _ _)
   | (with_reducible exact num_Sig.mono _ _)
   | (with_reducible exact LeO.refl _)
   | (with_reducible exact LeO.none _)
   | (with_reducible refine LeO.ite ?_ ?_)
   | (with_reducible refine LeO.bind ?_ (fun _ => ?_))
   | exact ih0 _ _ _
   | exact ih1 _ _ _
   | exact ih2 _ _ _
   | exact ih3 _ _ _
   | exact ih4 _ _ _
   | exact ih5 _ _ _
   | exact instr_float.mono _ _
   | exact mem_Width.mono _ _
   | exact num_Sig.mono _ _
   | exact LeO.none _
   | refine LeO.ite ?_ ?_
   | refine LeO.bind ?_ (fun _ => ?_)
  ·intro y0 y1 y2; unfold instr_Shape.j2; repeat' first
   | (with_reducible exact ih0 _ _ _)
   | (with_reducible exact ih1 _ _ _)
   | (with_reducible exact ih2 _ _ _)
   | (with_reducible exact ih3 _ _ _)
   | (with_reducible exact ih4 _ _ _)
   | (with_reducible exact ih5 _ _ _)
   | (with_reducible exact instr_float.mono _ _)
   | (with_reducible exact mem_Width.mono _ _)
   | (with_reducible exact num_Sig.mono _ _)
   | (with_reducible exact LeO.refl _)
   | (with_reducible exact LeO.none _)
   | (with_reducible refine LeO.ite ?_ ?_)
   | (with_reducible refine LeO.bind ?_ (fun _ => ?_))
   | exact ih0 _ _ _
   | exact ih1 _ _ _
   | exact ih2 _ _ _
   | exact ih3 _ _ _
   | exact ih4 _ _ _
   | exact ih5 _ _ _
   | exact instr_float.mono _ _
   | exact mem_Width.mono _ _
   | exact num_Sig.mono _ _
   | exact LeO.none _
   | refine LeO.ite ?_ ?_
   | refine LeO.bind ?_ (fun _ => ?_)
  ·intro y0 y1 y2; unfold instr_Shape.j3; repeat' first
   | (with_reducible exact ih0 _ _ _)
   | (with_reducible exact ih1 _ _ _)
   | (with_reducible exact ih2 _ _ _)
   | (with_reducible exact ih3 _ _ _)
   | (with_reducible exact ih4 _ _ _)
   | (with_reducible exact ih5 _ _ _)
   | (with_reducible exact instr_float.mono _ _)
   | (with_reducible exact mem_Width.mono _ _)
   | (with_reducible exact num_Sig.mono _ _)
   | (with_reducible exact LeO.refl _)
   | (with_reducible exact LeO.none _)
   | (with_reducible refine LeO.ite ?_ ?_)
   | (with_reducible refine LeO.bind ?_ (fun _ => ?_))
   | exact ih0 _ _ _
   | exact ih1 _ _ _
   | exact ih2 _ _ _
   | exact ih3 _ _ _
   | exact ih4 _ _ _
   | exact ih5 _ _ _
   | exact instr_float.mono _ _
   | exact mem_Width.mono _ _
   | exact num_Sig.mono _ _
   | exact LeO.none _
   | refine LeO.ite ?_ ?_
   | refine LeO.bind ?_ (fun _ => ?_)
  ·intro y0 y1 y2; unfold instr_Shape.j4; repeat' first
   | (with_reducible exact ih0 _ _ _)
   | (with_reducible exact ih1 _ _ _)
   | (with_reducible exact ih2 _ _ _)
   | (with_reducible exact ih3 _ _ _)
   | (with_reducible exact ih4 _ _ _)
   | (with_reducible exact ih5 _ _ _)
   | (with_reducible exact instr_float.mono _ _)
   | (with_reducible exact mem_Width.mono _ _)
   | (with_reducible exact num_Sig.mono _ _)
   | (with_reducible exact LeO.refl _)
   | (with_reducible exact LeO.none _)
   | (with_reducible refine LeO.ite ?_ ?_)
   | (with_reducible refine LeO.bind ?_ (fun _ => ?_))
   | exact ih0 _ _ _
   | exact ih1 _ _ _
   | exact ih2 _ _ _
   | exact ih3 _ _ _
   | exact ih4 _ _ _
   | exact ih5 _ _ _
   | exact instr_float.mono _ _
   | exact mem_Width.mono _ _
   | exact num_Sig.mono _ _
   | exact LeO.none _
   | refine LeO.ite ?_ ?_
   | refine LeO.bind ?_ (fun _ => ?_)
  ·intro y0 y1 y2; unfold instr_Shape.j5; repeat' first
   | (with_reducible exact ih0 _ _ _)
   | (with_reducible exact ih1 _ _ _)
   | (with_reducible exact ih2 _ _ _)
   | (with_reducible exact ih3 _ _ _)
   | (with_reducible exact ih4 _ _ _)
   | (with_reducible exact ih5 _ _ _)
   | (with_reducible exact instr_float.mono _ _)
   | (with_reducible exact mem_Width.mono _ _)
   | (with_reducible exact num_Sig.mono _ _)
   | (with_reducible exact LeO.refl _)
   | (with_reducible exact LeO.none _)
   | (with_reducible refine LeO.ite ?_ ?_)
   | (with_reducible refine LeO.bind ?_ (fun _ => ?_))
   | exact ih0 _ _ _
   | exact ih1 _ _ _
   | exact ih2 _ _ _
   | exact ih3 _ _ _
   | exact ih4 _ _ _
   | exact ih5 _ _ _
   | exact instr_float.mono _ _
   | exact mem_Width.mono _ _
   | exact num_Sig.mono _ _
   | exact LeO.none _
   | refine LeO.ite ?_ ?_
   | refine LeO.bind ?_ (fun _ => ?_)
theorem instr_Shape.mono : ∀ a0 k, LeO (instr_Shape.f k a0) (instr_Shape.f (k + 1) a0) := by
 intro a0 k; obtain ⟨ih0, ih1, ih2, ih3, ih4, ih5⟩ := instr_Shape.mono_l k; unfold instr_Shape.f; repeat' first
  | (with_reducible exact ih0 _ _ _)
  | (with_reducible exact ih1 _ _ _)
  | (with_reducible exact ih2 _ _ _)
  | (with_reducible exact ih3 _ _ _)
  | (with_reducible exact ih4 _ _ _)
  | (with_reducible exact ih5 _ _ _)
  | (with_reducible exact instr_float.mono _ _)
  | (with_reducible exact mem_Width.mono _ _)
  | (with_reducible exact num_Sig.mono _ _)
  | (with_reducible exact LeO.refl _)
  | (with_reducible exact LeO.none _)
  | (with_reducible refine LeO.ite ?_ ?_)
  | (with_reducible refine LeO.bind ?_ (fun _ => ?_))
  | exact ih0 _ _ _
  | exact ih1 _ _ _
  | exact ih2 _ _ _
  | exact ih3 _ _ _
  | exact ih4 _ _ _
  | exact ih5 _ _ _
  | exact instr_float.mono _ _
  | exact mem_Width.mono _ _
  | exact num_Sig.mono _ _
  | exact LeO.none _
  | refine LeO.ite ?_ ?_
  | refine LeO.bind ?_ (fun _ => ?_)
set_option maxHeartbeats 8000000 in
set_option maxRecDepth 100000 in
theorem instr_Shape.calls (k : Nat) (a0 : Int) (r1 : Int) (r2 : Int) (w : World) (h : instr_Shape.f k a0 = some (r1, r2)) :
 Calls Try.prog 10 #[.int .i64 a0] w fun e w' => e = .returned (.tuple #[.int .i64 r1, .int .i64 r2]) ∧ Drawn0 w w' := by
 have H : (if a0 = 0 then (instr_Shape.j0 k a0 a0 (a0 == 0)) else (if a0 = 1 then (instr_Shape.j0 k a0 a0 (a0 == 1)) else (if a0 = 15 then (instr_Shape.j0 k a0 a0 (a0 == 15)) else (if a0 = 26 then (instr_Shape.j0 k a0 a0 (a0 == 26)) else (if a0 = 27 then (instr_Shape.j0 k a0 a0 (a0 == 27)) else (instr_Shape.j0 k a0 a0 (a0 == 209))))))) = some (r1, r2) := h; clear h; have HC2 := Aside0.mk H; clear H; go_enter Try.func10, Try.ntmps10; go_upto_if 11 with (fail)
 go_cut [11] (fun v11 wc => ∃ (kq : Nat) (x11_1 : Bool), v11 = .bool x11_1 ∧ Aside0 (instr_Shape.j0 kq a0 a0 x11_1 = some (r1, r2)) ∧ Aside0 (kq ≤ k) ∧ Drawn0 w wc)
 case first =>
  have H := HC2.out; clear HC2; by_cases c3 : a0 = 0
  ·rw [if_pos c3] at H; have c3b0 : (a0 == 0) = true := beq_iff_eq.mpr c3; have c3b1 : (a0 != 0) = false := bne_eq_false_iff_eq.mpr c3; clear c3; (first | rw [c3b0] | (simp only [i64_w, i32_w]; rw [c3b0]) | skip); have H' := Aside0.mk H; clear H; go_wp2; go_meet; case rel => exact ⟨_, ((a0 == 0)), (by first | rfl | (simp; done) | (simp [*]; done)), H', ⟨by first | omega | exact Nat.le_refl _⟩, by repeat (first | exact Drawn0.refl _ | apply Drawn0.step)⟩
  ·rw [if_neg c3] at H; have c3b0 : (a0 == 0) = false := beq_eq_false_iff_ne.mpr c3; have c3b1 : (a0 != 0) = true := bne_iff_ne.mpr c3; (first | rw [c3b0] | (simp only [i64_w, i32_w]; rw [c3b0]) | skip); by_cases c4 : a0 = 1
   ·rw [if_pos c4] at H; have c4b0 : (a0 == 1) = true := beq_iff_eq.mpr c4; have c4b1 : (a0 != 1) = false := bne_eq_false_iff_eq.mpr c4; clear c4; have H' := Aside0.mk H; clear H; go_wp2; go_meet; case rel => exact ⟨_, ((a0 == 1)), (by first | rfl | (simp; done) | (simp [*]; done)), H', ⟨by first | omega | exact Nat.le_refl _⟩, by repeat (first | exact Drawn0.refl _ | apply Drawn0.step)⟩
   ·rw [if_neg c4] at H; have c4b0 : (a0 == 1) = false := beq_eq_false_iff_ne.mpr c4; have c4b1 : (a0 != 1) = true := bne_iff_ne.mpr c4; by_cases c5 : a0 = 15
    ·rw [if_pos c5] at H; have c5b0 : (a0 == 15) = true := beq_iff_eq.mpr c5; have c5b1 : (a0 != 15) = false := bne_eq_false_iff_eq.mpr c5; clear c5; have H' := Aside0.mk H; clear H; go_wp2; go_meet; case rel => exact ⟨_, ((a0 == 15)), (by first | rfl | (simp; done) | (simp [*]; done)), H', ⟨by first | omega | exact Nat.le_refl _⟩, by repeat (first | exact Drawn0.refl _ | apply Drawn0.step)⟩
    ·rw [if_neg c5] at H; have c5b0 : (a0 == 15) = false := beq_eq_false_iff_ne.mpr c5; have c5b1 : (a0 != 15) = true := bne_iff_ne.mpr c5; by_cases c6 : a0 = 26
     ·rw [if_pos c6] at H; have c6b0 : (a0 == 26) = true := beq_iff_eq.mpr c6; have c6b1 : (a0 != 26) = false := bne_eq_false_iff_eq.mpr c6; clear c6; have H' := Aside0.mk H; clear H; go_wp2; go_meet; case rel => exact ⟨_, ((a0 == 26)), (by first | rfl | (simp; done) | (simp [*]; done)), H', ⟨by first | omega | exact Nat.le_refl _⟩, by repeat (first | exact Drawn0.refl _ | apply Drawn0.step)⟩
     ·rw [if_neg c6] at H; have c6b0 : (a0 == 26) = false := beq_eq_false_iff_ne.mpr c6; have c6b1 : (a0 != 26) = true := bne_iff_ne.mpr c6; by_cases c7 : a0 = 27
      ·rw [if_pos c7] at H; have c7b0 : (a0 == 27) = true := beq_iff_eq.mpr c7; have c7b1 : (a0 != 27) = false := bne_eq_false_iff_eq.mpr c7; clear c7; have H' := Aside0.mk H; clear H; go_wp2; go_meet; case rel => exact ⟨_, ((a0 == 27)), (by first | rfl | (simp; done) | (simp [*]; done)), H', ⟨by first | omega | exact Nat.le_refl _⟩, by repeat (first | exact Drawn0.refl _ | apply Drawn0.step)⟩
      ·rw [if_neg c7] at H; have c7b0 : (a0 == 27) = false := beq_eq_false_iff_ne.mpr c7; have c7b1 : (a0 != 27) = true := bne_iff_ne.mpr c7; have H' := Aside0.mk H; clear H; go_wp2; go_meet; case rel => exact ⟨_, ((a0 == 209)), (by first | rfl | (simp; done) | (simp [*]; done)), H', ⟨by first | omega | exact Nat.le_refl _⟩, by repeat (first | exact Drawn0.refl _ | apply Drawn0.step)⟩
 case rest =>
  clear HC2; (try clear c1); (try clear p2); (try clear c3 c3b0 c3b1); (try clear c4 c4b0 c4b1); (try clear c5 c5b0 c5b1); (try clear c6 c6b0 c6b1); (try clear c7 c7b0 c7b1); obtain ⟨kq, x11_1, rfl, HA, HJ1, ⟨mc1, rfl⟩⟩ := hcut; cases kq with
  | zero => exact absurd HA.out (by simp [instr_Shape.j0])
  | succ kj1 =>
   have H := HA.out; clear HA; simp only [instr_Shape.j0] at H; by_cases c8 : x11_1 = true
   ·subst c8; have H1 : (some (1, 0)) = some (r1, r2) := by rw [if_pos rfl] at H; exact H
    clear H; have H := H1; clear H1; simp only [Option.some.injEq, Prod.mk.injEq] at H; obtain ⟨rfl, rfl⟩ := H; go_wp2
    go_ret2
    exact ⟨by first | rfl | (simp; done) | (simp [*]; done), by repeat (first | exact Drawn0.refl _ | apply Drawn0.step)⟩
   ·replace c8 := Bool.eq_false_iff.mpr c8; subst c8; have H1 : (if a0 = 2 then (instr_Shape.j1 kj1 a0 a0 (a0 == 2)) else (if a0 = 3 then (instr_Shape.j1 kj1 a0 a0 (a0 == 3)) else (instr_Shape.j1 kj1 a0 a0 (a0 == 4)))) = some (r1, r2) := by rw [if_neg (show ¬ (false = true) by decide)] at H; exact H
    clear H; have H := H1; clear H1; have HC9 := Aside0.mk H; clear H; go_upto_if 18 with (fail)
    go_cut [18] (fun v18 wc => ∃ (kq : Nat) (x18_8 : Bool), v18 = .bool x18_8 ∧ Aside0 (instr_Shape.j1 kq a0 a0 x18_8 = some (r1, r2)) ∧ Aside0 (kq ≤ kj1) ∧ Drawn0 w wc)
    case first =>
     have H := HC9.out; clear HC9; by_cases c10 : a0 = 2
     ·rw [if_pos c10] at H; have c10b0 : (a0 == 2) = true := beq_iff_eq.mpr c10; have c10b1 : (a0 != 2) = false := bne_eq_false_iff_eq.mpr c10; clear c10; (first | rw [c10b0] | (simp only [i64_w, i32_w]; rw [c10b0]) | skip); have H' := Aside0.mk H; clear H; go_wp2; go_meet; case rel => exact ⟨_, ((a0 == 2)), (by first | rfl | (simp; done) | (simp [*]; done)), H', ⟨by have := HJ1.out; first | omega | exact Nat.le_refl _⟩, by repeat (first | exact Drawn0.refl _ | apply Drawn0.step)⟩
     ·rw [if_neg c10] at H; have c10b0 : (a0 == 2) = false := beq_eq_false_iff_ne.mpr c10; have c10b1 : (a0 != 2) = true := bne_iff_ne.mpr c10; (first | rw [c10b0] | (simp only [i64_w, i32_w]; rw [c10b0]) | skip); by_cases c11 : a0 = 3
      ·rw [if_pos c11] at H; have c11b0 : (a0 == 3) = true := beq_iff_eq.mpr c11; have c11b1 : (a0 != 3) = false := bne_eq_false_iff_eq.mpr c11; clear c11; have H' := Aside0.mk H; clear H; go_wp2; go_meet; case rel => exact ⟨_, ((a0 == 3)), (by first | rfl | (simp; done) | (simp [*]; done)), H', ⟨by have := HJ1.out; first | omega | exact Nat.le_refl _⟩, by repeat (first | exact Drawn0.refl _ | apply Drawn0.step)⟩
      ·rw [if_neg c11] at H; have c11b0 : (a0 == 3) = false := beq_eq_false_iff_ne.mpr c11; have c11b1 : (a0 != 3) = true := bne_iff_ne.mpr c11; have H' := Aside0.mk H; clear H; go_wp2; go_meet; case rel => exact ⟨_, ((a0 == 4)), (by first | rfl | (simp; done) | (simp [*]; done)), H', ⟨by have := HJ1.out; first | omega | exact Nat.le_refl _⟩, by repeat (first | exact Drawn0.refl _ | apply Drawn0.step)⟩
    case rest =>
     clear HC9; (try clear c1); (try clear p2 p2); (try clear c3 c3b0 c3b1); (try clear c4 c4b0 c4b1); (try clear c5 c5b0 c5b1); (try clear c6 c6b0 c6b1); (try clear c7 c7b0 c7b1); (try clear c8); (try clear c10 c10b0 c10b1); (try clear c11 c11b0 c11b1); obtain ⟨kq, x18_8, rfl, HA, HJ8, ⟨mc8, rfl⟩⟩ := hcut; cases kq with
     | zero => exact absurd HA.out (by simp [instr_Shape.j1])
     | succ kj8 =>
      have H := HA.out; clear HA; simp only [instr_Shape.j1] at H; by_cases c12 : x18_8 = true
      ·subst c12; have H1 : (some (2, 0)) = some (r1, r2) := by rw [if_pos rfl] at H; exact H
       clear H; have H := H1; clear H1; simp only [Option.some.injEq, Prod.mk.injEq] at H; obtain ⟨rfl, rfl⟩ := H; go_wp2
       go_ret2
       exact ⟨by first | rfl | (simp; done) | (simp [*]; done), by repeat (first | exact Drawn0.refl _ | apply Drawn0.step)⟩
      ·replace c12 := Bool.eq_false_iff.mpr c12; subst c12; have H1 : (if a0 = 12 then (instr_Shape.j2 kj8 a0 a0 (a0 == 12)) else (if a0 = 13 then (instr_Shape.j2 kj8 a0 a0 (a0 == 13)) else (if a0 = 16 then (instr_Shape.j2 kj8 a0 a0 (a0 == 16)) else (if a0 = 32 then (instr_Shape.j2 kj8 a0 a0 (a0 == 32)) else (if a0 = 33 then (instr_Shape.j2 kj8 a0 a0 (a0 == 33)) else (if a0 = 34 then (instr_Shape.j2 kj8 a0 a0 (a0 == 34)) else (if a0 = 35 then (instr_Shape.j2 kj8 a0 a0 (a0 == 35)) else (if a0 = 36 then (instr_Shape.j2 kj8 a0 a0 (a0 == 36)) else (instr_Shape.j2 kj8 a0 a0 (a0 == 210)))))))))) = some (r1, r2) := by rw [if_neg (show ¬ (false = true) by decide)] at H; exact H
       clear H; have H := H1; clear H1; have HC13 := Aside0.mk H; clear H; go_upto_if 22 with (fail)
       go_cut [22] (fun v22 wc => ∃ (kq : Nat) (x22_12 : Bool), v22 = .bool x22_12 ∧ Aside0 (instr_Shape.j2 kq a0 a0 x22_12 = some (r1, r2)) ∧ Aside0 (kq ≤ kj8) ∧ Drawn0 w wc)
       case first =>
        have H := HC13.out; clear HC13; by_cases c14 : a0 = 12
        ·rw [if_pos c14] at H; have c14b0 : (a0 == 12) = true := beq_iff_eq.mpr c14; have c14b1 : (a0 != 12) = false := bne_eq_false_iff_eq.mpr c14; clear c14; (first | rw [c14b0] | (simp only [i64_w, i32_w]; rw [c14b0]) | skip); have H' := Aside0.mk H; clear H; go_wp2; go_meet; case rel => exact ⟨_, ((a0 == 12)), (by first | rfl | (simp; done) | (simp [*]; done)), H', ⟨by have := HJ1.out; have := HJ8.out; first | omega | exact Nat.le_refl _⟩, by repeat (first | exact Drawn0.refl _ | apply Drawn0.step)⟩
        ·rw [if_neg c14] at H; have c14b0 : (a0 == 12) = false := beq_eq_false_iff_ne.mpr c14; have c14b1 : (a0 != 12) = true := bne_iff_ne.mpr c14; (first | rw [c14b0] | (simp only [i64_w, i32_w]; rw [c14b0]) | skip); by_cases c15 : a0 = 13
         ·rw [if_pos c15] at H; have c15b0 : (a0 == 13) = true := beq_iff_eq.mpr c15; have c15b1 : (a0 != 13) = false := bne_eq_false_iff_eq.mpr c15; clear c15; have H' := Aside0.mk H; clear H; go_wp2; go_meet; case rel => exact ⟨_, ((a0 == 13)), (by first | rfl | (simp; done) | (simp [*]; done)), H', ⟨by have := HJ1.out; have := HJ8.out; first | omega | exact Nat.le_refl _⟩, by repeat (first | exact Drawn0.refl _ | apply Drawn0.step)⟩
         ·rw [if_neg c15] at H; have c15b0 : (a0 == 13) = false := beq_eq_false_iff_ne.mpr c15; have c15b1 : (a0 != 13) = true := bne_iff_ne.mpr c15; by_cases c16 : a0 = 16
          ·rw [if_pos c16] at H; have c16b0 : (a0 == 16) = true := beq_iff_eq.mpr c16; have c16b1 : (a0 != 16) = false := bne_eq_false_iff_eq.mpr c16; clear c16; have H' := Aside0.mk H; clear H; go_wp2; go_meet; case rel => exact ⟨_, ((a0 == 16)), (by first | rfl | (simp; done) | (simp [*]; done)), H', ⟨by have := HJ1.out; have := HJ8.out; first | omega | exact Nat.le_refl _⟩, by repeat (first | exact Drawn0.refl _ | apply Drawn0.step)⟩
          ·rw [if_neg c16] at H; have c16b0 : (a0 == 16) = false := beq_eq_false_iff_ne.mpr c16; have c16b1 : (a0 != 16) = true := bne_iff_ne.mpr c16; by_cases c17 : a0 = 32
           ·rw [if_pos c17] at H; have c17b0 : (a0 == 32) = true := beq_iff_eq.mpr c17; have c17b1 : (a0 != 32) = false := bne_eq_false_iff_eq.mpr c17; clear c17; have H' := Aside0.mk H; clear H; go_wp2; go_meet; case rel => exact ⟨_, ((a0 == 32)), (by first | rfl | (simp; done) | (simp [*]; done)), H', ⟨by have := HJ1.out; have := HJ8.out; first | omega | exact Nat.le_refl _⟩, by repeat (first | exact Drawn0.refl _ | apply Drawn0.step)⟩
           ·rw [if_neg c17] at H; have c17b0 : (a0 == 32) = false := beq_eq_false_iff_ne.mpr c17; have c17b1 : (a0 != 32) = true := bne_iff_ne.mpr c17; by_cases c18 : a0 = 33
            ·rw [if_pos c18] at H; have c18b0 : (a0 == 33) = true := beq_iff_eq.mpr c18; have c18b1 : (a0 != 33) = false := bne_eq_false_iff_eq.mpr c18; clear c18; have H' := Aside0.mk H; clear H; go_wp2; go_meet; case rel => exact ⟨_, ((a0 == 33)), (by first | rfl | (simp; done) | (simp [*]; done)), H', ⟨by have := HJ1.out; have := HJ8.out; first | omega | exact Nat.le_refl _⟩, by repeat (first | exact Drawn0.refl _ | apply Drawn0.step)⟩
            ·rw [if_neg c18] at H; have c18b0 : (a0 == 33) = false := beq_eq_false_iff_ne.mpr c18; have c18b1 : (a0 != 33) = true := bne_iff_ne.mpr c18; by_cases c19 : a0 = 34
             ·rw [if_pos c19] at H; have c19b0 : (a0 == 34) = true := beq_iff_eq.mpr c19; have c19b1 : (a0 != 34) = false := bne_eq_false_iff_eq.mpr c19; clear c19; have H' := Aside0.mk H; clear H; go_wp2; go_meet; case rel => exact ⟨_, ((a0 == 34)), (by first | rfl | (simp; done) | (simp [*]; done)), H', ⟨by have := HJ1.out; have := HJ8.out; first | omega | exact Nat.le_refl _⟩, by repeat (first | exact Drawn0.refl _ | apply Drawn0.step)⟩
             ·rw [if_neg c19] at H; have c19b0 : (a0 == 34) = false := beq_eq_false_iff_ne.mpr c19; have c19b1 : (a0 != 34) = true := bne_iff_ne.mpr c19; by_cases c20 : a0 = 35
              ·rw [if_pos c20] at H; have c20b0 : (a0 == 35) = true := beq_iff_eq.mpr c20; have c20b1 : (a0 != 35) = false := bne_eq_false_iff_eq.mpr c20; clear c20; have H' := Aside0.mk H; clear H; go_wp2; go_meet; case rel => exact ⟨_, ((a0 == 35)), (by first | rfl | (simp; done) | (simp [*]; done)), H', ⟨by have := HJ1.out; have := HJ8.out; first | omega | exact Nat.le_refl _⟩, by repeat (first | exact Drawn0.refl _ | apply Drawn0.step)⟩
              ·rw [if_neg c20] at H; have c20b0 : (a0 == 35) = false := beq_eq_false_iff_ne.mpr c20; have c20b1 : (a0 != 35) = true := bne_iff_ne.mpr c20; by_cases c21 : a0 = 36
               ·rw [if_pos c21] at H; have c21b0 : (a0 == 36) = true := beq_iff_eq.mpr c21; have c21b1 : (a0 != 36) = false := bne_eq_false_iff_eq.mpr c21; clear c21; have H' := Aside0.mk H; clear H; go_wp2; go_meet; case rel => exact ⟨_, ((a0 == 36)), (by first | rfl | (simp; done) | (simp [*]; done)), H', ⟨by have := HJ1.out; have := HJ8.out; first | omega | exact Nat.le_refl _⟩, by repeat (first | exact Drawn0.refl _ | apply Drawn0.step)⟩
               ·rw [if_neg c21] at H; have c21b0 : (a0 == 36) = false := beq_eq_false_iff_ne.mpr c21; have c21b1 : (a0 != 36) = true := bne_iff_ne.mpr c21; have H' := Aside0.mk H; clear H; go_wp2; go_meet; case rel => exact ⟨_, ((a0 == 210)), (by first | rfl | (simp; done) | (simp [*]; done)), H', ⟨by have := HJ1.out; have := HJ8.out; first | omega | exact Nat.le_refl _⟩, by repeat (first | exact Drawn0.refl _ | apply Drawn0.step)⟩
       case rest =>
        clear HC13; (try clear c1); (try clear c2); (try clear p2 p2); (try clear c3 c3b0 c3b1); (try clear c4 c4b0 c4b1); (try clear c5 c5b0 c5b1); (try clear c6 c6b0 c6b1); (try clear c7 c7b0 c7b1); (try clear c8); (try clear c10 c10b0 c10b1); (try clear c11 c11b0 c11b1); (try clear c12); (try clear c14 c14b0 c14b1); (try clear c15 c15b0 c15b1); (try clear c16 c16b0 c16b1); (try clear c17 c17b0 c17b1); (try clear c18 c18b0 c18b1); (try clear c19 c19b0 c19b1); (try clear c20 c20b0 c20b1); (try clear c21 c21b0 c21b1); obtain ⟨kq, x22_12, rfl, HA, HJ12, ⟨mc12, rfl⟩⟩ := hcut; cases kq with
        | zero => exact absurd HA.out (by simp [instr_Shape.j2])
        | succ kj12 =>
         have H := HA.out; clear HA; simp only [instr_Shape.j2] at H; by_cases c22 : x22_12 = true
         ·subst c22; have H1 : (some (3, 0)) = some (r1, r2) := by rw [if_pos rfl] at H; exact H
          clear H; have H := H1; clear H1; simp only [Option.some.injEq, Prod.mk.injEq] at H; obtain ⟨rfl, rfl⟩ := H; go_wp2
          go_ret2
          exact ⟨by first | rfl | (simp; done) | (simp [*]; done), by repeat (first | exact Drawn0.refl _ | apply Drawn0.step)⟩
         ·replace c22 := Bool.eq_false_iff.mpr c22; subst c22; have H1 : (if a0 = 14 then (some (4, 0)) else (if a0 = 17 then (some (5, 0)) else (if a0 = 28 then (some (6, 0)) else (if a0 = 37 then (instr_Shape.j3 kj12 a0 a0 (a0 == 37)) else (if a0 = 38 then (instr_Shape.j3 kj12 a0 a0 (a0 == 38)) else (if a0 = 63 then (instr_Shape.j3 kj12 a0 a0 (a0 == 63)) else (if a0 = 64 then (instr_Shape.j3 kj12 a0 a0 (a0 == 64)) else (if a0 = 64523 then (instr_Shape.j3 kj12 a0 a0 (a0 == 64523)) else (if a0 = 64527 then (instr_Shape.j3 kj12 a0 a0 (a0 == 64527)) else (if a0 = 64528 then (instr_Shape.j3 kj12 a0 a0 (a0 == 64528)) else (instr_Shape.j3 kj12 a0 a0 (a0 == 64529)))))))))))) = some (r1, r2) := by rw [if_neg (show ¬ (false = true) by decide)] at H; exact H
          clear H; have H := H1; clear H1; by_cases c23 : a0 = 14
          ·rw [if_pos c23] at H; have c23b0 : (a0 == 14) = true := beq_iff_eq.mpr c23; have c23b1 : (a0 != 14) = false := bne_eq_false_iff_eq.mpr c23; clear c23; simp only [Option.some.injEq, Prod.mk.injEq] at H; obtain ⟨rfl, rfl⟩ := H; go_wp2
           go_ret2
           exact ⟨by first | rfl | (simp; done) | (simp [*]; done), by repeat (first | exact Drawn0.refl _ | apply Drawn0.step)⟩
          ·rw [if_neg c23] at H; have c23b0 : (a0 == 14) = false := beq_eq_false_iff_ne.mpr c23; have c23b1 : (a0 != 14) = true := bne_iff_ne.mpr c23; by_cases c24 : a0 = 17
           ·rw [if_pos c24] at H; have c24b0 : (a0 == 17) = true := beq_iff_eq.mpr c24; have c24b1 : (a0 != 17) = false := bne_eq_false_iff_eq.mpr c24; clear c24; simp only [Option.some.injEq, Prod.mk.injEq] at H; obtain ⟨rfl, rfl⟩ := H; go_wp2
            go_ret2
            exact ⟨by first | rfl | (simp; done) | (simp [*]; done), by repeat (first | exact Drawn0.refl _ | apply Drawn0.step)⟩
           ·rw [if_neg c24] at H; have c24b0 : (a0 == 17) = false := beq_eq_false_iff_ne.mpr c24; have c24b1 : (a0 != 17) = true := bne_iff_ne.mpr c24; by_cases c25 : a0 = 28
            ·rw [if_pos c25] at H; have c25b0 : (a0 == 28) = true := beq_iff_eq.mpr c25; have c25b1 : (a0 != 28) = false := bne_eq_false_iff_eq.mpr c25; clear c25; simp only [Option.some.injEq, Prod.mk.injEq] at H; obtain ⟨rfl, rfl⟩ := H; go_wp2
             go_ret2
             exact ⟨by first | rfl | (simp; done) | (simp [*]; done), by repeat (first | exact Drawn0.refl _ | apply Drawn0.step)⟩
            ·rw [if_neg c25] at H; have c25b0 : (a0 == 28) = false := beq_eq_false_iff_ne.mpr c25; have c25b1 : (a0 != 28) = true := bne_iff_ne.mpr c25; have HC26 := Aside0.mk H; clear H; go_upto_if 38 with (fail)
             go_cut [38] (fun v38 wc => ∃ (kq : Nat) (x38_25 : Bool), v38 = .bool x38_25 ∧ Aside0 (instr_Shape.j3 kq a0 a0 x38_25 = some (r1, r2)) ∧ Aside0 (kq ≤ kj12) ∧ Drawn0 w wc)
             case first =>
              have H := HC26.out; clear HC26; by_cases c27 : a0 = 37
              ·rw [if_pos c27] at H; have c27b0 : (a0 == 37) = true := beq_iff_eq.mpr c27; have c27b1 : (a0 != 37) = false := bne_eq_false_iff_eq.mpr c27; clear c27; (first | rw [c27b0] | (simp only [i64_w, i32_w]; rw [c27b0]) | skip); have H' := Aside0.mk H; clear H; go_wp2; go_meet; case rel => exact ⟨_, ((a0 == 37)), (by first | rfl | (simp; done) | (simp [*]; done)), H', ⟨by have := HJ1.out; have := HJ8.out; have := HJ12.out; first | omega | exact Nat.le_refl _⟩, by repeat (first | exact Drawn0.refl _ | apply Drawn0.step)⟩
              ·rw [if_neg c27] at H; have c27b0 : (a0 == 37) = false := beq_eq_false_iff_ne.mpr c27; have c27b1 : (a0 != 37) = true := bne_iff_ne.mpr c27; (first | rw [c27b0] | (simp only [i64_w, i32_w]; rw [c27b0]) | skip); by_cases c28 : a0 = 38
               ·rw [if_pos c28] at H; have c28b0 : (a0 == 38) = true := beq_iff_eq.mpr c28; have c28b1 : (a0 != 38) = false := bne_eq_false_iff_eq.mpr c28; clear c28; have H' := Aside0.mk H; clear H; go_wp2; go_meet; case rel => exact ⟨_, ((a0 == 38)), (by first | rfl | (simp; done) | (simp [*]; done)), H', ⟨by have := HJ1.out; have := HJ8.out; have := HJ12.out; first | omega | exact Nat.le_refl _⟩, by repeat (first | exact Drawn0.refl _ | apply Drawn0.step)⟩
               ·rw [if_neg c28] at H; have c28b0 : (a0 == 38) = false := beq_eq_false_iff_ne.mpr c28; have c28b1 : (a0 != 38) = true := bne_iff_ne.mpr c28; by_cases c29 : a0 = 63
                ·rw [if_pos c29] at H; have c29b0 : (a0 == 63) = true := beq_iff_eq.mpr c29; have c29b1 : (a0 != 63) = false := bne_eq_false_iff_eq.mpr c29; clear c29; have H' := Aside0.mk H; clear H; go_wp2; go_meet; case rel => exact ⟨_, ((a0 == 63)), (by first | rfl | (simp; done) | (simp [*]; done)), H', ⟨by have := HJ1.out; have := HJ8.out; have := HJ12.out; first | omega | exact Nat.le_refl _⟩, by repeat (first | exact Drawn0.refl _ | apply Drawn0.step)⟩
                ·rw [if_neg c29] at H; have c29b0 : (a0 == 63) = false := beq_eq_false_iff_ne.mpr c29; have c29b1 : (a0 != 63) = true := bne_iff_ne.mpr c29; by_cases c30 : a0 = 64
                 ·rw [if_pos c30] at H; have c30b0 : (a0 == 64) = true := beq_iff_eq.mpr c30; have c30b1 : (a0 != 64) = false := bne_eq_false_iff_eq.mpr c30; clear c30; have H' := Aside0.mk H; clear H; go_wp2; go_meet; case rel => exact ⟨_, ((a0 == 64)), (by first | rfl | (simp; done) | (simp [*]; done)), H', ⟨by have := HJ1.out; have := HJ8.out; have := HJ12.out; first | omega | exact Nat.le_refl _⟩, by repeat (first | exact Drawn0.refl _ | apply Drawn0.step)⟩
                 ·rw [if_neg c30] at H; have c30b0 : (a0 == 64) = false := beq_eq_false_iff_ne.mpr c30; have c30b1 : (a0 != 64) = true := bne_iff_ne.mpr c30; by_cases c31 : a0 = 64523
                  ·rw [if_pos c31] at H; have c31b0 : (a0 == 64523) = true := beq_iff_eq.mpr c31; have c31b1 : (a0 != 64523) = false := bne_eq_false_iff_eq.mpr c31; clear c31; have H' := Aside0.mk H; clear H; go_wp2; go_meet; case rel => exact ⟨_, ((a0 == 64523)), (by first | rfl | (simp; done) | (simp [*]; done)), H', ⟨by have := HJ1.out; have := HJ8.out; have := HJ12.out; first | omega | exact Nat.le_refl _⟩, by repeat (first | exact Drawn0.refl _ | apply Drawn0.step)⟩
                  ·rw [if_neg c31] at H; have c31b0 : (a0 == 64523) = false := beq_eq_false_iff_ne.mpr c31; have c31b1 : (a0 != 64523) = true := bne_iff_ne.mpr c31; by_cases c32 : a0 = 64527
                   ·rw [if_pos c32] at H; have c32b0 : (a0 == 64527) = true := beq_iff_eq.mpr c32; have c32b1 : (a0 != 64527) = false := bne_eq_false_iff_eq.mpr c32; clear c32; have H' := Aside0.mk H; clear H; go_wp2; go_meet; case rel => exact ⟨_, ((a0 == 64527)), (by first | rfl | (simp; done) | (simp [*]; done)), H', ⟨by have := HJ1.out; have := HJ8.out; have := HJ12.out; first | omega | exact Nat.le_refl _⟩, by repeat (first | exact Drawn0.refl _ | apply Drawn0.step)⟩
                   ·rw [if_neg c32] at H; have c32b0 : (a0 == 64527) = false := beq_eq_false_iff_ne.mpr c32; have c32b1 : (a0 != 64527) = true := bne_iff_ne.mpr c32; by_cases c33 : a0 = 64528
                    ·rw [if_pos c33] at H; have c33b0 : (a0 == 64528) = true := beq_iff_eq.mpr c33; have c33b1 : (a0 != 64528) = false := bne_eq_false_iff_eq.mpr c33; clear c33; have H' := Aside0.mk H; clear H; go_wp2; go_meet; case rel => exact ⟨_, ((a0 == 64528)), (by first | rfl | (simp; done) | (simp [*]; done)), H', ⟨by have := HJ1.out; have := HJ8.out; have := HJ12.out; first | omega | exact Nat.le_refl _⟩, by repeat (first | exact Drawn0.refl _ | apply Drawn0.step)⟩
                    ·rw [if_neg c33] at H; have c33b0 : (a0 == 64528) = false := beq_eq_false_iff_ne.mpr c33; have c33b1 : (a0 != 64528) = true := bne_iff_ne.mpr c33; have H' := Aside0.mk H; clear H; go_wp2; go_meet; case rel => exact ⟨_, ((a0 == 64529)), (by first | rfl | (simp; done) | (simp [*]; done)), H', ⟨by have := HJ1.out; have := HJ8.out; have := HJ12.out; first | omega | exact Nat.le_refl _⟩, by repeat (first | exact Drawn0.refl _ | apply Drawn0.step)⟩
             case rest =>
              clear HC26; (try clear c1); (try clear c2); (try clear p2 p2); (try clear c3 c3b0 c3b1); (try clear c4 c4b0 c4b1); (try clear c5 c5b0 c5b1); (try clear c6 c6b0 c6b1); (try clear c7 c7b0 c7b1); (try clear c8); (try clear c10 c10b0 c10b1); (try clear c11 c11b0 c11b1); (try clear c12); (try clear c14 c14b0 c14b1); (try clear c15 c15b0 c15b1); (try clear c16 c16b0 c16b1); (try clear c17 c17b0 c17b1); (try clear c18 c18b0 c18b1); (try clear c19 c19b0 c19b1); (try clear c20 c20b0 c20b1); (try clear c21 c21b0 c21b1); (try clear c22); (try clear c23 c23b0 c23b1); (try clear c24 c24b0 c24b1); (try clear c25 c25b0 c25b1); (try clear c27 c27b0 c27b1); (try clear c28 c28b0 c28b1); (try clear c29 c29b0 c29b1); (try clear c30 c30b0 c30b1); (try clear c31 c31b0 c31b1); (try clear c32 c32b0 c32b1); (try clear c33 c33b0 c33b1); obtain ⟨kq, x38_25, rfl, HA, HJ25, ⟨mc25, rfl⟩⟩ := hcut; cases kq with
              | zero => exact absurd HA.out (by simp [instr_Shape.j3])
              | succ kj25 =>
               have H := HA.out; clear HA; simp only [instr_Shape.j3] at H; by_cases c34 : x38_25 = true
               ·subst c34; have H1 : (some (8, 0)) = some (r1, r2) := by rw [if_pos rfl] at H; exact H
                clear H; have H := H1; clear H1; simp only [Option.some.injEq, Prod.mk.injEq] at H; obtain ⟨rfl, rfl⟩ := H; go_wp2
                go_ret2
                exact ⟨by first | rfl | (simp; done) | (simp [*]; done), by repeat (first | exact Drawn0.refl _ | apply Drawn0.step)⟩
               ·replace c34 := Bool.eq_false_iff.mpr c34; subst c34; have H1 : (if a0 = 64522 then (instr_Shape.j4 kj25 a0 a0 (a0 == 64522)) else (instr_Shape.j4 kj25 a0 a0 (a0 == 64526))) = some (r1, r2) := by rw [if_neg (show ¬ (false = true) by decide)] at H; exact H
                clear H; have H := H1; clear H1; have HC35 := Aside0.mk H; clear H; go_upto_if 47 with (fail)
                go_cut [47] (fun v47 wc => ∃ (kq : Nat) (x47_34 : Bool), v47 = .bool x47_34 ∧ Aside0 (instr_Shape.j4 kq a0 a0 x47_34 = some (r1, r2)) ∧ Aside0 (kq ≤ kj25) ∧ Drawn0 w wc)
                case first =>
                 have H := HC35.out; clear HC35; by_cases c36 : a0 = 64522
                 ·rw [if_pos c36] at H; have c36b0 : (a0 == 64522) = true := beq_iff_eq.mpr c36; have c36b1 : (a0 != 64522) = false := bne_eq_false_iff_eq.mpr c36; clear c36; (first | rw [c36b0] | (simp only [i64_w, i32_w]; rw [c36b0]) | skip); have H' := Aside0.mk H; clear H; go_wp2; go_meet; case rel => exact ⟨_, ((a0 == 64522)), (by first | rfl | (simp; done) | (simp [*]; done)), H', ⟨by have := HJ1.out; have := HJ8.out; have := HJ12.out; have := HJ25.out; first | omega | exact Nat.le_refl _⟩, by repeat (first | exact Drawn0.refl _ | apply Drawn0.step)⟩
                 ·rw [if_neg c36] at H; have c36b0 : (a0 == 64522) = false := beq_eq_false_iff_ne.mpr c36; have c36b1 : (a0 != 64522) = true := bne_iff_ne.mpr c36; (first | rw [c36b0] | (simp only [i64_w, i32_w]; rw [c36b0]) | skip); have H' := Aside0.mk H; clear H; go_wp2; go_meet; case rel => exact ⟨_, ((a0 == 64526)), (by first | rfl | (simp; done) | (simp [*]; done)), H', ⟨by have := HJ1.out; have := HJ8.out; have := HJ12.out; have := HJ25.out; first | omega | exact Nat.le_refl _⟩, by repeat (first | exact Drawn0.refl _ | apply Drawn0.step)⟩
                case rest =>
                 clear HC35; (try clear c1); (try clear c2); (try clear p2 p2); (try clear c3 c3b0 c3b1); (try clear c4 c4b0 c4b1); (try clear c5 c5b0 c5b1); (try clear c6 c6b0 c6b1); (try clear c7 c7b0 c7b1); (try clear c8); (try clear c10 c10b0 c10b1); (try clear c11 c11b0 c11b1); (try clear c12); (try clear c14 c14b0 c14b1); (try clear c15 c15b0 c15b1); (try clear c16 c16b0 c16b1); (try clear c17 c17b0 c17b1); (try clear c18 c18b0 c18b1); (try clear c19 c19b0 c19b1); (try clear c20 c20b0 c20b1); (try clear c21 c21b0 c21b1); (try clear c22); (try clear c23 c23b0 c23b1); (try clear c24 c24b0 c24b1); (try clear c25 c25b0 c25b1); (try clear c27 c27b0 c27b1); (try clear c28 c28b0 c28b1); (try clear c29 c29b0 c29b1); (try clear c30 c30b0 c30b1); (try clear c31 c31b0 c31b1); (try clear c32 c32b0 c32b1); (try clear c33 c33b0 c33b1); (try clear c34); (try clear c36 c36b0 c36b1); obtain ⟨kq, x47_34, rfl, HA, HJ34, ⟨mc34, rfl⟩⟩ := hcut; cases kq with
                 | zero => exact absurd HA.out (by simp [instr_Shape.j4])
                 | succ kj34 =>
                  have H := HA.out; clear HA; simp only [instr_Shape.j4] at H; by_cases c37 : x47_34 = true
                  ·subst c37; have H1 : (some (9, 0)) = some (r1, r2) := by rw [if_pos rfl] at H; exact H
                   clear H; have H := H1; clear H1; simp only [Option.some.injEq, Prod.mk.injEq] at H; obtain ⟨rfl, rfl⟩ := H; go_wp2
                   go_ret2
                   exact ⟨by first | rfl | (simp; done) | (simp [*]; done), by repeat (first | exact Drawn0.refl _ | apply Drawn0.step)⟩
                  ·replace c37 := Bool.eq_false_iff.mpr c37; subst c37; have H1 : (if a0 = 65 then (instr_Shape.j5 kj34 a0 a0 (a0 == 65)) else (instr_Shape.j5 kj34 a0 a0 (a0 == 66))) = some (r1, r2) := by rw [if_neg (show ¬ (false = true) by decide)] at H; exact H
                   clear H; have H := H1; clear H1; have HC38 := Aside0.mk H; clear H; go_upto_if 50 with (fail)
                   go_cut [50] (fun v50 wc => ∃ (kq : Nat) (x50_37 : Bool), v50 = .bool x50_37 ∧ Aside0 (instr_Shape.j5 kq a0 a0 x50_37 = some (r1, r2)) ∧ Aside0 (kq ≤ kj34) ∧ Drawn0 w wc)
                   case first =>
                    have H := HC38.out; clear HC38; by_cases c39 : a0 = 65
                    ·rw [if_pos c39] at H; have c39b0 : (a0 == 65) = true := beq_iff_eq.mpr c39; have c39b1 : (a0 != 65) = false := bne_eq_false_iff_eq.mpr c39; clear c39; (first | rw [c39b0] | (simp only [i64_w, i32_w]; rw [c39b0]) | skip); have H' := Aside0.mk H; clear H; go_wp2; go_meet; case rel => exact ⟨_, ((a0 == 65)), (by first | rfl | (simp; done) | (simp [*]; done)), H', ⟨by have := HJ1.out; have := HJ8.out; have := HJ12.out; have := HJ25.out; have := HJ34.out; first | omega | exact Nat.le_refl _⟩, by repeat (first | exact Drawn0.refl _ | apply Drawn0.step)⟩
                    ·rw [if_neg c39] at H; have c39b0 : (a0 == 65) = false := beq_eq_false_iff_ne.mpr c39; have c39b1 : (a0 != 65) = true := bne_iff_ne.mpr c39; (first | rw [c39b0] | (simp only [i64_w, i32_w]; rw [c39b0]) | skip); have H' := Aside0.mk H; clear H; go_wp2; go_meet; case rel => exact ⟨_, ((a0 == 66)), (by first | rfl | (simp; done) | (simp [*]; done)), H', ⟨by have := HJ1.out; have := HJ8.out; have := HJ12.out; have := HJ25.out; have := HJ34.out; first | omega | exact Nat.le_refl _⟩, by repeat (first | exact Drawn0.refl _ | apply Drawn0.step)⟩
                   case rest =>
                    clear HC38; (try clear c1); (try clear c2); (try clear p2 p2); (try clear c3 c3b0 c3b1); (try clear c4 c4b0 c4b1); (try clear c5 c5b0 c5b1); (try clear c6 c6b0 c6b1); (try clear c7 c7b0 c7b1); (try clear c8); (try clear c10 c10b0 c10b1); (try clear c11 c11b0 c11b1); (try clear c12); (try clear c14 c14b0 c14b1); (try clear c15 c15b0 c15b1); (try clear c16 c16b0 c16b1); (try clear c17 c17b0 c17b1); (try clear c18 c18b0 c18b1); (try clear c19 c19b0 c19b1); (try clear c20 c20b0 c20b1); (try clear c21 c21b0 c21b1); (try clear c22); (try clear c23 c23b0 c23b1); (try clear c24 c24b0 c24b1); (try clear c25 c25b0 c25b1); (try clear c27 c27b0 c27b1); (try clear c28 c28b0 c28b1); (try clear c29 c29b0 c29b1); (try clear c30 c30b0 c30b1); (try clear c31 c31b0 c31b1); (try clear c32 c32b0 c32b1); (try clear c33 c33b0 c33b1); (try clear c34); (try clear c36 c36b0 c36b1); (try clear c37); (try clear c39 c39b0 c39b1); obtain ⟨kq, x50_37, rfl, HA, HJ37, ⟨mc37, rfl⟩⟩ := hcut; cases kq with
                    | zero => exact absurd HA.out (by simp [instr_Shape.j5])
                    | succ kj37 =>
                     have H := HA.out; clear HA; simp only [instr_Shape.j5] at H; by_cases c40 : x50_37 = true
                     ·subst c40; have H1 : (some (10, 0)) = some (r1, r2) := by rw [if_pos rfl] at H; exact H
                      clear H; have H := H1; clear H1; simp only [Option.some.injEq, Prod.mk.injEq] at H; obtain ⟨rfl, rfl⟩ := H; go_wp2
                      go_ret2
                      exact ⟨by first | rfl | (simp; done) | (simp [*]; done), by repeat (first | exact Drawn0.refl _ | apply Drawn0.step)⟩
                     ·replace c40 := Bool.eq_false_iff.mpr c40; subst c40; have H1 : (if a0 = 208 then (some (11, 0)) else ((mem_Width.f kj37 a0).bind fun bt101 => (if bt101.1 > 0 then (some (7, 0)) else ((num_Sig.f kj37 a0).bind fun bt104 => (if bt104.1 > 0 then (some (1, 0)) else ((instr_float.f kj37 a0).bind fun t107 => (if t107 = true then (some (0, 3)) else (if a0 = 253 then (some (0, 4)) else (some (0, 5)))))))))) = some (r1, r2) := by rw [if_neg (show ¬ (false = true) by decide)] at H; exact H
                      clear H; have H := H1; clear H1; by_cases c41 : a0 = 208
                      ·rw [if_pos c41] at H; have c41b0 : (a0 == 208) = true := beq_iff_eq.mpr c41; have c41b1 : (a0 != 208) = false := bne_eq_false_iff_eq.mpr c41; clear c41; simp only [Option.some.injEq, Prod.mk.injEq] at H; obtain ⟨rfl, rfl⟩ := H; go_wp2
                       go_ret2
                       exact ⟨by first | rfl | (simp; done) | (simp [*]; done), by repeat (first | exact Drawn0.refl _ | apply Drawn0.step)⟩
                      ·rw [if_neg c41] at H; have c41b0 : (a0 == 208) = false := beq_eq_false_iff_ne.mpr c41; have c41b1 : (a0 != 208) = true := bne_iff_ne.mpr c41; replace H := Option.bind_eq_some_iff.mp H; obtain ⟨⟨t101, t102, t103⟩, A420, H⟩ := H; replace H : (if t101 > 0 then (some (7, 0)) else ((num_Sig.f kj37 a0).bind fun bt104 => (if bt104.1 > 0 then (some (1, 0)) else ((instr_float.f kj37 a0).bind fun t107 => (if t107 = true then (some (0, 3)) else (if a0 = 253 then (some (0, 4)) else (some (0, 5)))))))) = some (r1, r2) := H; have A42 := Aside0.mk A420; clear A420; by_cases c43 : t101 > 0
                       ·rw [if_pos c43] at H; have c43b0 : decide (0 < t101) = true := decide_eq_true c43; clear c43; simp only [Option.some.injEq, Prod.mk.injEq] at H; obtain ⟨rfl, rfl⟩ := H; go_wp2_with (first | ((with_reducible refine gate_callee (f := 22) rfl ?_); refine goesL_ (some 57) rfl rfl Try.func22 (by kernel_rfl) rfl #[.int .i64 a0] rfl (by (try simp only [List.map_toArray, List.map_cons, List.map_nil]); first | done | rfl | (simp only [List.length_drop, List.length_take]; rfl)) ?_; (with_reducible refine (mem_Width.calls kj37 a0 t101 t102 t103 _ A42.out).mono ?_); rintro e w' ⟨rfl, ⟨nd, rfl⟩⟩; refine ⟨_, rfl, ?_⟩))
                        go_ret2
                        exact ⟨by first | rfl | (simp; done) | (simp [*]; done), by repeat (first | exact Drawn0.refl _ | apply Drawn0.step)⟩
                       ·rw [if_neg c43] at H; have c43b0 : decide (0 < t101) = false := decide_eq_false c43; clear c43; replace H := Option.bind_eq_some_iff.mp H; obtain ⟨⟨t104, t105, t106⟩, A440, H⟩ := H; replace H : (if t104 > 0 then (some (1, 0)) else ((instr_float.f kj37 a0).bind fun t107 => (if t107 = true then (some (0, 3)) else (if a0 = 253 then (some (0, 4)) else (some (0, 5)))))) = some (r1, r2) := H; have A44 := Aside0.mk A440; clear A440; by_cases c45 : t104 > 0
                        ·rw [if_pos c45] at H; have c45b0 : decide (0 < t104) = true := decide_eq_true c45; clear c45; simp only [Option.some.injEq, Prod.mk.injEq] at H; obtain ⟨rfl, rfl⟩ := H; go_wp2_with (first | ((with_reducible refine gate_callee (f := 22) rfl ?_); refine goesL_ (some 57) rfl rfl Try.func22 (by kernel_rfl) rfl #[.int .i64 a0] rfl (by (try simp only [List.map_toArray, List.map_cons, List.map_nil]); first | done | rfl | (simp only [List.length_drop, List.length_take]; rfl)) ?_; (with_reducible refine (mem_Width.calls kj37 a0 t101 t102 t103 _ A42.out).mono ?_); rintro e w' ⟨rfl, ⟨nd, rfl⟩⟩; refine ⟨_, rfl, ?_⟩) | ((with_reducible refine gate_callee (f := 23) rfl ?_); refine goesL_ (some 65) rfl rfl Try.func23 (by kernel_rfl) rfl #[.int .i64 a0] rfl (by (try simp only [List.map_toArray, List.map_cons, List.map_nil]); first | done | rfl | (simp only [List.length_drop, List.length_take]; rfl)) ?_; (with_reducible refine (num_Sig.calls kj37 a0 t104 t105 t106 _ A44.out).mono ?_); rintro e w' ⟨rfl, ⟨nd, rfl⟩⟩; refine ⟨_, rfl, ?_⟩))
                         go_ret2
                         exact ⟨by first | rfl | (simp; done) | (simp [*]; done), by repeat (first | exact Drawn0.refl _ | apply Drawn0.step)⟩
                        ·rw [if_neg c45] at H; have c45b0 : decide (0 < t104) = false := decide_eq_false c45; clear c45; replace H := Option.bind_eq_some_iff.mp H; obtain ⟨t107, A460, H⟩ := H; replace H : (if t107 = true then (some (0, 3)) else (if a0 = 253 then (some (0, 4)) else (some (0, 5)))) = some (r1, r2) := H; have A46 := Aside0.mk A460; clear A460; by_cases c47 : t107 = true
                         ·subst c47; have H1 : (some (0, 3)) = some (r1, r2) := by rw [if_pos rfl] at H; exact H
                          clear H; have H := H1; clear H1; simp only [Option.some.injEq, Prod.mk.injEq] at H; obtain ⟨rfl, rfl⟩ := H; go_wp2_with (first | ((with_reducible refine gate_callee (f := 22) rfl ?_); refine goesL_ (some 57) rfl rfl Try.func22 (by kernel_rfl) rfl #[.int .i64 a0] rfl (by (try simp only [List.map_toArray, List.map_cons, List.map_nil]); first | done | rfl | (simp only [List.length_drop, List.length_take]; rfl)) ?_; (with_reducible refine (mem_Width.calls kj37 a0 t101 t102 t103 _ A42.out).mono ?_); rintro e w' ⟨rfl, ⟨nd, rfl⟩⟩; refine ⟨_, rfl, ?_⟩) | ((with_reducible refine gate_callee (f := 23) rfl ?_); refine goesL_ (some 65) rfl rfl Try.func23 (by kernel_rfl) rfl #[.int .i64 a0] rfl (by (try simp only [List.map_toArray, List.map_cons, List.map_nil]); first | done | rfl | (simp only [List.length_drop, List.length_take]; rfl)) ?_; (with_reducible refine (num_Sig.calls kj37 a0 t104 t105 t106 _ A44.out).mono ?_); rintro e w' ⟨rfl, ⟨nd, rfl⟩⟩; refine ⟨_, rfl, ?_⟩) | ((with_reducible refine gate_callee (f := 24) rfl ?_); refine goesL_ (some 73) rfl rfl Try.func24 (by kernel_rfl) rfl #[.int .i64 a0] rfl (by (try simp only [List.map_toArray, List.map_cons, List.map_nil]); first | done | rfl | (simp only [List.length_drop, List.length_take]; rfl)) ?_; (with_reducible refine (instr_float.calls kj37 a0 true _ A46.out).mono ?_); rintro e w' ⟨rfl, ⟨nd, rfl⟩⟩; refine ⟨_, rfl, ?_⟩))
                          go_ret2
                          exact ⟨by first | rfl | (simp; done) | (simp [*]; done), by repeat (first | exact Drawn0.refl _ | apply Drawn0.step)⟩
                         ·replace c47 := Bool.eq_false_iff.mpr c47; subst c47; have H1 : (if a0 = 253 then (some (0, 4)) else (some (0, 5))) = some (r1, r2) := by rw [if_neg (show ¬ (false = true) by decide)] at H; exact H
                          clear H; have H := H1; clear H1; by_cases c48 : a0 = 253
                          ·rw [if_pos c48] at H; have c48b0 : (a0 == 253) = true := beq_iff_eq.mpr c48; have c48b1 : (a0 != 253) = false := bne_eq_false_iff_eq.mpr c48; clear c48; simp only [Option.some.injEq, Prod.mk.injEq] at H; obtain ⟨rfl, rfl⟩ := H; go_wp2_with (first | ((with_reducible refine gate_callee (f := 22) rfl ?_); refine goesL_ (some 57) rfl rfl Try.func22 (by kernel_rfl) rfl #[.int .i64 a0] rfl (by (try simp only [List.map_toArray, List.map_cons, List.map_nil]); first | done | rfl | (simp only [List.length_drop, List.length_take]; rfl)) ?_; (with_reducible refine (mem_Width.calls kj37 a0 t101 t102 t103 _ A42.out).mono ?_); rintro e w' ⟨rfl, ⟨nd, rfl⟩⟩; refine ⟨_, rfl, ?_⟩) | ((with_reducible refine gate_callee (f := 23) rfl ?_); refine goesL_ (some 65) rfl rfl Try.func23 (by kernel_rfl) rfl #[.int .i64 a0] rfl (by (try simp only [List.map_toArray, List.map_cons, List.map_nil]); first | done | rfl | (simp only [List.length_drop, List.length_take]; rfl)) ?_; (with_reducible refine (num_Sig.calls kj37 a0 t104 t105 t106 _ A44.out).mono ?_); rintro e w' ⟨rfl, ⟨nd, rfl⟩⟩; refine ⟨_, rfl, ?_⟩) | ((with_reducible refine gate_callee (f := 24) rfl ?_); refine goesL_ (some 73) rfl rfl Try.func24 (by kernel_rfl) rfl #[.int .i64 a0] rfl (by (try simp only [List.map_toArray, List.map_cons, List.map_nil]); first | done | rfl | (simp only [List.length_drop, List.length_take]; rfl)) ?_; (with_reducible refine (instr_float.calls kj37 a0 false _ A46.out).mono ?_); rintro e w' ⟨rfl, ⟨nd, rfl⟩⟩; refine ⟨_, rfl, ?_⟩))
                           go_ret2
                           exact ⟨by first | rfl | (simp; done) | (simp [*]; done), by repeat (first | exact Drawn0.refl _ | apply Drawn0.step)⟩
                          ·rw [if_neg c48] at H; have c48b0 : (a0 == 253) = false := beq_eq_false_iff_ne.mpr c48; have c48b1 : (a0 != 253) = true := bne_iff_ne.mpr c48; simp only [Option.some.injEq, Prod.mk.injEq] at H; obtain ⟨rfl, rfl⟩ := H; go_wp2_with (first | ((with_reducible refine gate_callee (f := 22) rfl ?_); refine goesL_ (some 57) rfl rfl Try.func22 (by kernel_rfl) rfl #[.int .i64 a0] rfl (by (try simp only [List.map_toArray, List.map_cons, List.map_nil]); first | done | rfl | (simp only [List.length_drop, List.length_take]; rfl)) ?_; (with_reducible refine (mem_Width.calls kj37 a0 t101 t102 t103 _ A42.out).mono ?_); rintro e w' ⟨rfl, ⟨nd, rfl⟩⟩; refine ⟨_, rfl, ?_⟩) | ((with_reducible refine gate_callee (f := 23) rfl ?_); refine goesL_ (some 65) rfl rfl Try.func23 (by kernel_rfl) rfl #[.int .i64 a0] rfl (by (try simp only [List.map_toArray, List.map_cons, List.map_nil]); first | done | rfl | (simp only [List.length_drop, List.length_take]; rfl)) ?_; (with_reducible refine (num_Sig.calls kj37 a0 t104 t105 t106 _ A44.out).mono ?_); rintro e w' ⟨rfl, ⟨nd, rfl⟩⟩; refine ⟨_, rfl, ?_⟩) | ((with_reducible refine gate_callee (f := 24) rfl ?_); refine goesL_ (some 73) rfl rfl Try.func24 (by kernel_rfl) rfl #[.int .i64 a0] rfl (by (try simp only [List.map_toArray, List.map_cons, List.map_nil]); first | done | rfl | (simp only [List.length_drop, List.length_take]; rfl)) ?_; (with_reducible refine (instr_float.calls kj37 a0 false _ A46.out).mono ?_); rintro e w' ⟨rfl, ⟨nd, rfl⟩⟩; refine ⟨_, rfl, ?_⟩))
                           go_ret2
                           exact ⟨by first | rfl | (simp; done) | (simp [*]; done), by repeat (first | exact Drawn0.refl _ | apply Drawn0.step)⟩
end Go.Proofs.Ytckhlbpjehbnlaa.PB
