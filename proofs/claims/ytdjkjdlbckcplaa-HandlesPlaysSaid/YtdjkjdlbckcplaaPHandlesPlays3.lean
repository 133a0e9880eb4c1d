/- Several texts, laid into one for a claim: HR. -/
import Derived.Shelf.SlIterI.Nil
import Derived.Shelf.SortM.Plain
import Derived.Shelf.SortM.SortNone
import Derived.Ground.GgzProg
import Derived.Ground.SlgmProg
import Derived.Test.YtdjkjdlbckcplaaPHandlesPlays2
namespace Go.Proofs.Ytdjkjdlbckcplaa.Hd
open Go.RowKit Go.Maps Go.Sort Go.Shelf Go.Proofs Go.Proofs.YtdjkjdlbckcplaaW.PrintWords Go.Proofs.YtdjkjdlbckcplaaW.PrintLast Go.Proofs.YtdjkjdlbckcplaaW.PrintMore Go.Proofs.Ytdjkjdlbckcplaa.MapI
set_option linter.unusedVariables false
set_option linter.unusedSimpArgs false
def hd_keys_ren : Go.Shelf.Ren := ⟨fun | 7 => 35 | 10 => 58 | n => n, fun | 23 => 74 | 26 => 3 | 3 => 62 | 28 => 72 | 0 => 0 | 27 => 71 | 33 => 75 | 4 => 4 | n => n, fun | n => n⟩
theorem hd_keys : Go.Proofs.SlLaysZI.n7 Try.prog hd_keys_ren := {
  mixed := by kernel_rfl
  f7 := ⟨Try.f35.name, by decide, Try.func35.trans (congrArg some (by kernel_rfl))⟩
  f10 := ⟨Try.f58.name, by decide, Try.func58.trans (congrArg some (by kernel_rfl))⟩
  t0 := Try.underlying0
  a0 := Try.isAgg0
  z0 := Try.sizeOf0
  v0 := Try.zeroValue0
  t4 := Try.underlying4
  a4 := Try.isAgg4
  z4 := Try.sizeOf4
  v4 := Try.zeroValue4
  t23 := Try.underlying74
  a23 := Try.isAgg74
  z23 := Try.sizeOf74
  v23 := Try.zeroValue74
  t26 := Try.underlying3
  a26 := Try.isAgg3
  z26 := Try.sizeOf3
  v26 := Try.zeroValue3
  t27 := Try.underlying71
  a27 := Try.isAgg71
  z27 := Try.sizeOf71
  v27 := Try.zeroValue71
  t28 := Try.underlying72
  a28 := Try.isAgg72
  z28 := Try.sizeOf72
  v28 := Try.zeroValue72
  t33 := Try.underlying75
  a33 := Try.isAgg75
  z33 := Try.sizeOf75
  v33 := Try.zeroValue75 }
def hd_sorted_ren : Go.Shelf.Ren := ⟨fun | 6 => 34 | 8 => 56 | 9 => 57 | 11 => 66 | 13 => 68 | 12 => 67 | 23 => 78 | 24 => 79 | 14 => 69 | 15 => 70 | 16 => 71 | 17 => 72 | 18 => 73 | 19 => 74 | 20 => 75 | 21 => 76 | 22 => 77 | 25 => 80 | 26 => 81 | 27 => 82 | 28 => 83 | 29 => 84 | 30 => 85 | 31 => 86 | n => n, fun | 26 => 3 | 28 => 72 | 24 => 44 | 0 => 0 | 3 => 3 | 37 => 115 | 48 => 125 | 50 => 127 | 4 => 4 | 40 => 118 | 39 => 117 | 45 => 122 | 5 => 5 | 9 => 9 | 51 => 128 | 55 => 132 | 57 => 134 | 58 => 84 | 33 => 75 | n => n, fun | n => n⟩
theorem hd_sorted : Go.Proofs.SlLaysZI.n6 Try.prog hd_sorted_ren := {
  mixed := by kernel_rfl
  f6 := ⟨Try.f34.name, by decide, Try.func34.trans (congrArg some (by kernel_rfl))⟩
  f8 := ⟨Try.f56.name, by decide, Try.func56.trans (congrArg some (by kernel_rfl))⟩
  f11 := ⟨Try.f66.name, by decide, Try.func66.trans (congrArg some (by kernel_rfl))⟩
  t0 := Try.underlying0
  a0 := Try.isAgg0
  z0 := Try.sizeOf0
  v0 := Try.zeroValue0
  t24 := Try.underlying44
  a24 := Try.isAgg44
  z24 := Try.sizeOf44
  v24 := Try.zeroValue44
  t26 := Try.underlying3
  a26 := Try.isAgg3
  z26 := Try.sizeOf3
  v26 := Try.zeroValue3
  t28 := Try.underlying72
  a28 := Try.isAgg72
  z28 := Try.sizeOf72
  v28 := Try.zeroValue72
  i26 := by kernel_rfl }
def hd_sort_ren : Go.Shelf.Ren := ⟨fun | 5 => 57 | 8 => 68 | 7 => 67 | 19 => 78 | 20 => 79 | 10 => 69 | 11 => 70 | 12 => 71 | 13 => 72 | 14 => 73 | 15 => 74 | 16 => 75 | 17 => 76 | 18 => 77 | 30 => 80 | 31 => 81 | 32 => 82 | 33 => 83 | 34 => 84 | 35 => 85 | 40 => 86 | n => n, fun | 23 => 44 | 25 => 3 | 3 => 3 | 32 => 115 | 22 => 44 | 0 => 0 | 44 => 125 | 46 => 127 | 4 => 4 | 36 => 118 | 35 => 117 | 41 => 122 | 5 => 5 | 9 => 9 | 53 => 128 | 57 => 132 | 63 => 134 | 64 => 84 | n => n, fun | n => n⟩
theorem hd_sort : Go.Proofs.SlLaysM.n5 Try.prog hd_sort_ren := {
  mixed := by kernel_rfl
  f5 := ⟨Try.f57.name, by decide, Try.func57.trans (congrArg some (by kernel_rfl))⟩
  f7 := ⟨Try.f67.name, by decide, Try.func67.trans (congrArg some (by kernel_rfl))⟩
  f8 := Try.func68.trans (congrArg some (by kernel_rfl))
  f10 := ⟨Try.f69.name, by decide, Try.func69.trans (congrArg some (by kernel_rfl))⟩
  f11 := ⟨Try.f70.name, by decide, Try.func70.trans (congrArg some (by kernel_rfl))⟩
  f12 := ⟨Try.f71.name, by decide, Try.func71.trans (congrArg some (by kernel_rfl))⟩
  f13 := ⟨Try.f72.name, by decide, Try.func72.trans (congrArg some (by kernel_rfl))⟩
  f14 := ⟨Try.f73.name, by decide, Try.func73.trans (congrArg some (by kernel_rfl))⟩
  f15 := ⟨Try.f74.name, by decide, Try.func74.trans (congrArg some (by kernel_rfl))⟩
  f16 := ⟨Try.f75.name, by decide, Try.func75.trans (congrArg some (by kernel_rfl))⟩
  f17 := ⟨Try.f76.name, by decide, Try.func76.trans (congrArg some (by kernel_rfl))⟩
  f18 := ⟨Try.f77.name, by decide, Try.func77.trans (congrArg some (by kernel_rfl))⟩
  f19 := Try.func78.trans (congrArg some (by kernel_rfl))
  f20 := Try.func79.trans (congrArg some (by kernel_rfl))
  f30 := ⟨Try.f80.name, by decide, Try.func80.trans (congrArg some (by kernel_rfl))⟩
  f31 := Try.func81.trans (congrArg some (by kernel_rfl))
  f32 := Try.func82.trans (congrArg some (by kernel_rfl))
  f33 := ⟨Try.f83.name, by decide, Try.func83.trans (congrArg some (by kernel_rfl))⟩
  f34 := ⟨Try.f84.name, by decide, Try.func84.trans (congrArg some (by kernel_rfl))⟩
  f35 := ⟨Try.f85.name, by decide, Try.func85.trans (congrArg some (by kernel_rfl))⟩
  f40 := ⟨Try.f86.name, by decide, Try.func86.trans (congrArg some (by kernel_rfl))⟩
  t0 := Try.underlying0
  a0 := Try.isAgg0
  z0 := Try.sizeOf0
  v0 := Try.zeroValue0
  t3 := Try.underlying3
  a3 := Try.isAgg3
  z3 := Try.sizeOf3
  v3 := Try.zeroValue3
  t4 := Try.underlying4
  a4 := Try.isAgg4
  z4 := Try.sizeOf4
  v4 := Try.zeroValue4
  t5 := Try.underlying5
  a5 := Try.isAgg5
  z5 := Try.sizeOf5
  v5 := Try.zeroValue5
  t9 := Try.underlying9
  a9 := Try.isAgg9
  z9 := Try.sizeOf9
  v9 := Try.zeroValue9
  t22 := Try.underlying44
  a22 := Try.isAgg44
  z22 := Try.sizeOf44
  v22 := Try.zeroValue44
  t23 := Try.underlying44
  a23 := Try.isAgg44
  z23 := Try.sizeOf44
  v23 := Try.zeroValue44
  t25 := Try.underlying3
  a25 := Try.isAgg3
  z25 := Try.sizeOf3
  v25 := Try.zeroValue3
  t32 := Try.underlying115
  a32 := Try.isAgg115
  z32 := Try.sizeOf115
  v32 := Try.zeroValue115
  t35 := Try.underlying117
  a35 := Try.isAgg117
  z35 := Try.sizeOf117
  v35 := Try.zeroValue117
  t36 := Try.underlying118
  a36 := Try.isAgg118
  z36 := Try.sizeOf118
  v36 := Try.zeroValue118
  t41 := Try.underlying122
  a41 := Try.isAgg122
  z41 := Try.sizeOf122
  v41 := Try.zeroValue122
  t44 := Try.underlying125
  a44 := Try.isAgg125
  z44 := Try.sizeOf125
  v44 := Try.zeroValue125
  t46 := Try.underlying127
  a46 := Try.isAgg127
  z46 := Try.sizeOf127
  v46 := Try.zeroValue127
  t53 := Try.underlying128
  a53 := Try.isAgg128
  z53 := Try.sizeOf128
  v53 := Try.zeroValue128
  t57 := Try.underlying132
  a57 := Try.isAgg132
  z57 := Try.sizeOf132
  v57 := Try.zeroValue132
  t63 := Try.underlying134
  a63 := Try.isAgg134
  z63 := Try.sizeOf134
  v63 := Try.zeroValue134
  t64 := Try.underlying84
  a64 := Try.isAgg84
  z64 := Try.sizeOf84
  v64 := Try.zeroValue84 }
theorem sorts_in (m : Nat) : AnyZI.SortsIn Try.prog hd_sorted_ren Fence.wide m :=
  ⟨fun blk off cap ss W hH hblk hsz => callsIn_wide.2 (AnyM.slices_Sort_int hd_sort blk off cap ss W hH hblk hsz),
   fun p cap W => callsIn_wide.2 (AnyM.slices_Sort_int_none hd_sort p cap W)⟩
theorem keysI_calls (mb : Nat) (W : World) : Calls Try.prog 35 #[.map (some mb)] W fun e w' => e = .returned (.func (.func 58) #[] #[.pointer (some ⟨W.heap.size, 0, none⟩)]) ∧ w' = W.alloc (.cells #[.map (some mb)] 74) :=
  (callsIn_wide (n := 5)).1 (AnyZI.keys_in hd_keys Fence.wide 5 trivial rfl (some mb) W)
def unitR : Value → Option (DataW Unit × List MemPlace) := fun _ => some (.nil, [])
/-- A table's map, as the kit's ranges see it. -/
theorem rows_own {w : World} {mb c : Nat} {xs : List Row} (h : w.heap[mb]? = some (mobj (xs.map Row.enc) c)) (hk : ∀ x ∈ xs, 1 ≤ x.h ∧ x.h ≤ 256) (hN : (xs.map Row.h).Nodup) (hb : (xs.map Row.born).Nodup ∧ ∀ x ∈ xs, x.born < c) (hl : xs.length ≤ 256) :
    ∃ D : DataW Unit, w.ownsMap Try.prog 3 unitR mb xs.length D ∧ (intKeys D).Perm (xs.map Row.h) ∧ size D = xs.length := by
  have hrd : ∀ x ∈ xs, WideElems.rd Try.prog 3 unitR (ent x.enc) = some (.int .i64 x.h, .nil) := fun x hx => by
    have := hk x hx
    exact WideElems.rd_mk (yv := (.nil, [])) (Maps.keyOf_int_mk (q := .i64) Try.underlying3 (a := x.h) (by have h1 : IntKind.i64.min = -9223372036854775808 := by decide
                                                                                                           have h2 : IntKind.i64.max = 9223372036854775807 := by decide
                                                                                                           simp only [Lit.wf, h1, h2, Bool.and_eq_true, decide_eq_true_eq]; omega)) rfl
  refine ⟨.map (((((xs.map Row.enc).map ent).toArray).toList.map (WideElems.rg Try.prog 3 unitR)).foldr DataW.insert []), ⟨_, c, h, ⟨?_, ?_, ?_⟩, by simp, rfl⟩, ?_, ?_⟩
  · simp only [List.size_toArray, List.length_map, maxLen]; omega
  · rw [MapKept.stamped_iff]
    simp only [List.map_map]
    refine ⟨?_, ?_, ?_⟩
    · intro x hx
      obtain ⟨y, hy, rfl⟩ := List.mem_map.1 hx
      exact hb.2 y hy
    · exact hb.1
    · rw [List.pairwise_map]
      rw [List.nodup_iff_pairwise_ne, List.pairwise_map] at hN
      refine hN.imp ?_
      intro a b hab e
      apply hab
      have : Value.int .i64 a.h = Value.int .i64 b.h := e
      injection this
  · intro x hx
    simp only [List.map_map] at hx
    obtain ⟨y, hy, rfl⟩ := List.mem_map.1 hx
    exact ⟨_, hrd y hy⟩
  · show (List.map (fun p : Lit × DataW Unit => Go.intOf p.1) _).Perm _
    refine ((WideShapes.sorted_perm _).map _).trans ?_
    rw [show ((xs.map Row.enc).map ent).toArray.toList = (xs.map Row.enc).map ent from rfl, List.map_map, List.map_map, List.map_map]
    refine List.Perm.of_eq (List.map_congr_left fun x hx => ?_)
    simp only [Function.comp_apply, WideElems.rg_of (hrd x hx)]
    unfold Go.intOf
    rfl
  · show List.length (List.foldr DataW.insert [] _) = _
    rw [length_sorted]
    simp
/-- A table's keys, rising. -/
def keysOf (xs : List Row) : List Int := (xs.map Row.h).mergeSort fun x y => decide (x ≤ y)
theorem sortedI_calls {w : World} {mb c bm : Nat} {xs : List Row} (hm : w.cell? ⟨bm, 0, none⟩ = some (.map (some mb))) (hbm : bm < w.heap.size) (h : w.heap[mb]? = some (mobj (xs.map Row.enc) c)) (hk : ∀ x ∈ xs, 1 ≤ x.h ∧ x.h ≤ 256) (hN : (xs.map Row.h).Nodup) (hb : (xs.map Row.born).Nodup ∧ ∀ x ∈ xs, x.born < c) (hl : xs.length ≤ 256) :
    Calls Try.prog 34 #[.func (.func 58) #[] #[.pointer (some ⟨bm, 0, none⟩)]] w fun e w' => ∃ v, e = .returned v ∧ w'.ownsRow w.heap.size 3 1 v xs.length ((keysOf xs).map (Value.int .i64)) ∧ Below w.heap.size w w' := by
  obtain ⟨D, hown, hp, hsz⟩ := rows_own h hk hN hb hl
  refine (callsIn_wide (n := 5)).1 ?_
  have hseq : SeqGives Fence.wide 2 Try.prog 58 #[.pointer (some ⟨bm, 0, none⟩)] encZ (fun ss => ss.Perm (intKeys D)) (Maps.size D) w :=
    AnyZI.keys_gives (ρ := hd_keys_ren) { hd_keys with } Fence.wide _ trivial rfl (by omega) bm mb xs.length D _ hbm hm hown
  have cS := AnyZI.sorted_in hd_sorted Fence.wide 5 trivial trivial trivial trivial rfl (by omega) (sorts_in _) (enters_of Try.func57 (by kernel_rfl) rfl) 58 #[.pointer (some ⟨bm, 0, none⟩)] trivial (enters_of Try.func58 (by kernel_rfl) rfl) _ _ (by rw [hsz]; simp only [maxLen]; omega) (by rw [hsz]; omega) _ hseq
  refine CallsIn.mono cS ?_
  rintro e w' ⟨v, ss, rfl, hS, hrow, _, hB⟩
  have hpp := hS.trans hp
  refine ⟨v, rfl, ?_, hB⟩
  have hr : w'.ownsRow w.heap.size 3 1 v ss.length ((ss.mergeSort fun x y => decide (x ≤ y)).map encZ) := hrow
  rw [hpp.length_eq, List.length_map, mergeSort_of_perm_i hpp] at hr
  exact hr
end Go.Proofs.Ytdjkjdlbckcplaa.Hd
