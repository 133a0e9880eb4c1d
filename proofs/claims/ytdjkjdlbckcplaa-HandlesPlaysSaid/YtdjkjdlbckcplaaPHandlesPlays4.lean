/- Several texts, laid into one for a claim: HS, HU, HV, HW, HX, HY, Reads, HZ, KA, KB, KE, KG, KH, KI, PAx1, PAx72, PAx73, KJ, KK, KL, KF, KM, MA, MB. -/
import Derived.Test.YtdjkjdlbckcplaaPHandlesPlays3
import Derived.Deep.RegionHeld3
import Derived.Test.YtdjkjdlbckcplaaPHandlesPlays0
import Derived.ChangeArms
import Derived.ChangeShapes
import Derived.DataReads
import Derived.SizedLaws
import Derived.Maps.RangeWalk
import Derived.Test.YtdjkjdlbckcplaaPHandlesPlays1
import Derived.Deep.DeepCutAuto
namespace Go.Proofs.Ytdjkjdlbckcplaa.Hd
open Go.RowKit Go.Proofs Go.Proofs.YtdjkjdlbckcplaaW.PrintWords Go.Proofs.YtdjkjdlbckcplaaW.PrintLast Go.Proofs.YtdjkjdlbckcplaaW.PrintMore Go.Proofs.Ytdjkjdlbckcplaa.MapI
set_option linter.unusedVariables false
set_option linter.unusedSimpArgs false
/-- A handle as the program tells it: six cells. -/
def hval (p : Int × E) : List Value := [.int .i64 p.1, .int .i64 p.2.r, .int .i64 p.2.rep, .bool p.2.own, .int .i64 p.2.lends, .int .i64 p.2.call]
def AT.tab (T : AT) (i : Int) : Int → Option E := T.tabs.getD i.toNat fun _ => none
/-- An instance's handles, rising. -/
def AT.hands (T : AT) (i : Int) : List (Int × E) := if 0 ≤ i then if i < (T.tabs.length : Int) then (List.range 256).filterMap fun k : Nat => (T.tab i ((k : Int) + 1)).map fun e => ((k : Int) + 1, e) else [] else []
def zeroE : E := ⟨0, 0, false, 0, 0⟩
def rowOf (xs : List Row) (h : Int) : Int × E := (h, ((findR h xs).map Row.e).getD zeroE)
theorem keys_range (xs : List Row) (hN : (xs.map Row.h).Nodup) (hR : ∀ x ∈ xs, 1 ≤ x.h ∧ x.h ≤ 256) : keysOf xs = ((List.range 256).map fun k : Nat => (k : Int) + 1).filter fun h => (absR xs h).isSome := by
  have tr : ∀ a b c : Int, (fun x y : Int => decide (x ≤ y)) a b = true → (fun x y : Int => decide (x ≤ y)) b c = true → (fun x y : Int => decide (x ≤ y)) a c = true := fun a b c h1 h2 => by simp only [decide_eq_true_eq] at *; exact Int.le_trans h1 h2
  have tot : ∀ a b : Int, ((fun x y : Int => decide (x ≤ y)) a b || (fun x y : Int => decide (x ≤ y)) b a) = true := fun a b => by simp only [Bool.or_eq_true, decide_eq_true_eq]; exact Int.le_total a b
  have hperm : (keysOf xs).Perm (xs.map Row.h) := List.mergeSort_perm _ _
  have hnd : (((List.range 256).map fun k : Nat => (k : Int) + 1).filter fun h => (absR xs h).isSome).Nodup := by
    refine List.Nodup.sublist List.filter_sublist ?_
    rw [List.nodup_iff_pairwise_ne, List.pairwise_map]
    exact (List.nodup_iff_pairwise_ne.1 List.nodup_range).imp (fun h z => h (by omega))
  refine List.Perm.eq_of_pairwise (le := fun a b : Int => decide (a ≤ b) = true) (fun a b _ _ h1 h2 => ?_) (List.pairwise_mergeSort tr tot _) ?_ ?_
  · simp only [decide_eq_true_eq] at h1 h2; exact Int.le_antisymm h1 h2
  · refine List.Pairwise.filter _ ?_
    rw [List.pairwise_map]
    refine (List.pairwise_lt_range (n := 256)).imp ?_
    intro a b h
    rw [decide_eq_true_eq]; omega
  · refine (List.perm_ext_iff_of_nodup ((hperm.nodup_iff).2 hN) hnd).2 fun h => ?_
    rw [hperm.mem_iff, List.mem_filter]
    constructor
    · intro hm
      obtain ⟨x, hx, rfl⟩ := List.mem_map.1 hm
      have := hR x hx
      refine ⟨List.mem_map.2 ⟨(x.h - 1).toNat, List.mem_range.2 (by omega), by omega⟩, ?_⟩
      unfold absR
      rw [Option.isSome_map]
      cases hf : findR x.h xs with
      | none => exact absurd hm (findR_none.1 hf)
      | some y => rfl
    · rintro ⟨_, hs⟩
      unfold absR at hs
      rw [Option.isSome_map] at hs
      rw [← Classical.not_not (a := h ∈ xs.map Row.h), ← findR_none]
      intro z; rw [z] at hs; cases hs
theorem rows_hands (xs : List Row) (hN : (xs.map Row.h).Nodup) (hR : ∀ x ∈ xs, 1 ≤ x.h ∧ x.h ≤ 256) : (keysOf xs).map (rowOf xs) = (List.range 256).filterMap fun k : Nat => (absR xs ((k : Int) + 1)).map fun e => ((k : Int) + 1, e) := by
  rw [keys_range xs hN hR]
  generalize List.range 256 = l
  induction l with
  | nil => rfl
  | cons a l ih =>
    rw [List.map_cons, List.filter_cons, List.filterMap_cons]
    cases ha : absR xs ((a : Int) + 1) with
    | none => simp only [Option.isSome_none, Bool.false_eq_true, if_false, Option.map_none]; exact ih
    | some e =>
      simp only [Option.isSome_some, if_true, Option.map_some, List.map_cons, ih]
      congr 1
      unfold rowOf absR at *
      rw [ha]; rfl
theorem keys_len (xs : List Row) : (keysOf xs).length = xs.length := by
  unfold keysOf
  rw [List.length_mergeSort, List.length_map]
theorem rows_le (xs : List Row) (hN : (xs.map Row.h).Nodup) (hR : ∀ x ∈ xs, 1 ≤ x.h ∧ x.h ≤ 256) : xs.length ≤ 256 := by
  rw [← cnt_abs xs hN hR]
  unfold cntA
  exact Nat.le_trans (List.length_filter_le _ _) (by simp)
theorem own_mono {w : World} {base base' e size n : Nat} {v : Value} {xs : List Value} (h : w.ownsRow base e size v n xs) (hb : base' ≤ base) : w.ownsRow base' e size v n xs := by
  obtain ⟨h1, h2⟩ := h
  refine ⟨h1, ?_⟩
  rcases h2 with h2 | ⟨g, cap, cur, rfl, hk, r⟩
  · exact .inl h2
  · exact .inr ⟨g, cap, cur, rfl, Nat.le_trans hb hk, r⟩
theorem info31 : (Try.prog.info? 31).map (fun i => (i.zero, i.size, i.bytes)) = some (some (.agg #[.int .i64 0, .int .i64 0, .int .i64 0, .bool false, .int .i64 0, .int .i64 0]), 6, 48) := by kernel_rfl
theorem six_new (w : World) (l : List Value) (t : TypeId) : ∀ j u, l[j]? = some u → (w.alloc (.cells l.toArray t)).cell? ((⟨w.heap.size, 0, none⟩ : Addr).add j) = some u := by
  intro j u hj
  rw [add_at, Nat.zero_add, cell_of_row _ _ j l.toArray t (0, 0) (heap_alloc_new w _)]
  rw [← Array.getElem?_toList]; exact hj
theorem hands_append {base : Nat} {w : World} {v : Value} {l : List (Int × E)} (hown : w.ownsRow base 31 6 v l.length (l.flatMap hval)) (p : Int × E) (hl : l.length < 1000000) (hb : base ≤ w.heap.size) (ty : TypeId) :
    ∃ v' w', (Builtin.append_ #[28, 28] ty #[v, .slice (some ⟨w.heap.size, 0, none⟩) 1 1]).run Try.prog (w.alloc (.cells (hval p).toArray 31)) = .ok v' w' ∧ w'.ownsRow base 31 6 v' (l ++ [p]).length ((l ++ [p]).flatMap hval) ∧ w.grownBy w' v.ownBlock ∧ ∃ A c, v' = .slice A (l.length + 1) c := by
  obtain ⟨i0, hi, hz0, hz1, hz2⟩ := info_parts info31
  obtain ⟨v', w', h1, h2, h3, h4, h5⟩ := run_append_own_at (P := Try.prog) (w := w.alloc (.cells (hval p).toArray 31)) base 28 ty 31 i0 _ 6 48 Try.underlying28 hi hz0 hz1 hz2 rfl (by decide) v l.length (l.flatMap hval)
    (own_same hown fun k hk => heap_alloc_old w _ _ (own_lt hown hk).1) ⟨w.heap.size, 0, none⟩ 1 1 (hval p) rfl (six_new w _ _) (by simp [hval, Value.oneCell']) (by simp only [maxLen]; omega) (by omega) (by show base ≤ (w.heap.push _).size; simp; omega)
  exact ⟨v', w', h1, by rw [List.flatMap_append, List.length_append]; simpa using h2, (World.grownBy_alloc w _ _).trans h3, own_slice h2⟩
set_option maxHeartbeats 16000000 in
set_option maxRecDepth 100000 in
theorem hands_calls {w : World} {g : Nat} {S : Tb} {D : Nat → Prop} (hT : HT w g S D) (i : Int) :
    Calls Try.prog 12 #[.pointer (some ⟨g, 0, none⟩), .int .i64 i] w fun e w' => ∃ v, e = .returned v ∧ w'.ownsRow w.heap.size 31 6 v (S.abs.hands i).length ((S.abs.hands i).flatMap hval) ∧ Below w.heap.size w w' := by
  obtain ⟨Am, cm, At, ct, Ac, cc, e1, e2, e3, hS⟩ := hT.ts
  have htl : S.abs.tabs.length = S.mbs.length := by simp [Tb.abs, hT.len1]
  unfold AT.hands
  rw [htl]
  have c1 : w.cell? ⟨g, 1, none⟩ = some (.slice At S.mbs.length ct) := (blk_cell hS 1).trans rfl
  have nil : ∀ W : World, W.ownsRow w.heap.size 31 6 (.slice none 0 0) 0 [] := fun W => ⟨rfl, .inl ⟨rfl, rfl⟩⟩
  by_cases h0 : 0 ≤ i
  · rw [if_pos h0]
    have b0 : decide (i < 0) = false := decide_eq_false (by omega)
    by_cases h1 : i < (S.mbs.length : Int)
    · rw [if_pos h1]
      have b1 : decide ((S.mbs.length : Int) ≤ i) = false := decide_eq_false (by omega)
      obtain ⟨b, cap, mb, xs, c, f1, f2, f3, f4, f5, f6, f7⟩ := hT.table h0 h1
      have hmem := List.mem_of_getElem? f4
      have hN := hT.keysN xs hmem
      have hR := hT.keysR xs hmem
      have hB := hT.born _ xs c f4 f5
      have hle := rows_le xs hN hR
      have htab : S.abs.tab i = absR xs := tabs_at f4
      rw [htab, ← rows_hands xs hN hR]
      rw [f1] at e2
      injection e2 with e2 _ e4
      subst e2; subst e4
      have p0 : (0 ≤ i) = True := eq_true h0
      have p1 : (i < (S.mbs.length : Int)) = True := eq_true h1
      have HT0 := Aside0.mk hT
      clear hT htl
      go_enter Try.func12, Try.ntmps12
      go_wp2_with (first | (go_at_call 35; refine (keysI_calls mb _).mono ?_; rintro e w1 ⟨rfl, rfl⟩) | (go_at_call 34; refine (sortedI_calls (w := w.alloc (.cells #[.map (some mb)] 74)) (mb := mb) (c := c) (xs := xs) ((blk_cell (heap_alloc_new w _) 0).trans rfl) (by show _ < (w.heap.push _).size; simp) ((heap_alloc_old w _ _ (Array.getElem?_eq_some_iff.1 f7).1).trans f7) hR hN hB hle).mono ?_; rintro e w2 ⟨v, rfl, ho, hb⟩; obtain ⟨vA, vc, rfl⟩ := own_slice ho))
      have hb2 : Below w.heap.size w w2 := ((Below.refl _ w).alloc (Nat.le_refl _) (.cells #[.map (some mb)] 74)).trans (hb.mono (by show _ ≤ (w.heap.push _).size; simp))
      have ho2 : w2.ownsRow w.heap.size 3 1 (.slice vA xs.length vc) xs.length ((keysOf xs).map (Value.int .i64)) := own_mono ho (by show _ ≤ (w.heap.push _).size; simp)
      clear ho hb
      have OK := Aside0.mk ho2
      have HB2 := Aside0.mk hb2
      have KL := keys_len xs
      have HL := Aside0.mk (rows_le xs hN hR)
      clear ho2 hb2
      go_loopg [5, 35] xs.length (fun gg s5 s35 wr => ∃ kk : Nat, kk ≤ xs.length ∧ xs.length - kk ≤ gg ∧ s35 = Value.int .i64 (kk : Int) ∧ Aside0 (Below w2.heap.size w2 wr) ∧ Aside0 (wr.ownsRow w2.heap.size 31 6 s5 kk ((((keysOf xs).take kk).map (rowOf xs)).flatMap hval)))
      case atStart => exact ⟨0, Nat.zero_le _, by omega, rfl, ⟨Below.refl _ w2⟩, ⟨rfl, .inl ⟨rfl, rfl⟩⟩⟩
      case round =>
        obtain ⟨kk, hkk, hg, rfl, BW, OW⟩ := hrel
        by_cases hlt' : kk < xs.length
        · have q0 : (0 ≤ (kk : Int)) = True := eq_true (Int.natCast_nonneg kk)
          have q1 : ((kk : Int) < (xs.length : Int)) = True := eq_true (by omega)
          have q2 : decide ((kk : Int) < (xs.length : Int)) = true := decide_eq_true (by omega)
          have HW : HT wr g S D := HT0.out.keep fun q hq _ => (BW.out.block q (Nat.lt_of_lt_of_le hq HB2.out.size)).trans (HB2.out.block q hq)
          have hown : wr.ownsRow w.heap.size 3 1 (.slice vA xs.length vc) xs.length ((keysOf xs).map (Value.int .i64)) := own_same OK.out fun k hk => BW.out.block k (own_lt OK.out hk).1
          obtain ⟨kb, kcap, d1, _, _, d4⟩ := own_cells hown (by omega)
          injection d1 with d1 _ d6
          subst d1; subst d6
          obtain ⟨h, hh⟩ : ∃ h, (keysOf xs)[kk]? = some h := ⟨_, List.getElem?_eq_getElem (by rw [KL]; exact hlt')⟩
          have k0 : wr.cell? ⟨kb, kk, none⟩ = some (.int .i64 h) := d4 kk _ (by rw [List.getElem?_map, hh]; rfl)
          obtain ⟨x, hx⟩ : ∃ x, findR h xs = some x := by
            cases hf : findR h xs with
            | some x => exact ⟨x, rfl⟩
            | none => exact absurd ((List.mergeSort_perm (xs.map Row.h) fun x y => decide (x ≤ y)).mem_iff.1 (List.mem_of_getElem? hh)) (findR_none.1 hf)
          obtain ⟨b', cap', mb', xs', c', z1, z2, z3, z4, z5, z6, z7⟩ := HW.table h0 h1
          obtain rfl : mb = mb' := Option.some.inj (f3.symm.trans z3)
          obtain rfl : xs = xs' := Option.some.inj (f4.symm.trans z4)
          have w1c : wr.cell? ⟨g, 1, none⟩ = some (.slice (some ⟨b', 0, none⟩) S.mbs.length cap') := (blk_cell HW.top 1).trans (congrArg some z1)
          have hL := run_lookup (P := Try.prog) (T := 74) (kt := 3) (et := 62) Try.underlying74 Try.underlying3 z7 (zero62 wr) h
          obtain ⟨j, g1, g2⟩ := findR_idx hx
          rw [look_find, hx] at hL
          simp only [g1, Option.map_some] at hL
          have hE := HW.ents xs hmem x (List.mem_of_getElem? g2)
          have y0 : wr.cell? ⟨x.eb, 0, none⟩ = some (.int .i64 x.e.r) := (blk_cell hE 0).trans rfl
          have y1 : wr.cell? ⟨x.eb, 1, none⟩ = some (.int .i64 x.e.rep) := (blk_cell hE 1).trans rfl
          have y2 : wr.cell? ⟨x.eb, 2, none⟩ = some (.bool x.e.own) := (blk_cell hE 2).trans rfl
          have y3 : wr.cell? ⟨x.eb, 3, none⟩ = some (.int .i64 x.e.lends) := (blk_cell hE 3).trans rfl
          have y4 : wr.cell? ⟨x.eb, 4, none⟩ = some (.int .i64 x.e.call) := (blk_cell hE 4).trans rfl
          have hll : (((keysOf xs).take kk).map (rowOf xs)).length = kk := by rw [List.length_map, List.length_take, KL]; omega
          obtain ⟨oA, oc, rfl⟩ := own_slice OW.out
          have hO := OW.out
          have hO2 : (wr.drewN 1).ownsRow w2.heap.size 31 6 (.slice oA kk oc) (((keysOf xs).take kk).map (rowOf xs)).length ((((keysOf xs).take kk).map (rowOf xs)).flatMap hval) := by rw [hll]; exact hO
          have hge : ∀ q, (Value.slice oA kk oc).ownBlock = some q → w2.heap.size ≤ q := fun q hq => own_ge hO hq
          obtain ⟨v', w', a1, a2, a3, A', c2, rfl⟩ := hands_append hO2 (rowOf xs h) (by rw [hll]; have := HL.out; omega) BW.out.size 28
          rw [hll] at a1
          have hro : rowOf xs h = (h, x.e) := by unfold rowOf; rw [hx]; rfl
          rw [hro] at a1 a2
          have A1 := Aside0.mk a1
          have A2 := Aside0.mk a2
          have A3 := Aside0.mk ((pw_below_drewN BW.out 1).grown a3 BW.out.size hge)
          have hel : x.eb < w2.heap.size := Nat.lt_of_lt_of_le (Array.getElem?_eq_some_iff.1 (HT0.out.ents xs hmem x (List.mem_of_getElem? g2))).1 HB2.out.size
          have hE' := (A3.out.block _ hel).trans ((BW.out.block _ hel).symm.trans hE)
          have Y := Aside0.mk (show w'.cell? ⟨x.eb, 0, none⟩ = some (.int .i64 x.e.r) ∧ w'.cell? ⟨x.eb, 1, none⟩ = some (.int .i64 x.e.rep) ∧ w'.cell? ⟨x.eb, 2, none⟩ = some (.bool x.e.own) ∧ w'.cell? ⟨x.eb, 3, none⟩ = some (.int .i64 x.e.lends) ∧ w'.cell? ⟨x.eb, 4, none⟩ = some (.int .i64 x.e.call) from ⟨(blk_cell hE' 0).trans rfl, (blk_cell hE' 1).trans rfl, (blk_cell hE' 2).trans rfl, (blk_cell hE' 3).trans rfl, (blk_cell hE' 4).trans rfl⟩)
          clear a1 a2 a3 hE' hO hO2 hge HW hown d4 z3 z4 z5 z6 z7 hE
          go_upto_region 8 with (fail)
          go_wp2
          go_region_held3 (fun W => W.cell? ⟨x.eb, 0, none⟩ = some (.int .i64 x.e.r) ∧ W.cell? ⟨x.eb, 1, none⟩ = some (.int .i64 x.e.rep) ∧ W.cell? ⟨x.eb, 2, none⟩ = some (.bool x.e.own) ∧ W.cell? ⟨x.eb, 3, none⟩ = some (.int .i64 x.e.lends) ∧ W.cell? ⟨x.eb, 4, none⟩ = some (.int .i64 x.e.call)) (first | go_keep | exact Y.out) (refine step_append_eq rfl (.tmp 48) (.tmp 71) 28 rfl rfl rfl A1.out ?_)
          all_goals go_wp2
          all_goals go_roundg (xs.length - (kk + 1))
          case measure => omega
          case rel =>
            refine ⟨kk + 1, by omega, by omega, ?_, ⟨A3.out⟩, ⟨?_⟩⟩
            · first | rfl | (congr 1; done) | (have := HL.out; congr 1; unfold wrap64; omega)
            · have h' := A2.out
              rw [List.length_append, hll] at h'
              rw [List.take_add_one, hh, List.map_append, show (some h).toList.map (rowOf xs) = [(h, x.e)] by rw [← hro]; rfl]
              exact h'
        · have q2 : decide ((kk : Int) < (xs.length : Int)) = false := decide_eq_false (by omega)
          have hke : kk = xs.length := by omega
          go_wp2
          go_ret
          refine ⟨_, rfl, ?_, HB2.out.trans (BW.out.mono HB2.out.size)⟩
          have h := OW.out
          rw [hke, ← KL, List.take_length] at h
          rw [List.length_map]
          exact own_mono h HB2.out.size
    · rw [if_neg h1]
      have b1 : decide ((S.mbs.length : Int) ≤ i) = true := decide_eq_true (by omega)
      go_enter Try.func12, Try.ntmps12
      go_wp2
      go_ret
      exact ⟨_, rfl, nil w, Below.refl _ _⟩
  · rw [if_neg h0]
    have b0 : decide (i < 0) = true := decide_eq_true (by omega)
    go_enter Try.func12, Try.ntmps12
    go_wp2
    go_ret
    exact ⟨_, rfl, nil w, Below.refl _ _⟩
theorem hands_ht {w : World} {g : Nat} {S : Tb} {D : Nat → Prop} (hT : HT w g S D) (i : Int) :
    Calls Try.prog 12 #[.pointer (some ⟨g, 0, none⟩), .int .i64 i] w fun e w' => ∃ A c, e = .returned (.slice A (S.abs.hands i).length c) ∧ w'.ownsRow w.heap.size 31 6 (.slice A (S.abs.hands i).length c) (S.abs.hands i).length ((S.abs.hands i).flatMap hval) ∧ HT w' g S D ∧ Below w.heap.size w w' := by
  refine (hands_calls hT i).mono ?_
  rintro e w' ⟨v, rfl, h1, h2⟩
  obtain ⟨A, c, rfl⟩ := own_slice h1
  exact ⟨A, c, rfl, h1, hT.keep (fun b hb _ => h2.block b hb), h2⟩
theorem hands_le (T : AT) (i : Int) : (T.hands i).length ≤ 256 := by
  unfold AT.hands
  split
  · split
    · exact Nat.le_trans (List.length_filterMap_le _ _) (by simp)
    · exact Nat.zero_le _
  · exact Nat.zero_le _
/-- Handles in memory: the indices and the resources. -/
theorem hand_cells {W : World} {base : Nat} {v : Value} {l : List (Int × E)} (h : W.ownsRow base 31 6 v l.length (l.flatMap hval)) {kk : Nat} (hk : kk < l.length) : ∃ b cap p, v = .slice (some ⟨b, 0, none⟩) l.length cap ∧ l[kk]? = some p ∧ ∀ j u, (hval p)[j]? = some u → W.cell? ⟨b, kk * 6 + j, none⟩ = some u := by
  obtain ⟨b, cap, e1, _, _, e4⟩ := own_cells h (by omega)
  refine ⟨b, cap, _, e1, List.getElem?_eq_getElem hk, fun j u hu => e4 _ _ ?_⟩
  have hj : j < 6 := (List.getElem?_eq_some_iff.1 hu).1
  clear h e1 e4
  rename_i hcap _
  clear hcap
  induction l generalizing kk with
  | nil => simp at hk
  | cons a l ih =>
    rw [List.flatMap_cons]
    cases kk with
    | zero =>
      rw [List.getElem?_append_left (by simp [hval]; omega), Nat.zero_mul, Nat.zero_add]
      exact hu
    | succ kk =>
      rw [List.getElem?_append_right (by simp [hval]; omega), show (kk + 1) * 6 + j - (hval a).length = kk * 6 + j by simp [hval]; omega]
      exact ih (by simpa using hk) (by simpa using hu)
/-- Which handle is aimed at. -/
def aimJ (h : Int) (n : Nat) : Nat := (h.tmod n % n).toNat
def aimP (k r h : Int) (near : Bool) (l : List (Int × E)) : Int × Int :=
  if (!near || (decide (l.length = 0) || (decide (k < 1) || (decide (6 < k) || decide (k = 5))))) = true then (r, h) else ((l.getD (aimJ h l.length) (0, zeroE)).2.r, (l.getD (aimJ h l.length) (0, zeroE)).1)
theorem two_blk (w : World) (o1 o2 : Obj) : ((w.alloc o1).alloc o2).heap[w.heap.size + 1]? = some o2 := by
  have h := heap_alloc_new (w.alloc o1) o2
  have e : (w.alloc o1).heap.size = w.heap.size + 1 := Array.size_push _
  rw [e] at h; exact h
theorem two_below (w : World) (o1 o2 : Obj) : Below w.heap.size w ((w.alloc o1).alloc o2) := ((Below.refl _ w).alloc (Nat.le_refl _) _).alloc (by show _ ≤ (w.heap.push _).size; simp) _
theorem aim_bounds (h : Int) (n : Nat) (hn : 0 < n) : (0 ≤ h.tmod n % n ∧ h.tmod n % n < n) ∧ 0 ≤ (h.tmod n + n).tmod n ∧ (h.tmod n + n).tmod n < n ∧ -n < h.tmod n ∧ h.tmod n < n := by
  have h1 : -(n : Int) < h.tmod n ∧ h.tmod n < n := by
    constructor
    · have := Int.lt_tmod_of_pos h (show (0 : Int) < n by omega); omega
    · exact Int.tmod_lt_of_pos h (by omega)
  refine ⟨⟨Int.emod_nonneg _ (by omega), Int.emod_lt_of_pos _ (by omega)⟩, Int.tmod_nonneg _ (by omega), Int.tmod_lt_of_pos _ (by omega), h1.1, h1.2⟩
set_option maxHeartbeats 16000000 in
set_option maxRecDepth 100000 in
theorem aimed_calls {w : World} {base : Nat} (k i r h : Int) (near : Bool) (l : List (Int × E)) (A : Option Addr) (cc : Nat) (hown : w.ownsRow base 31 6 (.slice A l.length cc) l.length (l.flatMap hval)) (hl : l.length ≤ 256) :
    Calls Try.prog 16 #[.agg #[.int .i64 k, .int .i64 i, .int .i64 r, .int .i64 h, .bool near], .slice A l.length cc] w fun e w' => e = .returned (.agg #[.int .i64 k, .int .i64 i, .int .i64 (aimP k r h near l).1, .int .i64 (aimP k r h near l).2, .bool near]) ∧ Below w.heap.size w w' := by
  unfold aimP
  cases near with
  | false =>
    simp only [Bool.not_false, Bool.true_or, if_true]
    go_enter Try.func16, Try.ntmps16
    go_wp2
    refine bodyPost_ret (results_cell_row rfl _ _ (w.heap.size + 1) 39 _ (0, 0) _ rfl (two_blk w _ _) Try.underlying39 rfl (by kernel_rfl)) rfl ?_
    exact ⟨rfl, two_below _ _ _⟩
  | true =>
    by_cases h0 : l.length = 0
    · simp only [h0, decide_true, Bool.true_or, Bool.or_true, if_true]
      have d0 : ((l.length : Int) == 0) = true := by simp [h0]
      rw [h0] at hown
      clear hown
      rw [h0] at d0
      go_enter Try.func16, Try.ntmps16
      go_wp2
      refine bodyPost_ret (results_cell_row rfl _ _ (w.heap.size + 1) 39 _ (0, 0) _ rfl (two_blk w _ _) Try.underlying39 rfl (by kernel_rfl)) rfl ?_
      exact ⟨rfl, two_below _ _ _⟩
    · have d0 : ((l.length : Int) == 0) = false := by simpa using h0
      by_cases h1 : k < 1
      · simp only [h1, decide_true, Bool.true_or, Bool.or_true, if_true]
        have d1 : decide (k < 1) = true := decide_eq_true h1
        clear h1 hown
        go_enter Try.func16, Try.ntmps16
        go_wp2
        refine bodyPost_ret (results_cell_row rfl _ _ (w.heap.size + 1) 39 _ (0, 0) _ rfl (two_blk w _ _) Try.underlying39 rfl (by kernel_rfl)) rfl ?_
        exact ⟨rfl, two_below _ _ _⟩
      · have d1 : decide (k < 1) = false := decide_eq_false h1
        by_cases h6 : 6 < k
        · simp only [h6, decide_true, Bool.true_or, Bool.or_true, if_true]
          have d6 : decide (6 < k) = true := decide_eq_true h6
          clear h1 h6 hown
          go_enter Try.func16, Try.ntmps16
          go_wp2
          refine bodyPost_ret (results_cell_row rfl _ _ (w.heap.size + 1) 39 _ (0, 0) _ rfl (two_blk w _ _) Try.underlying39 rfl (by kernel_rfl)) rfl ?_
          exact ⟨rfl, two_below _ _ _⟩
        · have d6 : decide (6 < k) = false := decide_eq_false h6
          by_cases h5 : k = 5
          · simp only [h5, decide_true, Bool.true_or, Bool.or_true, if_true]
            subst h5
            clear h1 h6 hown d1 d6
            go_enter Try.func16, Try.ntmps16
            go_wp2
            refine bodyPost_ret (results_cell_row rfl _ _ (w.heap.size + 1) 39 _ (0, 0) _ rfl (two_blk w _ _) Try.underlying39 rfl (by kernel_rfl)) rfl ?_
            exact ⟨rfl, two_below _ _ _⟩
          · simp only [h0, h1, h6, h5, decide_false, Bool.false_or, Bool.or_false, Bool.not_true, Bool.false_eq_true, if_false]
            have d5 : (k == 5) = false := by simpa using h5
            clear h1 h6 h5
            have hb := aim_bounds h l.length (by omega)
            obtain ⟨⟨q5, q6⟩, q0, q1, q2, q3⟩ := hb
            have hjl : aimJ h l.length < l.length := by unfold aimJ; omega
            obtain ⟨b, cap, p, e1, e2, e3⟩ := hand_cells hown hjl
            injection e1 with e1 _ e4
            subst e1; subst e4
            have hgd : l.getD (aimJ h l.length) (0, zeroE) = p := by simp [List.getD, e2]
            rw [hgd]
            go_enter Try.func16, Try.ntmps16
            go_upto_region 3 with (fail)
            have hB := two_below w (.cells #[.int .i64 k, .int .i64 i, .int .i64 r, .int .i64 h, .bool true] 39) (.cells #[.int .i64 0, .int .i64 0, .int .i64 0, .int .i64 0, .bool false] 39)
            have h2 : ((w.alloc (.cells #[.int .i64 k, .int .i64 i, .int .i64 r, .int .i64 h, .bool true] 39)).alloc (.cells #[.int .i64 0, .int .i64 0, .int .i64 0, .int .i64 0, .bool false] 39)).heap[w.heap.size]? = some (.cells #[.int .i64 k, .int .i64 i, .int .i64 r, .int .i64 h, .bool true] 39 (0, 0)) := blk_alloc (blk_new w _) _
            have h4 := two_blk w (.cells #[.int .i64 k, .int .i64 i, .int .i64 r, .int .i64 h, .bool true] 39) (.cells #[.int .i64 0, .int .i64 0, .int .i64 0, .int .i64 0, .bool false] 39)
            have hbl : b < w.heap.size := (own_lt hown (k := b) rfl).1
            have e3' : ∀ j u, (hval p)[j]? = some u → ((w.alloc (.cells #[.int .i64 k, .int .i64 i, .int .i64 r, .int .i64 h, .bool true] 39)).alloc (.cells #[.int .i64 0, .int .i64 0, .int .i64 0, .int .i64 0, .bool false] 39)).cell? ⟨b, aimJ h l.length * 6 + j, none⟩ = some u := fun j u hu => (hB.cell (p := ⟨b, aimJ h l.length * 6 + j, none⟩) hbl).trans (e3 j u hu)
            generalize hW2 : ((w.alloc (.cells #[.int .i64 k, .int .i64 i, .int .i64 r, .int .i64 h, .bool true] 39)).alloc (.cells #[.int .i64 0, .int .i64 0, .int .i64 0, .int .i64 0, .bool false] 39)) = W2 at hB h2 h4 e3' ⊢
            have a3 : W2.cell? ⟨w.heap.size, 3, none⟩ = some (.int .i64 h) := (blk_cell h2 3).trans rfl
            have r0 : W2.cell? ⟨b, (h.tmod (l.length : Int) % (l.length : Int)).toNat * 6, none⟩ = some (.int .i64 p.1) := e3' 0 _ rfl
            have r1 : W2.cell? ⟨b, (h.tmod (l.length : Int) % (l.length : Int)).toNat * 6 + 1, none⟩ = some (.int .i64 p.2.r) := e3' 1 _ rfl
            have r2 : W2.cell? ⟨b, (h.tmod (l.length : Int) % (l.length : Int)).toNat * 6 + 2, none⟩ = some (.int .i64 p.2.rep) := e3' 2 _ rfl
            have r3 : W2.cell? ⟨b, (h.tmod (l.length : Int) % (l.length : Int)).toNat * 6 + 3, none⟩ = some (.bool p.2.own) := e3' 3 _ rfl
            have r4 : W2.cell? ⟨b, (h.tmod (l.length : Int) % (l.length : Int)).toNat * 6 + 4, none⟩ = some (.int .i64 p.2.lends) := e3' 4 _ rfl
            have r5 : W2.cell? ⟨b, (h.tmod (l.length : Int) % (l.length : Int)).toNat * 6 + 5, none⟩ = some (.int .i64 p.2.call) := e3' 5 _ rfl
            clear e3'
            go_upto_region 4 with (fail)
            have h5 := blk_new W2 (.cells #[.int .i64 p.1, .int .i64 p.2.r, .int .i64 p.2.rep, .bool p.2.own, .int .i64 p.2.lends, .int .i64 p.2.call] 31)
            have s5 : w.heap.size + 1 < W2.heap.size := blk_lt h4
            have g2 := blk_alloc h2 (.cells #[.int .i64 p.1, .int .i64 p.2.r, .int .i64 p.2.rep, .bool p.2.own, .int .i64 p.2.lends, .int .i64 p.2.call] 31)
            have g4 := blk_alloc h4 (.cells #[.int .i64 p.1, .int .i64 p.2.r, .int .i64 p.2.rep, .bool p.2.own, .int .i64 p.2.lends, .int .i64 p.2.call] 31)
            have gB := hB.alloc hB.size (.cells #[.int .i64 p.1, .int .i64 p.2.r, .int .i64 p.2.rep, .bool p.2.own, .int .i64 p.2.lends, .int .i64 p.2.call] 31)
            generalize (W2.alloc (.cells #[.int .i64 p.1, .int .i64 p.2.r, .int .i64 p.2.rep, .bool p.2.own, .int .i64 p.2.lends, .int .i64 p.2.call] 31)) = W3 at h5 g2 g4 gB ⊢
            clear h2 h4 hB a3 r0 r1 r2 r3 r4 r5 hW2
            have a3 : W3.cell? ⟨w.heap.size, 3, none⟩ = some (.int .i64 h) := (blk_cell g2 3).trans rfl
            have f3 := blk_frozen g2 3
            have y0 : W3.cell? ⟨W2.heap.size, 0, none⟩ = some (.int .i64 p.1) := (blk_cell h5 0).trans rfl
            go_upto_region 5 with (fail)
            have B4 := blk_far g4 (p := ⟨w.heap.size, 3, none⟩) (show w.heap.size + 1 ≠ w.heap.size by omega) (.int .i64 p.1)
            have B5 := blk_far h5 (p := ⟨w.heap.size, 3, none⟩) (show W2.heap.size ≠ w.heap.size by omega) (.int .i64 p.1)
            have B2 := blk_put g2 3 (.int .i64 p.1) rfl
            have BB := below_set gB (show w.heap.size ≤ w.heap.size from Nat.le_refl _) (j := 3) (v := .int .i64 p.1)
            generalize (W3.setCell ⟨w.heap.size, 3, none⟩ (.int .i64 p.1)) = W4 at B4 B5 B2 BB ⊢
            clear h5 g2 g4 gB a3 f3 y0
            have a3 : W4.cell? ⟨w.heap.size, 2, none⟩ = some (.int .i64 r) := (blk_cell B2 2).trans rfl
            have f3 := blk_frozen B2 2
            have y0 : W4.cell? ⟨W2.heap.size, 1, none⟩ = some (.int .i64 p.2.r) := (blk_cell B5 1).trans rfl
            go_upto_region 6 with (fail)
            have C4 := blk_far B4 (p := ⟨w.heap.size, 2, none⟩) (show w.heap.size + 1 ≠ w.heap.size by omega) (.int .i64 p.2.r)
            have C2 := blk_put B2 2 (.int .i64 p.2.r) rfl
            have CB := below_set BB (show w.heap.size ≤ w.heap.size from Nat.le_refl _) (j := 2) (v := .int .i64 p.2.r)
            generalize (W4.setCell ⟨w.heap.size, 2, none⟩ (.int .i64 p.2.r)) = W5 at C4 C2 CB ⊢
            clear B4 B5 B2 BB a3 f3 y0
            have c0 : W5.cell? ⟨w.heap.size, 0, none⟩ = some (.int .i64 k) := (blk_cell C2 0).trans rfl
            have c1 : W5.cell? ⟨w.heap.size, 1, none⟩ = some (.int .i64 i) := (blk_cell C2 1).trans rfl
            have c2 : W5.cell? ⟨w.heap.size, 2, none⟩ = some (.int .i64 p.2.r) := (blk_cell C2 2).trans rfl
            have c3 : W5.cell? ⟨w.heap.size, 3, none⟩ = some (.int .i64 p.1) := (blk_cell C2 3).trans rfl
            have c4 : W5.cell? ⟨w.heap.size, 4, none⟩ = some (.bool true) := (blk_cell C2 4).trans rfl
            have e0 : W5.cell? ⟨w.heap.size + 1, 0, none⟩ = some (.int .i64 0) := (blk_cell C4 0).trans rfl
            have e1 : W5.cell? ⟨w.heap.size + 1, 1, none⟩ = some (.int .i64 0) := (blk_cell C4 1).trans rfl
            have e2 : W5.cell? ⟨w.heap.size + 1, 2, none⟩ = some (.int .i64 0) := (blk_cell C4 2).trans rfl
            have e3 : W5.cell? ⟨w.heap.size + 1, 3, none⟩ = some (.int .i64 0) := (blk_cell C4 3).trans rfl
            have e4 : W5.cell? ⟨w.heap.size + 1, 4, none⟩ = some (.bool false) := (blk_cell C4 4).trans rfl
            have fz := fun j => blk_frozen C4 j
            go_wp2
            have D0 := blk_put C4 0 (.int .i64 k) rfl
            have D1 := blk_put D0 1 (.int .i64 i) rfl
            have D2 := blk_put D1 2 (.int .i64 p.2.r) rfl
            have D3 := blk_put D2 3 (.int .i64 p.1) rfl
            have D4 := blk_put D3 4 (.bool true) rfl
            refine bodyPost_ret (results_cell_row rfl _ _ (w.heap.size + 1) 39 _ (0, 0) _ rfl D4 Try.underlying39 rfl (by kernel_rfl)) rfl ?_
            have hl1 : w.heap.size ≤ w.heap.size + 1 := Nat.le_succ _
            exact ⟨rfl, below_set (below_set (below_set (below_set (below_set CB hl1) hl1) hl1) hl1) hl1⟩
open Go.RowKit Go.Proofs
def AT.at (T : AT) (i : Nat) (h : Int) : Option E := (T.tabs.getD i fun _ => none) h
def AT.upd (T : AT) (i : Nat) (h : Int) (v : Option E) : AT := { T with tabs := T.tabs.set i (updA (T.tabs.getD i fun _ => none) h v) }
theorem at_upd (T : AT) (i j : Nat) (h k : Int) (v : Option E) : (T.upd i h v).at j k = if j = i ∧ k = h ∧ i < T.tabs.length then v else T.at j k := by
  unfold AT.upd AT.at
  simp only [List.getD, List.getElem?_set]
  by_cases hij : i = j
  · subst hij
    by_cases hl : i < T.tabs.length
    · simp only [hl, if_true, Option.getD_some, true_and, and_true]
      unfold updA
      rfl
    · simp [hl]
  · rw [if_neg hij, if_neg (fun z => hij z.1.symm)]
def oB (p : E → Bool) : Option E → Bool
  | some e => p e
  | none => false
def oc (p : E → Bool) (o : Option E) : Nat := (oB p o).toNat
def cntP (p : E → Bool) (f : Int → Option E) : Nat := ((List.range 256).filter fun k : Nat => oB p (f ((k : Int) + 1))).length
def tot (p : E → Bool) (T : AT) : Nat := (T.tabs.map (cntP p)).sum
theorem filt_upd : ∀ {l : List Nat} (hl : l.Nodup) (a : Nat) (ha : a ∈ l) (q q' : Nat → Bool) (hq : ∀ x ∈ l, x ≠ a → q' x = q x), (l.filter q').length + (q a).toNat = (l.filter q).length + (q' a).toNat := by
  intro l
  induction l with
  | nil => intro _ a ha; cases ha
  | cons b l ih =>
    intro hl a ha q q' hq
    rw [List.nodup_cons] at hl
    rw [List.filter_cons, List.filter_cons]
    by_cases hab : b = a
    · subst hab
      have e : l.filter q' = l.filter q := List.filter_congr fun x hx => hq x (List.mem_cons_of_mem _ hx) (fun z => hl.1 (z ▸ hx))
      rw [e]
      cases q b <;> cases q' b <;> simp
    · have ha' : a ∈ l := by rcases List.mem_cons.1 ha with h | h; exact absurd h.symm hab; exact h
      have := ih hl.2 a ha' q q' (fun x hx => hq x (List.mem_cons_of_mem _ hx))
      rw [hq b List.mem_cons_self hab]
      cases q b <;> simp <;> omega
theorem cntP_upd (p : E → Bool) (f : Int → Option E) (h : Int) (v : Option E) (hh : 1 ≤ h ∧ h ≤ 256) : cntP p (updA f h v) + oc p (f h) = cntP p f + oc p v := by
  have := filt_upd (l := List.range 256) List.nodup_range (h - 1).toNat (List.mem_range.2 (by omega)) (fun k : Nat => oB p (f ((k : Int) + 1))) (fun k : Nat => oB p (updA f h v ((k : Int) + 1))) (fun x _ hx => by
    have : ((x : Int) + 1) ≠ h := by omega
    simp only [updA, if_neg this])
  have e : (((h - 1).toNat : Nat) : Int) + 1 = h := by omega
  simp only [e] at this
  have e2 : updA f h v h = v := by simp [updA]
  rw [e2] at this
  unfold cntP
  exact this
theorem sum_set : ∀ (l : List Nat) (i x y : Nat), l[i]? = some y → (l.set i x).sum + y = l.sum + x
  | [], _, _, _, h => by cases h
  | a :: l, 0, x, y, h => by
    injection h with h
    subst h
    simp only [List.set_cons_zero, List.sum_cons]; omega
  | a :: l, i + 1, x, y, h => by
    have := sum_set l i x y h
    simp only [List.set_cons_succ, List.sum_cons]; omega
theorem tot_upd (p : E → Bool) (T : AT) (i : Nat) (h : Int) (v : Option E) (hi : i < T.tabs.length) (hh : 1 ≤ h ∧ h ≤ 256) : tot p (T.upd i h v) + oc p (T.at i h) = tot p T + oc p v := by
  unfold tot AT.upd AT.at
  rw [map_set]
  have hg : T.tabs.getD i (fun _ => none) = T.tabs[i] := by simp [List.getD, hi]
  have h1 := sum_set (T.tabs.map (cntP p)) i (cntP p (updA (T.tabs.getD i fun _ => none) h v)) (cntP p T.tabs[i]) (by simp [hi])
  have h2 := cntP_upd p T.tabs[i] h v hh
  rw [hg] at h1 ⊢
  omega
theorem cntP_le (p : E → Bool) (f : Int → Option E) : cntP p f ≤ 256 := by
  unfold cntP
  exact Nat.le_trans (List.length_filter_le _ _) (by simp)
theorem tot_le (p : E → Bool) (T : AT) (hl : T.tabs.length ≤ 4) : tot p T ≤ 1024 := by
  have : ∀ l : List (Int → Option E), (l.map (cntP p)).sum ≤ l.length * 256 := by
    intro l
    induction l with
    | nil => simp
    | cons a l ih => have := cntP_le p a; simp only [List.map_cons, List.sum_cons, List.length_cons]; omega
  have := this T.tabs
  unfold tot; omega
theorem le_sum : ∀ (l : List Nat) (i y : Nat), l[i]? = some y → y ≤ l.sum
  | [], _, _, h => by cases h
  | a :: l, 0, y, h => by injection h with h; subst h; simp only [List.sum_cons]; omega
  | a :: l, i + 1, y, h => by have := le_sum l i y h; simp only [List.sum_cons]; omega
theorem at_lt {T : AT} {i : Nat} {h : Int} {e : E} (ha : T.at i h = some e) : i < T.tabs.length := by
  apply Classical.byContradiction
  intro hn
  unfold AT.at at ha
  rw [List.getD, List.getElem?_eq_none (by omega)] at ha
  cases ha
theorem tot_pos {p : E → Bool} {T : AT} {i : Nat} {h : Int} {e : E} (ha : T.at i h = some e) (hh : 1 ≤ h ∧ h ≤ 256) (hp : p e = true) : 0 < tot p T := by
  have hi := at_lt ha
  have h1 := le_sum (T.tabs.map (cntP p)) i (cntP p T.tabs[i]) (by simp [hi])
  have h2 : 0 < cntP p T.tabs[i] := by
    unfold cntP
    apply List.length_pos_of_mem (a := (h - 1).toNat)
    rw [List.mem_filter]
    refine ⟨List.mem_range.2 (by omega), ?_⟩
    rw [show (((h - 1).toNat : Nat) : Int) + 1 = h by omega]
    unfold AT.at at ha
    rw [List.getD, List.getElem?_eq_getElem hi] at ha
    simp only [Option.getD_some] at ha
    rw [ha]; exact hp
  unfold tot; omega
theorem tot_congr {p q : E → Bool} {T : AT} (h : ∀ i k e, T.at i k = some e → p e = q e) : tot p T = tot q T := by
  unfold tot
  congr 1
  apply List.map_congr_left
  intro f hf
  obtain ⟨i, hi⟩ := List.getElem?_of_mem hf
  unfold cntP
  congr 1
  apply List.filter_congr
  intro k _
  cases hk : f ((k : Int) + 1) with
  | none => rfl
  | some e => exact h i ((k : Int) + 1) e (by unfold AT.at; rw [List.getD, hi]; exact hk)
theorem tot_none {p : E → Bool} {T : AT} (h : ∀ i k e, T.at i k = some e → p e = false) : tot p T = 0 := by
  rw [tot_congr (q := fun _ => false) h]
  have : ∀ l : List (Int → Option E), (l.map (cntP fun _ => false)).sum = 0 := by
    intro l
    induction l with
    | nil => rfl
    | cons a l ih =>
      rw [List.map_cons, List.sum_cons, ih]
      unfold cntP
      rw [List.filter_eq_nil_iff.2]
      · rfl
      · intro k _; cases a ((k : Int) + 1) <;> simp [oB]
  exact this _
/-- How often a handle is lent. -/
def lentN (T : AT) (i : Nat) (h : Int) : Nat := (T.calls.map fun c => c.lent.count ((i : Int), h)).sum
structure AT.Inv (T : AT) (n : Nat) : Prop where
  few : T.tabs.length ≤ 4
  keys : ∀ i h e, T.at i h = some e → 1 ≤ h ∧ h ≤ 256
  rs : ∀ i h e, T.at i h = some e → 0 ≤ e.r ∧ e.r < (T.mkr.length : Int)
  own : ∀ i h e, T.at i h = some e → 0 ≤ e.call ∧ e.call ≤ (T.calls.length : Int) ∧ (e.own = true ↔ e.call = 0)
  bor : ∀ (k : Nat) (c : AC), T.calls[k]? = some c → c.bor = (tot (fun e => e.call == (k : Int) + 1) T : Int)
  lends : ∀ i h e, T.at i h = some e → e.lends = (lentN T i h : Int)
  there : ∀ c ∈ T.calls, ∀ p ∈ c.lent, 0 ≤ p.1 ∧ p.1 < (T.tabs.length : Int) ∧ (T.at p.1.toNat p.2).isSome = true
  room : (T.calls.map fun c => c.lent.length).sum ≤ n
  deep : T.calls.length ≤ 16
theorem lentN_zero {T : AT} {n : Nat} (hI : T.Inv n) {i : Nat} {h : Int} (ha : T.at i h = none) : lentN T i h = 0 := by
  unfold lentN
  have : ∀ l : List AC, (∀ c ∈ l, c.lent.count ((i : Int), h) = 0) → (l.map fun c => c.lent.count ((i : Int), h)).sum = 0 := by
    intro l
    induction l with
    | nil => intro _; rfl
    | cons a l ih => intro hl; rw [List.map_cons, List.sum_cons, hl a List.mem_cons_self, ih (fun c hc => hl c (List.mem_cons_of_mem _ hc))]
  refine this _ fun c hc => ?_
  rw [List.count_eq_zero]
  intro hm
  have := (hI.there c hc _ hm).2.2
  simp only [Int.toNat_natCast] at this
  rw [ha] at this
  cases this
theorem lent_le {T : AT} {n : Nat} (hI : T.Inv n) : ∀ c ∈ T.calls, c.lent.length ≤ n := by
  intro c hc
  obtain ⟨k, hk⟩ := List.getElem?_of_mem hc
  exact Nat.le_trans (le_sum (T.calls.map fun c => c.lent.length) k _ (by rw [List.getElem?_map, hk]; rfl)) hI.room
theorem lentN_le {T : AT} {n : Nat} (hI : T.Inv n) (i : Nat) (h : Int) : lentN T i h ≤ n := by
  refine Nat.le_trans ?_ hI.room
  unfold lentN
  have : ∀ l : List AC, (l.map fun c => c.lent.count ((i : Int), h)).sum ≤ (l.map fun c => c.lent.length).sum := by
    intro l
    induction l with
    | nil => exact Nat.le_refl _
    | cons a l ih => have := List.count_le_length (a := ((i : Int), h)) (l := a.lent); simp only [List.map_cons, List.sum_cons]; omega
  exact this _
theorem get_at {T : AT} {i r h : Int} {e : E} (hg : T.get i r h = some e) : T.at i.toNat h = some e ∧ e.r = r ∧ 0 ≤ i ∧ i < (T.tabs.length : Int) ∧ 0 ≤ r ∧ r < (T.mkr.length : Int) := by
  unfold AT.get at hg
  split at hg
  · rename_i hb
    obtain ⟨h1, h2, h3, h4⟩ := isB_true hb
    rw [Option.bind_eq_some_iff] at hg
    obtain ⟨e', h5, h6⟩ := hg
    split at h6
    · injection h6 with h6; subst h6
      exact ⟨h5, by assumption, h1, h2, h3, h4⟩
    · cases h6
  · cases hg
theorem at_get {T : AT} {i : Nat} {h : Int} {e : E} (ha : T.at i h = some e) (hr : 0 ≤ e.r ∧ e.r < (T.mkr.length : Int)) : T.get (i : Int) e.r h = some e := by
  have hi := at_lt ha
  have hb : T.is (i : Int) e.r = true := by
    unfold AT.is isB
    simp only [Bool.and_eq_true, decide_eq_true_eq]
    omega
  unfold AT.get
  rw [if_pos hb]
  unfold AT.at at ha
  rw [Int.toNat_natCast, ha]
  simp
theorem AT.Inv.ok {T : AT} {n : Nat} (hI : T.Inv n) (hn : n < 1000000) : T.Ok := by
  refine ⟨?_, ?_, ?_⟩
  · intro i r h e hg ho
    obtain ⟨ha, _⟩ := get_at hg
    obtain ⟨h1, h2, h3⟩ := hI.own _ _ _ ha
    have : e.call ≠ 0 := fun z => by rw [h3.2 z] at ho; cases ho
    omega
  · intro c hc
    have := lent_le hI c hc
    omega
  · intro p hp
    unfold AT.lastC at hp
    cases hc : T.calls[T.calls.length - 1]? with
    | none => rw [List.getD, hc] at hp; cases hp
    | some c => rw [List.getD, hc] at hp; exact hI.there c (List.mem_of_getElem? hc) p hp
theorem oc_true {p : E → Bool} {e : E} (h : p e = true) : oc p (some e) = 1 := by simp [oc, oB, h]
theorem oc_false {p : E → Bool} {e : E} (h : p e = false) : oc p (some e) = 0 := by simp [oc, oB, h]
theorem upd_calls (T : AT) (i : Nat) (h : Int) (v : Option E) : (T.upd i h v).calls = T.calls := rfl
theorem upd_len (T : AT) (i : Nat) (h : Int) (v : Option E) : (T.upd i h v).tabs.length = T.tabs.length := by simp [AT.upd]
theorem lentN_upd (T : AT) (i : Nat) (h : Int) (v : Option E) (j : Nat) (k : Int) : lentN (T.upd i h v) j k = lentN T j k := rfl
theorem tot_calls (p : E → Bool) (T : AT) (cs : List AC) : tot p { T with calls := cs } = tot p T := rfl
theorem AT.Inv.mono {T : AT} {n m : Nat} (hI : T.Inv n) (h : n ≤ m) : T.Inv m := { hI with room := Nat.le_trans hI.room h }
/-- A first free index is free, and an index. -/
theorem fresh_free (f : Int → Option E) (hs : ¬ 256 ≤ cntA f) : f (freshA f) = none ∧ 1 ≤ freshA f ∧ freshA f ≤ 256 := by
  unfold freshA
  cases hf : (List.range 256).find? (fun k : Nat => (f ((k : Int) + 1)).isNone) with
  | none =>
    exfalso
    apply hs
    unfold cntA
    rw [List.filter_eq_self.2, List.length_range]
    · exact Nat.le_refl _
    · intro k hk
      have := List.find?_eq_none.1 hf k hk
      cases hk2 : f ((k : Int) + 1) with
      | none => rw [hk2] at this; exact absurd rfl this
      | some e => rfl
  | some k =>
    have h1 := List.find?_some hf
    have h2 := List.mem_range.1 (List.mem_of_find?_eq_some hf)
    refine ⟨?_, by show (1 : Int) ≤ (k : Int) + 1; omega, by show (k : Int) + 1 ≤ 256; omega⟩
    cases hk2 : f ((k : Int) + 1) with
    | none => rfl
    | some e => rw [hk2] at h1; cases h1
/-- A new handle. -/
theorem AT.Inv.put {T : AT} {n : Nat} (hI : T.Inv n) {i : Nat} (hi : i < T.tabs.length) {h : Int} (hf : T.at i h = none) (hh : 1 ≤ h ∧ h ≤ 256) {e : E} (hr : 0 ≤ e.r ∧ e.r < (T.mkr.length : Int)) (hl : e.lends = 0) (hc : e.call = 0) (ho : e.own = true) : (T.upd i h (some e)).Inv n := by
  have hat : ∀ j k x, (T.upd i h (some e)).at j k = some x → (j = i ∧ k = h ∧ x = e) ∨ T.at j k = some x := by
    intro j k x hx
    rw [at_upd] at hx
    split at hx
    · rename_i hz; injection hx with hx; exact .inl ⟨hz.1, hz.2.1, hx.symm⟩
    · exact .inr hx
  refine ⟨by rw [upd_len]; exact hI.few, ?_, ?_, ?_, ?_, ?_, ?_, hI.room, hI.deep⟩
  · intro j k x hx
    rcases hat j k x hx with ⟨_, rfl, _⟩ | h1
    · exact hh
    · exact hI.keys j k x h1
  · intro j k x hx
    rcases hat j k x hx with ⟨_, _, rfl⟩ | h1
    · exact hr
    · exact hI.rs j k x h1
  · intro j k x hx
    rcases hat j k x hx with ⟨_, _, rfl⟩ | h1
    · rw [hc]; exact ⟨Int.le_refl _, Int.natCast_nonneg _, by simp [ho]⟩
    · exact hI.own j k x h1
  · intro k c hk
    have h1 := tot_upd (fun e => e.call == (k : Int) + 1) T i h (some e) hi hh
    have h2 : oc (fun e => e.call == (k : Int) + 1) (some e) = 0 := by
      have : (e.call == (k : Int) + 1) = false := by rw [hc]; exact beq_eq_false_iff_ne.2 (by omega)
      exact oc_false this
    have h3 : oc (fun e => e.call == (k : Int) + 1) (T.at i h) = 0 := by rw [hf]; rfl
    rw [hI.bor k c hk]; omega
  · intro j k x hx
    rw [lentN_upd]
    rcases hat j k x hx with ⟨rfl, rfl, rfl⟩ | h1
    · rw [hl, lentN_zero hI hf]; rfl
    · exact hI.lends j k x h1
  · intro c hc p hp
    obtain ⟨h1, h2, h3⟩ := hI.there c hc p hp
    refine ⟨h1, by rw [upd_len]; exact h2, ?_⟩
    rw [at_upd]
    split
    · rfl
    · exact h3
theorem map_set_same {α β : Type} (f : α → β) : ∀ (l : List α) (i : Nat) (x : α), (∀ y, l[i]? = some y → f x = f y) → (l.set i x).map f = l.map f
  | [], _, _, _ => rfl
  | a :: l, 0, x, h => by rw [List.set_cons_zero, List.map_cons, List.map_cons, h a rfl]
  | a :: l, i + 1, x, h => by rw [List.set_cons_succ, List.map_cons, List.map_cons, map_set_same f l i x h]
/-- One handle of one call more (v) or less: the call's count turned likewise. -/
theorem bor_inv {T U : AT} {n k : Nat} {c : AC} {b : Int} (hI : T.Inv n) (hk : T.calls[k]? = some c) (hU : U.calls = T.calls) (h : U.tabs.length = T.tabs.length ∧ U.mkr = T.mkr) (hkeys : ∀ i h e, U.at i h = some e → 1 ≤ h ∧ h ≤ 256) (hrs : ∀ i h e, U.at i h = some e → 0 ≤ e.r ∧ e.r < (T.mkr.length : Int)) (hown : ∀ i h e, U.at i h = some e → 0 ≤ e.call ∧ e.call ≤ (T.calls.length : Int) ∧ (e.own = true ↔ e.call = 0)) (hlends : ∀ i h e, U.at i h = some e → e.lends = (lentN T i h : Int))
    (hthere : ∀ c ∈ T.calls, ∀ p ∈ c.lent, (U.at p.1.toNat p.2).isSome = true) (hb : b = (tot (fun e => e.call == (k : Int) + 1) U : Int)) (hoth : ∀ j, j ≠ k → tot (fun e => e.call == (j : Int) + 1) U = tot (fun e => e.call == (j : Int) + 1) T) : (U.setBor k b).Inv n := by
  have hg : U.calls.getD k ⟨0, 0, []⟩ = c := by rw [hU]; simp [List.getD, hk]
  have hs : U.setBor k b = { U with calls := T.calls.set k { c with bor := b } } := by unfold AT.setBor; rw [hg, hU]
  rw [hs]
  have hm : ∀ {β : Type} (f : AC → β), f { c with bor := b } = f c → (T.calls.set k { c with bor := b }).map f = T.calls.map f := fun f hf => map_set_same f _ _ _ (fun y hy => by rw [hk] at hy; injection hy with hy; subst hy; exact hf)
  have hlN : ∀ i h, lentN ({ U with calls := T.calls.set k { c with bor := b } } : AT) i h = lentN T i h := fun i h => by
    unfold lentN; rw [hm]; rfl
  refine ⟨by show U.tabs.length ≤ 4; rw [h.1]; exact hI.few, hkeys, fun i k e he => by have := hrs i k e he; rw [← h.2] at this; exact this, fun i k e he => by rw [List.length_set]; exact hown i k e he, ?_, fun i k e he => by rw [hlN]; exact hlends i k e he, ?_, ?_, by rw [List.length_set]; exact hI.deep⟩
  · intro j d hj
    rcases set_get _ _ _ _ _ hj with ⟨rfl, rfl, _⟩ | ⟨hne, h4⟩
    · exact hb
    · rw [hI.bor j d h4, ← hoth j hne]; rfl
  · intro d hd p hp
    have : ∃ d' ∈ T.calls, p ∈ d'.lent := by
      obtain ⟨j, hj⟩ := List.getElem?_of_mem hd
      rcases set_get _ _ _ _ _ hj with ⟨rfl, rfl, _⟩ | ⟨hne, h4⟩
      · exact ⟨c, List.mem_of_getElem? hk, hp⟩
      · exact ⟨d, List.mem_of_getElem? h4, hp⟩
    obtain ⟨d', h1, h2⟩ := this
    obtain ⟨h3, h4, _⟩ := hI.there d' h1 p h2
    exact ⟨h3, by show p.1 < (U.tabs.length : Int); rw [h.1]; exact h4, hthere d' h1 p h2⟩
  · show ((T.calls.set k { c with bor := b }).map fun c => c.lent.length).sum ≤ n
    rw [hm]
    · exact hI.room
    · rfl
theorem wrap_small {x : Int} (h : -1000000 ≤ x ∧ x ≤ 1000000) : wrap64 x = x := by unfold wrap64; omega
/-- A handle less. -/
theorem del_inv {T : AT} {n : Nat} (hI : T.Inv n) {i : Nat} {h : Int} {e : E} (ha : T.at i h = some e) (hl : ¬ 0 < e.lends) :
    (∀ j k x, (T.upd i h none).at j k = some x → T.at j k = some x) ∧ (∀ c ∈ T.calls, ∀ p ∈ c.lent, ((T.upd i h none).at p.1.toNat p.2).isSome = true) ∧ ∀ p : E → Bool, tot p (T.upd i h none) + oc p (some e) = tot p T := by
  have hi := at_lt ha
  have hat : ∀ j k x, (T.upd i h none).at j k = some x → T.at j k = some x := by
    intro j k x hx
    rw [at_upd] at hx
    split at hx
    · cases hx
    · exact hx
  refine ⟨hat, ?_, ?_⟩
  · intro c hc p hp
    obtain ⟨h1, h2, h3⟩ := hI.there c hc p hp
    rw [at_upd]
    split
    · rename_i hz
      exfalso
      have hz0 := hI.lends i h e ha
      have hcount : 0 < lentN T i h := by
        obtain ⟨k, hk⟩ := List.getElem?_of_mem hc
        have h5 := le_sum (T.calls.map fun c => c.lent.count ((i : Int), h)) k (c.lent.count ((i : Int), h)) (by rw [List.getElem?_map, hk]; rfl)
        have h6 : 0 < c.lent.count ((i : Int), h) := by
          rw [List.count_pos_iff]
          have : p = ((i : Int), h) := by
            have e1 : p.1 = (i : Int) := by have := hz.1; omega
            have e2 : p.2 = h := hz.2.1
            rw [← e1, ← e2]
          rw [← this]; exact hp
        unfold lentN; omega
      omega
    · exact h3
  · intro p
    have := tot_upd p T i h none hi (hI.keys i h e ha)
    rw [ha] at this
    have z : oc p none = 0 := rfl
    omega
theorem AT.Inv.drop {T : AT} {n : Nat} (hI : T.Inv n) (i r h : Int) : (T.drop i r h).2.2.2.Inv n := by
  unfold AT.drop
  cases hg : T.get i r h with
  | none => exact hI
  | some e =>
    dsimp only
    split
    · exact hI
    · rename_i hl
      obtain ⟨ha, -⟩ := get_at hg
      obtain ⟨d1, d2, d3⟩ := del_inv hI ha hl
      obtain ⟨o1, o2, o3⟩ := hI.own _ _ _ ha
      split
      · rename_i ho
        show (T.upd i.toNat h none).Inv n
        refine ⟨by rw [upd_len]; exact hI.few, fun j k x hx => hI.keys j k x (d1 j k x hx), fun j k x hx => hI.rs j k x (d1 j k x hx), fun j k x hx => hI.own j k x (d1 j k x hx), ?_, fun j k x hx => hI.lends j k x (d1 j k x hx), fun c hc p hp => ⟨(hI.there c hc p hp).1, by rw [upd_len]; exact (hI.there c hc p hp).2.1, d2 c hc p hp⟩, hI.room, hI.deep⟩
        intro k c hk
        have := d3 (fun e => e.call == (k : Int) + 1)
        have h2 : oc (fun e => e.call == (k : Int) + 1) (some e) = 0 := by
          have : (e.call == (k : Int) + 1) = false := by rw [o3.1 ho]; exact beq_eq_false_iff_ne.2 (by omega)
          exact oc_false this
        rw [hI.bor k c hk]; omega
      · rename_i ho
        have hne : e.call ≠ 0 := fun z => ho (o3.2 z)
        obtain ⟨c, hc⟩ : ∃ c, T.calls[(e.call - 1).toNat]? = some c := ⟨_, List.getElem?_eq_getElem (by omega)⟩
        have hb : T.bor (e.call - 1).toNat = (tot (fun x => x.call == (((e.call - 1).toNat : Nat) : Int) + 1) T : Int) := by
          unfold AT.bor
          rw [List.getD, hc]; exact hI.bor _ _ hc
        have hle := tot_le (fun x => x.call == (((e.call - 1).toNat : Nat) : Int) + 1) T hI.few
        have hd := d3 (fun x => x.call == (((e.call - 1).toNat : Nat) : Int) + 1)
        have h2 : oc (fun x => x.call == (((e.call - 1).toNat : Nat) : Int) + 1) (some e) = 1 := by
          have : (e.call == (((e.call - 1).toNat : Nat) : Int) + 1) = true := beq_iff_eq.2 (by omega)
          exact oc_true this
        rw [hb, wrap_small (by omega)]
        have := bor_inv (U := T.upd i.toNat h none) (b := (tot (fun x => x.call == (((e.call - 1).toNat : Nat) : Int) + 1) T : Int) - 1) hI hc rfl ⟨upd_len _ _ _ _, rfl⟩ (fun j k x hx => hI.keys j k x (d1 j k x hx)) (fun j k x hx => hI.rs j k x (d1 j k x hx)) (fun j k x hx => hI.own j k x (d1 j k x hx)) (fun j k x hx => hI.lends j k x (d1 j k x hx)) d2 (by omega) (fun j hj => by
          have := d3 (fun x => x.call == (j : Int) + 1)
          have h2 : oc (fun x => x.call == (j : Int) + 1) (some e) = 0 := by
            have : (e.call == (j : Int) + 1) = false := beq_eq_false_iff_ne.2 (by omega)
            exact oc_false this
          omega)
        exact this
theorem AT.Inv.take {T : AT} {n : Nat} (hI : T.Inv n) (i r h : Int) : (T.take i r h).2.2.Inv n := by
  have hd := hI.drop i r h
  unfold AT.drop at hd
  unfold AT.take
  cases hg : T.get i r h with
  | none => exact hI
  | some e =>
    rw [hg] at hd
    dsimp only at hd ⊢
    split
    · rename_i ho
      rw [if_pos ho] at hd
      split
      · exact hI
      · rename_i hl
        rw [if_neg hl] at hd
        exact hd
    · exact hI
theorem AT.Inv.putAt {T : AT} {n : Nat} (hI : T.Inv n) {i r : Int} (hb : T.is i r = true) (m : Int) : (T.put i.toNat ⟨r, m, true, 0, 0⟩).2.2.Inv n := by
  obtain ⟨h1, h2, h3, h4⟩ := isB_true hb
  unfold AT.put
  split
  · exact hI
  · rename_i hs
    obtain ⟨f1, f2⟩ := fresh_free _ hs
    exact AT.Inv.put (e := ⟨r, m, true, 0, 0⟩) hI (i := i.toNat) (by omega) f1 f2 ⟨h3, h4⟩ rfl rfl rfl
theorem AT.Inv.make {T : AT} {n : Nat} (hI : T.Inv n) (i r m : Int) : (T.make i r m).2.2.Inv n := by
  unfold AT.make
  split
  · split
    · split
      · exact hI.putAt (by assumption) m
      · exact hI
    · exact hI
  · exact hI
theorem AT.Inv.putN {T : AT} {n : Nat} (hI : T.Inv n) (i r m : Int) : (T.putN i r m).2.2.Inv n := by
  unfold AT.putN
  split
  · split
    · exact hI.putAt (by assumption) m
    · exact hI
  · exact hI
theorem AT.Inv.borrow {T : AT} {n : Nat} (hI : T.Inv n) (i r m : Int) : (T.borrow i r m).2.2.Inv n := by
  unfold AT.borrow
  split
  · rename_i hb
    obtain ⟨h1, h2, h3, h4⟩ := isB_true hb
    split
    · exact hI
    · rename_i hn
      split
      · split
        · exact hI
        · unfold AT.put
          split
          · exact hI
          · rename_i hs
            obtain ⟨f1, f2⟩ := fresh_free _ hs
            unfold AT.lend1
            rw [if_pos rfl]
            dsimp only
            obtain ⟨c, hc⟩ : ∃ c, T.calls[T.calls.length - 1]? = some c := ⟨_, List.getElem?_eq_getElem (by omega)⟩
            generalize hh : freshA (T.tabs.getD i.toNat fun _ => none) = h at f1 f2 ⊢
            have hfree : T.at i.toNat h = none := f1
            have hi : i.toNat < T.tabs.length := by omega
            show AT.Inv ((T.upd i.toNat h (some ⟨r, m, false, 0, (T.calls.length : Int)⟩)).setBor (T.calls.length - 1) (wrap64 ((T.upd i.toNat h (some ⟨r, m, false, 0, (T.calls.length : Int)⟩)).bor (T.calls.length - 1) + 1))) n
            have hb : (T.upd i.toNat h (some ⟨r, m, false, 0, (T.calls.length : Int)⟩)).bor (T.calls.length - 1) = (tot (fun x => x.call == (((T.calls.length - 1 : Nat)) : Int) + 1) T : Int) := by
              unfold AT.bor
              rw [upd_calls, List.getD, hc]; exact hI.bor _ _ hc
            have hle := tot_le (fun x => x.call == (((T.calls.length - 1 : Nat)) : Int) + 1) T hI.few
            rw [hb, wrap_small (by omega)]
            have hat : ∀ j k x, (T.upd i.toNat h (some ⟨r, m, false, 0, (T.calls.length : Int)⟩)).at j k = some x → (j = i.toNat ∧ k = h ∧ x = ⟨r, m, false, 0, (T.calls.length : Int)⟩) ∨ T.at j k = some x := by
              intro j k x hx
              rw [at_upd] at hx
              split at hx
              · rename_i hz; injection hx with hx; exact .inl ⟨hz.1, hz.2.1, hx.symm⟩
              · exact .inr hx
            have ht := fun p => tot_upd p T i.toNat h (some ⟨r, m, false, 0, (T.calls.length : Int)⟩) hi f2
            simp only [hfree] at ht
            refine bor_inv hI hc rfl ⟨upd_len _ _ _ _, rfl⟩ ?_ ?_ ?_ ?_ ?_ ?_ ?_
            · intro j k x hx
              rcases hat j k x hx with ⟨_, rfl, _⟩ | h1
              · exact f2
              · exact hI.keys j k x h1
            · intro j k x hx
              rcases hat j k x hx with ⟨_, _, rfl⟩ | h1
              · exact ⟨h3, h4⟩
              · exact hI.rs j k x h1
            · intro j k x hx
              rcases hat j k x hx with ⟨_, _, rfl⟩ | h1
              · exact ⟨Int.natCast_nonneg _, Int.le_refl _, ⟨fun z => (by cases z), fun z => absurd z (by show ¬ (T.calls.length : Int) = 0; omega)⟩⟩
              · exact hI.own j k x h1
            · intro j k x hx
              rcases hat j k x hx with ⟨rfl, rfl, rfl⟩ | h1
              · rw [lentN_zero hI hfree]; rfl
              · exact hI.lends j k x h1
            · intro c hc p hp
              rw [at_upd]
              split
              · rfl
              · exact (hI.there c hc p hp).2.2
            · have := ht (fun x => x.call == (((T.calls.length - 1 : Nat)) : Int) + 1)
              have h2 : oc (fun x => x.call == (((T.calls.length - 1 : Nat)) : Int) + 1) (some ⟨r, m, false, 0, (T.calls.length : Int)⟩) = 1 := by
                have : ((T.calls.length : Int) == (((T.calls.length - 1 : Nat)) : Int) + 1) = true := beq_iff_eq.2 (by omega)
                exact oc_true this
              have h3 : oc (fun x => x.call == (((T.calls.length - 1 : Nat)) : Int) + 1) none = 0 := rfl
              omega
            · intro j hj
              have := ht (fun x => x.call == (j : Int) + 1)
              have h2 : oc (fun x => x.call == (j : Int) + 1) (some ⟨r, m, false, 0, (T.calls.length : Int)⟩) = 0 := by
                have : ((T.calls.length : Int) == (j : Int) + 1) = false := beq_eq_false_iff_ne.2 (by omega)
                exact oc_false this
              have h3 : oc (fun x => x.call == (j : Int) + 1) none = 0 := rfl
              omega
      · exact hI
  · exact hI
theorem AT.Inv.enter {T : AT} {n : Nat} (hI : T.Inv n) (i : Int) : (T.enter i).2.Inv n := by
  unfold AT.enter
  split
  · split
    · split
      · exact hI
      · split
        · exact hI
        · dsimp only
          refine ⟨hI.few, hI.keys, hI.rs, fun j k x hx => ?_, ?_, ?_, ?_, ?_, by simp only [List.length_append, List.length_singleton]; omega⟩
          · obtain ⟨h1, h2, h3⟩ := hI.own j k x hx
            refine ⟨h1, ?_, h3⟩
            simp only [List.length_append, List.length_singleton]; omega
          · intro k c hk
            rw [List.getElem?_append] at hk
            split at hk
            · exact hI.bor k c hk
            · rename_i hkl
              have hk0 : k = T.calls.length := by
                have := (List.getElem?_eq_some_iff.1 hk).1
                simp at this; omega
              subst hk0
              simp at hk
              subst hk
              show (0 : Int) = _
              rw [tot_calls, tot_none]
              · rfl
              · intro j h e he
                have := (hI.own j h e he).2.1
                simp; omega
          · intro j k x hx
            have := hI.lends j k x hx
            rw [this]
            unfold lentN
            simp
          · intro c hc p hp
            rcases List.mem_append.1 hc with h | h
            · exact hI.there c h p hp
            · simp at h; subst h; cases hp
          · simp only [List.map_append, List.sum_append, List.map_cons, List.map_nil, List.length_nil, List.sum_cons, List.sum_nil]
            have := hI.room
            omega
    · exact hI
  · exact hI
theorem last_split {T : AT} (h : T.calls.length ≠ 0) : ∃ cs, T.calls = cs ++ [T.lastC] ∧ T.calls.length = cs.length + 1 ∧ T.calls.dropLast = cs := by
  have hne : T.calls ≠ [] := fun z => h (by rw [z]; rfl)
  refine ⟨T.calls.dropLast, ?_, ?_, rfl⟩
  · have := List.dropLast_concat_getLast hne
    have h2 : T.lastC = T.calls.getLast hne := by
      unfold AT.lastC
      rw [List.getD, List.getLast_eq_getElem, List.getElem?_eq_getElem (by omega)]; rfl
    rw [h2]; exact this.symm
  · rw [List.length_dropLast]; omega
theorem AT.Inv.lend {T : AT} {n : Nat} (hI : T.Inv n) (hn : n < 1000000) (i r h : Int) : (T.lend i r h).2.2.Inv (n + 1) := by
  unfold AT.lend
  cases hg : T.get i r h with
  | none => exact hI.mono (Nat.le_succ n)
  | some e =>
    dsimp only
    split
    · exact hI.mono (Nat.le_succ n)
    · rename_i hc
      obtain ⟨ha, -, i0, i1, -⟩ := get_at hg
      obtain ⟨cs, hcs, hlen, -⟩ := last_split hc
      have hle := lentN_le hI i.toNat h
      have hl := hI.lends _ _ _ ha
      have hkeys := hI.keys _ _ _ ha
      unfold AT.lent
      rw [wrap_small (x := e.lends + 1) (by omega)]
      generalize hL : T.lastC = L at *
      have hset : T.calls.set (T.calls.length - 1) { L with lent := L.lent ++ [(i, h)] } = cs ++ [{ L with lent := L.lent ++ [(i, h)] }] := by
        rw [hcs, List.length_append]
        simp
      rw [hset]
      show AT.Inv { (T.upd i.toNat h (some { e with lends := e.lends + 1 })) with calls := cs ++ [{ L with lent := L.lent ++ [(i, h)] }] } (n + 1)
      have hat : ∀ j k x, (T.upd i.toNat h (some { e with lends := e.lends + 1 })).at j k = some x → (j = i.toNat ∧ k = h ∧ x = { e with lends := e.lends + 1 }) ∨ (¬ (j = i.toNat ∧ k = h) ∧ T.at j k = some x) := by
        intro j k x hx
        rw [at_upd] at hx
        by_cases hz : j = i.toNat ∧ k = h
        · rw [if_pos ⟨hz.1, hz.2, at_lt ha⟩] at hx
          injection hx with hx
          exact .inl ⟨hz.1, hz.2, hx.symm⟩
        · rw [if_neg (fun z => hz ⟨z.1, z.2.1⟩)] at hx
          exact .inr ⟨hz, hx⟩
      have hcount : ∀ (j : Nat) (k : Int), lentN ({ (T.upd i.toNat h (some { e with lends := e.lends + 1 })) with calls := cs ++ [{ L with lent := L.lent ++ [(i, h)] }] } : AT) j k = lentN T j k + (if j = i.toNat ∧ k = h then 1 else 0) := by
        intro j k
        unfold lentN
        rw [hcs]
        simp only [List.map_append, List.sum_append, List.map_cons, List.map_nil, List.sum_cons, List.sum_nil, List.count_append]
        have : List.count ((j : Int), k) [(i, h)] = if j = i.toNat ∧ k = h then 1 else 0 := by
          rw [List.count_singleton]
          by_cases hz : j = i.toNat ∧ k = h
          · rw [if_pos hz, if_pos]
            rw [beq_iff_eq, Prod.mk.injEq]; exact ⟨by omega, hz.2.symm⟩
          · rw [if_neg hz, if_neg]
            rw [beq_iff_eq, Prod.mk.injEq]
            rintro ⟨z1, z2⟩
            exact hz ⟨by omega, z2.symm⟩
        rw [this]; omega
      refine ⟨by show (T.upd _ _ _).tabs.length ≤ 4; rw [upd_len]; exact hI.few, ?_, ?_, ?_, ?_, ?_, ?_, ?_, by have := hI.deep; simp; omega⟩
      · intro j k x hx
        rcases hat j k x hx with ⟨_, rfl, _⟩ | ⟨_, h1⟩
        · exact hkeys
        · exact hI.keys j k x h1
      · intro j k x hx
        rcases hat j k x hx with ⟨_, _, rfl⟩ | ⟨_, h1⟩
        · have := hI.rs _ _ _ ha; exact this
        · exact hI.rs j k x h1
      · intro j k x hx
        have : (cs ++ [({ L with lent := L.lent ++ [(i, h)] } : AC)]).length = T.calls.length := by simp; omega
        rw [this]
        rcases hat j k x hx with ⟨_, _, rfl⟩ | ⟨_, h1⟩
        · have := hI.own _ _ _ ha; exact this
        · exact hI.own j k x h1
      · intro k c hk
        have ht := tot_upd (fun e => e.call == (k : Int) + 1) T i.toNat h (some { e with lends := e.lends + 1 }) (at_lt ha) hkeys
        rw [ha] at ht
        have e1 : oc (fun e => e.call == (k : Int) + 1) (some { e with lends := e.lends + 1 }) = oc (fun e => e.call == (k : Int) + 1) (some e) := rfl
        have e2 : tot (fun e => e.call == (k : Int) + 1) (T.upd i.toNat h (some { e with lends := e.lends + 1 })) = tot (fun e => e.call == (k : Int) + 1) T := by omega
        show c.bor = (tot (fun e => e.call == (k : Int) + 1) (T.upd i.toNat h (some { e with lends := e.lends + 1 })) : Int)
        rw [e2]
        rw [List.getElem?_append] at hk
        split at hk
        · refine hI.bor k c ?_
          rw [hcs, List.getElem?_append_left (by assumption)]; exact hk
        · rename_i hkl
          have hk0 : k = cs.length := by
            have := (List.getElem?_eq_some_iff.1 hk).1
            simp at this; omega
          subst hk0
          simp at hk
          rw [← hk]
          exact hI.bor cs.length L (by rw [hcs]; simp)
      · intro j k x hx
        rw [hcount]
        rcases hat j k x hx with ⟨rfl, rfl, rfl⟩ | ⟨hne, h1⟩
        · rw [if_pos ⟨rfl, rfl⟩]
          show e.lends + 1 = _
          rw [hl]; omega
        · rw [if_neg hne, hI.lends j k x h1]; rfl
      · intro c hc p hp
        have hsome : ∀ (j : Nat) (k : Int), (T.at j k).isSome = true → ((T.upd i.toNat h (some { e with lends := e.lends + 1 })).at j k).isSome = true := by
          intro j k hs
          rw [at_upd]
          split
          · rfl
          · exact hs
        have hold : ∀ c ∈ T.calls, ∀ p ∈ c.lent, 0 ≤ p.1 ∧ p.1 < ((T.upd i.toNat h (some { e with lends := e.lends + 1 })).tabs.length : Int) ∧ ((T.upd i.toNat h (some { e with lends := e.lends + 1 })).at p.1.toNat p.2).isSome = true := by
          intro c hc p hp
          obtain ⟨h1, h2, h3⟩ := hI.there c hc p hp
          exact ⟨h1, by rw [upd_len]; exact h2, hsome _ _ h3⟩
        rcases List.mem_append.1 hc with h1 | h1
        · exact hold c (by rw [hcs]; exact List.mem_append_left _ h1) p hp
        · simp at h1
          subst h1
          rcases List.mem_append.1 hp with h2 | h2
          · exact hold L (by rw [hcs]; simp) p h2
          · simp at h2
            subst h2
            exact ⟨i0, by rw [upd_len]; exact i1, hsome _ _ (by rw [ha]; rfl)⟩
      · have := hI.room
        rw [hcs] at this
        simp only [List.map_append, List.sum_append, List.map_cons, List.map_nil, List.sum_cons, List.sum_nil, List.length_append, List.length_singleton] at this ⊢
        omega
/-- What giving lent handles back makes of a handle. -/
theorem unlend_at (T : AT) (p : Int × Int) (j : Nat) (k : Int) (hp : 0 ≤ p.1) : (T.unlend p).at j k = (T.at j k).map fun e => if ((j : Int), k) = p then { e with lends := wrap64 (e.lends - 1) } else e := by
  unfold AT.unlend
  cases hs : (T.tabs.getD p.1.toNat fun _ => none) p.2 with
  | none =>
    dsimp only
    cases ha : T.at j k with
    | none => rfl
    | some e =>
      rw [Option.map_some, if_neg]
      rintro rfl
      dsimp only at hs
      rw [Int.toNat_natCast] at hs
      unfold AT.at at ha
      rw [ha] at hs; cases hs
  | some e =>
    show (T.upd p.1.toNat p.2 _).at j k = _
    have hs' : T.at p.1.toNat p.2 = some e := hs
    rw [at_upd]
    by_cases hz : j = p.1.toNat ∧ k = p.2
    · obtain ⟨rfl, rfl⟩ := hz
      rw [if_pos ⟨rfl, rfl, at_lt hs'⟩, hs', Option.map_some, if_pos]
      exact Prod.ext (by show ((p.1.toNat : Nat) : Int) = p.1; omega) rfl
    · rw [if_neg (fun z => hz ⟨z.1, z.2.1⟩)]
      cases ha : T.at j k with
      | none => rfl
      | some e' =>
        rw [Option.map_some, if_neg]
        rintro rfl
        exact hz ⟨by simp, rfl⟩
theorem fold_at (l : List (Int × Int)) : ∀ (T : AT) (j : Nat) (k : Int), (∀ p ∈ l, 0 ≤ p.1) → (∀ e, T.at j k = some e → 0 ≤ e.lends ∧ (l.count ((j : Int), k) : Int) ≤ e.lends ∧ e.lends ≤ 1000000) → (l.foldl AT.unlend T).at j k = (T.at j k).map fun e => { e with lends := e.lends - (l.count ((j : Int), k) : Int) } := by
  induction l with
  | nil => intro T j k _ _; rw [List.foldl_nil]; cases T.at j k <;> simp
  | cons p l ih =>
    intro T j k h0 hb
    rw [List.foldl_cons]
    have hu := unlend_at T p j k (h0 p List.mem_cons_self)
    rw [ih (T.unlend p) j k (fun q hq => h0 q (List.mem_cons_of_mem _ hq))]
    · rw [hu, Option.map_map]
      cases ha : T.at j k with
      | none => rfl
      | some e =>
        obtain ⟨b1, b2, b3⟩ := hb e ha
        rw [Option.map_some, Option.map_some, Function.comp_apply]
        rw [List.count_cons] at b2 ⊢
        by_cases hz : ((j : Int), k) = p
        · rw [if_pos hz]
          have hz' : (p == ((j : Int), k)) = true := by rw [beq_iff_eq]; exact hz.symm
          rw [hz'] at b2 ⊢
          simp only [if_true] at b2 ⊢
          rw [wrap_small (by omega)]
          congr 2
          omega
        · rw [if_neg hz]
          have hz' : (p == ((j : Int), k)) = false := by rw [beq_eq_false_iff_ne]; exact fun z => hz z.symm
          rw [hz']
          simp
    · intro e he
      rw [hu] at he
      cases ha : T.at j k with
      | none => rw [ha] at he; cases he
      | some e0 =>
        rw [ha, Option.map_some] at he
        injection he with he
        obtain ⟨b1, b2, b3⟩ := hb e0 ha
        rw [List.count_cons] at b2
        by_cases hz : ((j : Int), k) = p
        · rw [if_pos hz] at he
          have hz' : (p == ((j : Int), k)) = true := by rw [beq_iff_eq]; exact hz.symm
          rw [hz'] at b2
          simp only [if_true] at b2
          rw [wrap_small (by omega)] at he
          subst he
          dsimp only; omega
        · rw [if_neg hz] at he
          subst he
          have hz' : (p == ((j : Int), k)) = false := by rw [beq_eq_false_iff_ne]; exact fun z => hz z.symm
          rw [hz'] at b2
          simp at b2
          omega
theorem fold_rest (l : List (Int × Int)) : ∀ (T : AT), (l.foldl AT.unlend T).calls = T.calls ∧ (l.foldl AT.unlend T).mkr = T.mkr ∧ (l.foldl AT.unlend T).tabs.length = T.tabs.length := by
  induction l with
  | nil => intro T; exact ⟨rfl, rfl, rfl⟩
  | cons p l ih =>
    intro T
    rw [List.foldl_cons]
    obtain ⟨h1, h2, h3⟩ := ih (T.unlend p)
    obtain ⟨g1, g2, g3⟩ := unlend_calls T p
    exact ⟨h1.trans g1, h2.trans g2, h3.trans g3⟩
theorem cntP_congr {p : E → Bool} {f g : Int → Option E} (h : ∀ k, oB p (f k) = oB p (g k)) : cntP p f = cntP p g := by
  unfold cntP
  congr 1
  exact List.filter_congr fun k _ => h _
theorem tot_at {p : E → Bool} {T U : AT} (hl : U.tabs.length = T.tabs.length) (h : ∀ i k, oB p (U.at i k) = oB p (T.at i k)) : tot p U = tot p T := by
  unfold tot
  congr 1
  apply List.ext_getElem?
  intro i
  rw [List.getElem?_map, List.getElem?_map]
  by_cases hi : i < T.tabs.length
  · rw [List.getElem?_eq_getElem hi, List.getElem?_eq_getElem (by omega : i < U.tabs.length), Option.map_some, Option.map_some]
    congr 1
    apply cntP_congr
    intro k
    have := h i k
    unfold AT.at at this
    rw [List.getD, List.getD, List.getElem?_eq_getElem hi, List.getElem?_eq_getElem (by omega : i < U.tabs.length)] at this
    exact this
  · rw [List.getElem?_eq_none (by omega), List.getElem?_eq_none (by omega)]
theorem last_bor {T : AT} {n : Nat} (hI : T.Inv n) (hc : T.calls.length ≠ 0) : T.lastC.bor = (tot (fun e => e.call == (T.calls.length : Int)) T : Int) := by
  obtain ⟨cs, hcs, hlen, -⟩ := last_split hc
  have := hI.bor cs.length T.lastC (by rw [hcs]; simp)
  rw [this, show ((cs.length : Int) + 1) = (T.calls.length : Int) by omega]
theorem AT.Inv.leave {T : AT} {n : Nat} (hI : T.Inv n) (hn : n < 1000000) : T.leave.2.Inv n := by
  unfold AT.leave
  split
  · exact hI
  · rename_i hc
    split
    · exact hI
    · rename_i hb
      dsimp only
      obtain ⟨cs, hcs, hlen, hdl⟩ := last_split hc
      rw [hdl]
      have hlb := last_bor hI hc
      have hLm : T.lastC ∈ T.calls := by rw [hcs]; simp
      have hpos : ∀ p ∈ T.lastC.lent, 0 ≤ p.1 := fun p hp => (hI.there _ hLm p hp).1
      have hnum : ∀ j k, lentN T j k = (cs.map fun c => c.lent.count ((j : Int), k)).sum + T.lastC.lent.count ((j : Int), k) := by
        intro j k
        unfold lentN
        rw [hcs]
        simp only [List.map_append, List.sum_append, List.map_cons, List.map_nil, List.sum_cons, List.sum_nil]
        have : (({ T with calls := cs ++ [T.lastC] } : AT)).lastC = T.lastC := by unfold AT.lastC; simp
        omega
      have hfa := fun j k => fold_at T.lastC.lent T j k hpos (fun e he => by
        have h1 := hI.lends j k e he
        have h2 := lentN_le hI j k
        have h3 := hnum j k
        omega)
      have hf0 : ∀ j k e, T.at j k = some e → e.call ≤ (cs.length : Int) := by
        intro j k e he
        obtain ⟨o1, o2, o3⟩ := hI.own j k e he
        apply Classical.byContradiction
        intro hgt
        have := tot_pos he (hI.keys j k e he) (p := fun e => e.call == (T.calls.length : Int)) (beq_iff_eq.2 (by omega))
        omega
      obtain ⟨r1, r2, r3⟩ := fold_rest T.lastC.lent T
      have hinv : ∀ j k x, (T.lastC.lent.foldl AT.unlend T).at j k = some x → ∃ e, T.at j k = some e ∧ x = { e with lends := e.lends - (T.lastC.lent.count ((j : Int), k) : Int) } := by
        intro j k x hx
        rw [hfa] at hx
        cases ha : T.at j k with
        | none => rw [ha] at hx; cases hx
        | some e => rw [ha, Option.map_some] at hx; injection hx with hx; exact ⟨e, rfl, hx.symm⟩
      refine ⟨by show (T.lastC.lent.foldl AT.unlend T).tabs.length ≤ 4; rw [r3]; exact hI.few, ?_, ?_, ?_, ?_, ?_, ?_, ?_, by have := hI.deep; show cs.length ≤ 16; omega⟩
      · intro j k x hx
        obtain ⟨e, he, rfl⟩ := hinv j k x hx
        exact hI.keys j k e he
      · intro j k x hx
        obtain ⟨e, he, rfl⟩ := hinv j k x hx
        have := hI.rs j k e he
        show 0 ≤ e.r ∧ e.r < ((T.lastC.lent.foldl AT.unlend T).mkr.length : Int)
        rw [r2]; exact this
      · intro j k x hx
        obtain ⟨e, he, rfl⟩ := hinv j k x hx
        obtain ⟨o1, o2, o3⟩ := hI.own j k e he
        exact ⟨o1, hf0 j k e he, o3⟩
      · intro k c hk
        have h1 := hI.bor k c (by rw [hcs, List.getElem?_append_left (List.getElem?_eq_some_iff.1 hk).1]; exact hk)
        rw [h1]
        have : tot (fun e => e.call == (k : Int) + 1) (T.lastC.lent.foldl AT.unlend T) = tot (fun e => e.call == (k : Int) + 1) T := tot_at r3 (fun i q => by
          rw [hfa]; cases T.at i q <;> rfl)
        show _ = (tot (fun e => e.call == (k : Int) + 1) (T.lastC.lent.foldl AT.unlend T) : Int)
        rw [this]
      · intro j k x hx
        obtain ⟨e, he, rfl⟩ := hinv j k x hx
        have h1 := hI.lends j k e he
        have h3 := hnum j k
        show e.lends - _ = (((cs.map fun c => c.lent.count ((j : Int), k)).sum : Nat) : Int)
        omega
      · intro c hc' p hp
        obtain ⟨h1, h2, h3⟩ := hI.there c (by rw [hcs]; exact List.mem_append_left _ hc') p hp
        refine ⟨h1, by show p.1 < ((T.lastC.lent.foldl AT.unlend T).tabs.length : Int); rw [r3]; exact h2, ?_⟩
        show ((T.lastC.lent.foldl AT.unlend T).at p.1.toNat p.2).isSome = true
        rw [hfa, Option.isSome_map]; exact h3
      · have := hI.room
        rw [hcs] at this
        simp only [List.map_append, List.sum_append, List.map_cons, List.map_nil, List.sum_cons, List.sum_nil] at this
        show (cs.map fun c => c.lent.length).sum ≤ n
        omega
theorem AT.Inv.doz {T : AT} {n : Nat} (hI : T.Inv n) (hn : n < 1000000) (k i r h : Int) : (T.doz k i r h).2.2.2.Inv (n + 1) := by
  have h1 := fun {U : AT} (x : U.Inv n) => x.mono (Nat.le_succ n)
  unfold AT.doz
  split
  · exact h1 (hI.make _ _ _)
  · split
    · exact h1 hI
    · split
      · exact h1 (hI.drop _ _ _)
      · split
        · exact h1 (hI.drop _ _ _)
        · split
          · exact h1 (hI.take _ _ _)
          · split
            · exact h1 (hI.putN _ _ _)
            · split
              · exact hI.lend hn _ _ _
              · split
                · exact h1 (hI.borrow _ _ _)
                · split
                  · exact h1 (hI.enter _)
                  · exact h1 (hI.leave hn)
theorem newT_at (k : Nat) (l : List Int) (i : Nat) (h : Int) : (newT k l).at i h = none := by
  unfold AT.at newT
  rw [List.getD]
  cases hq : (List.replicate k noneT)[i]? with
  | none => rfl
  | some f =>
    have := List.eq_of_mem_replicate (List.mem_of_getElem? hq)
    rw [this]; rfl
theorem newT_inv (k : Nat) (l : List Int) (hk : k ≤ 4) : (newT k l).Inv 0 := by
  have hn := newT_at k l
  refine ⟨by simp [newT]; exact hk, ?_, ?_, ?_, ?_, ?_, ?_, ?_, Nat.zero_le _⟩
  · intro i h e he; rw [hn] at he; cases he
  · intro i h e he; rw [hn] at he; cases he
  · intro i h e he; rw [hn] at he; cases he
  · intro i c hc; cases hc
  · intro i h e he; rw [hn] at he; cases he
  · intro c hc; cases hc
  · exact Nat.le_refl _
/-- A deed. -/
structure Dd where
  k : Int
  i : Int
  r : Int
  h : Int
  near : Bool
def Dd.cells (x : Dd) : List Value := [.int .i64 x.k, .int .i64 x.i, .int .i64 x.r, .int .i64 x.h, .bool x.near]
/-- Deeds in memory. -/
def Dds (W : World) (A : Option Addr) (l : List Dd) : Prop := ∀ (j : Nat) (x : Dd), l[j]? = some x → ∃ ad, A = some ad ∧ W.cell? (ad.add (j * 5)) = some (.int .i64 x.k) ∧ ∀ q u, 0 < q → x.cells[q]? = some u → W.cell? ⟨(ad.add (j * 5)).block, (ad.add (j * 5)).off + q, none⟩ = some u
def lowb (n : Int) : Int := bits BinOp.and IntKind.i64 n 1
def Dd.low (x : Dd) : Dd := { x with i := lowb x.i, r := lowb x.r }
/-- A deed, aimed, done. -/
def Dd.doz (x : Dd) (T : AT) : Int × Int × Bool × AT := T.doz x.k x.i (aimP x.k x.r x.h x.near (T.hands x.i)).1 (aimP x.k x.r x.h x.near (T.hands x.i)).2
theorem cell_lt {w : World} {a : Addr} {v : Value} (h : w.cell? a = some v) : a.block < w.heap.size := by
  apply Classical.byContradiction
  intro hn
  unfold World.cell? at h
  rw [Array.getElem?_eq_none (by omega)] at h
  cases h
theorem five_cells {W : World} {g : Nat} {t : TypeId} {a b c d e : Value} (h : W.heap[g]? = some (.cells #[a, b, c, d, e] t (0, 0))) : W.cell? ⟨g, 0, none⟩ = some a ∧ W.cell? ⟨g, 1, none⟩ = some b ∧ W.cell? ⟨g, 2, none⟩ = some c ∧ W.cell? ⟨g, 3, none⟩ = some d ∧ W.cell? ⟨g, 4, none⟩ = some e := ⟨(blk_cell h 0).trans rfl, (blk_cell h 1).trans rfl, (blk_cell h 2).trans rfl, (blk_cell h 3).trans rfl, (blk_cell h 4).trans rfl⟩
theorem dds_below {w w' : World} {A : Option Addr} {l : List Dd} (h : Dds w A l) (hb : Below w.heap.size w w') : Dds w' A l := by
  intro j x hx
  obtain ⟨ad, e, h1, h2⟩ := h j x hx
  exact ⟨ad, e, (hb.cell (cell_lt h1)).trans h1, fun q u hq hu => (hb.cell (cell_lt (h2 q u hq hu))).trans (h2 q u hq hu)⟩
/-- The tables' own blocks are there. -/
theorem HT.within {w : World} {g : Nat} {S : Tb} {D : Nat → Prop} (h : HT w g S D) : HT w g S (fun b => D b ∧ b < w.heap.size) :=
  { h with
    topD := ⟨h.topD, (Array.getElem?_eq_some_iff.1 h.top).1⟩
    mkD := fun k e => ⟨h.mkD k e, (own_lt h.mkr e).1⟩
    tabD := fun k e => ⟨h.tabD k e, (own_lt h.tab e).1⟩
    mapsD := fun b hb => by
      obtain ⟨k, hk⟩ := List.getElem?_of_mem hb
      have hkl := (List.getElem?_eq_some_iff.1 hk).1
      have h2 : S.rows[k]? = some (S.rows[k]'(by rw [h.len1]; exact hkl)) := List.getElem?_eq_getElem _
      have h3 : S.cks[k]? = some (S.cks[k]'(by rw [h.len2]; exact hkl)) := List.getElem?_eq_getElem _
      exact ⟨h.mapsD b hb, (Array.getElem?_eq_some_iff.1 (h.maps k b _ _ hk h2 h3)).1⟩
    entsD := fun xs h1 x h2 => ⟨h.entsD xs h1 x h2, (Array.getElem?_eq_some_iff.1 (h.ents xs h1 x h2)).1⟩
    calD := fun k e => ⟨h.calD k e, (own_lt h.cal e).1⟩
    lentD := fun c hc k e => ⟨h.lentD c hc k e, (own_lt (h.lent c hc) e).1⟩ }
theorem aft_blk {w w' : World} {g b : Nat} {D : Nat → Prop} {T : AT} {o : Obj} (k : Aft w g D T w') (h : w.heap[b]? = some o) (hD : ¬ D b) : w'.heap[b]? = some o := by
  obtain ⟨S', h1, h2, h3⟩ := k
  exact (h3.2.1 b (blk_lt h) hD).trans h
theorem ht_below {w w' : World} {g : Nat} {S : Tb} {D : Nat → Prop} (h : HT w g S D) (k : Below w.heap.size w w') : HT w' g S D := h.keep fun b hb _ => k.block b hb
end Go.Proofs.Ytdjkjdlbckcplaa.Hd
namespace Go.Proofs.Ytdjkjdlbckcplaa.Reads
open Go.RowKit Go.Proofs.YtdjkjdlbckcplaaW.PrintWords
section
variable {H : Type} {enc : TypeId × Value → H} {P : Program} {w : World} {α β : Type}
/-- Whatever reads as a value of the type t, with at most n steps, is of the kind d. -/
def Opn (enc : TypeId × Value → H) (P : Program) (w : World) (d : Kd α) (t : TypeId) (wf : α → Prop) (n : Nat) : Prop :=
  ∀ m, m ≤ n → ∀ cs x, DataW.trod enc P w 0 (fun _ => true) true m t cs = some x → (∀ q ∈ x.1.weights P t, q ≤ reachBytes) → ∃ a, d.K w a cs ∧ wf a
theorem weights_mem {P : Program} {e : TypeId} {H : Type} : ∀ {ds : List (DataW H)} {d : DataW H}, d ∈ ds → ∀ q ∈ d.weights P e, q ∈ DataW.weightsAll P e ds
  | d0 :: ds, d, hd, q, hq => by
    simp only [DataW.weightsAll, List.mem_append]
    rcases List.mem_cons.mp hd with rfl | h
    · exact .inl hq
    · exact .inr (weights_mem h q hq)
theorem Opn.le {d : Kd α} {t : TypeId} {wf : α → Prop} {n m : Nat} (h : Opn enc P w d t wf n) (hm : m ≤ n) : Opn enc P w d t wf m := fun q hq => h q (by omega)
theorem Opn.imp {d : Kd α} {t : TypeId} {wf wf' : α → Prop} {n : Nat} (h : Opn enc P w d t wf n) (hi : ∀ a, wf a → wf' a) : Opn enc P w d t wf' n := fun m hm cs x hx hz => by
  obtain ⟨a, h1, h2⟩ := h m hm cs x hx hz
  exact ⟨a, h1, hi a h2⟩
theorem opn_int {t : TypeId} {k : IntKind} (ht : P.underlying t = some (.int k)) (n : Nat) : Opn enc P w (Kd.int k) t (fun x => (Lit.int k x).wf = true) n := by
  intro m _ cs x hx hz
  cases m with
  | zero => simp [DataW.trod] at hx
  | succ m =>
    unfold DataW.trod at hx
    rw [ht] at hx
    split at hx <;> simp_all
    obtain ⟨⟨rfl, hwf⟩, rfl⟩ := hx
    exact ⟨_, rfl, hwf⟩
theorem opn_bool {t : TypeId} (ht : P.underlying t = some .bool) (n : Nat) : Opn enc P w Kd.bool t (fun _ => True) n := by
  intro m _ cs x hx hz
  cases m with
  | zero => simp [DataW.trod] at hx
  | succ m =>
    unfold DataW.trod at hx
    rw [ht] at hx
    split at hx <;> simp_all
    rename Bool => b
    cases b
    · exact .inl rfl
    · exact .inr rfl
theorem add_add' (a : Addr) (i j : Nat) : (a.add i).add j = a.add (i + j) := by
  unfold Addr.add
  by_cases hi : i = 0 <;> by_cases hj : j = 0 <;> simp [hi, hj, Nat.add_assoc]
theorem choose_list {p : Nat → α → Prop} : ∀ {n : Nat}, (∀ i, i < n → ∃ x, p i x) → ∃ l : List α, l.length = n ∧ ∀ i x, l[i]? = some x → p i x := by
  intro n
  induction n with
  | zero => intro _; exact ⟨[], rfl, fun i x h => by simp at h⟩
  | succ n ih =>
    intro h
    obtain ⟨l, hl, hp⟩ := ih (fun i hi => h i (by omega))
    obtain ⟨x, hx⟩ := h n (by omega)
    refine ⟨l ++ [x], by simp [hl], fun i y hy => ?_⟩
    by_cases hi : i < n
    · rw [List.getElem?_append_left (by omega)] at hy
      exact hp i y hy
    · rw [List.getElem?_append_right (by omega)] at hy
      have e : i = n := by
        have := List.getElem?_eq_some_iff.mp hy
        obtain ⟨h1, _⟩ := this
        simp at h1
        omega
      subst e
      rw [hl] at hy
      simp at hy
      exact hy ▸ hx
theorem opn_slice {t e : TypeId} {d : Kd α} {wf : α → Prop} {n : Nat} (q : Nat) (ht : P.underlying t = some (.slice e)) (hc : P.cellsOf e = d.sz) (h : Opn enc P w d e wf n) :
    Opn enc P w (Kd.slice q d) t (fun l => l.length * P.bytesOf e ≤ reachBytes ∧ ∀ x ∈ l, wf x) (n + 1) := by
  intro m hm cs x hx hz
  rcases DataW.trod_slice ht hx with ⟨rfl, _⟩ | ⟨a, len, cap, elems, rest, m', rfl, rfl, rfl, _, hl, hcap, hlen, hel, _, _⟩
  · exact ⟨[], ⟨none, 0, rfl, Nat.le_refl _, rfl, by simp, fun h => by simp at h⟩, by simp, by simp⟩
  · have hwt : (DataW.slice (elems.map (·.1)) (rest.map (·.1))).weights P t = (elems.length + rest.length) * P.bytesOf e :: (DataW.weightsAll P e (elems.map (·.1)) ++ DataW.weightsAll P e (rest.map (·.1))) := by
      simp [DataW.weights, ht]
    rw [hwt] at hz
    have key : ∀ i, i < len → ∃ y : α, wf y ∧ ∃ c, w.cells? 0 (a.add (i * P.cellsOf e)) (P.cellsOf e) = some c ∧ d.K w y c := by
      intro i hi
      have h1 := hel i hi
      rw [List.getElem?_eq_getElem (by omega)] at h1
      obtain ⟨c, hc1, hc2⟩ := Option.bind_eq_some_iff.mp h1
      obtain ⟨y, hy1, hy2⟩ := h m' (by omega) c _ hc2 (fun q hq => hz q (List.mem_cons_of_mem _ (List.mem_append_left _ (weights_mem (List.mem_map.2 ⟨_, List.getElem_mem _, rfl⟩) q hq))))
      exact ⟨y, hy2, c, hc1, hy1⟩
    obtain ⟨l, hll, hlp⟩ := choose_list key
    refine ⟨l, ⟨some a, cap, by rw [hll], by omega, rfl, ?_, fun _ => ⟨a, rfl, fun j p hj => ?_⟩⟩, ?_, fun y hy => ?_⟩
    · have : maxLen = 9223372036854775807 := by decide
      omega
    · obtain ⟨_, c, hc1, hK⟩ := hlp j p hj
      obtain ⟨_, hcl, hcell⟩ := World.cells?_some hc1
      rw [hc] at hcl hcell hc1
      refine ⟨c, hcl, hK, fun i u hi => ?_⟩
      have hi' : i < d.sz := by
        obtain ⟨h1, _⟩ := List.getElem?_eq_some_iff.mp hi
        omega
      have := hcell i hi'
      rw [add_add'] at this
      rw [this, hi]
    · have hq := hz _ (List.mem_cons_self ..)
      rw [hll, ← hlen]
      exact Nat.le_trans (Nat.mul_le_mul_right _ (by omega)) hq
    · obtain ⟨i, hi, rfl⟩ := List.getElem_of_mem hy
      exact (hlp i _ (List.getElem?_eq_getElem hi)).1
/-- The fields of a struct, from the cell o on. -/
def OpnFs (enc : TypeId × Value → H) (P : Program) (w : World) (d : Kd α) (fs : List Field) (o : Nat) (wf : α → Prop) (n : Nat) : Prop :=
  ∀ m, m ≤ n → ∀ cs : List Value, cs.length = o + d.sz → (∀ f ∈ fs, ∃ x, DataW.trod enc P w 0 (fun _ => true) true m f.type ((cs.drop f.offset).take (P.cellsOf f.type)) = some x ∧ ∀ q ∈ x.1.weights P f.type, q ≤ reachBytes) → ∃ a, d.K w a (cs.drop o) ∧ wf a
theorem opn_one {d : Kd α} {f : Field} {o : Nat} {wf : α → Prop} {n : Nat} (ho : f.offset = o) (hc : P.cellsOf f.type = d.sz) (h : Opn enc P w d f.type wf n) : OpnFs enc P w d [f] o wf n := by
  intro m hm cs hl hf
  obtain ⟨x, hx, hz⟩ := hf f (by simp)
  rw [ho, hc, List.take_of_length_le (by simp; omega)] at hx
  exact h m hm _ _ hx hz
theorem opn_pair {a : Kd α} {b : Kd β} {f : Field} {fs : List Field} {o : Nat} {wa : α → Prop} {wb : β → Prop} {n : Nat} (ho : f.offset = o) (hc : P.cellsOf f.type = a.sz) (h : Opn enc P w a f.type wa n) (hs : OpnFs enc P w b fs (o + a.sz) wb n) :
    OpnFs enc P w (Kd.pair a b) (f :: fs) o (fun x => wa x.1 ∧ wb x.2) n := by
  intro m hm cs hl hf
  have hl' : cs.length = o + (a.sz + b.sz) := hl
  obtain ⟨x, hx, hz0⟩ := hf f (by simp)
  rw [ho, hc] at hx
  obtain ⟨y, hy, wy⟩ := h m hm _ _ hx hz0
  obtain ⟨z, hz, wz⟩ := hs m hm cs (by omega) (fun g hg => hf g (by simp [hg]))
  refine ⟨(y, z), ⟨_, _, ?_, hy, hz⟩, wy, wz⟩
  rw [show cs.drop (o + a.sz) = (cs.drop o).drop a.sz by rw [List.drop_drop], List.take_append_drop]
theorem opn_struct {t : TypeId} {fs : Array Field} {d : Kd α} {wf : α → Prop} {n : Nat} (ht : P.underlying t = some (.struct fs)) (hc : P.cellsOf t = d.sz) (h : OpnFs enc P w d fs.toList 0 wf n) : Opn enc P w d t wf (n + 1) := by
  intro m hm cs x hx hz0
  obtain ⟨xs, m', rfl, rfl, hl, hxl, hf⟩ := DataW.trod_struct ht hx
  obtain ⟨a, ha, wa⟩ := h m' (by omega) cs (by omega) (fun f hf' => by
    obtain ⟨i, hi, rfl⟩ := List.getElem_of_mem hf'
    have hi' : i < fs.size := by simpa using hi
    have := hf i fs[i] (Array.getElem?_eq_getElem hi')
    rw [List.getElem?_eq_getElem (by omega)] at this
    refine ⟨_, this, fun q hq => hz0 q ?_⟩
    have hwt : (DataW.agg (xs.map (·.1))).weights P t = DataW.weightsEach P (fs.toList.map (·.type)) (xs.map (·.1)) := by simp [DataW.weights, ht]
    rw [hwt]
    refine DataW.weights_mem_each (j := i) (t := fs[i].type) (d := (xs[i]'(by omega)).1) (by simp [hi']) (by rw [List.getElem?_map, List.getElem?_eq_getElem (by omega)]; rfl) q ?_
    simpa using hq)
  exact ⟨a, ha, wa⟩
end
end Go.Proofs.Ytdjkjdlbckcplaa.Reads
namespace Go.Proofs.Ytdjkjdlbckcplaa.Hd
open Go.RowKit Go.Proofs Go.Proofs.YtdjkjdlbckcplaaW.PrintWords Go.Proofs.YtdjkjdlbckcplaaW.PrintLast Go.Proofs.YtdjkjdlbckcplaaW.PrintMore Go.Proofs.Ytdjkjdlbckcplaa.MapI Go.Proofs.Ytdjkjdlbckcplaa.Reads
set_option linter.unusedVariables false
set_option linter.unusedSimpArgs false
abbrev kDd : Kd (Int × Int × Int × Int × Bool) := Kd.pair (Kd.int .i64) (Kd.pair (Kd.int .i64) (Kd.pair (Kd.int .i64) (Kd.pair (Kd.int .i64) Kd.bool)))
def ddOf (x : Int × Int × Int × Int × Bool) : Dd := ⟨x.1, x.2.1, x.2.2.1, x.2.2.2.1, x.2.2.2.2⟩
theorem add_parts (a : Addr) (i j : Nat) (hj : 0 < j) : a.add (i + j) = ⟨(a.add i).block, (a.add i).off + j, none⟩ := by
  unfold Addr.add
  by_cases hi : i = 0
  · simp [hi]; omega
  · rw [if_neg (by omega), if_neg hi]; simp [Nat.add_assoc]
theorem dds_of {w : World} {A : Option Addr} {l : List (Int × Int × Int × Int × Bool)} (h : kDd.C w A l.length l) : Dds w A (l.map ddOf) := by
  intro j x hx
  rw [List.getElem?_map, Option.map_eq_some_iff] at hx
  obtain ⟨y, hy, rfl⟩ := hx
  have hlt := (List.getElem?_eq_some_iff.1 hy).1
  obtain ⟨ad, e, hc⟩ := h.2.2 (by omega)
  obtain ⟨c, hs, ⟨_, _, rfl, rfl, ⟨_, _, rfl, rfl, ⟨_, _, rfl, rfl, ⟨_, _, rfl, rfl, rfl⟩⟩⟩⟩, hcell⟩ := hc j y hy
  refine ⟨ad, e, hcell 0 _ rfl, fun q u hq hu => ?_⟩
  rw [← add_parts ad (j * 5) q hq]
  exact hcell q u hu
/-- The argument of a law: deeds. -/
theorem arg_deeds {H : Type} {enc : TypeId × Value → H} {w : World} {v : Value} {d : DataW H} {ps : List MemPlace} (h : DataW.Trod enc Try.prog w 0 (fun _ => true) true 22 v d ps) (hv : ∃ a len cap, v = .slice a len cap) (hz : ∀ q ∈ d.weights Try.prog 22, q ≤ reachBytes) :
    ∃ (A : Option Addr) (c : Nat) (l : List Dd), v = .slice A l.length c ∧ l.length ≤ c ∧ Dds w A l ∧ l.length ≤ 9223372036854775807 ∧ ∀ x ∈ l, True := by
  obtain ⟨n, hn⟩ := h
  obtain ⟨a, len, cap, rfl⟩ := hv
  have hi : Opn enc Try.prog w (Kd.int .i64) 3 (fun x => (Lit.int .i64 x).wf = true) n := opn_int Try.underlying3 n
  have hb : Opn enc Try.prog w Kd.bool 4 (fun _ => True) n := opn_bool Try.underlying4 n
  have hs := opn_struct (d := kDd) Try.underlying39 (by kernel_rfl) (opn_pair rfl (by kernel_rfl) hi (opn_pair rfl (by kernel_rfl) hi (opn_pair rfl (by kernel_rfl) hi (opn_pair rfl (by kernel_rfl) hi (opn_one rfl (by kernel_rfl) hb)))))
  obtain ⟨l, ⟨A, c, e, hc, hC⟩, hm, hw⟩ := (opn_slice 39 Try.underlying22 (by kernel_rfl) hs) n (by omega) _ _ hn hz
  have e' : [Value.slice a len cap] = [Value.slice A l.length c] := e
  simp at e'
  obtain ⟨rfl, rfl, rfl⟩ := e'
  exact ⟨_, _, l.map ddOf, by rw [List.length_map], by rw [List.length_map]; exact hc, dds_of hC, by rw [List.length_map]; exact hC.2.1, fun _ _ => trivial⟩
/-- Tables of two instances, of which each makes one resource. -/
structure AT.Two (T : AT) (n : Nat) : Prop where
  inv : T.Inv n
  mkr : T.mkr = [0, 1]
  tabs : T.tabs.length = 2
open Go.RowKit Go.Proofs Go.Proofs.YtdjkjdlbckcplaaW.PrintWords Go.Proofs.YtdjkjdlbckcplaaW.PrintLast Go.Proofs.YtdjkjdlbckcplaaW.PrintMore Go.Proofs.Ytdjkjdlbckcplaa.MapI
open Go.RowKit Go.Proofs
def ownN (T : AT) : Nat := tot E.own T
/-- One table's handles, as the law looks at them. -/
structure Seen (L : List (Int × E)) : Prop where
  rise : ∀ (j : Nat) (p q : Int × E), L[j]? = some p → L[j + 1]? = some q → p.1 < q.1
  pos : ∀ p ∈ L, 1 ≤ p.1
  own : ∀ p ∈ L, (p.2.own = true ↔ p.2.call = 0)
  few : L.length ≤ 256
open Go.RowKit Go.Maps Go.Proofs Go.Proofs.YtdjkjdlbckcplaaW.PrintWords Go.Proofs.YtdjkjdlbckcplaaW.PrintLast Go.Proofs.YtdjkjdlbckcplaaW.PrintMore Go.Proofs.Ytdjkjdlbckcplaa.MapI
/-- A copy under way: the rows rs of the new map nb, told so far (ss), out of xs. -/
structure Cp (W : World) (base nb c : Nat) (xs rs : List Row) (ss : List Int) : Prop where
  hm : W.heap[nb]? = some (mobj (rs.map Row.enc) c)
  hh : rs.map Row.h = ss
  he : ∀ x ∈ rs, W.heap[x.eb]? = some (.cells x.e.cells 69 (0, 0)) ∧ base ≤ x.eb
  hn : (rs.map Row.eb).Nodup
  hb : (rs.map Row.born).Nodup ∧ ∀ x ∈ rs, x.born < c
  hy : ∀ x ∈ rs, ∃ y ∈ xs, y.h = x.h ∧ y.e = x.e
theorem Cp.kept {W W' : World} {base nb c : Nat} {xs rs : List Row} {ss : List Int} (h : Cp W base nb c xs rs ss) {row : Option Nat} (hg : W.grownBy W' row) (hr : ∀ q, row = some q → (∀ cs t f, W.heap[q]? ≠ some (Obj.cells cs t f)) ∧ q ≠ nb) : Cp W' base nb c xs rs ss :=
  { h with
    hm := (hg.block nb (blk_lt h.hm) (fun z => (hr nb z.symm).2 rfl)).trans h.hm
    he := fun x hx => ⟨(hg.block x.eb (blk_lt (h.he x hx).1) (fun z => (hr x.eb z.symm).1 _ _ _ (h.he x hx).1)).trans (h.he x hx).1, (h.he x hx).2⟩ }
theorem Cp.step {W : World} {base nb c : Nat} {xs rs : List Row} {ss : List Int} (h : Cp W base nb c xs rs ss) {k : Int} {e : E} (hb : base ≤ W.heap.size) (hk : ∃ y ∈ xs, y.h = k ∧ y.e = e) :
    Cp ((W.alloc (.cells e.cells 69)).putObj nb (mobj (rs.map Row.enc ++ [(k, .pointer (some ⟨W.heap.size, 0, none⟩), c)]) (c + 1))) base nb (c + 1) xs (rs ++ [⟨k, W.heap.size, c, e⟩]) (ss ++ [k]) := by
  have hsz : (W.alloc (.cells e.cells 69)).heap.size = W.heap.size + 1 := Array.size_push _
  have hnl := blk_lt h.hm
  refine ⟨?_, ?_, ?_, ?_, ?_, ?_⟩
  · rw [List.map_append]
    exact putObj_same _ _ _ (by rw [hsz]; omega)
  · rw [List.map_append, h.hh]; rfl
  · intro x hx
    rcases List.mem_append.1 hx with h1 | h1
    · have h2 := h.he x h1
      have hne : x.eb ≠ nb := fun z => by have h3 := h2.1; rw [z, h.hm] at h3; injection h3 with h3; cases h3
      exact ⟨(putObj_other _ _ _ _ hne).trans (blk_alloc h2.1 _), h2.2⟩
    · simp at h1
      subst h1
      exact ⟨(putObj_other _ _ _ _ (by show W.heap.size ≠ nb; omega)).trans (blk_new W _), hb⟩
  · rw [List.map_append, List.nodup_append]
    refine ⟨h.hn, by simp, ?_⟩
    intro a ha b hb
    obtain ⟨x, hx, rfl⟩ := List.mem_map.1 ha
    have := blk_lt (h.he x hx).1
    simp at hb
    omega
  · refine ⟨?_, ?_⟩
    · rw [List.map_append, List.nodup_append]
      refine ⟨h.hb.1, by simp, ?_⟩
      intro a ha b hb
      obtain ⟨x, hx, rfl⟩ := List.mem_map.1 ha
      have := h.hb.2 x hx
      simp at hb
      omega
    · intro x hx
      rcases List.mem_append.1 hx with h1 | h1
      · have := h.hb.2 x h1; omega
      · simp at h1; subst h1; exact Nat.lt_succ_self c
  · intro x hx
    rcases List.mem_append.1 hx with h1 | h1
    · exact h.hy x h1
    · simp at h1; subst h1; exact hk
end Go.Proofs.Ytdjkjdlbckcplaa.Hd
namespace Go.Proofs.Ytdjkjdlbckcplaa.PA
open Go.RowKit Go.Proofs.YtdjkjdlbckcplaaW.PrintWords Go.Proofs.YtdjkjdlbckcplaaW.PrintLast Go.Proofs.YtdjkjdlbckcplaaW.PrintMore
attribute [local go_sem] max2_int min2_int max_two min_two max_three min_three max_four min_four   -- for this text's walks alone
set_option linter.unusedVariables false
set_option linter.unusedSimpArgs false
theorem eqA31 (d : Nat) (w : World) (x0 y0 : Int) (x1 y1 : Int) (x2 y2 : Int) (x3 y3 : Bool) (x4 y4 : Int) (x5 y5 : Int) :
 (Op.equalIn (d + 2) 31 (.agg #[.int .i64 x0, .int .i64 x1, .int .i64 x2, .bool x3, .int .i64 x4, .int .i64 x5]) (.agg #[.int .i64 y0, .int .i64 y1, .int .i64 y2, .bool y3, .int .i64 y4, .int .i64 y5])).run Try.prog w = .ok (x0 == y0 && (x1 == y1 && (x2 == y2 && (x3 == y3 && (x4 == y4 && (x5 == y5)))))) w := by
 refine eqA_of Try.underlying31 (by kernel_rfl) ?_; refine eqf_cons (by rfl) (by go_simp; rfl) (by go_simp; rfl) (by go_simp) ?_; refine eqf_cons (by rfl) (by go_simp; rfl) (by go_simp; rfl) (by go_simp) ?_; refine eqf_cons (by rfl) (by go_simp; rfl) (by go_simp; rfl) (by go_simp) ?_; refine eqf_cons (by rfl) (by go_simp; rfl) (by go_simp; rfl) (by go_simp) ?_; refine eqf_cons (by rfl) (by go_simp; rfl) (by go_simp; rfl) (by go_simp) ?_; exact eqf_last (by rfl) (by go_simp; rfl) (by go_simp; rfl) (by go_simp)
attribute [local go_sem high] eqA31
def scarfref16_Same.l0 : Nat → List (S31) → List (S31) → Int → Option (Bool)
 | 0, _, _, _ => none
 | k + 1, x0, x1, x5 => if x5 < (x0.length : Int) then (if 0 ≤ x5 then (if x5 < (x1.length : Int) then (if (!(((rd_T31 x0 x5).f0) == ((rd_T31 x1 x5).f0)) || (!(((rd_T31 x0 x5).f1) == ((rd_T31 x1 x5).f1)) || (!(((rd_T31 x0 x5).f2) == ((rd_T31 x1 x5).f2)) || (!(((rd_T31 x0 x5).f3) == ((rd_T31 x1 x5).f3)) || (!(((rd_T31 x0 x5).f4) == ((rd_T31 x1 x5).f4)) || (!(((rd_T31 x0 x5).f5) == ((rd_T31 x1 x5).f5)))))))) = true then (some false) else (scarfref16_Same.l0 k x0 x1 (wrap64 (x5 + 1)))) else (none)) else (none)) else (some true)
def scarfref16_Same.f (k : Nat) (l0 : List (S31)) (l1 : List (S31)) : Option (Bool) := if (l0.length : Int) = (l1.length : Int) then (scarfref16_Same.l0 k l0 l1 0) else (some false)
set_option maxHeartbeats 8000000 in
set_option maxRecDepth 100000 in
theorem scarfref16_Same.calls (k : Nat) (A0 : Option Addr) (c0 : Nat) (l0 : List (S31)) (A1 : Option Addr) (c1 : Nat) (l1 : List (S31)) (r : Bool) (w : World) (hr0 : Kd.C k31 w A0 l0.length l0) (hc0 : l0.length ≤ c0) (hr1 : Kd.C k31 w A1 l1.length l1) (hc1 : l1.length ≤ c1) (h : scarfref16_Same.f k l0 l1 = some r) :
 Calls Try.prog 48 #[.slice A0 l0.length c0, .slice A1 l1.length c1] w fun e w' => e = .returned (.bool r) ∧ Drawn0 w w' := by
 have hu31 := Try.underlying31; have HR0 := Aside0.mk hr0; have HC0 := Aside0.mk hc0; clear hr0 hc0; have HR1 := Aside0.mk hr1; have HC1 := Aside0.mk hc1; clear hr1 hc1; have H : (if (l0.length : Int) = (l1.length : Int) then (scarfref16_Same.l0 k l0 l1 0) else (some false)) = some r := h; clear h; by_cases c3 : (l0.length : Int) = (l1.length : Int)
 ·rw [if_pos c3] at H; have c3b0 : ((l0.length : Int) == (l1.length : Int)) = true := beq_iff_eq.mpr c3; have c3b1 : ((l0.length : Int) != (l1.length : Int)) = false := bne_eq_false_iff_eq.mpr c3; have c3b2 : (l0.length == l1.length) = true := by first | simpa using c3 | (simp at c3 ⊢; omega)
  clear c3; have H' := Aside0.mk H; clear H; go_enter Try.func48, Try.ntmps48; go_wp2; repeat (go_quiet (fail); try go_wp2)
  go_loopg [5] k (fun kq v5 w' => ∃ (x5_1 : Int), v5 = .int .i64 x5_1 ∧ Aside0 (scarfref16_Same.l0 kq l0 l1 x5_1 = some r) ∧ Aside0 (kq ≤ k) ∧ Drawn0 w w')
  case atStart => exact ⟨(0), (by first | rfl | (simp; done) | (simp [*]; done)), H', ⟨Nat.le_refl _⟩, by repeat (first | exact Drawn0.refl _ | apply Drawn0.step)⟩
  case round =>
   clear H'; (try clear c1); (try clear p2); (try clear c3 c3b0 c3b1 c3b2); obtain ⟨x5_1, rfl, HA, HK1, ⟨m1, rfl⟩⟩ := hrel; cases gk with
   | zero => exact absurd HA.out (by simp [scarfref16_Same.l0])
   | succ k1 =>
    have H := HA.out; clear HA; simp only [scarfref16_Same.l0] at H; by_cases c4 : x5_1 < (l0.length : Int)
    ·rw [if_pos c4] at H; have c4b0 : decide (x5_1 < (l0.length : Int)) = true := decide_eq_true c4; clear c4; by_cases c5 : 0 ≤ x5_1
     ·rw [if_pos c5] at H; have c5b0 : decide (0 ≤ x5_1) = true := decide_eq_true c5; clear c5; by_cases c6 : x5_1 < (l1.length : Int)
      ·rw [if_pos c6] at H; have c6b0 : decide (x5_1 < (l1.length : Int)) = true := decide_eq_true c6; clear c6; by_cases c7 : (!(((rd_T31 l0 x5_1).f0) == ((rd_T31 l1 x5_1).f0)) || (!(((rd_T31 l0 x5_1).f1) == ((rd_T31 l1 x5_1).f1)) || (!(((rd_T31 l0 x5_1).f2) == ((rd_T31 l1 x5_1).f2)) || (!(((rd_T31 l0 x5_1).f3) == ((rd_T31 l1 x5_1).f3)) || (!(((rd_T31 l0 x5_1).f4) == ((rd_T31 l1 x5_1).f4)) || (!(((rd_T31 l0 x5_1).f5) == ((rd_T31 l1 x5_1).f5)))))))) = true
       ·rw [if_pos c7] at H; have c7b0 : (!(((rd_T31 l0 x5_1).f0) == ((rd_T31 l1 x5_1).f0)) || (!(((rd_T31 l0 x5_1).f1) == ((rd_T31 l1 x5_1).f1)) || (!(((rd_T31 l0 x5_1).f2) == ((rd_T31 l1 x5_1).f2)) || (!(((rd_T31 l0 x5_1).f3) == ((rd_T31 l1 x5_1).f3)) || (!(((rd_T31 l0 x5_1).f4) == ((rd_T31 l1 x5_1).f4)) || (!(((rd_T31 l0 x5_1).f5) == ((rd_T31 l1 x5_1).f5)))))))) = true := c7; clear c7; obtain rfl := Option.some.inj H; have p282 : 0 ≤ (x5_1 : Int) := of_decide_eq_true (by first | (with_reducible assumption) | assumption); have q282 : x5_1 < (l0.length : Int) := of_decide_eq_true (by first | (with_reducible assumption) | assumption); obtain ⟨ad282, e282, hx282_0, hx282_1, hx282_2, hx282_3, hx282_4, hx282_5⟩ := at_T31 HR0.out x5_1 p282 q282; cases e282; replace p282 := eq_true p282; replace q282 := eq_true q282; have p283 : 0 ≤ (x5_1 : Int) := of_decide_eq_true (by first | (with_reducible assumption) | assumption); have q283 : x5_1 < (l1.length : Int) := of_decide_eq_true (by first | (with_reducible assumption) | assumption); obtain ⟨ad283, e283, hx283_0, hx283_1, hx283_2, hx283_3, hx283_4, hx283_5⟩ := at_T31 HR1.out x5_1 p283 q283; cases e283; replace p283 := eq_true p283; replace q283 := eq_true q283; go_wp2; repeat (go_quiet (fail); try go_wp2)
        go_ret
        exact ⟨by first | rfl | (simp; done) | (simp [*]; done), by repeat (first | exact Drawn0.refl _ | apply Drawn0.step)⟩
       ·rw [if_neg c7] at H; have c7b0 : (!(((rd_T31 l0 x5_1).f0) == ((rd_T31 l1 x5_1).f0)) || (!(((rd_T31 l0 x5_1).f1) == ((rd_T31 l1 x5_1).f1)) || (!(((rd_T31 l0 x5_1).f2) == ((rd_T31 l1 x5_1).f2)) || (!(((rd_T31 l0 x5_1).f3) == ((rd_T31 l1 x5_1).f3)) || (!(((rd_T31 l0 x5_1).f4) == ((rd_T31 l1 x5_1).f4)) || (!(((rd_T31 l0 x5_1).f5) == ((rd_T31 l1 x5_1).f5)))))))) = false := by simpa using c7
        clear c7; have H' := Aside0.mk H; clear H; have p282 : 0 ≤ (x5_1 : Int) := of_decide_eq_true (by first | (with_reducible assumption) | assumption); have q282 : x5_1 < (l0.length : Int) := of_decide_eq_true (by first | (with_reducible assumption) | assumption); obtain ⟨ad282, e282, hx282_0, hx282_1, hx282_2, hx282_3, hx282_4, hx282_5⟩ := at_T31 HR0.out x5_1 p282 q282; cases e282; replace p282 := eq_true p282; replace q282 := eq_true q282; have p283 : 0 ≤ (x5_1 : Int) := of_decide_eq_true (by first | (with_reducible assumption) | assumption); have q283 : x5_1 < (l1.length : Int) := of_decide_eq_true (by first | (with_reducible assumption) | assumption); obtain ⟨ad283, e283, hx283_0, hx283_1, hx283_2, hx283_3, hx283_4, hx283_5⟩ := at_T31 HR1.out x5_1 p283 q283; cases e283; replace p283 := eq_true p283; replace q283 := eq_true q283; go_wp2; repeat (go_quiet (fail); try go_wp2)
        go_roundg k1
        case measure => have := HK1.out; omega
        case rel => exact ⟨(wrap64 (x5_1 + 1)), (by first | rfl | (simp; done) | (simp [*]; done)), H', ⟨by have := HK1.out; omega⟩, by repeat (first | exact Drawn0.refl _ | apply Drawn0.step)⟩
      ·rw [if_neg c6] at H; exact absurd H (by simp)
     ·rw [if_neg c5] at H; exact absurd H (by simp)
    ·rw [if_neg c4] at H; have c4b0 : decide (x5_1 < (l0.length : Int)) = false := decide_eq_false c4; clear c4; obtain rfl := Option.some.inj H; go_wp2; repeat (go_quiet (fail); try go_wp2)
     go_ret
     exact ⟨by first | rfl | (simp; done) | (simp [*]; done), by repeat (first | exact Drawn0.refl _ | apply Drawn0.step)⟩
 ·rw [if_neg c3] at H; have c3b0 : ((l0.length : Int) == (l1.length : Int)) = false := beq_eq_false_iff_ne.mpr c3; have c3b1 : ((l0.length : Int) != (l1.length : Int)) = true := bne_iff_ne.mpr c3; have c3b2 : (l0.length == l1.length) = false := by first | simpa using c3 | (simp at c3 ⊢; omega)
  obtain rfl := Option.some.inj H; go_enter Try.func48, Try.ntmps48; go_wp2; repeat (go_quiet (fail); try go_wp2)
  go_ret
  exact ⟨by first | rfl | (simp; done) | (simp [*]; done), by repeat (first | exact Drawn0.refl _ | apply Drawn0.step)⟩
def scarfref01_Same.l0 : Nat → List Int → List Int → Int → Option (Bool)
 | 0, _, _, _ => none
 | k + 1, x0, x1, x5 => if x5 < (x0.length : Int) then (if 0 ≤ x5 then (if x5 < (x1.length : Int) then (if (rd x0 x5) = (rd x1 x5) then (scarfref01_Same.l0 k x0 x1 (wrap64 (x5 + 1))) else (some false)) else (none)) else (none)) else (some true)
def scarfref01_Same.f (k : Nat) (l0 : List Int) (l1 : List Int) : Option (Bool) := if (l0.length : Int) = (l1.length : Int) then (scarfref01_Same.l0 k l0 l1 0) else (some false)
set_option maxHeartbeats 8000000 in
set_option maxRecDepth 100000 in
theorem scarfref01_Same.calls (k : Nat) (A0 : Option Addr) (c0 : Nat) (l0 : List Int) (A1 : Option Addr) (c1 : Nat) (l1 : List Int) (r : Bool) (w : World) (hr0 : Kd.C (Kd.int .i64) w A0 l0.length l0) (hc0 : l0.length ≤ c0) (hr1 : Kd.C (Kd.int .i64) w A1 l1.length l1) (hc1 : l1.length ≤ c1) (h : scarfref01_Same.f k l0 l1 = some r) :
 Calls Try.prog 49 #[.slice A0 l0.length c0, .slice A1 l1.length c1] w fun e w' => e = .returned (.bool r) ∧ Drawn0 w w' := by
 have HR0 := Aside0.mk hr0; have HC0 := Aside0.mk hc0; clear hr0 hc0; have HR1 := Aside0.mk hr1; have HC1 := Aside0.mk hc1; clear hr1 hc1; have H : (if (l0.length : Int) = (l1.length : Int) then (scarfref01_Same.l0 k l0 l1 0) else (some false)) = some r := h; clear h; by_cases c3 : (l0.length : Int) = (l1.length : Int)
 ·rw [if_pos c3] at H; have c3b0 : ((l0.length : Int) == (l1.length : Int)) = true := beq_iff_eq.mpr c3; have c3b1 : ((l0.length : Int) != (l1.length : Int)) = false := bne_eq_false_iff_eq.mpr c3; have c3b2 : (l0.length == l1.length) = true := by first | simpa using c3 | (simp at c3 ⊢; omega)
  clear c3; have H' := Aside0.mk H; clear H; go_enter Try.func49, Try.ntmps49; go_wp2; repeat (go_quiet (fail); try go_wp2)
  go_loopg [5] k (fun kq v5 w' => ∃ (x5_1 : Int), v5 = .int .i64 x5_1 ∧ Aside0 (scarfref01_Same.l0 kq l0 l1 x5_1 = some r) ∧ Aside0 (kq ≤ k) ∧ Drawn0 w w')
  case atStart => exact ⟨(0), (by first | rfl | (simp; done) | (simp [*]; done)), H', ⟨Nat.le_refl _⟩, by repeat (first | exact Drawn0.refl _ | apply Drawn0.step)⟩
  case round =>
   clear H'; (try clear c1); (try clear p2); (try clear c3 c3b0 c3b1 c3b2); obtain ⟨x5_1, rfl, HA, HK1, ⟨m1, rfl⟩⟩ := hrel; cases gk with
   | zero => exact absurd HA.out (by simp [scarfref01_Same.l0])
   | succ k1 =>
    have H := HA.out; clear HA; simp only [scarfref01_Same.l0] at H; by_cases c4 : x5_1 < (l0.length : Int)
    ·rw [if_pos c4] at H; have c4b0 : decide (x5_1 < (l0.length : Int)) = true := decide_eq_true c4; clear c4; by_cases c5 : 0 ≤ x5_1
     ·rw [if_pos c5] at H; have c5b0 : decide (0 ≤ x5_1) = true := decide_eq_true c5; clear c5; by_cases c6 : x5_1 < (l1.length : Int)
      ·rw [if_pos c6] at H; have c6b0 : decide (x5_1 < (l1.length : Int)) = true := decide_eq_true c6; clear c6; by_cases c7 : (rd l0 x5_1) = (rd l1 x5_1)
       ·rw [if_pos c7] at H; have c7b0 : ((rd l0 x5_1) == (rd l1 x5_1)) = true := beq_iff_eq.mpr c7; have c7b1 : ((rd l0 x5_1) != (rd l1 x5_1)) = false := bne_eq_false_iff_eq.mpr c7; clear c7; have H' := Aside0.mk H; clear H; have p284 : 0 ≤ (x5_1 : Int) := of_decide_eq_true (by first | (with_reducible assumption) | assumption); have q284 : x5_1 < (l0.length : Int) := of_decide_eq_true (by first | (with_reducible assumption) | assumption); obtain ⟨ad284, e284, hx284_0⟩ := Kd.at_int HR0.out x5_1 p284 q284; cases e284; replace p284 := eq_true p284; replace q284 := eq_true q284; have p285 : 0 ≤ (x5_1 : Int) := of_decide_eq_true (by first | (with_reducible assumption) | assumption); have q285 : x5_1 < (l1.length : Int) := of_decide_eq_true (by first | (with_reducible assumption) | assumption); obtain ⟨ad285, e285, hx285_0⟩ := Kd.at_int HR1.out x5_1 p285 q285; cases e285; replace p285 := eq_true p285; replace q285 := eq_true q285; go_wp2; repeat (go_quiet (fail); try go_wp2)
        go_roundg k1
        case measure => have := HK1.out; omega
        case rel => exact ⟨(wrap64 (x5_1 + 1)), (by first | rfl | (simp; done) | (simp [*]; done)), H', ⟨by have := HK1.out; omega⟩, by repeat (first | exact Drawn0.refl _ | apply Drawn0.step)⟩
       ·rw [if_neg c7] at H; have c7b0 : ((rd l0 x5_1) == (rd l1 x5_1)) = false := beq_eq_false_iff_ne.mpr c7; have c7b1 : ((rd l0 x5_1) != (rd l1 x5_1)) = true := bne_iff_ne.mpr c7; obtain rfl := Option.some.inj H; have p284 : 0 ≤ (x5_1 : Int) := of_decide_eq_true (by first | (with_reducible assumption) | assumption); have q284 : x5_1 < (l0.length : Int) := of_decide_eq_true (by first | (with_reducible assumption) | assumption); obtain ⟨ad284, e284, hx284_0⟩ := Kd.at_int HR0.out x5_1 p284 q284; cases e284; replace p284 := eq_true p284; replace q284 := eq_true q284; have p285 : 0 ≤ (x5_1 : Int) := of_decide_eq_true (by first | (with_reducible assumption) | assumption); have q285 : x5_1 < (l1.length : Int) := of_decide_eq_true (by first | (with_reducible assumption) | assumption); obtain ⟨ad285, e285, hx285_0⟩ := Kd.at_int HR1.out x5_1 p285 q285; cases e285; replace p285 := eq_true p285; replace q285 := eq_true q285; go_wp2; repeat (go_quiet (fail); try go_wp2)
        go_ret
        exact ⟨by first | rfl | (simp; done) | (simp [*]; done), by repeat (first | exact Drawn0.refl _ | apply Drawn0.step)⟩
      ·rw [if_neg c6] at H; exact absurd H (by simp)
     ·rw [if_neg c5] at H; exact absurd H (by simp)
    ·rw [if_neg c4] at H; have c4b0 : decide (x5_1 < (l0.length : Int)) = false := decide_eq_false c4; clear c4; obtain rfl := Option.some.inj H; go_wp2; repeat (go_quiet (fail); try go_wp2)
     go_ret
     exact ⟨by first | rfl | (simp; done) | (simp [*]; done), by repeat (first | exact Drawn0.refl _ | apply Drawn0.step)⟩
 ·rw [if_neg c3] at H; have c3b0 : ((l0.length : Int) == (l1.length : Int)) = false := beq_eq_false_iff_ne.mpr c3; have c3b1 : ((l0.length : Int) != (l1.length : Int)) = true := bne_iff_ne.mpr c3; have c3b2 : (l0.length == l1.length) = false := by first | simpa using c3 | (simp at c3 ⊢; omega)
  obtain rfl := Option.some.inj H; go_enter Try.func49, Try.ntmps49; go_wp2; repeat (go_quiet (fail); try go_wp2)
  go_ret
  exact ⟨by first | rfl | (simp; done) | (simp [*]; done), by repeat (first | exact Drawn0.refl _ | apply Drawn0.step)⟩
end Go.Proofs.Ytdjkjdlbckcplaa.PA
namespace Go.Proofs.Ytdjkjdlbckcplaa.Hd
open Go.RowKit Go.Proofs Go.Proofs.YtdjkjdlbckcplaaW.PrintWords Go.Proofs.YtdjkjdlbckcplaaW.PrintLast Go.Proofs.YtdjkjdlbckcplaaW.PrintMore Go.Proofs.Ytdjkjdlbckcplaa.MapI Go.Proofs.Ytdjkjdlbckcplaa.PA
set_option linter.unusedVariables false
set_option linter.unusedSimpArgs false
def s31 (p : Int × E) : S31 := ⟨p.1, p.2.r, p.2.rep, p.2.own, p.2.lends, p.2.call⟩
theorem hands_kd {w : World} {base : Nat} {A : Option Addr} {c : Nat} {l : List (Int × E)} (h : w.ownsRow base 31 6 (.slice A l.length c) l.length (l.flatMap hval)) (hl : l.length ≤ 256) : Kd.C k31 w A (l.map s31).length (l.map s31) := by
  refine ⟨rfl, by rw [List.length_map]; omega, fun hpos => ?_⟩
  rw [List.length_map] at hpos
  obtain ⟨b, cap, e1, _, _, _⟩ := own_cells h hpos
  injection e1 with e1 _ _
  refine ⟨_, e1, fun j p hp => ?_⟩
  rw [List.getElem?_map, Option.map_eq_some_iff] at hp
  obtain ⟨q, hq, rfl⟩ := hp
  have hj := (List.getElem?_eq_some_iff.1 hq).1
  obtain ⟨b', cap', q', f1, f2, f3⟩ := hand_cells h hj
  injection f1 with f1 _ _
  rw [e1] at f1
  injection f1 with f1
  injection f1 with f1
  subst f1
  obtain rfl : q = q' := Option.some.inj (hq.symm.trans f2)
  refine ⟨hval q, rfl, k31_mk w (s31 q), fun i u hu => ?_⟩
  rw [add_at, Nat.zero_add]
  exact f3 i u hu
theorem ints_kd {w : World} {base : Nat} {A : Option Addr} {c : Nat} {l : List Int} (h : w.ownsRow base 3 1 (.slice A l.length c) l.length (l.map (Value.int .i64))) (hl : l.length ≤ 1000000) : Kd.C (Kd.int .i64) w A l.length l := by
  refine ⟨rfl, by omega, fun hpos => ?_⟩
  obtain ⟨b, cap, e1, _, _, e4⟩ := own_cells h hpos
  injection e1 with e1 _ _
  refine ⟨_, e1, fun j p hp => ⟨[.int .i64 p], rfl, rfl, fun i u hu => ?_⟩⟩
  have hi : i = 0 := by have := (List.getElem?_eq_some_iff.1 hu).1; simp at this; exact this
  subst hi
  rw [add_at, Nat.zero_add]
  refine e4 _ _ ?_
  show (l.map (Value.int .i64))[j * 1 + 0]? = _
  rw [Nat.mul_one, Nat.add_zero, List.getElem?_map, hp]
  exact hu
theorem same16_l0 (l : List S31) (hn : l.length ≤ 1000000) : ∀ (m i k : Nat), i + m = l.length → m + 1 ≤ k → scarfref16_Same.l0 k l l (i : Int) = some true := by
  intro m
  induction m with
  | zero =>
    intro i k hi hk
    obtain ⟨k, rfl⟩ : ∃ m, k = m + 1 := ⟨k - 1, by omega⟩
    rw [scarfref16_Same.l0, if_neg (by omega)]
  | succ m ih =>
    intro i k hi hk
    obtain ⟨k, rfl⟩ : ∃ m, k = m + 1 := ⟨k - 1, by omega⟩
    have hi1 : wrap64 ((i : Int) + 1) = ((i + 1 : Nat) : Int) := by unfold wrap64; omega
    rw [scarfref16_Same.l0, if_pos (by omega), if_pos (by omega), if_pos (by omega), hi1, if_neg (by simp), ih (i + 1) k (by omega) (by omega)]
theorem same16 (l : List S31) (hn : l.length ≤ 1000000) : scarfref16_Same.f (l.length + 1) l l = some true := by
  unfold scarfref16_Same.f
  rw [if_pos rfl]
  exact same16_l0 l hn l.length 0 _ (by omega) (by omega)
theorem same01_l0 (l : List Int) (hn : l.length ≤ 1000000) : ∀ (m i k : Nat), i + m = l.length → m + 1 ≤ k → scarfref01_Same.l0 k l l (i : Int) = some true := by
  intro m
  induction m with
  | zero =>
    intro i k hi hk
    obtain ⟨k, rfl⟩ : ∃ m, k = m + 1 := ⟨k - 1, by omega⟩
    rw [scarfref01_Same.l0, if_neg (by omega)]
  | succ m ih =>
    intro i k hi hk
    obtain ⟨k, rfl⟩ : ∃ m, k = m + 1 := ⟨k - 1, by omega⟩
    have hi1 : wrap64 ((i : Int) + 1) = ((i + 1 : Nat) : Int) := by unfold wrap64; omega
    rw [scarfref01_Same.l0, if_pos (by omega), if_pos (by omega), if_pos (by omega), if_pos rfl, hi1, ih (i + 1) k (by omega) (by omega)]
theorem same01 (l : List Int) (hn : l.length ≤ 1000000) : scarfref01_Same.f (l.length + 1) l l = some true := by
  unfold scarfref01_Same.f
  rw [if_pos rfl]
  exact same01_l0 l hn l.length 0 _ (by omega) (by omega)
theorem below_drawn {w w' : World} (h : Drawn0 w w') : Below w.heap.size w w' := by
  obtain ⟨m, rfl⟩ := h
  exact pw_below_drewN (Below.refl _ w) m
/-- Same, at one list told twice. -/
theorem same16_calls {w : World} {b1 b2 : Nat} {A1 A2 : Option Addr} {c1 c2 : Nat} {l : List (Int × E)} (h1 : w.ownsRow b1 31 6 (.slice A1 l.length c1) l.length (l.flatMap hval)) (h2 : w.ownsRow b2 31 6 (.slice A2 l.length c2) l.length (l.flatMap hval)) (hl : l.length ≤ 256) :
    Calls Try.prog 48 #[.slice A1 l.length c1, .slice A2 l.length c2] w fun e w' => e = .returned (.bool true) ∧ Below w.heap.size w w' := by
  have hc : ∀ {b : Nat} {A : Option Addr} {c : Nat}, w.ownsRow b 31 6 (.slice A l.length c) l.length (l.flatMap hval) → (l.map s31).length ≤ c := fun {b A c} h => by
    rw [List.length_map]
    rcases h.2 with ⟨e, h⟩ | ⟨g, cap, cur, e, _, _, hm, _⟩
    · rw [h]; exact Nat.zero_le _
    · injection e with _ _ e; rw [e]; exact hm
  have := scarfref16_Same.calls ((l.map s31).length + 1) A1 c1 (l.map s31) A2 c2 (l.map s31) true w (hands_kd h1 hl) (hc h1) (hands_kd h2 hl) (hc h2) (same16 _ (by rw [List.length_map]; omega))
  rw [List.length_map] at this
  exact this.mono fun e w' h => ⟨h.1, below_drawn h.2⟩
theorem same01_calls {w : World} {b1 b2 : Nat} {A1 A2 : Option Addr} {c1 c2 : Nat} {l : List Int} (h1 : w.ownsRow b1 3 1 (.slice A1 l.length c1) l.length (l.map (Value.int .i64))) (h2 : w.ownsRow b2 3 1 (.slice A2 l.length c2) l.length (l.map (Value.int .i64))) (hl : l.length ≤ 1000000) :
    Calls Try.prog 49 #[.slice A1 l.length c1, .slice A2 l.length c2] w fun e w' => e = .returned (.bool true) ∧ Below w.heap.size w w' := by
  have hc : ∀ {b : Nat} {A : Option Addr} {c : Nat}, w.ownsRow b 3 1 (.slice A l.length c) l.length (l.map (Value.int .i64)) → l.length ≤ c := fun {b A c} h => by
    rcases h.2 with ⟨e, h⟩ | ⟨g, cap, cur, e, _, _, hm, _⟩
    · rw [h]; exact Nat.zero_le _
    · injection e with _ _ e; rw [e]; exact hm
  exact (scarfref01_Same.calls (l.length + 1) A1 c1 l A2 c2 l true w (ints_kd h1 hl) (hc h1) (ints_kd h2 hl) (hc h2) (same01 l hl)).mono fun e w' h => ⟨h.1, below_drawn h.2⟩
open Go.RowKit Go.Proofs Go.Proofs.YtdjkjdlbckcplaaW.PrintWords Go.Proofs.YtdjkjdlbckcplaaW.PrintLast Go.Proofs.YtdjkjdlbckcplaaW.PrintMore Go.Proofs.Ytdjkjdlbckcplaa.MapI
theorem own_bel {w w' : World} {base e size n : Nat} {v : Value} {xs : List Value} (h : w.ownsRow base e size v n xs) (hb : Below w.heap.size w w') : w'.ownsRow base e size v n xs := own_same h fun k hk => hb.block k (own_lt h hk).1
theorem bel_bel {w a b : World} (h : Below w.heap.size w a) (k : Below a.heap.size a b) : Below w.heap.size w b := h.trans (k.mono h.size)
open Go.RowKit Go.Proofs
theorem own_le {T : AT} {n : Nat} (h : T.Inv n) : ownN T ≤ 1024 := tot_le _ _ h.few
open Go.RowKit Go.Proofs Go.Proofs.YtdjkjdlbckcplaaW.PrintWords Go.Proofs.YtdjkjdlbckcplaaW.PrintLast Go.Proofs.YtdjkjdlbckcplaaW.PrintMore Go.Proofs.Ytdjkjdlbckcplaa.MapI Go.Proofs.Ytdjkjdlbckcplaa.Reads
/-- A handle of an instance. -/
structure On where
  i : Int
  h : Int
  e : E
def On.cells (o : On) : List Value := [.int .i64 o.i, .int .i64 o.h, .int .i64 o.e.r, .int .i64 o.e.rep, .bool o.e.own, .int .i64 o.e.lends, .int .i64 o.e.call]
def lcells (p : Int × Int × Int) : List Value := [.int .i64 p.1, .int .i64 p.2.1, .int .i64 p.2.2]
/-- The document's tables. -/
structure RF where
  n : Nat
  mkr : List Int
  L : List On
  calls : List Int
  lent : List (Int × Int × Int)
/-- Where they lie. -/
structure RV where
  mA : Option Addr
  mc : Nat
  lv : Value
  cv : Value
  tv : Value
def topR (V : RV) (R : RF) : Array Value := #[.int .i64 R.n, .slice V.mA R.mkr.length V.mc, V.lv, V.cv, V.tv]
structure RT (w : World) (g b0 : Nat) (V : RV) (R : RF) (D : Nat → Prop) : Prop where
  top : w.heap[g]? = some (.cells (topR V R) 81 (0, 0))
  topD : D g
  mki : Ints w V.mA R.mkr
  mkB : 0 < R.mkr.length → ∀ a, V.mA = some a → a.block < b0
  low : ∀ b, D b → b0 ≤ b
  b0le : b0 ≤ w.heap.size
  lo : w.ownsRow 0 83 7 V.lv R.L.length (R.L.flatMap On.cells)
  loD : ∀ k, V.lv.ownBlock = some k → D k
  co : w.ownsRow 0 3 1 V.cv R.calls.length (R.calls.map (Value.int .i64))
  coD : ∀ k, V.cv.ownBlock = some k → D k
  tO : w.ownsRow 0 110 3 V.tv R.lent.length (R.lent.flatMap lcells)
  tD : ∀ k, V.tv.ownBlock = some k → D k
theorem ints_same {w w' : World} {A : Option Addr} {l : List Int} (h : Ints w A l) (hk : 0 < l.length → ∀ a, A = some a → w'.heap[a.block]? = w.heap[a.block]?) : Ints w' A l := by
  intro j hj
  obtain ⟨ad, e1, e2⟩ := h j hj
  refine ⟨ad, e1, ?_⟩
  have := hk (by omega) ad e1
  have hb : (ad.add j).block = ad.block := by unfold Addr.add; split <;> rfl
  rw [← e2]
  unfold World.cell?
  rw [hb, this]
theorem RT.keep {w w' : World} {g b0 : Nat} {V : RV} {R : RF} {D : Nat → Prop} (h : RT w g b0 V R D) (hs : w.heap.size ≤ w'.heap.size) (hk : ∀ b, b < w.heap.size → D b ∨ b < b0 → w'.heap[b]? = w.heap[b]?) : RT w' g b0 V R D :=
  { h with
    top := (hk g (blk_lt h.top) (.inl h.topD)).trans h.top
    mki := ints_same h.mki fun hp a ha => hk _ (Nat.lt_of_lt_of_le (h.mkB hp a ha) h.b0le) (.inr (h.mkB hp a ha))
    b0le := Nat.le_trans h.b0le hs
    lo := own_same h.lo fun k hq => hk k (own_lt h.lo hq).1 (.inl (h.loD k hq))
    co := own_same h.co fun k hq => hk k (own_lt h.co hq).1 (.inl (h.coD k hq))
    tO := own_same h.tO fun k hq => hk k (own_lt h.tO hq).1 (.inl (h.tD k hq)) }
theorem RT.below {w w' : World} {g b0 : Nat} {V : RV} {R : RF} {D : Nat → Prop} (h : RT w g b0 V R D) (k : Below w.heap.size w w') : RT w' g b0 V R D := h.keep k.size fun b hb _ => k.block b hb
theorem RT.drewN {w : World} {g b0 : Nat} {V : RV} {R : RF} {D : Nat → Prop} (h : RT w g b0 V R D) (n : Nat) : RT (w.drewN n) g b0 V R D := h.keep (Nat.le_refl _) fun b _ _ => rfl
theorem RT.alloc {w : World} {g b0 : Nat} {V : RV} {R : RF} {D : Nat → Prop} (h : RT w g b0 V R D) (o : Obj) : RT (w.alloc o) g b0 V R D := h.keep (by show _ ≤ (w.heap.push _).size; simp) fun b hb _ => heap_alloc_old w o b hb
theorem RT.imp {w : World} {g b0 : Nat} {V : RV} {R : RF} {D D' : Nat → Prop} (h : RT w g b0 V R D) (hD : ∀ b, D b → D' b) (hl : ∀ b, D' b → b0 ≤ b) : RT w g b0 V R D' :=
  { h with topD := hD _ h.topD, low := hl, loD := fun k z => hD _ (h.loD k z), coD := fun k z => hD _ (h.coD k z), tD := fun k z => hD _ (h.tD k z) }
theorem RT.dn {w w' : World} {g b0 n : Nat} {V : RV} {R : RF} {D : Nat → Prop} (h : RT w g b0 V R D) (hn : b0 ≤ n) : RT w g b0 V R (Dn D n) := h.imp (fun _ => .inl) fun b hb => hb.elim (h.low b) fun z => Nat.le_trans hn z
theorem RT.within {w : World} {g b0 : Nat} {V : RV} {R : RF} {D : Nat → Prop} (h : RT w g b0 V R D) : RT w g b0 V R (fun b => D b ∧ b < w.heap.size) :=
  { h with topD := ⟨h.topD, blk_lt h.top⟩, low := fun b hb => h.low b hb.1, loD := fun k z => ⟨h.loD k z, (own_lt h.lo z).1⟩, coD := fun k z => ⟨h.coD k z, (own_lt h.co z).1⟩, tD := fun k z => ⟨h.tD k z, (own_lt h.tO z).1⟩ }
/-- A deed at the document's tables: what they are behind it, what it leaves. -/
def AftR (w : World) (g b0 : Nat) (D : Nat → Prop) (R : RF) (w' : World) : Prop := ∃ V', RT w' g b0 V' R (Dn D w.heap.size) ∧ Fr w w' D
theorem RT.aft {w : World} {g b0 : Nat} {V : RV} {R : RF} {D : Nat → Prop} (h : RT w g b0 V R D) : AftR w g b0 D R w := ⟨V, h.dn (w' := w) h.b0le, Fr.refl w D⟩
theorem RT.aftB {w w' : World} {g b0 : Nat} {V : RV} {R : RF} {D : Nat → Prop} (h : RT w g b0 V R D) (k : Below w.heap.size w w') : AftR w g b0 D R w' := ⟨V, (h.below k).dn (w' := w) h.b0le, k.size, fun b hb _ => k.block b hb, k.os, k.tape, k.output⟩
theorem AftR.from {w w1 w2 : World} {g b0 : Nat} {D : Nat → Prop} {R : RF} (h : AftR w1 g b0 D R w2) (k : Below w.heap.size w w1) (hb : b0 ≤ w.heap.size) (hl : ∀ b, D b → b0 ≤ b) : AftR w g b0 D R w2 := by
  obtain ⟨V', h1, h2⟩ := h
  exact ⟨V', h1.imp (fun b z => z.imp id (fun z => Nat.le_trans k.size z)) (fun b z => z.elim (hl b) (fun z => Nat.le_trans hb z)), Nat.le_trans k.size h2.1, fun b hq hn => (h2.2.1 b (Nat.lt_of_lt_of_le hq k.size) hn).trans (k.block b hq), h2.2.2.1.trans k.os, h2.2.2.2.trans k.tape, h2.2.2.3.trans k.output⟩
/-- The cells of a row of handles. -/
theorem on_get (cs : List On) (k j : Nat) (o : On) (h : cs[k]? = some o) (hj : j < 7) : (cs.flatMap On.cells)[k * 7 + j]? = o.cells[j]? := by
  induction cs generalizing k with
  | nil => cases h
  | cons a l ih =>
    rw [List.flatMap_cons]
    cases k with
    | zero =>
      injection h with h
      subst h
      rw [List.getElem?_append_left (by simp [On.cells]; omega), Nat.zero_mul, Nat.zero_add]
    | succ k =>
      rw [List.getElem?_append_right (by simp [On.cells]; omega), show (k + 1) * 7 + j - a.cells.length = k * 7 + j by simp [On.cells]; omega]
      exact ih k h
theorem lc_get (cs : List (Int × Int × Int)) (k j : Nat) (o : Int × Int × Int) (h : cs[k]? = some o) (hj : j < 3) : (cs.flatMap lcells)[k * 3 + j]? = (lcells o)[j]? := by
  induction cs generalizing k with
  | nil => cases h
  | cons a l ih =>
    rw [List.flatMap_cons]
    cases k with
    | zero =>
      injection h with h
      subst h
      rw [List.getElem?_append_left (by simp [lcells]; omega), Nat.zero_mul, Nat.zero_add]
    | succ k =>
      rw [List.getElem?_append_right (by simp [lcells]; omega), show (k + 1) * 3 + j - (lcells a).length = k * 3 + j by simp [lcells]; omega]
      exact ih k h
theorem RT.row {w : World} {g b0 : Nat} {V : RV} {R : RF} {D : Nat → Prop} (h : RT w g b0 V R D) {k : Nat} {o : On} (hk : R.L[k]? = some o) :
    ∃ b cap, V.lv = .slice (some ⟨b, 0, none⟩) R.L.length cap ∧ k < R.L.length ∧ V.lv.ownBlock = some b ∧ ∀ j u, o.cells[j]? = some u → w.cell? ⟨b, k * 7 + j, none⟩ = some u := by
  have hlt := (List.getElem?_eq_some_iff.1 hk).1
  obtain ⟨b, cap, e1, _, e3, e4⟩ := own_cells h.lo (by omega)
  exact ⟨b, cap, e1, hlt, e3, fun j u hu => e4 _ _ (by rw [on_get _ _ _ _ hk (by have := (List.getElem?_eq_some_iff.1 hu).1; simpa [On.cells] using this)]; exact hu)⟩
theorem RT.rowL {w : World} {g b0 : Nat} {V : RV} {R : RF} {D : Nat → Prop} (h : RT w g b0 V R D) {k : Nat} {o : Int × Int × Int} (hk : R.lent[k]? = some o) :
    ∃ b cap, V.tv = .slice (some ⟨b, 0, none⟩) R.lent.length cap ∧ k < R.lent.length ∧ V.tv.ownBlock = some b ∧ ∀ j u, (lcells o)[j]? = some u → w.cell? ⟨b, k * 3 + j, none⟩ = some u := by
  have hlt := (List.getElem?_eq_some_iff.1 hk).1
  obtain ⟨b, cap, e1, _, e3, e4⟩ := own_cells h.tO (by omega)
  exact ⟨b, cap, e1, hlt, e3, fun j u hu => e4 _ _ (by rw [lc_get _ _ _ _ hk (by have := (List.getElem?_eq_some_iff.1 hu).1; simpa [lcells] using this)]; exact hu)⟩
theorem RT.cell {w : World} {g b0 : Nat} {V : RV} {R : RF} {D : Nat → Prop} (h : RT w g b0 V R D) (j : Nat) : w.cell? ⟨g, j, none⟩ = (topR V R)[j]? := blk_cell h.top j
set_option maxHeartbeats 4000000 in
set_option maxRecDepth 100000 in
theorem is60_calls {w : World} {g b0 : Nat} {V : RV} {R : RF} {D : Nat → Prop} (i r : Int) (hT : RT w g b0 V R D) :
    Calls Try.prog 60 #[.pointer (some ⟨g, 0, none⟩), .int .i64 i, .int .i64 r] w fun e w' => e = .returned (.bool (isB i r R.n R.mkr.length)) ∧ w' = w := by
  have c0 : w.cell? ⟨g, 0, none⟩ = some (.int .i64 R.n) := (hT.cell 0).trans rfl
  have c1 : w.cell? ⟨g, 1, none⟩ = some (.slice V.mA R.mkr.length V.mc) := (hT.cell 1).trans rfl
  unfold isB
  clear hT
  by_cases h1 : 0 ≤ i
  · have b1 : decide (0 ≤ i) = true := decide_eq_true h1
    clear h1
    by_cases h2 : i < (R.n : Int)
    · have b2 : decide (i < (R.n : Int)) = true := decide_eq_true h2
      clear h2
      by_cases h3 : 0 ≤ r
      · have b3 : decide (0 ≤ r) = true := decide_eq_true h3
        clear h3
        rw [b1, b2, b3]
        go_enter Try.func60, Try.ntmps60
        go_wp2
        go_ret
        exact ⟨by simp, rfl⟩
      · have b3 : decide (0 ≤ r) = false := decide_eq_false h3
        clear h3
        rw [b1, b2, b3]
        go_enter Try.func60, Try.ntmps60
        go_wp2
        go_ret
        exact ⟨by simp, rfl⟩
    · have b2 : decide (i < (R.n : Int)) = false := decide_eq_false h2
      clear h2
      rw [b1, b2]
      go_enter Try.func60, Try.ntmps60
      go_wp2
      go_ret
      exact ⟨by simp, rfl⟩
  · have b1 : decide (0 ≤ i) = false := decide_eq_false h1
    clear h1
    rw [b1]
    go_enter Try.func60, Try.ntmps60
    go_wp2
    go_ret
    exact ⟨by simp, rfl⟩
set_option maxHeartbeats 4000000 in
set_option maxRecDepth 100000 in
theorem rep61_calls (n : Int) (w : World) : Calls Try.prog 61 #[.int .i64 n] w fun e w' => e = .returned (.bool (wholeB n)) ∧ w' = w := by
  have hb : decide (n < 4294967296) = decide (n ≤ 4294967295) := by
    by_cases h : n ≤ 4294967295
    · rw [decide_eq_true h, decide_eq_true (by omega)]
    · rw [decide_eq_false h, decide_eq_false (by omega)]
  unfold wholeB
  rw [hb]
  clear hb
  by_cases h1 : 0 ≤ n
  · have b1 : decide (0 ≤ n) = true := decide_eq_true h1
    clear h1
    rw [b1]
    go_enter Try.func61, Try.ntmps61
    go_wp2
    go_ret
    exact ⟨by simp, rfl⟩
  · have b1 : decide (0 ≤ n) = false := decide_eq_false h1
    clear h1
    rw [b1]
    go_enter Try.func61, Try.ntmps61
    go_wp2
    go_ret
    exact ⟨by simp, rfl⟩
def isOn (i r h : Int) (o : On) : Bool := o.i == i && o.h == h && o.e.r == r
/-- The first handle that is meant, from a place on. -/
def fnd (p : On → Bool) : List On → Nat → Option Nat
  | [], _ => none
  | o :: l, k => if p o = true then some k else fnd p l (k + 1)
theorem fnd_some {p : On → Bool} : ∀ {l : List On} {k j : Nat}, fnd p l k = some j → ∃ q o, j = k + q ∧ l[q]? = some o ∧ p o = true
  | [], _, _, h => by cases h
  | o :: l, k, j, h => by
    unfold fnd at h
    split at h
    · rename_i hp; injection h with h; exact ⟨0, o, h.symm, rfl, hp⟩
    · obtain ⟨q, o', h1, h2, h3⟩ := fnd_some h
      exact ⟨q + 1, o', by omega, h2, h3⟩
theorem fnd_none {p : On → Bool} : ∀ {l : List On} {k : Nat}, fnd p l k = none → ∀ o ∈ l, p o = false
  | [], _, _, _, h => by cases h
  | o :: l, k, h, x, hx => by
    unfold fnd at h
    split at h
    · cases h
    · rename_i hp
      rcases List.mem_cons.1 hx with rfl | hx
      · simpa using hp
      · exact fnd_none h x hx
def fndR (L : List On) (i r h : Int) : Int := match fnd (isOn i r h) L 0 with | some k => (k : Int) | none => -1
set_option maxHeartbeats 8000000 in
set_option maxRecDepth 100000 in
theorem find_calls {w : World} {g b0 : Nat} {V : RV} {R : RF} {D : Nat → Prop} (hT : RT w g b0 V R D) (i r h : Int) :
    Calls Try.prog 63 #[.pointer (some ⟨g, 0, none⟩), .int .i64 i, .int .i64 r, .int .i64 h] w fun e w' => e = .returned (.int .i64 (fndR R.L i r h)) ∧ w' = w := by
  obtain ⟨lA, lc, hlv⟩ := own_slice hT.lo
  have HT0 := Aside0.mk hT
  have hmx : R.L.length ≤ 9223372036854775807 := own_max hT.lo
  clear hT
  go_enter Try.func63, Try.ntmps63
  go_wp2
  go_loopg [9] R.L.length (fun gg s9 wr => ∃ kk : Nat, kk ≤ R.L.length ∧ R.L.length - kk ≤ gg ∧ s9 = Value.int .i64 (kk : Int) ∧ wr = w ∧ Aside0 (fnd (isOn i r h) R.L 0 = fnd (isOn i r h) (R.L.drop kk) kk))
  case atStart => exact ⟨0, Nat.zero_le _, by omega, rfl, rfl, ⟨rfl⟩⟩
  case round =>
    obtain ⟨kk, hkk, hg, rfl, rfl, FF⟩ := hrel
    have c2 : wr.cell? ⟨g, 2, none⟩ = some (.slice lA R.L.length lc) := by rw [← hlv]; exact (HT0.out.cell 2).trans rfl
    by_cases hlt : kk < R.L.length
    · obtain ⟨o, ho⟩ : ∃ o, R.L[kk]? = some o := ⟨_, List.getElem?_eq_getElem hlt⟩
      obtain ⟨b, cap, e1, _, _, e4⟩ := HT0.out.row ho
      rw [hlv] at e1
      injection e1 with e1 _ e2
      subst e1; subst e2
      have p0 : (0 ≤ (kk : Int)) = True := eq_true (Int.natCast_nonneg kk)
      have p1 : ((kk : Int) < (R.L.length : Int)) = True := eq_true (by omega)
      have p2 : decide ((kk : Int) < (R.L.length : Int)) = true := decide_eq_true (by omega)
      have k0 : wr.cell? ⟨b, kk * 7, none⟩ = some (.int .i64 o.i) := e4 0 _ rfl
      have k1 : wr.cell? ⟨b, kk * 7 + 1, none⟩ = some (.int .i64 o.h) := e4 1 _ rfl
      have k2 : wr.cell? ⟨b, kk * 7 + 2, none⟩ = some (.int .i64 o.e.r) := e4 2 _ rfl
      have hd : R.L.drop kk = o :: R.L.drop (kk + 1) := by
        obtain ⟨h1, h2⟩ := List.getElem?_eq_some_iff.1 ho
        rw [← h2]; exact List.drop_eq_getElem_cons h1
      have hf := FF.out
      rw [hd] at hf
      have HF : Aside0 (fnd (isOn i r h) R.L 0 = if isOn i r h o = true then some kk else fnd (isOn i r h) (R.L.drop (kk + 1)) (kk + 1)) := ⟨hf⟩
      clear FF HT0 e4 hf hd ho
      have next : isOn i r h o = false → ∃ kk' : Nat, kk' ≤ R.L.length ∧ R.L.length - kk' ≤ R.L.length - (kk + 1) ∧ Value.int .i64 ((kk : Int) + 1) = Value.int .i64 (kk' : Int) ∧ wr = wr ∧ Aside0 (fnd (isOn i r h) R.L 0 = fnd (isOn i r h) (R.L.drop kk') kk') := fun hp =>
        ⟨kk + 1, by omega, by omega, rfl, rfl, ⟨by rw [HF.out, hp, if_neg (by decide)]⟩⟩
      have NX := Aside0.mk next
      clear next
      cases d1 : (o.i == i) with
      | false =>
        have hp : isOn i r h o = false := by unfold isOn; rw [d1]; rfl
        have HP := Aside0.mk hp
        clear hp
        go_wp2
        repeat (go_quiet (fail); try go_wp2)
        go_roundg (R.L.length - (kk + 1))
        case measure => omega
        case rel => obtain ⟨q1, q2, q3, q4, _, q5⟩ := NX.out HP.out; exact ⟨q1, q2, q3, q4, rfl, q5⟩
      | true =>
        cases d2 : (o.h == h) with
        | false =>
          have hp : isOn i r h o = false := by unfold isOn; rw [d1, d2]; rfl
          have HP := Aside0.mk hp
          clear hp
          go_wp2
          repeat (go_quiet (fail); try go_wp2)
          go_roundg (R.L.length - (kk + 1))
          case measure => omega
          case rel => obtain ⟨q1, q2, q3, q4, _, q5⟩ := NX.out HP.out; exact ⟨q1, q2, q3, q4, rfl, q5⟩
        | true =>
          cases d3 : (o.e.r == r) with
          | false =>
            have hp : isOn i r h o = false := by unfold isOn; rw [d1, d2, d3]; rfl
            have HP := Aside0.mk hp
            clear hp
            go_wp2
            repeat (go_quiet (fail); try go_wp2)
            go_roundg (R.L.length - (kk + 1))
            case measure => omega
            case rel => obtain ⟨q1, q2, q3, q4, _, q5⟩ := NX.out HP.out; exact ⟨q1, q2, q3, q4, rfl, q5⟩
          | true =>
            have hp : fndR R.L i r h = (kk : Int) := by unfold fndR; rw [HF.out, show isOn i r h o = true by unfold isOn; rw [d1, d2, d3]; rfl, if_pos rfl]
            have HP := Aside0.mk hp
            clear hp
            go_wp2
            repeat (go_quiet (fail); try go_wp2)
            go_ret
            exact ⟨by rw [HP.out]; rfl, rfl⟩
    · have p2 : decide ((kk : Int) < (R.L.length : Int)) = false := decide_eq_false (by omega)
      have hf := FF.out
      rw [List.drop_of_length_le (by omega)] at hf
      have hr : fndR R.L i r h = -1 := by unfold fndR; rw [hf]; unfold fnd; rfl
      clear FF hf
      go_wp2
      go_ret
      exact ⟨by rw [hr]; rfl, rfl⟩
end Go.Proofs.Ytdjkjdlbckcplaa.Hd
