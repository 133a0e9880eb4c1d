/- Several texts, laid into one for a claim: HE, HF, HG, HH, HI, HJ, HK, HL, HM, HO, HP, HQ. -/
import Derived.Test.YtdjkjdlbckcplaaPHandlesPlays1
import Derived.Deep.RegionLaw
import Derived.StillTailTactics
import Derived.Lib.SliceRun
import Derived.Lib.Walk
import Derived.Carry
namespace Go.Proofs.Ytdjkjdlbckcplaa.Hd
open Go.RowKit Go.Proofs Go.Proofs.YtdjkjdlbckcplaaW.PrintWords Go.Proofs.YtdjkjdlbckcplaaW.PrintLast Go.Proofs.YtdjkjdlbckcplaaW.PrintMore Go.Proofs.Ytdjkjdlbckcplaa.MapI
set_option linter.unusedVariables false
set_option linter.unusedSimpArgs false
/-- 'append' by its run's equation, in a region that draws. -/
theorem step_append_eq {P : Program} {ops : Array Oper} {o : Oper} {a : Act} {w w' : World} {K : Act → World → Prop} {Q : Exit → Act → World → Prop} {G : Prop} (hg : o.guard = none) (s x : Operand) (t : TypeId)
    (hop : o.op = Op.call { callee := Callee.builtin Builtin.append, args := #[s, x], argTypes := #[t, t] }) {v sv v' : Value} (hs : a.eval s = v) (hx : a.eval x = sv)
    (hr : (Builtin.append_ #[t, t] o.type #[v, sv]).run P w = .ok v' w') (hK : K (a.put o.dst v') w') : if Region.wanted o (yielded ops a.tmps) = true then Oper.wp P o a w K Q else G := by
  have hw : Region.wanted o (yielded ops a.tmps) = true := by simp [Region.wanted, hg]
  rw [if_pos hw]
  unfold Oper.wp
  simp [execOp, hop, resolve, invoke, builtin, hs, hx, hr, Result.andThen]
  exact hK
theorem calls_HT {w w1 : World} {g : Nat} {S : Tb} {D : Nat → Prop} (hT : HT w g S D) {cv' : Value} {calls' : List CL} (hg : w.grownBy w1 S.cv.ownBlock) (hown : w1.ownsRow 0 94 3 cv' calls'.length (calls'.flatMap CL.cells))
    (hat : cv'.ownBlock = S.cv.ownBlock ∨ ∃ m, cv'.ownBlock = some m ∧ w.heap.size ≤ m) (hidx : ∀ (p : Nat) (c : CL), calls'[p]? = some c → S.calls[p]? = some c ∨ (c.lv = .slice none 0 0 ∧ c.lent = [])) :
    HT (w1.setCell ⟨g, 2, none⟩ cv') g { S with cv := cv', calls := calls' } (Dn D w.heap.size) ∧ Fr w (w1.setCell ⟨g, 2, none⟩ cv') D := by
  have hlb : ∀ q, S.cv.ownBlock = some q → ∃ cu, w.heap[q]? = some (Obj.cells cu 94 (0, 0)) := fun q hq => (own_lt hT.cal hq).2
  have hold : ∀ j, j < w.heap.size → j ≠ g → (∀ q, S.cv.ownBlock = some q → j ≠ q) → (w1.setCell ⟨g, 2, none⟩ cv').heap[j]? = w.heap[j]? := fun j hj hne hq =>
    (Below.heap_setCell w1 _ _ j hne).trans (hg.block j hj (fun z => hq j z.symm rfl))
  have kc : ∀ {j : Nat} {cs : Array Value} {t : TypeId}, t ≠ 94 → t ≠ 67 → w.heap[j]? = some (Obj.cells cs t (0, 0)) → (w1.setCell ⟨g, 2, none⟩ cv').heap[j]? = some (Obj.cells cs t (0, 0)) := fun {j cs t} h1 h2 h =>
    (hold j (blk_lt h) (blk_ne h hT.top h2) (fun q hq => by obtain ⟨cu, hcu⟩ := hlb q hq; exact blk_ne h hcu h1)).trans h
  have ko : ∀ {base e size n : Nat} {v : Value} {xs : List Value}, e ≠ 94 → e ≠ 67 → w.ownsRow base e size v n xs → (w1.setCell ⟨g, 2, none⟩ cv').ownsRow base e size v n xs := fun h1 h2 h => own_same h fun q hq => by
    obtain ⟨_, cu, hcu⟩ := own_lt h hq
    rw [hcu]; exact kc h1 h2 hcu
  have hgg : ∀ q, S.cv.ownBlock = some q → g ≠ q := fun q hq => by obtain ⟨cu, hcu⟩ := hlb q hq; exact blk_ne hT.top hcu (by decide)
  have hg1 : w1.heap[g]? = w.heap[g]? := hg.block g (blk_lt hT.top) (fun z => hgg g z.symm rfl)
  have hcv : ∀ q, cv'.ownBlock = some q → q ≠ g := by
    intro q hq z
    subst z
    rcases hat with h | ⟨m, h1, h2⟩
    · exact hgg q (h ▸ hq) rfl
    · rw [h1] at hq
      injection hq with hq
      have := blk_lt hT.top
      omega
  have hmem : ∀ c ∈ calls', c ∈ S.calls ∨ (c.lv = .slice none 0 0 ∧ c.lent = []) := fun c hc => by
    obtain ⟨p, hp⟩ := List.getElem?_of_mem hc
    exact (hidx p c hp).imp List.mem_of_getElem? id
  refine ⟨{ top := ?_, topD := .inl hT.topD, mkr := ko (by decide) (by decide) hT.mkr, mkD := fun q h => .inl (hT.mkD q h), tab := ko (by decide) (by decide) hT.tab, tabD := fun q h => .inl (hT.tabD q h), len1 := hT.len1, len2 := hT.len2, mapsD := fun q h => .inl (hT.mapsD q h), mapsN := hT.mapsN, ents := fun xs h1 x h2 => kc (by decide) (by decide) (hT.ents xs h1 x h2), entsD := fun xs h1 x h2 => .inl (hT.entsD xs h1 x h2), entsN := hT.entsN, keysN := hT.keysN, keysR := hT.keysR, born := hT.born, calD := ?_, maps := ?_, cal := ?_, lent := ?_, lentD := ?_, lentN := ?_ }, ?_⟩
  · have h1 : w1.heap[g]? = some (.cells #[S.mv, S.tv, S.cv] 67 (0, 0)) := hg1.trans hT.top
    exact blk_put h1 2 cv' rfl
  · intro j q xs ck h1 h2 h3
    have h := hT.maps j q xs ck h1 h2 h3
    exact (hold q (blk_lt h) (fun z => by rw [z, hT.top] at h; injection h with h; cases h) (fun q' hq' => by obtain ⟨cu, hcu⟩ := hlb q' hq'; rintro rfl; rw [hcu] at h; injection h with h; cases h)).trans h
  · exact own_same hown fun q hq => Below.heap_setCell w1 _ _ q (hcv q hq)
  · intro q hq
    rcases hat with h | ⟨m, h1, h2⟩
    · exact .inl (hT.calD q (h ▸ hq))
    · replace hq : cv'.ownBlock = some q := hq
      rw [h1] at hq
      injection hq with hq
      exact .inr (by omega)
  · intro c hc
    rcases hmem c hc with h | ⟨h1, h2⟩
    · exact ko (by decide) (by decide) (hT.lent c h)
    · rw [h1, h2]; exact ⟨rfl, .inl ⟨rfl, rfl⟩⟩
  · intro c hc q hq
    rcases hmem c hc with h | ⟨h1, _⟩
    · exact .inl (hT.lentD c h q hq)
    · rw [h1] at hq; cases hq
  · intro p q c d h1 h2 hne b hb
    rcases hidx p c h1 with h3 | ⟨h3, _⟩
    · rcases hidx q d h2 with h4 | ⟨h4, _⟩
      · exact hT.lentN p q c d h3 h4 hne b hb
      · rw [h4]; intro z; cases z
    · rw [h3] at hb; cases hb
  · exact ⟨by have := hg.size; simpa [World.setCell] using this, fun j hj hD => hold j hj (fun z => hD (z ▸ hT.topD)) (fun q hq z => hD (z ▸ hT.calD q hq)), ⟨hg.os, hg.tape, hg.output⟩⟩
theorem info94 : (Try.prog.info? 94).map (fun i => (i.zero, i.size, i.bytes)) = some (some (.agg #[.int .i64 0, .int .i64 0, .slice none 0 0]), 3, 40) := by kernel_rfl
theorem three_new (w : World) (x y z : Value) (t : TypeId) : ∀ j u, [x, y, z][j]? = some u → (w.alloc (.cells #[x, y, z] t)).cell? ((⟨w.heap.size, 0, none⟩ : Addr).add j) = some u := by
  intro j u hj
  rw [add_at, Nat.zero_add, cell_of_row _ _ j #[x, y, z] t (0, 0) (heap_alloc_new w _)]
  rw [← Array.getElem?_toList]; exact hj
def newC (i : Int) : CL := ⟨i, 0, .slice none 0 0, []⟩
theorem calls_append {w : World} {v : Value} {l : List CL} (hown : w.ownsRow 0 94 3 v l.length (l.flatMap CL.cells)) (i : Int) (hl : l.length < 1000000) (ty : TypeId) :
    ∃ v' w', (Builtin.append_ #[65, 65] ty #[v, .slice (some ⟨w.heap.size, 0, none⟩) 1 1]).run Try.prog (w.alloc (.cells #[.int .i64 i, .int .i64 0, .slice none 0 0] 94)) = .ok v' w' ∧ w'.ownsRow 0 94 3 v' (l ++ [newC i]).length ((l ++ [newC i]).flatMap CL.cells) ∧ w.grownBy w' v.ownBlock ∧ (v'.ownBlock = v.ownBlock ∨ ∃ m, v'.ownBlock = some m ∧ w.heap.size ≤ m) ∧ ∃ A c, v' = .slice A (l.length + 1) c := by
  obtain ⟨i0, hi, hz0, hz1, hz2⟩ := info_parts info94
  obtain ⟨v', w', h1, h2, h3, h4, h5⟩ := run_append_own_at (P := Try.prog) (w := w.alloc (.cells #[.int .i64 i, .int .i64 0, .slice none 0 0] 94)) 0 65 ty 94 i0 _ 3 40 Try.underlying65 hi hz0 hz1 hz2 rfl (by decide) v l.length (l.flatMap CL.cells)
    (own_same hown fun k hk => heap_alloc_old w _ (own_lt hown hk).1) ⟨w.heap.size, 0, none⟩ 1 1 [.int .i64 i, .int .i64 0, .slice none 0 0] rfl (three_new w _ _ _ _) (by simp [Value.oneCell']) (by simp only [maxLen]; omega) (by omega) (Nat.zero_le _)
  have he : (l ++ [newC i]).flatMap CL.cells = l.flatMap CL.cells ++ [.int .i64 i, .int .i64 0, .slice none 0 0] := by simp [newC, CL.cells]
  refine ⟨v', w', h1, by rw [he, List.length_append]; exact h2, (World.grownBy_alloc w _ _).trans h3, ?_, own_slice h2⟩
  rcases h5 with h | h
  · exact .inl h
  · refine .inr ⟨_, h, ?_⟩
    show w.heap.size ≤ (w.heap.push _).size
    simp
def AT.hasC (T : AT) (i : Int) : Bool := T.calls.any fun c => c.i == i
def AT.enter (T : AT) (i : Int) : Int × AT := if 0 ≤ i then if i < (T.tabs.length : Int) then if T.hasC i = true then (19, T) else if 16 ≤ T.calls.length then (8, T) else (0, { T with calls := T.calls ++ [⟨i, 0, []⟩] }) else (19, T) else (19, T)
set_option maxHeartbeats 16000000 in
set_option maxRecDepth 100000 in
theorem enter_calls {w : World} {g : Nat} {S : Tb} {D : Nat → Prop} (hT : HT w g S D) (i : Int) :
    Calls Try.prog 25 #[.pointer (some ⟨g, 0, none⟩), .int .i64 i] w fun z w' => z = .returned (.int .i64 (S.abs.enter i).1) ∧ Aft w g D (S.abs.enter i).2 w' := by
  have hgl := blk_lt hT.top
  have hT1 := hT.alloc (.cells #[.int .i64 i] 3)
  have hF1 : Fr w (w.alloc (.cells #[.int .i64 i] 3)) D := ⟨by show _ ≤ (w.heap.push _).size; simp, fun b hb _ => heap_alloc_old w _ hb, ⟨rfl, rfl, rfl⟩⟩
  have hB : (w.alloc (.cells #[.int .i64 i] 3)).cell? ⟨w.heap.size, 0, none⟩ = some (.int .i64 i) := (blk_cell (heap_alloc_new w _) 0).trans rfl
  have hBl : w.heap.size < (w.alloc (.cells #[.int .i64 i] 3)).heap.size := by show _ < (w.heap.push _).size; simp
  have fin : ∀ m, Aft w g D S.abs ((w.alloc (.cells #[.int .i64 i] 3)).drewN m) := fun m => ⟨S, (hT1.drewN m).imp fun b h => .inl h, rfl, Fr.drawn hF1 ⟨m, rfl⟩⟩
  have htl : S.abs.tabs.length = S.mbs.length := by simp [Tb.abs, hT.len1]
  have hcl : S.abs.calls.length = S.calls.length := by simp [Tb.abs]
  have hhas : S.abs.hasC i = hasC S.calls i := by simp [AT.hasC, hasC, Tb.abs, List.any_map, Function.comp_def, CL.abs]
  generalize hW : w.alloc (.cells #[.int .i64 i] 3) = w1 at hT1 hF1 hB hBl fin
  obtain ⟨Am, cm, At, ct, Ac, cc, e1, e2, e3, hS⟩ := hT1.ts
  have c1 : w1.cell? ⟨g, 1, none⟩ = some (.slice At S.mbs.length ct) := (blk_cell hS 1).trans rfl
  have c2 : w1.cell? ⟨g, 2, none⟩ = some (.slice Ac S.calls.length cc) := (blk_cell hS 2).trans rfl
  unfold AT.enter
  rw [htl, hcl, hhas]
  by_cases h0 : 0 ≤ i
  · rw [if_pos h0]
    have b0 : decide (i < 0) = false := decide_eq_false (by omega)
    by_cases h1 : i < (S.mbs.length : Int)
    · rw [if_pos h1]
      have b1 : decide ((S.mbs.length : Int) ≤ i) = false := decide_eq_false (by omega)
      cases hh : hasC S.calls i with
      | true =>
        rw [if_pos rfl]
        go_enter Try.func25, Try.ntmps25
        go_wp2
        go_still_tail 21, (by kernel_rfl)
        change wpList _ _ _ _ _ w1.drew
        have hT2 : HT w1.drew g S D := hT1.drewN 1
        have hF2 : Fr w w1.drew D := Fr.drawn hF1 ⟨1, rfl⟩
        have hB2 : w1.drew.cell? ⟨w.heap.size, 0, none⟩ = some (.int .i64 i) := hB
        have hBl2 : w.heap.size < w1.drew.heap.size := hBl
        generalize w1.drew = w2 at hT2 hF2 hB2 hBl2 ⊢
        have hcon := contains_calls w2 S.calls Ac cc (by have := hT2.cal; rw [e3] at this; exact this) (fun c hc => by obtain ⟨lA, lc, hh⟩ := own_slice (hT2.lent c hc); exact ⟨_, _, _, hh⟩) w.heap.size i hB2 hBl2
        clear hT1 hF1 hB hBl fin c1 c2 hS
        rw [hh] at hcon
        go_wp2_with (first | (go_at_call 54; refine hcon.mono ?_; rintro e w3 ⟨rfl, hb3⟩))
        go_ret
        exact ⟨rfl, S, (hT2.keep (fun b hb _ => hb3.block b hb)).imp fun b h => .inl h, rfl, hF2.trans (D1 := D) ⟨hb3.size, fun b hb _ => hb3.block b hb, ⟨hb3.os, hb3.tape, hb3.output⟩⟩ (fun _ _ h => h)⟩
      | false =>
        rw [if_neg (by decide)]
        by_cases h16 : 16 ≤ S.calls.length
        · rw [if_pos h16]
          have d16 : decide ((16 : Int) ≤ (S.calls.length : Int)) = true := decide_eq_true (by omega)
          go_enter Try.func25, Try.ntmps25
          go_wp2
          go_still_tail 21, (by kernel_rfl)
          change wpList _ _ _ _ _ w1.drew
          have hT2 : HT w1.drew g S D := hT1.drewN 1
          have hF2 : Fr w w1.drew D := Fr.drawn hF1 ⟨1, rfl⟩
          have hB2 : w1.drew.cell? ⟨w.heap.size, 0, none⟩ = some (.int .i64 i) := hB
          have hBl2 : w.heap.size < w1.drew.heap.size := hBl
          generalize w1.drew = w2 at hT2 hF2 hB2 hBl2 ⊢
          have hcon := contains_calls w2 S.calls Ac cc (by have := hT2.cal; rw [e3] at this; exact this) (fun c hc => by obtain ⟨lA, lc, hh⟩ := own_slice (hT2.lent c hc); exact ⟨_, _, _, hh⟩) w.heap.size i hB2 hBl2
          clear hT1 hF1 hB hBl fin c1 c2 hS
          rw [hh] at hcon
          go_upto_region 4 with (first | (go_at_call 54; refine hcon.mono ?_; rintro e w3 ⟨rfl, hb3⟩))
          have hT3 := hT2.keep (fun b hb _ => hb3.block b hb)
          have hF3 : Fr w w3 D := hF2.trans (D1 := D) ⟨hb3.size, fun b hb _ => hb3.block b hb, ⟨hb3.os, hb3.tape, hb3.output⟩⟩ (fun _ _ h => h)
          have c2 : w3.cell? ⟨g, 2, none⟩ = some (.slice Ac S.calls.length cc) := by rw [← e3]; exact (blk_cell hT3.top 2).trans rfl
          go_wp2
          go_ret
          exact ⟨rfl, S, hT3.imp fun b h => .inl h, rfl, hF3⟩
        · rw [if_neg h16]
          have d16 : decide ((16 : Int) ≤ (S.calls.length : Int)) = false := decide_eq_false (by omega)
          go_enter Try.func25, Try.ntmps25
          go_wp2
          go_still_tail 21, (by kernel_rfl)
          change wpList _ _ _ _ _ w1.drew
          have hT2 : HT w1.drew g S D := hT1.drewN 1
          have hF2 : Fr w w1.drew D := Fr.drawn hF1 ⟨1, rfl⟩
          have hB2 : w1.drew.cell? ⟨w.heap.size, 0, none⟩ = some (.int .i64 i) := hB
          have hBl2 : w.heap.size < w1.drew.heap.size := hBl
          generalize w1.drew = w2 at hT2 hF2 hB2 hBl2 ⊢
          have hcon := contains_calls w2 S.calls Ac cc (by have := hT2.cal; rw [e3] at this; exact this) (fun c hc => by obtain ⟨lA, lc, hh⟩ := own_slice (hT2.lent c hc); exact ⟨_, _, _, hh⟩) w.heap.size i hB2 hBl2
          clear hT1 hF1 hB hBl fin c1 c2 hS
          rw [hh] at hcon
          go_upto_region 4 with (first | (go_at_call 54; refine hcon.mono ?_; rintro e w3 ⟨rfl, hb3⟩))
          have hT3 := hT2.keep (fun b hb _ => hb3.block b hb)
          have hF3 : Fr w w3 D := hF2.trans (D1 := D) ⟨hb3.size, fun b hb _ => hb3.block b hb, ⟨hb3.os, hb3.tape, hb3.output⟩⟩ (fun _ _ h => h)
          have hB3 : w3.cell? ⟨w.heap.size, 0, none⟩ = some (.int .i64 i) := (hb3.cell (p := ⟨w.heap.size, 0, none⟩) hBl2).trans hB2
          have c2 : w3.cell? ⟨g, 2, none⟩ = some (.slice Ac S.calls.length cc) := by rw [← e3]; exact (blk_cell hT3.top 2).trans rfl
          have c2a : (w3.alloc (.cells #[.int .i64 i, .int .i64 0, .slice none 0 0] 94)).cell? ⟨g, 2, none⟩ = some (.slice Ac S.calls.length cc) := by rw [← e3]; exact (blk_cell (hT3.alloc _).top 2).trans rfl
          have hB3a : (w3.alloc (.cells #[.int .i64 i, .int .i64 0, .slice none 0 0] 94)).cell? ⟨w.heap.size, 0, none⟩ = some (.int .i64 i) := by
            have hl := Nat.lt_of_lt_of_le hBl2 hb3.size
            unfold World.cell? at hB3 ⊢
            rw [heap_alloc_old w3 _ hl]; exact hB3
          obtain ⟨v', w4, a1, a2, a3, a4, A', c', rfl⟩ := calls_append (hT3.drewN 1).cal i (by omega) 65
          rw [e3] at a1
          have hgne : ∀ q, S.cv.ownBlock = some q → g ≠ q := fun q hq => by obtain ⟨_, cu, hcu⟩ := own_lt hT3.cal hq; exact blk_ne hT3.top hcu (by decide)
          have hg4 : w4.heap[g]? = some (.cells #[S.mv, S.tv, S.cv] 67 (0, 0)) := (a3.block g (blk_lt hT3.top) (fun z => hgne g z.symm rfl)).trans hT3.top
          have s2 : w4.cell? ⟨g, 2, none⟩ = some S.cv := (blk_cell hg4 2).trans rfl
          have s2f : w4.frozen? ⟨g, 2, none⟩ = false := blk_frozen hg4 2
          have HC := Aside0.mk (calls_HT (hT3.drewN 1) a3 a2 a4 (fun p c hp => by
            rw [List.getElem?_append] at hp
            split at hp
            · exact .inl hp
            · have : c = newC i := by
                rw [List.getElem?_singleton] at hp
                split at hp
                · injection hp with hp; exact hp.symm
                · cases hp
              rw [this]; exact .inr ⟨rfl, rfl⟩))
          have A1 := Aside0.mk a1
          clear a1 a2 a3 a4 hcon hT2 hF2 hB2 hBl2 hgne hg4
          go_wp2
          go_region_law (refine step_append_eq rfl (.tmp 42) (.tmp 45) 65 rfl rfl rfl A1.out ?_)
          all_goals (go_wp2; go_ret; obtain ⟨q1, q2⟩ := HC.out; exact ⟨rfl, _, q1.imp (fun b hb => hb.imp id (fun z => Nat.le_trans hF3.1 z)), by simp [Tb.abs, newC, CL.abs], hF3.trans (D1 := D) (q2.from ⟨1, rfl⟩) (fun _ _ h => h)⟩)
    · rw [if_neg h1]
      have b1 : decide ((S.mbs.length : Int) ≤ i) = true := decide_eq_true (by omega)
      go_enter Try.func25, Try.ntmps25
      go_wp2
      repeat (go_quiet (fail); try go_wp2)
      go_ret
      exact ⟨rfl, fin _⟩
  · rw [if_neg h0]
    have b0 : decide (i < 0) = true := decide_eq_true (by omega)
    go_enter Try.func25, Try.ntmps25
    go_wp2
    repeat (go_quiet (fail); try go_wp2)
    go_ret
    exact ⟨rfl, fin _⟩
def AT.unlend (T : AT) (p : Int × Int) : AT := match (T.tabs.getD p.1.toNat fun _ => none) p.2 with
  | some e => { T with tabs := T.tabs.set p.1.toNat (updA (T.tabs.getD p.1.toNat fun _ => none) p.2 (some { e with lends := wrap64 (e.lends - 1) })) }
  | none => T
def AT.leave (T : AT) : Int × AT := if T.calls.length = 0 then (20, T) else if 0 < T.lastC.bor then (18, T) else (0, { T.lastC.lent.foldl AT.unlend T with calls := T.calls.dropLast })
/-- What is lent, is there. -/
def AT.lentOk (T : AT) : Prop := ∀ p ∈ T.lastC.lent, 0 ≤ p.1 ∧ p.1 < (T.tabs.length : Int) ∧ ((T.tabs.getD p.1.toNat fun _ => none) p.2).isSome = true
theorem unlend_calls (T : AT) (p : Int × Int) : (T.unlend p).calls = T.calls ∧ (T.unlend p).mkr = T.mkr ∧ (T.unlend p).tabs.length = T.tabs.length := by
  unfold AT.unlend
  split
  · exact ⟨rfl, rfl, by simp⟩
  · exact ⟨rfl, rfl, rfl⟩
theorem unlend_some (T : AT) (p : Int × Int) (i : Nat) (h : Int) (hs : ((T.tabs.getD i fun _ => none) h).isSome = true) : (((T.unlend p).tabs.getD i fun _ => none) h).isSome = true := by
  unfold AT.unlend
  cases hp : (T.tabs.getD p.1.toNat fun _ => none) p.2 with
  | none => exact hs
  | some e =>
    simp only
    rw [List.getD_eq_getElem?_getD, List.getElem?_set]
    by_cases hi : p.1.toNat = i
    · subst hi
      rw [if_pos rfl]
      split
      · simp only [Option.getD_some, updA]
        split
        · rfl
        · exact hs
      · rename_i hlt
        rw [List.getD_eq_getElem?_getD, List.getElem?_eq_none (by omega)] at hs
        exact hs
    · rw [if_neg hi, ← List.getD_eq_getElem?_getD]; exact hs
theorem lent_cells {W : World} {v : Value} {l : List (Int × Int)} (h : W.ownsRow 0 96 2 v l.length (lentVals l)) {kk : Nat} (hk : kk < l.length) : ∃ b cap p, v = .slice (some ⟨b, 0, none⟩) l.length cap ∧ l[kk]? = some p ∧ W.cell? ⟨b, kk * 2, none⟩ = some (.int .i64 p.1) ∧ W.cell? ⟨b, kk * 2 + 1, none⟩ = some (.int .i64 p.2) := by
  obtain ⟨b, cap, e1, _, _, e3⟩ := own_cells h (by omega)
  have hc : l[kk]? = some l[kk] := List.getElem?_eq_getElem hk
  have key : ∀ (l : List (Int × Int)) (k j : Nat) (p : Int × Int), l[k]? = some p → j < 2 → (lentVals l)[k * 2 + j]? = [Value.int .i64 p.1, Value.int .i64 p.2][j]? := by
    intro l
    induction l with
    | nil => intro k j p h; cases h
    | cons a l ih =>
      intro k j p h hj
      unfold lentVals
      cases k with
      | zero =>
        injection h with h
        subst h
        rw [List.flatMap_cons, List.getElem?_append_left (by show _ < 2; omega)]
        congr 1; omega
      | succ k =>
        rw [List.flatMap_cons, List.getElem?_append_right (by show 2 ≤ _; omega), ← ih k j p h hj]
        unfold lentVals
        congr 1
        show (k + 1) * 2 + j - 2 = _
        omega
  refine ⟨b, cap, l[kk], e1, hc, e3 _ _ ?_, e3 _ _ ?_⟩
  · have := key l kk 0 _ hc (by omega); rw [Nat.add_zero] at this; rw [this]; rfl
  · rw [key l kk 1 _ hc (by omega)]; rfl
theorem fold_some (l : List (Int × Int)) : ∀ (T : AT) (i : Nat) (h : Int), ((T.tabs.getD i fun _ => none) h).isSome = true → (((l.foldl AT.unlend T).tabs.getD i fun _ => none) h).isSome = true := by
  induction l with
  | nil => intro T i h hs; exact hs
  | cons p l ih => intro T i h hs; exact ih _ i h (unlend_some T p i h hs)
theorem fold_len (l : List (Int × Int)) : ∀ (T : AT), (l.foldl AT.unlend T).tabs.length = T.tabs.length := by
  induction l with
  | nil => intro T; rfl
  | cons p l ih => intro T; rw [List.foldl_cons, ih, (unlend_calls T p).2.2]
theorem own_take {w : World} {base e size n m c b : Nat} {xs : List Value} (h : w.ownsRow base e size (.slice (some ⟨b, 0, none⟩) n c) n xs) (hm : m ≤ n) : w.ownsRow base e size (.slice (some ⟨b, 0, none⟩) m c) m (xs.take (m * size)) := by
  obtain ⟨h1, h2⟩ := h
  refine ⟨by rw [List.length_take, h1]; exact Nat.min_eq_left (Nat.mul_le_mul_right _ hm), ?_⟩
  rcases h2 with ⟨h0, _⟩ | ⟨g, cap, cur, he, hb, hh, hnc, hcm, hcs, ht⟩
  · cases h0
  · injection he with ha _ hc
    injection ha with ha
    injection ha with ha
    subst ha; subst hc
    exact .inr ⟨b, c, cur, rfl, hb, hh, by omega, hcm, hcs, by rw [← ht, List.take_take, Nat.min_eq_left (Nat.mul_le_mul_right _ hm)]⟩
theorem cells_take (cs : List CL) (m : Nat) : (cs.flatMap CL.cells).take (m * 3) = (cs.take m).flatMap CL.cells := by
  induction cs generalizing m with
  | nil => simp
  | cons a cs ih =>
    cases m with
    | zero => simp
    | succ m =>
      rw [List.take_succ_cons, List.flatMap_cons, List.flatMap_cons, ← ih m, show (m + 1) * 3 = 3 + m * 3 by omega]
      exact List.take_length_add_append (l₁ := a.cells) _
set_option maxHeartbeats 16000000 in
set_option maxRecDepth 100000 in
theorem leave_calls {w : World} {g : Nat} {S : Tb} {D : Nat → Prop} (hT : HT w g S D) (hok : S.abs.lentOk) :
    Calls Try.prog 23 #[.pointer (some ⟨g, 0, none⟩)] w fun z w' => z = .returned (.int .i64 S.abs.leave.1) ∧ Aft w g D S.abs.leave.2 w' := by
  obtain ⟨Am, cm, At, ct, Ac, cc, e1, e2, e3, hS⟩ := hT.ts
  have fin := fun m => hT.aft.drawn (w2 := w.drewN m) ⟨m, rfl⟩
  have hcl : S.abs.calls.length = S.calls.length := by simp [Tb.abs]
  have c2 : w.cell? ⟨g, 2, none⟩ = some (.slice Ac S.calls.length cc) := (blk_cell hS 2).trans rfl
  unfold AT.leave
  rw [hcl]
  by_cases hn : S.calls.length = 0
  · rw [if_pos hn]
    have hn' : ((S.calls.length : Int) == 0) = true := by simp [hn]
    clear hn
    go_enter Try.func23, Try.ntmps23
    go_wp2
    repeat (go_quiet (fail); try go_wp2)
    go_ret
    exact ⟨rfl, fin 0⟩
  · rw [if_neg hn]
    have hn' : ((S.calls.length : Int) == 0) = false := by simpa using hn
    obtain ⟨k, hk⟩ : ∃ k, S.calls.length = k + 1 := ⟨S.calls.length - 1, by omega⟩
    have hmx : S.calls.length ≤ 9223372036854775807 := own_max hT.cal
    have hw : wrap64 ((S.calls.length : Int) - 1) = (k : Int) := by rw [hk]; unfold wrap64; omega
    have hkl : k < S.calls.length := by omega
    obtain ⟨bc, ccap, cl, d1, hcl', d4, d5, d6⟩ := call_cells hT.cal hkl
    rw [d1] at e3
    injection e3 with e3 _ e5
    subst e3; subst e5
    have hcm : cl ∈ S.calls := List.mem_of_getElem? hcl'
    obtain ⟨lA, lc, hlv⟩ := own_slice (hT.lent cl hcm)
    rw [hlv] at d6
    have hlast : S.abs.lastC = cl.abs := by
      unfold AT.lastC
      rw [hcl, hk]
      simp [Tb.abs, List.getD, hcl']
    rw [hlast]
    have p2 : (0 ≤ (k : Int)) = True := eq_true (Int.natCast_nonneg k)
    have p3 : ((k : Int) < (S.calls.length : Int)) = True := eq_true (by omega)
    have hal : ∀ (q j : Nat) v, w.cell? ⟨q, j, none⟩ = some v → q < w.heap.size → (w.alloc (.cells #[.int .i64 0, .int .i64 0, .slice none 0 0] 94)).cell? ⟨q, j, none⟩ = some v := fun q j v hv hq => by
      unfold World.cell? at hv ⊢
      rw [heap_alloc_old w _ hq]; exact hv
    have hbl : bc < w.heap.size := (own_lt hT.cal (show S.cv.ownBlock = some bc by rw [d1]; rfl)).1
    have a2 := hal _ _ _ c2 (blk_lt hT.top)
    have a4 := hal _ _ _ d4 hbl
    have a5 := hal _ _ _ d5 hbl
    have a6 := hal _ _ _ d6 hbl
    have hk' : k = S.calls.length - 1 := by omega
    have d4' := d4
    have d5' := d5
    have d6' := d6
    have a4' := a4
    have a5' := a5
    have a6' := a6
    rw [hk'] at d4' d5' d6' a4' a5' a6'
    clear hk hal hk'
    by_cases hb : 0 < cl.bor
    · rw [if_pos (show 0 < cl.abs.bor from hb)]
      have hb' : decide (0 < cl.bor) = true := decide_eq_true hb
      go_enter Try.func23, Try.ntmps23
      go_wp2
      go_region
      have hT2 : HT (w.alloc (.cells #[.int .i64 cl.i, .int .i64 cl.bor, .slice lA cl.lent.length lc] 94)).drew g S D := (hT.alloc _).drewN 1
      have n1 : (w.alloc (.cells #[.int .i64 cl.i, .int .i64 cl.bor, .slice lA cl.lent.length lc] 94)).drew.cell? ⟨w.heap.size, 1, none⟩ = some (.int .i64 cl.bor) := (blk_cell (heap_alloc_new w _) 1).trans rfl
      have hF : Fr w (w.alloc (.cells #[.int .i64 cl.i, .int .i64 cl.bor, .slice lA cl.lent.length lc] 94)).drew D := ⟨by show _ ≤ (w.heap.push _).size; simp, fun b hb _ => heap_alloc_old w _ hb, ⟨rfl, rfl, rfl⟩⟩
      generalize (w.alloc (.cells #[.int .i64 cl.i, .int .i64 cl.bor, .slice lA cl.lent.length lc] 94)).drew = w2 at hT2 n1 hF ⊢
      go_wp2
      go_ret
      exact ⟨rfl, S, hT2.imp (fun b h => .inl h), rfl, hF⟩
    · rw [if_neg (show ¬ 0 < cl.abs.bor from hb)]
      have hb' : decide (0 < cl.bor) = false := decide_eq_false hb
      rw [show cl.abs.lent = cl.lent from rfl]
      have HOK := Aside0.mk hok
      clear hok fin hb
      go_enter Try.func23, Try.ntmps23
      go_wp2
      go_region
      have hT2 : HT (w.alloc (.cells #[.int .i64 cl.i, .int .i64 cl.bor, .slice lA cl.lent.length lc] 94)).drew g S D := (hT.alloc _).drewN 1
      have n1 : (w.alloc (.cells #[.int .i64 cl.i, .int .i64 cl.bor, .slice lA cl.lent.length lc] 94)).drew.cell? ⟨w.heap.size, 1, none⟩ = some (.int .i64 cl.bor) := (blk_cell (heap_alloc_new w _) 1).trans rfl
      have n2 : (w.alloc (.cells #[.int .i64 cl.i, .int .i64 cl.bor, .slice lA cl.lent.length lc] 94)).drew.cell? ⟨w.heap.size, 2, none⟩ = some (.slice lA cl.lent.length lc) := (blk_cell (heap_alloc_new w _) 2).trans rfl
      have hF : Fr w (w.alloc (.cells #[.int .i64 cl.i, .int .i64 cl.bor, .slice lA cl.lent.length lc] 94)).drew D := ⟨by show _ ≤ (w.heap.push _).size; simp, fun b hb _ => heap_alloc_old w _ hb, ⟨rfl, rfl, rfl⟩⟩
      generalize (w.alloc (.cells #[.int .i64 cl.i, .int .i64 cl.bor, .slice lA cl.lent.length lc] 94)).drew = w2 at hT2 n1 n2 hF ⊢
      have H2 := Aside0.mk hT2
      have HFr := Aside0.mk hF
      have HT0 := Aside0.mk hT
      clear a2 a4 a5 a6 a4' a5' a6' d4 d5 d6 d4' d5' d6' c2 hT2 hF hS hT
      go_wp2
      go_loopg [34] cl.lent.length (fun gg v34 wr => ∃ kk : Nat, v34 = .int .i64 kk ∧ kk ≤ cl.lent.length ∧ cl.lent.length - kk ≤ gg ∧ Aside0 (∃ Sk, HT wr g Sk D ∧ Sk.calls = S.calls ∧ Sk.cv = S.cv ∧ Sk.abs = (cl.lent.take kk).foldl AT.unlend S.abs) ∧ Aside0 (Fr w wr D))
      case atStart => exact ⟨0, rfl, Nat.zero_le _, by omega, ⟨S, H2.out, rfl, rfl, by simp⟩, HFr⟩
      case round =>
        obtain ⟨kk, rfl, hkk, hgg, HS, HFk⟩ := hrel
        obtain ⟨Sk, hTk, k1, k2, k3⟩ := HS.out
        by_cases hlt : kk < cl.lent.length
        · have dk : decide ((kk : Int) < (cl.lent.length : Int)) = true := decide_eq_true (by omega)
          have hlk := hTk.lent cl (by rw [k1]; exact hcm)
          obtain ⟨bl, lcap, p, ev, hp, g1, g2⟩ := lent_cells hlk hlt
          rw [hlv] at ev
          injection ev with ev1 _ ev3
          subst ev1; subst ev3
          have hpm : p ∈ cl.lent := List.mem_of_getElem? hp
          obtain ⟨i0, i1, i2⟩ := HOK.out p (by rw [hlast]; exact hpm)
          have i1' : p.1 < (Sk.mbs.length : Int) := by
            have h1 : Sk.abs.tabs.length = S.abs.tabs.length := by rw [k3, fold_len]
            have h2 : Sk.abs.tabs.length = Sk.mbs.length := by simp [Tb.abs, hTk.len1]
            omega
          obtain ⟨tb, tcap, mb, xs, c, f1, f2, f3, f4, f5, f6, f7⟩ := hTk.table i0 i1'
          have i3 : (absR xs p.2).isSome = true := by
            rw [← tabs_at f4, k3]; exact fold_some _ _ _ _ i2
          obtain ⟨x, hx⟩ : ∃ x, findR p.2 xs = some x := by
            unfold absR at i3
            rw [Option.isSome_map] at i3
            exact Option.isSome_iff_exists.1 i3
          obtain ⟨j, m1, m2⟩ := findR_idx hx
          obtain ⟨m3, m4⟩ := findR_mem hx
          have p4 : (0 ≤ (kk : Int)) = True := eq_true (Int.natCast_nonneg kk)
          have p5 : ((kk : Int) < (cl.lent.length : Int)) = True := eq_true (by omega)
          have K3 := Aside0.mk k3
          have HTK := Aside0.mk hTk
          clear HS hTk hlk n1 n2
          go_upto_region 9 with (fail)
          have hT5 : HT (wr.alloc (.cells #[.int .i64 p.1, .int .i64 p.2] 96)) g Sk D := HTK.out.alloc _
          have hF5 : Fr w (wr.alloc (.cells #[.int .i64 p.1, .int .i64 p.2] 96)) D := HFk.out.trans (D1 := D) ⟨by show _ ≤ (wr.heap.push _).size; simp, fun b hb _ => heap_alloc_old wr _ hb, ⟨rfl, rfl, rfl⟩⟩ (fun _ _ h => h)
          have b0 : (wr.alloc (.cells #[.int .i64 p.1, .int .i64 p.2] 96)).cell? ⟨wr.heap.size, 0, none⟩ = some (.int .i64 p.1) := (blk_cell (heap_alloc_new wr _) 0).trans rfl
          have b1 : (wr.alloc (.cells #[.int .i64 p.1, .int .i64 p.2] 96)).cell? ⟨wr.heap.size, 1, none⟩ = some (.int .i64 p.2) := (blk_cell (heap_alloc_new wr _) 1).trans rfl
          generalize wr.alloc (.cells #[.int .i64 p.1, .int .i64 p.2] 96) = w5 at hT5 hF5 b0 b1 ⊢
          obtain ⟨tb', tcap', mb', xs', c', h1, h2, h3, h4, h5, h6, h7⟩ := hT5.table i0 i1'
          obtain rfl : xs = xs' := Option.some.inj (f4.symm.trans h4)
          have t1 : w5.cell? ⟨g, 1, none⟩ = some (.slice (some ⟨tb', 0, none⟩) Sk.mbs.length tcap') := by rw [← h1]; exact (blk_cell hT5.top 1).trans rfl
          have hE := hT5.ents xs (List.mem_of_getElem? f4) x m3
          have t3 : w5.cell? ⟨x.eb, 3, none⟩ = some (.int .i64 x.e.lends) := (blk_cell hE 3).trans rfl
          have t3f : w5.frozen? ⟨x.eb, 3, none⟩ = false := blk_frozen hE 3
          have hl5 : ∀ W : World, W.heap[mb']? = w5.heap[mb']? → (Instr.lookup 74 (.map (some mb')) (.int .i64 p.2) false).run Try.prog W = .ok (.pointer (some ⟨x.eb, 0, none⟩)) W := fun W hW => by
            rw [run_lookup (P := Try.prog) (T := 74) (kt := 3) (et := 62) Try.underlying74 Try.underlying3 (hW.trans h7) (zero62 W) p.2, look_find, hx]
            simp [m1]
          have q5 := hl5 w5 rfl
          have q5d := hl5 w5.drew rfl
          have p6 : (0 ≤ p.1) = True := eq_true i0
          have p7 : (p.1 < (Sk.mbs.length : Int)) = True := eq_true i1'
          clear hl5 f1 f2 f3 f5 f6 f7
          go_region
          have HE := ent_HT (w' := w5.drew.setCell ⟨x.eb, 3, none⟩ (.int .i64 (wrap64 (x.e.lends - 1)))) (hT5.drewN 1) { x.e with lends := wrap64 (x.e.lends - 1) } f4 m2 (blk_put (w := w5.drew) hE 3 _ rfl) (by simp [World.setCell]) (fun q _ hne => Below.heap_setCell _ _ _ q hne) ⟨rfl, rfl, rfl⟩
          have H6 := Aside0.mk HE
          have HF5 := Aside0.mk hF5
          clear HE hF5 hE hT5
          go_wp2
          go_roundg (cl.lent.length - (kk + 1))
          case measure => omega
          case rel =>
            have hml : cl.lent.length ≤ 9223372036854775807 := own_max (H2.out.lent cl hcm)
            obtain ⟨r1, r2, r3⟩ := H6.out
            refine ⟨kk + 1, by first | rfl | (congr 1; unfold wrap64; omega), by omega, by omega, ⟨_, r1, k1, k2, ?_⟩, ⟨HF5.out.trans (D1 := D) (r2.from ⟨1, rfl⟩) (fun _ _ h => h)⟩⟩
            rw [r3, List.take_add_one, hp, Option.toList_some, List.foldl_append, ← K3.out, List.foldl_cons, List.foldl_nil]
            unfold AT.unlend
            have ha : Sk.abs.tabs.getD p.1.toNat (fun _ => none) p.2 = some x.e := by
              rw [tabs_at f4]; unfold absR; rw [hx]; rfl
            rw [ha]
            simp only [m4]
        · have dk : decide ((kk : Int) < (cl.lent.length : Int)) = false := decide_eq_false (by omega)
          have hke : kk = cl.lent.length := by omega
          have HTK := Aside0.mk hTk
          have K1 := Aside0.mk k1
          have K2 := Aside0.mk k2
          have K3 := Aside0.mk k3
          have r2 : wr.cell? ⟨g, 2, none⟩ = some (.slice (some ⟨bc, 0, none⟩) S.calls.length ccap) := by rw [← d1, ← k2]; exact (blk_cell hTk.top 2).trans rfl
          have r2f : wr.frozen? ⟨g, 2, none⟩ = false := blk_frozen hTk.top 2
          have hnc : S.calls.length ≤ ccap := by
            have := hTk.cal
            rw [k1, k2, d1] at this
            exact own_cap this
          have z1 : (0 ≤ (S.calls.length : Int) - 1) = True := eq_true (by omega)
          have z2 : ((S.calls.length : Int) - 1 ≤ (ccap : Int)) = True := eq_true (by omega)
          have z3 : decide (0 ≤ (S.calls.length : Int) - 1) = true := decide_eq_true (by omega)
          have z4 : decide ((S.calls.length : Int) - 1 ≤ (ccap : Int)) = true := decide_eq_true (by omega)
          clear HS hTk k1 k2 k3
          go_wp2
          go_region
          go_wp2
          go_ret
          have hTk := HTK.out
          have hcal := hTk.cal
          rw [K1.out, K2.out, d1] at hcal
          have hown := own_take hcal (show S.calls.length - 1 ≤ S.calls.length by omega)
          rw [cells_take, ← List.dropLast_eq_take] at hown
          have hdl : S.calls.dropLast.length = S.calls.length - 1 := List.length_dropLast
          obtain ⟨q1, q2⟩ := calls_HT (w1 := wr) (cv' := .slice (some ⟨bc, 0, none⟩) (S.calls.length - 1) ccap) (calls' := S.calls.dropLast) hTk ⟨rfl, rfl, rfl, Nat.le_refl _, fun _ _ _ => rfl⟩ (by rw [hdl]; exact hown) (.inl (by rw [K2.out, d1]; rfl)) (fun p c hp => .inl (by
            rw [K1.out]
            rw [List.dropLast_eq_take, List.getElem?_take] at hp
            split at hp
            · exact hp
            · cases hp))
          refine ⟨rfl, Aft.drawn (w1 := wr.setCell ⟨g, 2, none⟩ (.slice (some ⟨bc, 0, none⟩) (S.calls.length - 1) ccap)) ⟨_, q1.imp (fun b hb => hb.imp id (fun z => Nat.le_trans HFk.out.1 z)), ?_, HFk.out.trans (D1 := D) q2 (fun _ _ h => h)⟩ ⟨1, rfl⟩⟩
          have h3 := K3.out
          rw [hke, List.take_length] at h3
          rw [← h3]
          unfold Tb.abs
          simp only [List.map_dropLast]
def badB (n : Int) (i : Int) : Bool := decide (i < 0) || decide (n ≤ i)
set_option maxHeartbeats 4000000 in
set_option maxRecDepth 100000 in
theorem bad_calls (W : World) (B : Nat) (n i : Int) (hB : W.cell? ⟨B, 0, none⟩ = some (.int .i64 n)) :
    Calls Try.prog 36 (#[.int .i64 i] ++ #[.pointer (some ⟨B, 0, none⟩)]) W fun e w' => e = .returned (.bool (badB n i)) ∧ w' = W := by
  unfold badB
  by_cases h : i < 0
  · have b0 : decide (i < 0) = true := decide_eq_true h
    clear h
    rw [b0, Bool.true_or]
    go_enter Try.func36, Try.ntmps36
    go_wp2
    go_ret
    exact ⟨by simp, rfl⟩
  · have b0 : decide (i < 0) = false := decide_eq_false h
    clear h
    rw [b0, Bool.false_or]
    go_enter Try.func36, Try.ntmps36
    go_wp2
    go_ret
    exact ⟨by simp, rfl⟩
def Ints (W : World) (A : Option Addr) (l : List Int) : Prop := ∀ j, j < l.length → ∃ ad, A = some ad ∧ W.cell? (ad.add j) = some (.int .i64 (l.getD j 0))
set_option maxHeartbeats 8000000 in
set_option maxRecDepth 100000 in
theorem indexI_calls (w : World) (l : List Int) (A : Option Addr) (cc : Nat) (h : Ints w A l) (hmx : l.length ≤ 9223372036854775807) (B : Nat) (n : Int) (hB : w.cell? ⟨B, 0, none⟩ = some (.int .i64 n)) :
    Calls Try.prog 59 #[.slice A l.length cc, .func (.func 36) #[] #[.pointer (some ⟨B, 0, none⟩)]] w fun e w' => ∃ r : Int, e = .returned (.int .i64 r) ∧ decide (0 ≤ r) = l.any (badB n) ∧ Drawn0 w w' := by
  have eg := enters_of Try.func36 (by kernel_rfl) rfl
  have HH := Aside0.mk h
  have HB := Aside0.mk hB
  clear h hB
  go_enter Try.func59, Try.ntmps59
  go_wp2
  go_loopg [5, 8] l.length (fun gg _ s8 wr => ∃ kk : Nat, kk ≤ l.length ∧ l.length - kk ≤ gg ∧ s8 = .int .i64 kk ∧ Drawn0 w wr ∧ Aside0 (∀ c ∈ l.take kk, badB n c = false))
  case atStart => exact ⟨0, Nat.zero_le _, by omega, rfl, Drawn0.refl _, ⟨fun c hc => by simp at hc⟩⟩
  case round =>
    obtain ⟨kk, hkk, hg, rfl, ⟨m, rfl⟩, AA⟩ := hrel
    by_cases hlt' : kk < l.length
    · obtain ⟨ad, rfl, hcell⟩ := HH.out kk hlt'
      have hc : l[kk]? = some (l.getD kk 0) := by rw [List.getElem?_eq_getElem hlt']; simp [List.getD, List.getElem?_eq_getElem hlt']
      have hcall := bad_calls (w.drewN m) B n (l.getD kk 0) HB.out
      generalize hy : l.getD kk 0 = y at hcell hcall hc
      have p0 : (0 ≤ (kk : Int)) = True := eq_true (Int.natCast_nonneg kk)
      have p1 : ((kk : Int) < (l.length : Int)) = True := eq_true (by omega)
      have p2 : decide ((kk : Int) < (l.length : Int)) = true := decide_eq_true (by omega)
      cases hq : badB n y with
      | true =>
        rw [hq] at hcall
        go_wp2_with (go_at_call 36; refine hcall.mono ?_; rintro e w' ⟨rfl, rfl⟩)
        go_ret
        refine ⟨_, rfl, ?_, by repeat (first | exact Drawn0.refl _ | apply Drawn0.step)⟩
        rw [decide_eq_true (Int.natCast_nonneg kk)]
        exact (List.any_eq_true.2 ⟨y, List.mem_of_getElem? hc, hq⟩).symm
      | false =>
        rw [hq] at hcall
        go_wp2_with (go_at_call 36; refine hcall.mono ?_; rintro e w' ⟨rfl, rfl⟩)
        go_roundg (l.length - (kk + 1))
        case measure => omega
        case rel =>
          refine ⟨kk + 1, by omega, by omega, ?_, by repeat (first | exact Drawn0.refl _ | apply Drawn0.step), ⟨fun d hd => ?_⟩⟩
          · first | rfl | (congr 1; done) | (congr 1; unfold wrap64; omega)
          · rw [List.take_add_one, hc] at hd
            rcases List.mem_append.1 hd with h | h
            · exact AA.out d h
            · simp at h; rw [h]; exact hq
    · have p2 : decide ((kk : Int) < (l.length : Int)) = false := decide_eq_false (by omega)
      have hke : kk = l.length := by omega
      go_wp2
      go_ret
      refine ⟨_, rfl, ?_, ⟨m, rfl⟩⟩
      rw [decide_eq_false (by omega)]
      have hA := AA.out
      rw [hke, List.take_length] at hA
      exact (List.any_eq_false.2 (fun d hd => by rw [hA d hd]; decide)).symm
set_option maxHeartbeats 4000000 in
set_option maxRecDepth 100000 in
theorem containsI_calls (w : World) (l : List Int) (A : Option Addr) (cc : Nat) (h : Ints w A l) (hmx : l.length ≤ 9223372036854775807) (B : Nat) (n : Int) (hB : w.cell? ⟨B, 0, none⟩ = some (.int .i64 n)) :
    Calls Try.prog 37 #[.slice A l.length cc, .func (.func 36) #[] #[.pointer (some ⟨B, 0, none⟩)]] w fun e w' => e = .returned (.bool (l.any (badB n))) ∧ Drawn0 w w' := by
  have hc := indexI_calls w l A cc h hmx B n hB
  clear h hB
  go_enter Try.func37, Try.ntmps37
  go_wp2_with (first | (go_at_call 59; refine hc.mono ?_; rintro e w' ⟨r, rfl, hr, m, rfl⟩))
  go_ret
  exact ⟨by simp [hr], by repeat (first | exact Drawn0.refl _ | apply Drawn0.step)⟩
theorem info3 : (Try.prog.info? 3).map (fun i => (i.zero, i.size, i.bytes)) = some (some (.int .i64 0), 1, 8) := by kernel_rfl
set_option maxHeartbeats 4000000 in
set_option maxRecDepth 100000 in
theorem cloneI_calls (w : World) (l : List Int) (ad : Addr) (cc : Nat) (h : Ints w (some ad) l) (hmx : l.length ≤ 1000000) :
    Calls Try.prog 38 #[.slice (some ad) l.length cc] w fun e w' => ∃ v, e = .returned v ∧ w'.ownsRow w.heap.size 3 1 v l.length (l.map (Value.int .i64)) ∧ Below w.heap.size w w' := by
  have hi3 : ∃ i, Try.prog.info? 3 = some i ∧ i.zero = some (.int .i64 0) ∧ i.size = 1 ∧ i.bytes = 8 := by
    have h3 := info3
    cases h0 : Try.prog.info? 3 with
    | none => rw [h0] at h3; cases h3
    | some i => rw [h0] at h3; simp at h3; exact ⟨i, rfl, h3⟩
  obtain ⟨i0, hi0, hz0, hz1, hz2⟩ := hi3
  have q : ∀ (W : World), (binOp .eql 44 (.slice (some ad) l.length cc) (.slice none 0 0)).run Try.prog W = .ok (.bool false) W := fun W => Go.Lib.run_eql_slice_nil W _ _ (some ad) l.length cc 0 0 Try.underlying44
  have A := Aside0.mk h
  clear h
  go_enter Try.func38, Try.ntmps38
  go_wp2_with (at_builtin; refine wpList_append_own _ rfl _ _ 44 rfl w.heap.size 3 i0 _ 1 8 Try.underlying44 hi0 hz0 hz1 hz2 rfl (by decide) _ _ _ rfl (World.ownsRow_made w #[] 0 (Nat.le_refl _) (Nat.zero_le _) (by simp)) ad l.length cc (l.map (Value.int .i64)) rfl ?qc1 ?qc2 ?qc3 ?qc4 ?qc5 ?qc6 ?_)
  case qc1 => simp
  case qc2 =>
    intro j u hj
    rw [List.getElem?_map] at hj
    rcases Nat.lt_or_ge j l.length with hl | hl
    · obtain ⟨_, e1, e2⟩ := A.out j hl
      cases e1
      rw [List.getElem?_eq_getElem hl] at hj
      simp only [Option.map_some, Option.some.injEq] at hj
      subst hj
      refine Go.Lib.cell?_alloc_some _ ?_
      rw [e2]; simp [List.getD, List.getElem?_eq_getElem hl]
    · rw [List.getElem?_eq_none hl] at hj; cases hj
  case qc3 => intro u hu; obtain ⟨x, _, rfl⟩ := List.mem_map.1 hu; rfl
  case qc4 => rw [Nat.zero_add]; exact Nat.le_trans hmx (by decide)
  case qc5 => rw [Nat.zero_add]; omega
  case qc6 => simp
  intro v' w1 hown hgrow hnil
  go_wp2
  go_ret
  refine ⟨v', rfl, by simpa using hown, ?_⟩
  exact ((Below.refl _ w).alloc (Nat.le_refl _) _).grown hgrow (by simp) (by intro k hk; simp [Value.ownBlock] at hk; omega)
/-- One more table, empty. -/
def Tb.more (S : Tb) (tv : Value) (m : Nat) : Tb := { S with tv := tv, mbs := S.mbs ++ [m], cks := S.cks ++ [0], rows := S.rows ++ [[]] }
theorem get_app {α : Type} (l : List α) (x y : α) (k : Nat) (h : (l ++ [x])[k]? = some y) : (k < l.length ∧ l[k]? = some y) ∨ (k = l.length ∧ y = x) := by
  rcases Nat.lt_or_ge k l.length with hk | hk
  · rw [List.getElem?_append_left hk] at h; exact .inl ⟨hk, h⟩
  · rw [List.getElem?_append_right hk] at h
    rcases Nat.eq_zero_or_pos (k - l.length) with hz | hz
    · rw [hz] at h; simp at h; exact .inr ⟨by omega, h.symm⟩
    · rw [List.getElem?_eq_none (by simp; omega)] at h; cases h
theorem tabs_HT {w w0 w1 : World} {g : Nat} {S : Tb} {D : Nat → Prop} (hT : HT w g S D) {tv' : Value} {m : Nat} (hm : w.heap.size ≤ m) (hsz : w.heap.size ≤ w0.heap.size) (hold0 : ∀ j, j < w.heap.size → w0.heap[j]? = w.heap[j]?) (hm0 : w0.heap[m]? = some (.map #[] 0)) (hio : Io w w0) (hg : w0.grownBy w1 S.tv.ownBlock)
    (hown : w1.ownsRow 0 74 1 tv' (S.mbs ++ [m]).length ((S.mbs ++ [m]).map fun b => .map (some b)))
    (hat : tv'.ownBlock = S.tv.ownBlock ∨ ∃ q, tv'.ownBlock = some q ∧ w0.heap.size ≤ q) :
    HT (w1.setCell ⟨g, 1, none⟩ tv') g (S.more tv' m) (Dn D w.heap.size) ∧ Fr w (w1.setCell ⟨g, 1, none⟩ tv') D := by
  have hlb : ∀ q, S.tv.ownBlock = some q → ∃ cu, w.heap[q]? = some (Obj.cells cu 74 (0, 0)) := fun q hq => (own_lt hT.tab hq).2
  have hold : ∀ j, j < w.heap.size → j ≠ g → (∀ q, S.tv.ownBlock = some q → j ≠ q) → (w1.setCell ⟨g, 1, none⟩ tv').heap[j]? = w.heap[j]? := fun j hj hne hq =>
    ((Below.heap_setCell w1 _ _ j hne).trans (hg.block j (Nat.lt_of_lt_of_le hj hsz) (fun z => hq j z.symm rfl))).trans (hold0 j hj)
  have kc : ∀ {j : Nat} {cs : Array Value} {t : TypeId}, t ≠ 74 → t ≠ 67 → w.heap[j]? = some (Obj.cells cs t (0, 0)) → (w1.setCell ⟨g, 1, none⟩ tv').heap[j]? = some (Obj.cells cs t (0, 0)) := fun {j cs t} h1 h2 h =>
    (hold j (blk_lt h) (blk_ne h hT.top h2) (fun q hq => by obtain ⟨cu, hcu⟩ := hlb q hq; exact blk_ne h hcu h1)).trans h
  have ko : ∀ {base e size n : Nat} {v : Value} {xs : List Value}, e ≠ 74 → e ≠ 67 → w.ownsRow base e size v n xs → (w1.setCell ⟨g, 1, none⟩ tv').ownsRow base e size v n xs := fun h1 h2 h => own_same h fun q hq => by
    obtain ⟨_, cu, hcu⟩ := own_lt h hq
    rw [hcu]; exact kc h1 h2 hcu
  have hgg : ∀ q, S.tv.ownBlock = some q → g ≠ q := fun q hq => by obtain ⟨cu, hcu⟩ := hlb q hq; exact blk_ne hT.top hcu (by decide)
  have hgl := blk_lt hT.top
  have hg1 : w1.heap[g]? = w.heap[g]? := (hg.block g (Nat.lt_of_lt_of_le hgl hsz) (fun z => hgg g z.symm rfl)).trans (hold0 g hgl)
  have hcv : ∀ q, tv'.ownBlock = some q → q ≠ g := by
    intro q hq z
    subst z
    rcases hat with h | ⟨m', h1, h2⟩
    · exact hgg q (h ▸ hq) rfl
    · rw [h1] at hq
      injection hq with hq
      omega
  have hlt : ∀ (k b : Nat), S.mbs[k]? = some b → b < w.heap.size := fun k b hk => by
    obtain ⟨hk1, _⟩ := List.getElem?_eq_some_iff.1 hk
    have hr : S.rows[k]? = some (S.rows[k]'(by rw [hT.len1]; exact hk1)) := List.getElem?_eq_getElem _
    have hc : S.cks[k]? = some (S.cks[k]'(by rw [hT.len2]; exact hk1)) := List.getElem?_eq_getElem _
    exact (Array.getElem?_eq_some_iff.1 (hT.maps k b _ _ hk hr hc)).1
  have hml : m < w0.heap.size := (Array.getElem?_eq_some_iff.1 hm0).1
  refine ⟨{ top := ?_, topD := .inl hT.topD, mkr := ko (by decide) (by decide) hT.mkr, mkD := fun q h => .inl (hT.mkD q h), tab := ?_, tabD := ?_, len1 := ?_, len2 := ?_, maps := ?_, mapsD := ?_, mapsN := ?_, ents := ?_, entsD := ?_, entsN := ?_, keysN := ?_, keysR := ?_, born := ?_, cal := ko (by decide) (by decide) hT.cal, calD := fun q h => .inl (hT.calD q h), lent := fun c hc => ko (by decide) (by decide) (hT.lent c hc), lentD := fun c hc k h => .inl (hT.lentD c hc k h), lentN := hT.lentN }, ?_⟩
  · have h1 : w1.heap[g]? = some (.cells #[S.mv, S.tv, S.cv] 67 (0, 0)) := hg1.trans hT.top
    exact blk_put h1 1 tv' rfl
  · exact own_same hown fun q hq => Below.heap_setCell w1 _ _ q (hcv q hq)
  · intro q hq
    rcases hat with h | ⟨m', h1, h2⟩
    · exact .inl (hT.tabD q (h ▸ hq))
    · replace hq : tv'.ownBlock = some q := hq
      rw [h1] at hq
      injection hq with hq
      exact .inr (by omega)
  · show (S.rows ++ [[]]).length = (S.mbs ++ [m]).length
    simp [hT.len1]
  · show (S.cks ++ [0]).length = (S.mbs ++ [m]).length
    simp [hT.len2]
  · intro k b xs c h1 h2 h3
    rcases get_app _ _ _ _ h1 with ⟨k1, h1⟩ | ⟨k1, h1⟩
    · have h2 : S.rows[k]? = some xs := by
        rcases get_app _ _ _ _ h2 with ⟨_, h⟩ | ⟨h, _⟩
        · exact h
        · have := hT.len1; omega
      have h3 : S.cks[k]? = some c := by
        rcases get_app _ _ _ _ h3 with ⟨_, h⟩ | ⟨h, _⟩
        · exact h
        · have := hT.len2; omega
      have h := hT.maps k b xs c h1 h2 h3
      exact (hold b (blk_lt h) (fun z => by rw [z, hT.top] at h; injection h with h; cases h) (fun q' hq' => by obtain ⟨cu, hcu⟩ := hlb q' hq'; rintro rfl; rw [hcu] at h; injection h with h; cases h)).trans h
    · have e2 : xs = [] := by
        rcases get_app _ _ _ _ h2 with ⟨h, _⟩ | ⟨_, h⟩
        · have := hT.len1; omega
        · exact h
      have e3 : c = 0 := by
        rcases get_app _ _ _ _ h3 with ⟨h, _⟩ | ⟨_, h⟩
        · have := hT.len2; omega
        · exact h
      rw [h1, e2, e3]
      rw [Below.heap_setCell w1 _ _ m (by show m ≠ g; omega), hg.block m hml (fun z => by obtain ⟨cu, hcu⟩ := hlb m z.symm; have := blk_lt hcu; omega), hm0]
      rfl
  · intro b hb
    rcases List.mem_append.1 hb with h | h
    · exact .inl (hT.mapsD b h)
    · simp at h; rw [h]; exact .inr hm
  · refine List.nodup_append.2 ⟨hT.mapsN, by simp, ?_⟩
    intro a ha b hb
    simp at hb
    obtain ⟨k, hk⟩ := List.getElem?_of_mem ha
    have := hlt k a hk
    omega
  · intro xs h1 x h2
    rcases List.mem_append.1 h1 with h | h
    · exact kc (by decide) (by decide) (hT.ents xs h x h2)
    · simp at h; rw [h] at h2; cases h2
  · intro xs h1 x h2
    rcases List.mem_append.1 h1 with h | h
    · exact .inl (hT.entsD xs h x h2)
    · simp at h; rw [h] at h2; cases h2
  · have h := hT.entsN
    show ((S.rows ++ [[]]).flatten.map Row.eb).Nodup
    simpa using h
  · intro xs h1
    rcases List.mem_append.1 h1 with h | h
    · exact hT.keysN xs h
    · simp at h; rw [h]; exact List.nodup_nil
  · intro xs h1 x h2
    rcases List.mem_append.1 h1 with h | h
    · exact hT.keysR xs h x h2
    · simp at h; rw [h] at h2; cases h2
  · intro k xs c h2 h3
    rcases get_app _ _ _ _ h2 with ⟨k1, h2⟩ | ⟨k1, h2⟩
    · refine hT.born k xs c h2 ?_
      rcases get_app _ _ _ _ h3 with ⟨_, h⟩ | ⟨h, _⟩
      · exact h
      · have := hT.len1; have := hT.len2; omega
    · subst h2
      exact ⟨List.nodup_nil, fun x hx => by cases hx⟩
  · exact ⟨by have := hg.size; exact Nat.le_trans hsz (by simpa [World.setCell] using this), fun j hj hD => hold j hj (fun z => hD (z ▸ hT.topD)) (fun q hq z => hD (z ▸ hT.tabD q hq)), ⟨hg.os.trans hio.os, hg.tape.trans hio.tape, hg.output.trans hio.output⟩⟩
theorem own_base {w : World} {base e size n : Nat} {v : Value} {xs : List Value} (h : w.ownsRow base e size v n xs) : w.ownsRow 0 e size v n xs := by
  obtain ⟨h1, h2⟩ := h
  refine ⟨h1, ?_⟩
  rcases h2 with h2 | ⟨g, cap, cur, rfl, hb, r⟩
  · exact .inl h2
  · exact .inr ⟨g, cap, cur, rfl, Nat.zero_le _, r⟩
theorem own_ge {w : World} {base e size n : Nat} {v : Value} {xs : List Value} (h : w.ownsRow base e size v n xs) {k : Nat} (hk : v.ownBlock = some k) : base ≤ k := by
  rcases h.2 with ⟨rfl, _⟩ | ⟨g, cap, cur, rfl, hb, r⟩
  · cases hk
  · injection hk with hk; exact Nat.le_trans hb (Nat.le_of_eq hk)
/-- Tables with no table. -/
theorem new_HT {w : World} {base : Nat} {A : Option Addr} {c : Nat} {l : List Int} (h : w.ownsRow base 3 1 (.slice A l.length c) l.length (l.map (Value.int .i64))) (hb : base ≤ w.heap.size) :
    HT (w.alloc (.cells #[.slice A l.length c, .slice none 0 0, .slice none 0 0] 67)) w.heap.size ⟨.slice A l.length c, l, .slice none 0 0, [], [], [], .slice none 0 0, []⟩ (fun b => base ≤ b) := by
  refine { top := heap_alloc_new w _, topD := hb, mkr := own_base (own_same h fun k e => heap_alloc_old w _ (own_lt h e).1), mkD := fun k e => own_ge h e, tab := ⟨rfl, .inl ⟨rfl, rfl⟩⟩, tabD := ?_, len1 := rfl, len2 := rfl, maps := ?_, mapsD := ?_, mapsN := List.nodup_nil, ents := ?_, entsD := ?_, entsN := List.nodup_nil, keysN := ?_, keysR := ?_, born := ?_, cal := ⟨rfl, .inl ⟨rfl, rfl⟩⟩, calD := ?_, lent := ?_, lentD := ?_, lentN := ?_ }
  · intro k e; cases e
  · intro k b xs c h1; cases h1
  · intro b hb; cases hb
  · intro xs h1; cases h1
  · intro xs h1; cases h1
  · intro xs h1; cases h1
  · intro xs h1; cases h1
  · intro k xs c h1; cases h1
  · intro k e; cases e
  · intro c hc; cases hc
  · intro c hc; cases hc
  · intro p q c d h1; cases h1
set_option maxHeartbeats 1000000 in
set_option maxRecDepth 100000 in
theorem cloneI_nil (w : World) (n cc : Nat) : Calls Try.prog 38 #[.slice none n cc] w fun e w' => e = .returned (.slice none 0 0) ∧ w' = w := by
  have q : ∀ (W : World), (binOp .eql 44 (.slice none n cc) (.slice none 0 0)).run Try.prog W = .ok (.bool true) W := fun W => Go.Lib.run_eql_slice_nil W _ _ none n cc 0 0 Try.underlying44
  go_enter Try.func38, Try.ntmps38
  go_wp2
  go_ret
  exact ⟨rfl, rfl⟩
theorem info74 : (Try.prog.info? 74).map (fun i => (i.zero, i.size, i.bytes)) = some (some (.map none), 1, 8) := by kernel_rfl
theorem one_new (w : World) (x : Value) (t : TypeId) : ∀ j u, [x][j]? = some u → (w.alloc (.cells #[x] t)).cell? ((⟨w.heap.size, 0, none⟩ : Addr).add j) = some u := by
  intro j u hj
  rw [add_at, Nat.zero_add, cell_of_row _ _ j #[x] t (0, 0) (heap_alloc_new w _)]
  rw [← Array.getElem?_toList]; exact hj
theorem tabs_append {w : World} {v : Value} {l : List Nat} (hown : w.ownsRow 0 74 1 v l.length (l.map fun b => .map (some b))) (m : Nat) (hl : l.length < 1000000) (ty : TypeId) :
    ∃ v' w', (Builtin.append_ #[64, 64] ty #[v, .slice (some ⟨w.heap.size, 0, none⟩) 1 1]).run Try.prog (w.alloc (.cells #[.map (some m)] 74)) = .ok v' w' ∧ w'.ownsRow 0 74 1 v' (l ++ [m]).length ((l ++ [m]).map fun b => .map (some b)) ∧ (w.alloc (.cells #[.map (some m)] 74)).grownBy w' v.ownBlock ∧ (v'.ownBlock = v.ownBlock ∨ ∃ q, v'.ownBlock = some q ∧ (w.alloc (.cells #[.map (some m)] 74)).heap.size ≤ q) ∧ ∃ A c, v' = .slice A (l.length + 1) c := by
  obtain ⟨i0, hi, hz0, hz1, hz2⟩ := info_parts info74
  obtain ⟨v', w', h1, h2, h3, h4, h5⟩ := run_append_own_at (P := Try.prog) (w := w.alloc (.cells #[.map (some m)] 74)) 0 64 ty 74 i0 _ 1 8 Try.underlying64 hi hz0 hz1 hz2 rfl (by decide) v l.length (l.map fun b => .map (some b))
    (own_same hown fun k hk => heap_alloc_old w _ (own_lt hown hk).1) ⟨w.heap.size, 0, none⟩ 1 1 [.map (some m)] rfl (one_new w _ _) (by simp [Value.oneCell']) (by simp only [maxLen]; omega) (by omega) (Nat.zero_le _)
  refine ⟨v', w', h1, by rw [List.map_append, List.length_append]; exact h2, h3, ?_, own_slice h2⟩
  rcases h5 with h | h
  · exact .inl h
  · exact .inr ⟨_, h, Nat.le_refl _⟩
def noneT : Int → Option E := fun _ => none
def newT (k : Nat) (l : List Int) : AT := ⟨l, List.replicate k noneT, []⟩
def newB (n : Int) (l : List Int) : Bool := decide (1 ≤ n) && (decide (n ≤ 4) && (decide (l.length ≤ 16) && !l.any (badB n)))
theorem fr_alloc {w w1 : World} {D : Nat → Prop} (h : Fr w w1 D) (o : Obj) : Fr w (w1.alloc o) D := by
  refine ⟨Nat.le_trans h.1 ?_, fun b hb hn => (heap_alloc_old w1 o (Nat.lt_of_lt_of_le hb h.1)).trans (h.2.1 b hb hn), ⟨h.2.2.os, h.2.2.tape, h.2.2.output⟩⟩
  show _ ≤ (w1.heap.push _).size; simp
theorem clone_any (w : World) (l : List Int) (A : Option Addr) (cc : Nat) (h : Ints w A l) (hmx : l.length ≤ 1000000) :
    Calls Try.prog 38 #[.slice A l.length cc] w fun e w' => ∃ v, e = .returned v ∧ w'.ownsRow w.heap.size 3 1 v l.length (l.map (Value.int .i64)) ∧ w.heap.size ≤ w'.heap.size ∧ Io w w' ∧ ∀ b, b < w.heap.size → w'.heap[b]? = w.heap[b]? := by
  cases A with
  | some ad =>
    refine (cloneI_calls w l ad cc h hmx).mono ?_
    rintro e w' ⟨v, rfl, h1, h2⟩
    exact ⟨v, rfl, h1, h2.size, ⟨h2.os, h2.tape, h2.output⟩, fun b hb => h2.block b hb⟩
  | none =>
    have hl : l = [] := by
      cases l with
      | nil => rfl
      | cons x l => obtain ⟨_, e, _⟩ := h 0 (by simp); cases e
    subst hl
    refine (cloneI_nil w _ cc).mono ?_
    rintro e w' ⟨rfl, rfl⟩
    exact ⟨_, rfl, ⟨rfl, .inl ⟨rfl, rfl⟩⟩, Nat.le_refl _, ⟨rfl, rfl, rfl⟩, fun _ _ => rfl⟩
set_option maxHeartbeats 16000000 in
set_option maxRecDepth 100000 in
theorem new_good (w : World) (l : List Int) (A : Option Addr) (cc : Nat) (h : Ints w A l) (hmx : l.length ≤ 1000000) (n : Int) (hb : newB n l = true) :
    Calls Try.prog 14 #[.int .i64 n, .slice A l.length cc] w fun e w' => ∃ g S, e = .returned (.tuple #[.pointer (some ⟨g, 0, none⟩), .int .i64 0]) ∧ HT w' g S (fun b => w.heap.size ≤ b) ∧ S.abs = newT n.toNat l ∧ Fr w w' (fun _ => False) := by
  have F1 := fr_alloc (Fr.refl w (fun _ => False)) (.cells #[.int .i64 n] 3)
  have hB : (w.alloc (.cells #[.int .i64 n] 3)).cell? ⟨w.heap.size, 0, none⟩ = some (.int .i64 n) := (blk_cell (heap_alloc_new w _) 0).trans rfl
  have hBl : w.heap.size < (w.alloc (.cells #[.int .i64 n] 3)).heap.size := by show _ < (w.heap.push _).size; simp
  have h1 : Ints (w.alloc (.cells #[.int .i64 n] 3)) A l := fun j hj => by
    obtain ⟨ad, e1, e2⟩ := h j hj
    exact ⟨ad, e1, Go.Lib.cell?_alloc_some _ e2⟩
  have hc := containsI_calls _ l A cc h1 (by omega) w.heap.size n hB
  unfold newB at hb
  simp only [Bool.and_eq_true, decide_eq_true_eq, Bool.not_eq_true'] at hb
  obtain ⟨a, b, c, d⟩ := hb
  rw [d] at hc
  have p1 : decide (n < 1) = false := decide_eq_false (by omega)
  have p2 : decide (4 < n) = false := decide_eq_false (by omega)
  have p3 : decide ((16 : Int) < (l.length : Int)) = false := decide_eq_false (by omega)
  clear h
  have H1 := Aside0.mk h1
  clear h1
  go_enter Try.func14, Try.ntmps14
  go_upto_region 4 with (first | (go_at_call 37; refine hc.mono ?_; rintro e w2 ⟨rfl, m, rfl⟩))
  clear hc
  have hcl := clone_any ((w.alloc (.cells #[.int .i64 n] 3)).drewN m) l A cc H1.out hmx
  go_upto_region 5 with (first | (go_at_call 38; refine hcl.mono ?_; rintro e w3 ⟨v, rfl, ho, hs3, hio3, ho3⟩; obtain ⟨vA, vc, rfl⟩ := own_slice ho))
  have hs3' : (w.alloc (.cells #[.int .i64 n] 3)).heap.size ≤ w3.heap.size := hs3
  have F3 : Fr w w3 (fun _ => False) := F1.trans (D1 := fun _ => False) ⟨hs3, fun b hb _ => ho3 b hb, ⟨hio3.os, hio3.tape, hio3.output⟩⟩ (fun _ _ h => h)
  have hB3 : w3.cell? ⟨w.heap.size, 0, none⟩ = some (.int .i64 n) := by
    have := ho3 w.heap.size hBl
    unfold World.cell? at hB ⊢
    rw [this]; exact hB
  have hT0 := new_HT ho hs3
  have hT5 := hT0.imp (D' := fun b => w.heap.size ≤ b) (fun b hb => Nat.le_trans (Nat.le_of_lt hBl) hb)
  have F5 := fr_alloc F3 (.cells #[.slice vA l.length vc, .slice none 0 0, .slice none 0 0] 67)
  have hB5 : (w3.alloc (.cells #[.slice vA l.length vc, .slice none 0 0, .slice none 0 0] 67)).cell? ⟨w.heap.size, 0, none⟩ = some (.int .i64 n) := Go.Lib.cell?_alloc_some _ hB3
  have hab : (⟨.slice vA l.length vc, l, .slice none 0 0, [], [], [], .slice none 0 0, []⟩ : Tb).abs = newT 0 l := rfl
  clear hT0 ho ho3 hio3 hs3 hs3' F3 hB3 hcl H1 F1 hB
  generalize (⟨.slice vA l.length vc, l, .slice none 0 0, [], [], [], .slice none 0 0, []⟩ : Tb) = S0 at hT5 hab
  generalize w3.heap.size = g at hT5 ⊢
  generalize w3.alloc (.cells #[.slice vA l.length vc, .slice none 0 0, .slice none 0 0] 67) = w5 at hT5 F5 hB5 ⊢
  go_wp2
  clear hB5
  go_loopg [30] n.toNat (fun gg s30 wr => ∃ (kk : Nat) (S : Tb), kk ≤ n.toNat ∧ n.toNat - kk ≤ gg ∧ s30 = Value.int .i64 (kk : Int) ∧ HT wr g S (fun b => w.heap.size ≤ b) ∧ S.abs = newT kk l ∧ Fr w wr (fun _ => False))
  case atStart => exact ⟨0, S0, Nat.zero_le _, by omega, rfl, hT5, hab, F5⟩
  case round =>
    obtain ⟨kk, S, hkk, hg, rfl, hTr, har, hFr⟩ := hrel
    have hl : S.mbs.length = kk := by
      have h := congrArg (fun T : AT => T.tabs.length) har
      simp only [Tb.abs, newT, List.length_map, List.length_replicate] at h
      rw [← hTr.len1]; exact h
    by_cases hlt : (kk : Int) < n
    · have q1 : decide ((kk : Int) < n) = true := decide_eq_true hlt
      go_upto_region 7 with (fail)
      obtain ⟨At, ct, e2⟩ := own_slice hTr.tab
      have hTa := hTr.alloc (.map #[] 0)
      have c1 : wr.cell? ⟨g, 1, none⟩ = some (.slice At S.mbs.length ct) := by rw [← e2]; exact (blk_cell hTr.top 1).trans rfl
      obtain ⟨v', w4, a1, a2, a3, a4, A', c', rfl⟩ := tabs_append hTa.tab wr.heap.size (by omega) 64
      have hszm : wr.heap.size ≤ ((wr.alloc (.map #[] 0)).alloc (.cells #[.map (some wr.heap.size)] 74)).heap.size := by
        show _ ≤ ((wr.heap.push _).push _).size; simp; omega
      have hold0 : ∀ j, j < wr.heap.size → ((wr.alloc (.map #[] 0)).alloc (.cells #[.map (some wr.heap.size)] 74)).heap[j]? = wr.heap[j]? := fun j hj => by
        rw [heap_alloc_old _ _ (by show j < (wr.heap.push _).size; simp; omega), heap_alloc_old _ _ hj]
      have hm0 : ((wr.alloc (.map #[] 0)).alloc (.cells #[.map (some wr.heap.size)] 74)).heap[wr.heap.size]? = some (.map #[] 0) := by
        rw [heap_alloc_old _ _ (by show wr.heap.size < (wr.heap.push _).size; simp)]
        exact heap_alloc_new wr _
      have hgne : ∀ q, S.tv.ownBlock = some q → g ≠ q := fun q hq => by obtain ⟨_, cu, hcu⟩ := own_lt hTr.tab hq; exact blk_ne hTr.top hcu (by decide)
      have hg4 : w4.heap[g]? = some (.cells #[S.mv, S.tv, S.cv] 67 (0, 0)) := (a3.block g (Nat.lt_of_lt_of_le (blk_lt hTr.top) hszm) (fun z => hgne g z.symm rfl)).trans ((hold0 g (blk_lt hTr.top)).trans hTr.top)
      have s1 : w4.cell? ⟨g, 1, none⟩ = some S.tv := (blk_cell hg4 1).trans rfl
      have s1f : w4.frozen? ⟨g, 1, none⟩ = false := blk_frozen hg4 1
      have HC := Aside0.mk (tabs_HT hTr (Nat.le_refl _) hszm hold0 hm0 ⟨rfl, rfl, rfl⟩ a3 a2 a4)
      rw [e2, hl, show (wr.alloc (.map #[] 0)).heap.size = wr.heap.size + 1 from by show (wr.heap.push _).size = _; simp] at a1
      have A1 := Aside0.mk a1
      clear a1 a2 a3 a4 hszm hold0 hm0 hgne hg4 hTa
      have hmk : (Instr.makeMap 74 none).run Try.prog wr = .ok (.map (some wr.heap.size)) (wr.alloc (.map #[] 0)) := run_makeMap 74 wr
      go_wp2_with (first | (at_builtin; refine wpList_append_eq rfl _ _ 64 rfl rfl rfl A1.out ?_))
      go_roundg (n.toNat - (kk + 1))
      case measure => omega
      case rel =>
        have HO := HC.out
        rw [hl] at HO
        obtain ⟨r1, r2⟩ := HO
        refine ⟨kk + 1, _, by omega, by omega, ?_, r1.imp (fun b hb => hb.elim id (fun z => Nat.le_trans hFr.1 z)), ?_, hFr.trans (D1 := fun b => w.heap.size ≤ b) r2 (fun b hb h => by omega)⟩
        · first | rfl | (congr 1; done) | (congr 1; unfold wrap64; omega)
        · have h := har
          unfold Tb.abs newT at h ⊢
          injection h with h1 h2 h3
          unfold Tb.more
          simp only [List.map_append, h2]
          rw [List.replicate_succ']
          simp [h1, h3, absR, findR, noneT]
          rfl
    · have q1 : decide ((kk : Int) < n) = false := decide_eq_false hlt
      go_wp2
      go_ret2
      all_goals (refine ⟨g, rfl, S, hTr, ?_, hFr⟩; rw [har]; congr 1; omega)
/-- Behind what was there at w0, the world holds the tables T, at g. -/
def Now (g : Nat) (T : AT) (w0 w : World) : Prop := ∃ S, HT w g S (fun b => w0.heap.size ≤ b) ∧ S.abs = T ∧ Fr w0 w (fun _ => False)
theorem Now.fr {g : Nat} {T : AT} {w0 w : World} (h : Now g T w0 w) : Below w0.heap.size w0 w := by
  obtain ⟨S, _, _, h1, h2, h3⟩ := h
  exact ⟨h3.os, h3.tape, h3.output, h1, fun b hb => h2 b hb id⟩
theorem now_step {g : Nat} {T T' : AT} {w0 w w' : World} {S : Tb} (hF : Fr w0 w (fun _ => False)) (k : Aft w g (fun b => w0.heap.size ≤ b) T' w') : Now g T' w0 w' := by
  obtain ⟨S', h1, h2, h3⟩ := k
  exact ⟨S', h1.imp (fun b hb => hb.elim id (fun z => Nat.le_trans hF.1 z)), h2, hF.trans (D1 := fun b => w0.heap.size ≤ b) h3 (fun b hb h => by omega)⟩
theorem now_make {g : Nat} {T : AT} {w0 w : World} (h : Now g T w0 w) (i r n : Int) :
    Calls Try.prog 24 #[.pointer (some ⟨g, 0, none⟩), .int .i64 i, .int .i64 r, .int .i64 n] w fun z w' => z = .returned (.tuple #[.int .i64 (T.make i r n).1, .int .i64 (T.make i r n).2.1]) ∧ Now g (T.make i r n).2.2 w0 w' := by
  obtain ⟨S, hT, rfl, hF⟩ := h
  exact (make_calls hT i r n).mono fun z w' ⟨h1, h2⟩ => ⟨h1, now_step (T := S.abs) (S := S) hF h2⟩
theorem now_borrow {g : Nat} {T : AT} {w0 w : World} (h : Now g T w0 w) (i r n : Int) :
    Calls Try.prog 29 #[.pointer (some ⟨g, 0, none⟩), .int .i64 i, .int .i64 r, .int .i64 n] w fun z w' => z = .returned (.tuple #[.int .i64 (T.borrow i r n).1, .int .i64 (T.borrow i r n).2.1]) ∧ Now g (T.borrow i r n).2.2 w0 w' := by
  obtain ⟨S, hT, rfl, hF⟩ := h
  exact (borrow_calls hT i r n).mono fun z w' ⟨h1, h2⟩ => ⟨h1, now_step (T := S.abs) (S := S) hF h2⟩
theorem now_lend {g : Nat} {T : AT} {w0 w : World} (h : Now g T w0 w) (i r n : Int) (hlen : ∀ c ∈ T.calls, c.lent.length < 1000000) :
    Calls Try.prog 26 #[.pointer (some ⟨g, 0, none⟩), .int .i64 i, .int .i64 r, .int .i64 n] w fun z w' => z = .returned (.tuple #[.int .i64 (T.lend i r n).1, .int .i64 (T.lend i r n).2.1]) ∧ Now g (T.lend i r n).2.2 w0 w' := by
  obtain ⟨S, hT, rfl, hF⟩ := h
  exact (lend_calls hT i r n (fun c hc => hlen c.abs (List.mem_map_of_mem hc))).mono fun z w' ⟨h1, h2⟩ => ⟨h1, now_step (T := S.abs) (S := S) hF h2⟩
theorem now_drop {g : Nat} {T : AT} {w0 w : World} (h : Now g T w0 w) (i r n : Int) (hcall : ∀ e, T.get i r n = some e → e.own = false → 1 ≤ e.call ∧ e.call ≤ (T.calls.length : Int)) :
    Calls Try.prog 27 #[.pointer (some ⟨g, 0, none⟩), .int .i64 i, .int .i64 r, .int .i64 n] w fun z w' => z = .returned (.tuple #[.int .i64 (T.drop i r n).1, .bool (T.drop i r n).2.1, .int .i64 (T.drop i r n).2.2.1]) ∧ Now g (T.drop i r n).2.2.2 w0 w' := by
  obtain ⟨S, hT, rfl, hF⟩ := h
  exact (drop_calls hT i r n (fun e h1 h2 => by have := hcall e h1 h2; simpa [Tb.abs] using this)).mono fun z w' ⟨h1, h2⟩ => ⟨h1, now_step (T := S.abs) (S := S) hF h2⟩
theorem now_enter {g : Nat} {T : AT} {w0 w : World} (h : Now g T w0 w) (i : Int) :
    Calls Try.prog 25 #[.pointer (some ⟨g, 0, none⟩), .int .i64 i] w fun z w' => z = .returned (.int .i64 (T.enter i).1) ∧ Now g (T.enter i).2 w0 w' := by
  obtain ⟨S, hT, rfl, hF⟩ := h
  exact (enter_calls hT i).mono fun z w' ⟨h1, h2⟩ => ⟨h1, now_step (T := S.abs) (S := S) hF h2⟩
theorem now_leave {g : Nat} {T : AT} {w0 w : World} (h : Now g T w0 w) (hok : T.lentOk) :
    Calls Try.prog 23 #[.pointer (some ⟨g, 0, none⟩)] w fun z w' => z = .returned (.int .i64 T.leave.1) ∧ Now g T.leave.2 w0 w' := by
  obtain ⟨S, hT, rfl, hF⟩ := h
  exact (leave_calls hT hok).mono fun z w' ⟨h1, h2⟩ => ⟨h1, now_step (T := S.abs) (S := S) hF h2⟩
def T0 : AT := newT 2 [0]
def T1 : AT := (T0.make 0 0 7).2.2
def T2 : AT := (T1.enter 1).2
def T3 : AT := (T2.lend 0 0 1).2.2
def T4 : AT := (T3.borrow 1 0 7).2.2
def T5 : AT := (T4.drop 0 0 1).2.2.2
def T6 : AT := T5.leave.2
def T7 : AT := (T6.drop 1 0 1).2.2.2
set_option maxRecDepth 100000
theorem v1 : (T0.make 0 0 7).1 = 1 ∧ (T0.make 0 0 7).2.1 = 0 := by decide +kernel
theorem v2 : (T1.enter 1).1 = 0 := by decide +kernel
theorem v3 : (T2.lend 0 0 1).1 = 7 ∧ (T2.lend 0 0 1).2.1 = 0 := by decide +kernel
theorem v4 : (T3.borrow 1 0 7).1 = 1 ∧ (T3.borrow 1 0 7).2.1 = 0 := by decide +kernel
theorem v5 : (T4.drop 0 0 1).1 = 0 ∧ (T4.drop 0 0 1).2.1 = false ∧ (T4.drop 0 0 1).2.2.1 = 18 := by decide +kernel
theorem v6 : T5.leave.1 = 18 := by decide +kernel
theorem v7 : (T6.drop 1 0 1).1 = 7 ∧ (T6.drop 1 0 1).2.1 = false ∧ (T6.drop 1 0 1).2.2.1 = 0 := by decide +kernel
theorem v8 : T7.leave.1 = 0 := by decide +kernel
theorem g2 : ∀ c ∈ T2.calls, c.lent.length < 1000000 := by
  have h : T2.calls.all (fun c => decide (c.lent.length < 1000000)) = true := by decide +kernel
  exact fun c hc => of_decide_eq_true (List.all_eq_true.1 h c hc)
theorem opt_all {α : Type} {o : Option α} {p : α → Bool} (h : o.all p = true) : ∀ e, o = some e → p e = true := by rintro e rfl; exact h
theorem g4 : ∀ e, T4.get 0 0 1 = some e → e.own = false → 1 ≤ e.call ∧ e.call ≤ (T4.calls.length : Int) := by
  have h : (T4.get 0 0 1).all (fun e => e.own || (decide (1 ≤ e.call) && decide (e.call ≤ (T4.calls.length : Int)))) = true := by decide +kernel
  intro e he ho
  have := opt_all h e he
  rw [ho] at this
  simpa using this
theorem g6 : ∀ e, T6.get 1 0 1 = some e → e.own = false → 1 ≤ e.call ∧ e.call ≤ (T6.calls.length : Int) := by
  have h : (T6.get 1 0 1).all (fun e => e.own || (decide (1 ≤ e.call) && decide (e.call ≤ (T6.calls.length : Int)))) = true := by decide +kernel
  intro e he ho
  have := opt_all h e he
  rw [ho] at this
  simpa using this
theorem lent_ok {T : AT} (h : (T.lastC.lent.all fun p => decide (0 ≤ p.1) && (decide (p.1 < (T.tabs.length : Int)) && ((T.tabs.getD p.1.toNat fun _ => none) p.2).isSome)) = true) : T.lentOk := by
  intro p hp
  have := List.all_eq_true.1 h p hp
  simpa using this
theorem g5 : T5.lentOk := lent_ok (by decide +kernel)
theorem g7 : T7.lentOk := lent_ok (by decide +kernel)
set_option maxHeartbeats 16000000 in
set_option maxRecDepth 100000 in
theorem awake_calls (w : World) : Calls Try.prog 13 #[] w fun e w' => e = .returned (.bool true) ∧ Below w.heap.size w w' := by
  have hI : Ints (w.alloc (.cells #[.int .i64 0] 3)) (some ⟨w.heap.size, 0, none⟩) [0] := fun j hj => by
    obtain rfl : j = 0 := by simp at hj; exact hj
    exact ⟨_, rfl, (blk_cell (heap_alloc_new w _) 0).trans rfl⟩
  have hnew : Calls Try.prog 14 #[.int .i64 2, .slice (some ⟨w.heap.size, 0, none⟩) 1 1] (w.alloc (.cells #[.int .i64 0] 3)) fun e w' => ∃ g, e = .returned (.tuple #[.pointer (some ⟨g, 0, none⟩), .int .i64 0]) ∧ Now g T0 (w.alloc (.cells #[.int .i64 0] 3)) w' := by
    refine (new_good (w.alloc (.cells #[.int .i64 0] 3)) [0] _ 1 hI (by decide) 2 (by decide)).mono ?_
    rintro e w' ⟨g, S, rfl, h1, h2, h3⟩
    exact ⟨g, rfl, S, h1, h2, h3⟩
  have hb := (Below.refl w.heap.size w).alloc (Nat.le_refl _) (.cells #[.int .i64 0] 3)
  have hbl : w.heap.size ≤ (w.alloc (.cells #[.int .i64 0] 3)).heap.size := hb.size
  have HB := Aside0.mk hb
  clear hI hb
  go_enter Try.func13, Try.ntmps13
  go_upto_region 2 with (first | (go_at_call 14; refine hnew.mono ?_; rintro e w1 ⟨g, rfl, N0⟩))
  clear hnew
  generalize (w.alloc (.cells #[.int .i64 0] 3)) = wa at N0 HB hbl
  have hfin : ∀ T w', Now g T wa w' → Below w.heap.size w w' := fun T w' h => HB.out.trans (h.fr.mono hbl)
  have HFIN := Aside0.mk hfin
  clear hfin
  have k := now_make N0 0 0 7
  rw [v1.1, v1.2] at k
  go_upto_region 5 with (first | (go_at_call 24; refine k.mono ?_; rintro e w2 ⟨rfl, N1⟩))
  clear N0 k
  have k := now_enter (T := T1) N1 1
  rw [v2] at k
  go_upto_region 6 with (first | (go_at_call 25; refine k.mono ?_; rintro e w3 ⟨rfl, N2⟩))
  clear N1 k
  have k := now_lend (T := T2) N2 0 0 1 g2
  rw [v3.1, v3.2] at k
  go_upto_region 7 with (first | (go_at_call 26; refine k.mono ?_; rintro e w4 ⟨rfl, N3⟩))
  clear N2 k
  have k := now_borrow (T := T3) N3 1 0 7
  rw [v4.1, v4.2] at k
  go_upto_region 8 with (first | (go_at_call 29; refine k.mono ?_; rintro e w5 ⟨rfl, N4⟩))
  clear N3 k
  have k := now_drop (T := T4) N4 0 0 1 g4
  rw [v5.1, v5.2.1, v5.2.2] at k
  go_upto_region 9 with (first | (go_at_call 27; refine k.mono ?_; rintro e w6 ⟨rfl, N5⟩))
  clear N4 k
  have k := now_leave (T := T5) N5 g5
  rw [v6] at k
  go_upto_region 10 with (first | (go_at_call 23; refine k.mono ?_; rintro e w7 ⟨rfl, N6⟩))
  clear N5 k
  have k := now_drop (T := T6) N6 1 0 1 g6
  rw [v7.1, v7.2.1, v7.2.2] at k
  go_upto_region 11 with (first | (go_at_call 27; refine k.mono ?_; rintro e w8 ⟨rfl, N7⟩))
  clear N6 k
  have k := now_leave (T := T7) N7 g7
  rw [v8] at k
  go_wp2_with (first | (go_at_call 23; refine k.mono ?_; rintro e w9 ⟨rfl, N8⟩))
  go_ret
  all_goals exact ⟨rfl, HFIN.out _ _ N8⟩
/-- What the contracts ask of tables. -/
structure AT.Ok (T : AT) : Prop where
  call : ∀ i r n e, T.get i r n = some e → e.own = false → 1 ≤ e.call ∧ e.call ≤ (T.calls.length : Int)
  short : ∀ c ∈ T.calls, c.lent.length < 1000000
  lent : T.lentOk
/-- A deed: its answer, its trap, whether it was owned, the tables behind it. -/
def AT.doz (T : AT) (k i r h : Int) : Int × Int × Bool × AT :=
  if k = 0 then ((T.make i r h).1, (T.make i r h).2.1, false, (T.make i r h).2.2) else
  if k = 1 then ((T.rep i r h).1, (T.rep i r h).2, false, T) else
  if k = 2 then ((T.drop i r h).1, (T.drop i r h).2.2.1, (T.drop i r h).2.1, (T.drop i r h).2.2.2) else
  if k = 3 then ((T.drop i r h).1, (T.drop i r h).2.2.1, (T.drop i r h).2.1, (T.drop i r h).2.2.2) else
  if k = 4 then ((T.take i r h).1, (T.take i r h).2.1, false, (T.take i r h).2.2) else
  if k = 5 then ((T.putN i r h).1, (T.putN i r h).2.1, false, (T.putN i r h).2.2) else
  if k = 6 then ((T.lend i r h).1, (T.lend i r h).2.1, false, (T.lend i r h).2.2) else
  if k = 7 then ((T.borrow i r h).1, (T.borrow i r h).2.1, false, (T.borrow i r h).2.2) else
  if k = 8 then (0, (T.enter i).1, false, (T.enter i).2) else (0, T.leave.1, false, T.leave.2)
theorem aft_alloc {w : World} {g : Nat} {D : Nat → Prop} {T : AT} {w' : World} (o : Obj) (h : Aft (w.alloc o) g D T w') : Aft w g D T w' := by
  obtain ⟨S', h1, h2, h3⟩ := h
  have e : (w.alloc o).heap.size = w.heap.size + 1 := Array.size_push _
  have h31 := h3.1
  exact ⟨S', h1.imp (fun b hb => hb.imp id (fun z => by omega)), h2, by omega, fun b hb hD => (h3.2.1 b (by omega) hD).trans (heap_alloc_old w o hb), ⟨h3.2.2.os, h3.2.2.tape, h3.2.2.output⟩⟩
set_option maxHeartbeats 32000000 in
set_option maxRecDepth 100000 in
theorem does_aft {w : World} {g : Nat} {S : Tb} {D : Nat → Prop} (hT : HT w g S D) (hok : S.abs.Ok) (k i r h : Int) (b : Bool) :
    Calls Try.prog 17 #[.pointer (some ⟨g, 0, none⟩), .agg #[.int .i64 k, .int .i64 i, .int .i64 r, .int .i64 h, .bool b]] w fun z w' => z = .returned (.tuple #[.int .i64 (S.abs.doz k i r h).1, .int .i64 (S.abs.doz k i r h).2.1, .bool (S.abs.doz k i r h).2.2.1]) ∧ Aft w g D (S.abs.doz k i r h).2.2.2 w' := by
  have hN1 := hT.alloc (.cells #[.int .i64 k, .int .i64 i, .int .i64 r, .int .i64 h, .bool b] 39)
  have hX := heap_alloc_new w (.cells #[.int .i64 k, .int .i64 i, .int .i64 r, .int .i64 h, .bool b] 39)
  have fin : ∀ T w', Aft (w.alloc (.cells #[.int .i64 k, .int .i64 i, .int .i64 r, .int .i64 h, .bool b] 39)) g D T w' → Aft w g D T w' := fun T w' => aft_alloc _
  generalize hw1 : w.alloc (.cells #[.int .i64 k, .int .i64 i, .int .i64 r, .int .i64 h, .bool b] 39) = w1 at hN1 hX fin
  have x0 : w1.cell? ⟨w.heap.size, 0, none⟩ = some (.int .i64 k) := (blk_cell hX 0).trans rfl
  have x1 : w1.cell? ⟨w.heap.size, 1, none⟩ = some (.int .i64 i) := (blk_cell hX 1).trans rfl
  have x2 : w1.cell? ⟨w.heap.size, 2, none⟩ = some (.int .i64 r) := (blk_cell hX 2).trans rfl
  have x3 : w1.cell? ⟨w.heap.size, 3, none⟩ = some (.int .i64 h) := (blk_cell hX 3).trans rfl
  clear hT hX
  unfold AT.doz
  by_cases h0 : k = 0
  · subst h0
    rw [if_pos rfl]
    have kk := make_calls hN1 i r h
    clear hN1 hok
    go_enter Try.func17, Try.ntmps17
    go_wp2_with (first | (go_at_call 24; refine kk.mono ?_; rintro e w2 ⟨rfl, N1⟩))
    go_ret3
    all_goals exact ⟨rfl, fin _ _ N1⟩
  · skip
    by_cases h1 : k = 1
    · subst h1
      clear h0
      rw [if_neg (by decide), if_pos rfl]
      have hA := hN1.aft
      have kk := rep_calls hN1 i r h
      clear hN1 hok
      go_enter Try.func17, Try.ntmps17
      go_wp2_with (first | (go_at_call 11; refine kk.mono ?_; rintro e w2 ⟨rfl, N1⟩))
      go_ret3
      all_goals exact ⟨rfl, fin _ _ (hA.drawn N1)⟩
    · skip
      by_cases h2 : k = 2
      · subst h2
        clear h0 h1
        rw [if_neg (by decide), if_neg (by decide), if_pos rfl]
        have kk := drop_calls hN1 i r h (fun e h1 h2 => by have := hok.call i r h e h1 h2; simpa [Tb.abs] using this)
        clear hN1 hok
        go_enter Try.func17, Try.ntmps17
        go_wp2_with (first | (go_at_call 27; refine kk.mono ?_; rintro e w2 ⟨rfl, N1⟩))
        go_ret3
        all_goals exact ⟨rfl, fin _ _ N1⟩
      · skip
        by_cases h3 : k = 3
        · subst h3
          clear h0 h1 h2
          rw [if_neg (by decide), if_neg (by decide), if_neg (by decide), if_pos rfl]
          have kk := drop_calls hN1 i r h (fun e h1 h2 => by have := hok.call i r h e h1 h2; simpa [Tb.abs] using this)
          clear hN1 hok
          go_enter Try.func17, Try.ntmps17
          go_wp2_with (first | (go_at_call 27; refine kk.mono ?_; rintro e w2 ⟨rfl, N1⟩))
          go_ret3
          all_goals exact ⟨rfl, fin _ _ N1⟩
        · skip
          by_cases h4 : k = 4
          · subst h4
            clear h0 h1 h2 h3
            rw [if_neg (by decide), if_neg (by decide), if_neg (by decide), if_neg (by decide), if_pos rfl]
            have kk := take_calls hN1 i r h
            clear hN1 hok
            go_enter Try.func17, Try.ntmps17
            go_wp2_with (first | (go_at_call 28; refine kk.mono ?_; rintro e w2 ⟨rfl, N1⟩))
            go_ret3
            all_goals exact ⟨rfl, fin _ _ N1⟩
          · skip
            by_cases h5 : k = 5
            · subst h5
              clear h0 h1 h2 h3 h4
              rw [if_neg (by decide), if_neg (by decide), if_neg (by decide), if_neg (by decide), if_neg (by decide), if_pos rfl]
              have kk := putN_calls hN1 i r h
              clear hN1 hok
              go_enter Try.func17, Try.ntmps17
              go_wp2_with (first | (go_at_call 32; refine kk.mono ?_; rintro e w2 ⟨rfl, N1⟩))
              go_ret3
              all_goals exact ⟨rfl, fin _ _ N1⟩
            · skip
              by_cases h6 : k = 6
              · subst h6
                clear h0 h1 h2 h3 h4 h5
                rw [if_neg (by decide), if_neg (by decide), if_neg (by decide), if_neg (by decide), if_neg (by decide), if_neg (by decide), if_pos rfl]
                have kk := lend_calls hN1 i r h (fun c hc => hok.short c.abs (List.mem_map_of_mem hc))
                clear hN1 hok
                go_enter Try.func17, Try.ntmps17
                go_wp2_with (first | (go_at_call 26; refine kk.mono ?_; rintro e w2 ⟨rfl, N1⟩))
                go_ret3
                all_goals exact ⟨rfl, fin _ _ N1⟩
              · skip
                by_cases h7 : k = 7
                · subst h7
                  clear h0 h1 h2 h3 h4 h5 h6
                  rw [if_neg (by decide), if_neg (by decide), if_neg (by decide), if_neg (by decide), if_neg (by decide), if_neg (by decide), if_neg (by decide), if_pos rfl]
                  have kk := borrow_calls hN1 i r h
                  clear hN1 hok
                  go_enter Try.func17, Try.ntmps17
                  go_wp2_with (first | (go_at_call 29; refine kk.mono ?_; rintro e w2 ⟨rfl, N1⟩))
                  go_ret3
                  all_goals exact ⟨rfl, fin _ _ N1⟩
                · skip
                  by_cases h8 : k = 8
                  · subst h8
                    clear h0 h1 h2 h3 h4 h5 h6 h7
                    rw [if_neg (by decide), if_neg (by decide), if_neg (by decide), if_neg (by decide), if_neg (by decide), if_neg (by decide), if_neg (by decide), if_neg (by decide), if_pos rfl]
                    have kk := enter_calls hN1 i
                    clear hN1 hok
                    go_enter Try.func17, Try.ntmps17
                    go_wp2_with (first | (go_at_call 25; refine kk.mono ?_; rintro e w2 ⟨rfl, N1⟩))
                    go_ret3
                    all_goals exact ⟨rfl, fin _ _ N1⟩
                  · skip
                    rw [if_neg h0, if_neg h1, if_neg h2, if_neg h3, if_neg h4, if_neg h5, if_neg h6, if_neg h7, if_neg h8]
                    have e0 : (k == 0) = false := by simpa using h0
                    have e1 : (k == 1) = false := by simpa using h1
                    have e2 : (k == 2) = false := by simpa using h2
                    have e3 : (k == 3) = false := by simpa using h3
                    have e4 : (k == 4) = false := by simpa using h4
                    have e5 : (k == 5) = false := by simpa using h5
                    have e6 : (k == 6) = false := by simpa using h6
                    have e7 : (k == 7) = false := by simpa using h7
                    have e8 : (k == 8) = false := by simpa using h8
                    clear h0 h1 h2 h3 h4 h5 h6 h7 h8
                    have kk := leave_calls hN1 hok.lent
                    clear hN1 hok
                    go_enter Try.func17, Try.ntmps17
                    go_wp2_with (first | (go_at_call 23; refine kk.mono ?_; rintro e w2 ⟨rfl, N1⟩))
                    go_ret3
                    all_goals exact ⟨rfl, fin _ _ N1⟩
set_option maxHeartbeats 4000000 in
set_option maxRecDepth 100000 in
theorem some_calls (w : World) (A : Option Addr) (n c : Nat) (hc : n ≤ c) : Calls Try.prog 15 #[.slice A n c] w fun e w' => e = .returned (.slice A (min n 150) c) ∧ w' = w := by
  by_cases h : 150 < n
  · rw [show min n 150 = 150 from by omega]
    have d : decide ((150 : Int) < (n : Int)) = true := decide_eq_true (by omega)
    have p1 : ((150 : Int) ≤ (c : Int)) = True := eq_true (by omega)
    have p2 : decide ((150 : Int) ≤ (c : Int)) = true := decide_eq_true (by omega)
    go_enter Try.func15, Try.ntmps15
    go_wp2
    go_ret
    all_goals exact ⟨rfl, rfl⟩
  · rw [show min n 150 = n from by omega]
    have d : decide ((150 : Int) < (n : Int)) = false := decide_eq_false (by omega)
    go_enter Try.func15, Try.ntmps15
    go_wp2
    go_ret
    all_goals exact ⟨rfl, rfl⟩
/-- A whole number behind a list of them, in memory of the call's own. -/
theorem ints_append {base : Nat} {w : World} {v : Value} {l : List Int} (hown : w.ownsRow base 3 1 v l.length (l.map (Value.int .i64))) (x : Int) (hl : l.length < 1000000) (hb : base ≤ w.heap.size) (ty : TypeId) :
    ∃ v' w', (Builtin.append_ #[44, 44] ty #[v, .slice (some ⟨w.heap.size, 0, none⟩) 1 1]).run Try.prog (w.alloc (.cells #[.int .i64 x] 3)) = .ok v' w' ∧ w'.ownsRow base 3 1 v' (l ++ [x]).length ((l ++ [x]).map (Value.int .i64)) ∧ w.grownBy w' v.ownBlock ∧ ∃ A c, v' = .slice A (l.length + 1) c := by
  obtain ⟨i0, hi, hz0, hz1, hz2⟩ := info_parts info3
  obtain ⟨v', w', h1, h2, h3, h4, h5⟩ := run_append_own_at (P := Try.prog) (w := w.alloc (.cells #[.int .i64 x] 3)) base 44 ty 3 i0 _ 1 8 Try.underlying44 hi hz0 hz1 hz2 rfl (by decide) v l.length (l.map (Value.int .i64))
    (own_same hown fun k hk => heap_alloc_old w _ (own_lt hown hk).1) ⟨w.heap.size, 0, none⟩ 1 1 [.int .i64 x] rfl (one_new w _ _) (by simp [Value.oneCell']) (by simp only [maxLen]; omega) (by omega) (by show base ≤ (w.heap.push _).size; simp; omega)
  exact ⟨v', w', h1, by rw [List.map_append, List.length_append]; exact h2, (World.grownBy_alloc w _ _).trans h3, own_slice h2⟩
set_option maxHeartbeats 16000000 in
set_option maxRecDepth 100000 in
theorem calls_calls {w : World} {g : Nat} {S : Tb} {D : Nat → Prop} (hT : HT w g S D) (hlen : S.calls.length < 1000000) :
    Calls Try.prog 22 #[.pointer (some ⟨g, 0, none⟩)] w fun e w' => ∃ v, e = .returned v ∧ w'.ownsRow w.heap.size 3 1 v S.calls.length ((S.calls.map CL.i).map (Value.int .i64)) ∧ Below w.heap.size w w' := by
  obtain ⟨Am, cm, At, ct, Ac, cc, e1, e2, e3, hS⟩ := hT.ts
  have c2 : w.cell? ⟨g, 2, none⟩ = some (.slice Ac S.calls.length cc) := (blk_cell hS 2).trans rfl
  have hcal := hT.cal
  rw [e3] at hcal
  have HC := Aside0.mk hcal
  have HL := Aside0.mk (fun c (hc : c ∈ S.calls) => own_slice (hT.lent c hc))
  clear hcal hS e1 e2 e3 hT
  generalize S.calls = cs at *
  have hmx : cs.length ≤ 9223372036854775807 := by omega
  go_enter Try.func22, Try.ntmps22
  go_wp2
  go_loopg [3, 13] cs.length (fun gg s3 s13 wr => ∃ kk : Nat, kk ≤ cs.length ∧ cs.length - kk ≤ gg ∧ s13 = Value.int .i64 (kk : Int) ∧ Aside0 (Below w.heap.size w wr) ∧ Aside0 (wr.ownsRow w.heap.size 3 1 s3 kk (((cs.take kk).map CL.i).map (Value.int .i64))))
  case atStart => exact ⟨0, Nat.zero_le _, by omega, rfl, ⟨Below.refl _ w⟩, ⟨rfl, .inl ⟨rfl, rfl⟩⟩⟩
  case round =>
    obtain ⟨kk, hkk, hg, rfl, BW, OW⟩ := hrel
    by_cases hlt' : kk < cs.length
    · have p0 : (0 ≤ (kk : Int)) = True := eq_true (Int.natCast_nonneg kk)
      have p1 : ((kk : Int) < (cs.length : Int)) = True := eq_true (by omega)
      have p2 : decide ((kk : Int) < (cs.length : Int)) = true := decide_eq_true (by omega)
      have hown : wr.ownsRow 0 94 3 (.slice Ac cs.length cc) cs.length (cs.flatMap CL.cells) := own_same HC.out fun k hk => BW.out.block k (own_lt HC.out hk).1
      obtain ⟨b, cap, c, e1, e2, e3, e4, e5⟩ := call_cells hown hlt'
      injection e1 with e1 _ e6
      subst e1; subst e6
      obtain ⟨lA, lc, hlv⟩ := HL.out c (List.mem_of_getElem? e2)
      rw [hlv] at e5
      obtain ⟨vA, vc, rfl⟩ := own_slice OW.out
      go_upto_region 6 with (fail)
      have hX := heap_alloc_new wr (.cells #[.int .i64 c.i, .int .i64 c.bor, .slice lA c.lent.length lc] 94)
      have B2 := BW.out.alloc BW.out.size (.cells #[.int .i64 c.i, .int .i64 c.bor, .slice lA c.lent.length lc] 94)
      have hO := OW.out
      have hll : ((cs.take kk).map CL.i).length = kk := by simp; omega
      have hO2 : (wr.alloc (.cells #[.int .i64 c.i, .int .i64 c.bor, .slice lA c.lent.length lc] 94)).ownsRow w.heap.size 3 1 (.slice vA kk vc) ((cs.take kk).map CL.i).length (((cs.take kk).map CL.i).map (Value.int .i64)) := by
        rw [hll]; exact own_same hO fun q hq => heap_alloc_old wr _ (own_lt hO hq).1
      have hge : ∀ q, (Value.slice vA kk vc).ownBlock = some q → w.heap.size ≤ q := fun q hq => own_ge hO hq
      have x0 : (wr.alloc (.cells #[.int .i64 c.i, .int .i64 c.bor, .slice lA c.lent.length lc] 94)).cell? ⟨wr.heap.size, 0, none⟩ = some (.int .i64 c.i) := (blk_cell hX 0).trans rfl
      generalize wr.alloc (.cells #[.int .i64 c.i, .int .i64 c.bor, .slice lA c.lent.length lc] 94) = wx at hO2 x0 B2 ⊢
      obtain ⟨v', w', a1, a2, a3, A', c', rfl⟩ := ints_append hO2 c.i (by omega) B2.size 44
      rw [hll] at a1
      have A1 := Aside0.mk a1
      have A2 := Aside0.mk a2
      have A3 := Aside0.mk (B2.grown a3 B2.size hge)
      clear a1 a2 a3 hO hO2 hge B2 hX
      go_wp2_with (first | (at_builtin; refine wpList_append_eq rfl _ _ 44 rfl rfl rfl A1.out ?_))
      go_roundg (cs.length - (kk + 1))
      case measure => omega
      case rel =>
        refine ⟨kk + 1, by omega, by omega, ?_, ⟨A3.out⟩, ⟨?_⟩⟩
        · first | rfl | (congr 1; done) | (congr 1; unfold wrap64; omega)
        · have h := A2.out
          rw [List.length_append, hll] at h
          rw [List.take_add_one, e2, List.map_append]
          exact h
    · have p2 : decide ((kk : Int) < (cs.length : Int)) = false := decide_eq_false (by omega)
      have hke : kk = cs.length := by omega
      go_wp2
      go_ret
      refine ⟨_, rfl, ?_, BW.out⟩
      have h := OW.out
      rw [hke, List.take_length] at h
      exact h
end Go.Proofs.Ytdjkjdlbckcplaa.Hd
