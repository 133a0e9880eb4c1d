/- Several texts, laid into one for a claim: MC, MD, ME, MF, MG, MH, MI, MJ, MK, ML, MM. -/
import Derived.Test.YtdjkjdlbckcplaaPHandlesPlays4
namespace Go.Proofs.Ytdjkjdlbckcplaa.Hd
open Go.RowKit Go.Proofs Go.Proofs.YtdjkjdlbckcplaaW.PrintWords Go.Proofs.YtdjkjdlbckcplaaW.PrintLast Go.Proofs.YtdjkjdlbckcplaaW.PrintMore Go.Proofs.Ytdjkjdlbckcplaa.MapI
set_option linter.unusedVariables false
set_option linter.unusedSimpArgs false
def atB (i : Int) (q : Nat) (o : On) : Bool := o.i == i && o.h == (q : Int) + 1
def pairOf (o : On) : Int × E := (o.h, o.e)
/-- Those of an index. -/
def atQ (L : List On) (i : Int) (q : Nat) : List (Int × E) := (L.filter (atB i q)).map pairOf
/-- Those of the first indices. -/
def ofQ (L : List On) (i : Int) (q : Nat) : List (Int × E) := (List.range q).flatMap (atQ L i)
def ofR (L : List On) (i : Int) : List (Int × E) := ofQ L i 256
theorem ofQ_succ (L : List On) (i : Int) (q : Nat) : ofQ L i (q + 1) = ofQ L i q ++ atQ L i q := by
  unfold ofQ
  rw [List.range_succ, List.flatMap_append]
  simp
theorem ofQ_len (L : List On) (i : Int) (q : Nat) : (ofQ L i q).length = (L.filter fun o => decide (o.i = i ∧ 1 ≤ o.h ∧ o.h ≤ (q : Int))).length := by
  induction q with
  | zero =>
    rw [List.filter_eq_nil_iff.2]
    · rfl
    · intro o _ h
      have := of_decide_eq_true h
      omega
  | succ q ih =>
    rw [ofQ_succ, List.length_append, ih]
    unfold atQ
    rw [List.length_map]
    clear ih
    induction L with
    | nil => rfl
    | cons o l ih =>
      have hd : decide (o.i = i ∧ 1 ≤ o.h ∧ o.h ≤ ((q + 1 : Nat) : Int)) = (decide (o.i = i ∧ 1 ≤ o.h ∧ o.h ≤ (q : Int)) || atB i q o) := by
        unfold atB
        rw [Bool.eq_iff_iff]
        simp only [decide_eq_true_eq, Bool.or_eq_true, Bool.and_eq_true, beq_iff_eq]
        omega
      have hx : ¬ (decide (o.i = i ∧ 1 ≤ o.h ∧ o.h ≤ (q : Int)) = true ∧ atB i q o = true) := by
        unfold atB
        simp only [decide_eq_true_eq, Bool.and_eq_true, beq_iff_eq]
        omega
      rw [List.filter_cons, List.filter_cons, List.filter_cons, hd]
      cases h1 : decide (o.i = i ∧ 1 ≤ o.h ∧ o.h ≤ (q : Int)) <;> cases h2 : atB i q o
      · simpa using ih
      · simp at ih ⊢; omega
      · simp at ih ⊢; omega
      · exact absurd ⟨h1, h2⟩ hx
theorem ofQ_le (L : List On) (i : Int) (q : Nat) : (ofQ L i q).length ≤ L.length := by
  rw [ofQ_len]; exact List.length_filter_le _ _
theorem part_le (L : List On) (i : Int) (q kk : Nat) : (ofQ L i q ++ atQ (L.take kk) i q).length ≤ L.length := by
  refine Nat.le_trans ?_ (ofQ_le L i (q + 1))
  rw [ofQ_succ, List.length_append, List.length_append]
  have : (atQ (L.take kk) i q).length ≤ (atQ L i q).length := by
    unfold atQ
    rw [List.length_map, List.length_map]
    exact ((List.take_sublist kk L).filter _).length_le
  omega
theorem atQ_step {L : List On} {kk : Nat} {o : On} (h : L[kk]? = some o) (i : Int) (q : Nat) : atQ (L.take (kk + 1)) i q = atQ (L.take kk) i q ++ (if atB i q o = true then [pairOf o] else []) := by
  unfold atQ
  rw [List.take_add_one, h]
  simp only [Option.toList_some, List.filter_append, List.map_append]
  congr 1
  rw [List.filter_cons]
  split <;> rfl
set_option maxHeartbeats 16000000 in
set_option maxRecDepth 100000 in
theorem of_calls {w : World} {g b0 : Nat} {V : RV} {R : RF} {D : Nat → Prop} (hT : RT w g b0 V R D) (i : Int) (hl : R.L.length < 1000000) :
    Calls Try.prog 19 #[.pointer (some ⟨g, 0, none⟩), .int .i64 i] w fun e w' => ∃ A c, e = .returned (.slice A (ofR R.L i).length c) ∧ w'.ownsRow w.heap.size 31 6 (.slice A (ofR R.L i).length c) (ofR R.L i).length ((ofR R.L i).flatMap hval) ∧ Below w.heap.size w w' := by
  obtain ⟨lA, lc, hlv⟩ := own_slice hT.lo
  have HT0 := Aside0.mk hT
  have hmx : R.L.length ≤ 9223372036854775807 := own_max hT.lo
  have HL := Aside0.mk hl
  obtain ⟨OF, hOF⟩ : ∃ OF, OF = ofR R.L i := ⟨_, rfl⟩
  rw [← hOF]
  have HOF := Aside0.mk hOF
  clear hOF
  obtain ⟨QQ, hQQ⟩ : ∃ QQ : Nat → List (Int × E), QQ = ofQ R.L i := ⟨_, rfl⟩
  have HQ := Aside0.mk hQQ
  clear hT hl hQQ
  go_enter Try.func19, Try.ntmps19
  go_wp2
  go_loopg [5, 6, 7] 256 (fun gg s5 s6 s7 wr => ∃ q : Nat, q ≤ 256 ∧ 256 - q ≤ gg ∧ s6 = Value.int .i64 ((q : Int) + 1) ∧ Aside0 (Below w.heap.size w wr) ∧ Aside0 (wr.ownsRow w.heap.size 31 6 s5 (QQ q).length ((QQ q).flatMap hval)))
  case atStart => exact ⟨0, Nat.zero_le _, by omega, rfl, ⟨Below.refl _ w⟩, ⟨by rw [HQ.out]; exact ⟨rfl, .inl ⟨rfl, rfl⟩⟩⟩⟩
  case round =>
    obtain ⟨q, hq, hg, rfl, BW, OW⟩ := hrel
    by_cases hlt : q < 256
    · have p2 : decide ((q : Int) + 1 ≤ 256) = true := decide_eq_true (by omega)
      have PQ : Aside0 (∀ kk, (QQ q ++ atQ (R.L.take kk) i q).length ≤ R.L.length) := ⟨fun kk => by rw [HQ.out]; exact part_le R.L i q kk⟩
      have EQ : Aside0 (QQ (q + 1) = QQ q ++ atQ R.L i q) := ⟨by rw [HQ.out]; exact ofQ_succ R.L i q⟩
      go_wp2
      go_loopg [5, 7] R.L.length (fun gg s5 s7 wr2 => ∃ kk : Nat, kk ≤ R.L.length ∧ R.L.length - kk ≤ gg ∧ s7 = Value.int .i64 (kk : Int) ∧ Aside0 (Below w.heap.size w wr2) ∧ Aside0 (wr2.ownsRow w.heap.size 31 6 s5 (QQ q ++ atQ (R.L.take kk) i q).length ((QQ q ++ atQ (R.L.take kk) i q).flatMap hval)))
      case atStart => exact ⟨0, Nat.zero_le _, by omega, rfl, BW, ⟨by simpa [atQ] using OW.out⟩⟩
      case round =>
        clear BW OW
        obtain ⟨kk, hkk, hg2, rfl, BW, OW⟩ := hrel
        have HT1 : Aside0 (RT wr g b0 V R D) := ⟨HT0.out.below BW.out⟩
        have c2 : wr.cell? ⟨g, 2, none⟩ = some (.slice lA R.L.length lc) := by rw [← hlv]; exact (HT1.out.cell 2).trans rfl
        by_cases hlt2 : kk < R.L.length
        · obtain ⟨o, ho⟩ : ∃ o, R.L[kk]? = some o := ⟨_, List.getElem?_eq_getElem hlt2⟩
          obtain ⟨b, cap, e1, _, _, e4⟩ := HT1.out.row ho
          rw [hlv] at e1
          injection e1 with e1 _ e2
          subst e1; subst e2
          have p0 : (0 ≤ (kk : Int)) = True := eq_true (Int.natCast_nonneg kk)
          have p1 : ((kk : Int) < (R.L.length : Int)) = True := eq_true (by omega)
          have p3 : decide ((kk : Int) < (R.L.length : Int)) = true := decide_eq_true (by omega)
          have k0 : wr.cell? ⟨b, kk * 7, none⟩ = some (.int .i64 o.i) := e4 0 _ rfl
          have k1 : wr.cell? ⟨b, kk * 7 + 1, none⟩ = some (.int .i64 o.h) := e4 1 _ rfl
          have ST := Aside0.mk (atQ_step ho i q)
          have E4 := Aside0.mk e4
          clear e4 ho
          cases d1 : (o.i == i) with
          | false =>
            have HP : Aside0 (atB i q o = false) := ⟨by unfold atB; rw [d1]; rfl⟩
            go_wp2
            repeat (go_quiet (fail); try go_wp2)
            go_roundg (R.L.length - (kk + 1))
            case measure => omega
            case rel => exact ⟨kk + 1, by omega, by omega, by first | rfl | (congr 1; unfold wrap64; omega), BW, ⟨by rw [ST.out, HP.out, if_neg (by decide), List.append_nil]; exact OW.out⟩⟩
          | true =>
            cases d2 : (o.h == (q : Int) + 1) with
            | false =>
              have HP : Aside0 (atB i q o = false) := ⟨by unfold atB; rw [d1, d2]; rfl⟩
              go_wp2
              repeat (go_quiet (fail); try go_wp2)
              go_roundg (R.L.length - (kk + 1))
              case measure => omega
              case rel => exact ⟨kk + 1, by omega, by omega, by first | rfl | (congr 1; unfold wrap64; omega), BW, ⟨by rw [ST.out, HP.out, if_neg (by decide), List.append_nil]; exact OW.out⟩⟩
            | true =>
              have HP : Aside0 (atB i q o = true) := ⟨by unfold atB; rw [d1, d2]; rfl⟩
              have k2 : wr.cell? ⟨b, kk * 7 + 2, none⟩ = some (.int .i64 o.e.r) := E4.out 2 _ rfl
              have k3 : wr.cell? ⟨b, kk * 7 + 3, none⟩ = some (.int .i64 o.e.rep) := E4.out 3 _ rfl
              have k4 : wr.cell? ⟨b, kk * 7 + 4, none⟩ = some (.bool o.e.own) := E4.out 4 _ rfl
              have k5 : wr.cell? ⟨b, kk * 7 + 5, none⟩ = some (.int .i64 o.e.lends) := E4.out 5 _ rfl
              have k6 : wr.cell? ⟨b, kk * 7 + 6, none⟩ = some (.int .i64 o.e.call) := E4.out 6 _ rfl
              have hO := OW.out
              obtain ⟨oA, oc, rfl⟩ := own_slice OW.out
              have hge : ∀ q', (Value.slice oA (QQ q ++ atQ (R.L.take kk) i q).length oc).ownBlock = some q' → w.heap.size ≤ q' := fun q' hq' => own_ge hO hq'
              obtain ⟨v', w', a1, a2, a3, A', c', rfl⟩ := hands_append hO (pairOf o) (by have := PQ.out kk; have := HL.out; omega) BW.out.size 28
              have A1 := Aside0.mk a1
              have A2 := Aside0.mk a2
              have A3 := Aside0.mk (BW.out.grown a3 BW.out.size hge)
              clear a1 a2 a3 hge hO
              go_upto_region 9 with (fail)
              go_wp2_with (first | (at_builtin; refine wpList_append_eq rfl _ _ 28 rfl rfl rfl A1.out ?_))
              go_roundg (R.L.length - (kk + 1))
              case measure => omega
              case rel =>
                refine ⟨kk + 1, by omega, by omega, by first | rfl | (congr 1; unfold wrap64; omega), A3, ⟨?_⟩⟩
                rw [ST.out, HP.out, if_pos rfl, ← List.append_assoc]
                rw [← List.length_append]
                exact A2.out
        · have p3 : decide ((kk : Int) < (R.L.length : Int)) = false := decide_eq_false (by omega)
          have hke : kk = R.L.length := by omega
          have HKE := Aside0.mk hke
          clear hke
          go_wp2
          go_roundg (256 - (q + 1))
          case measure => omega
          case rel =>
            refine ⟨q + 1, by omega, by omega, by first | rfl | (congr 1; unfold wrap64; omega), BW, ⟨?_⟩⟩
            rw [EQ.out]
            have h := OW.out
            rw [HKE.out, List.take_length] at h
            exact h
    · have p2 : decide ((q : Int) + 1 ≤ 256) = false := decide_eq_false (by omega)
      have hqe : q = 256 := by omega
      have h := OW.out
      have hq2 : QQ 256 = OF := by rw [HQ.out, HOF.out]; rfl
      rw [hqe, hq2] at h
      obtain ⟨oA, oc, hv⟩ := own_slice h
      have H := Aside0.mk h
      have HV := Aside0.mk hv
      clear h hv hq2 hqe
      go_wp2
      go_ret
      exact ⟨oA, oc, by rw [← HV.out]; rfl, by rw [← HV.out]; exact H.out, BW.out⟩
/-- What a store of a grown row at the tables leaves. -/
theorem top_storeN {w w1 : World} {g b0 : Nat} {V : RV} {R : RF} {D : Nat → Prop} (h : RT w g b0 V R D) {v v' : Value} {j e : Nat} (hv : ∀ q, v.ownBlock = some q → ∃ cu, w.heap[q]? = some (Obj.cells cu e (0, 0))) (he : e ≠ 81) (hD : ∀ q, v.ownBlock = some q → D q) (hg : w.grownBy w1 v.ownBlock)
    {N : Nat} (hN : g < N) (hat : ∀ m, v'.ownBlock = some m → v.ownBlock = some m ∨ N ≤ m) (hj : j < 5) (ho : v'.oneCell' = true) :
    (w1.setCell ⟨g, j, none⟩ v').heap[g]? = some (.cells ((topR V R).setIfInBounds j v') 81 (0, 0)) ∧ Fr w (w1.setCell ⟨g, j, none⟩ v') D ∧ (∀ q, v'.ownBlock = some q → q ≠ g ∧ Dn D N q) ∧
    (∀ {q : Nat} {cu : Array Value} {t : TypeId}, t ≠ e → t ≠ 81 → w.heap[q]? = some (Obj.cells cu t (0, 0)) → (w1.setCell ⟨g, j, none⟩ v').heap[q]? = w.heap[q]?) := by
  have hgg : ∀ q, v.ownBlock = some q → g ≠ q := fun q hq => by obtain ⟨cu, hcu⟩ := hv q hq; exact blk_ne h.top hcu (Ne.symm he)
  have hg1 : w1.heap[g]? = some (.cells (topR V R) 81 (0, 0)) := (hg.block g (blk_lt h.top) (fun z => hgg g z.symm rfl)).trans h.top
  have hold : ∀ k, k < w.heap.size → k ≠ g → (∀ q, v.ownBlock = some q → k ≠ q) → (w1.setCell ⟨g, j, none⟩ v').heap[k]? = w.heap[k]? := fun k hk hne hq =>
    (Below.heap_setCell w1 _ _ k hne).trans (hg.block k hk (fun z => hq k z.symm rfl))
  refine ⟨blk_put hg1 j v' rfl, ⟨by have := hg.size; simpa [World.setCell] using this, fun k hk hn => hold k hk (fun z => hn (z ▸ h.topD)) (fun q hq z => hn (z ▸ hD q hq)), ⟨hg.os, hg.tape, hg.output⟩⟩, fun q hq => ?_, fun {q cu t} h1 h2 h3 => hold q (blk_lt h3) (blk_ne h3 h.top h2) (fun q' hq' => by obtain ⟨cu', hcu'⟩ := hv q' hq'; exact blk_ne h3 hcu' h1)⟩
  rcases hat q hq with h1 | h2
  · exact ⟨(hgg q h1).symm, .inl (hD q h1)⟩
  · exact ⟨by omega, .inr h2⟩
theorem top_store {w w1 : World} {g b0 : Nat} {V : RV} {R : RF} {D : Nat → Prop} (h : RT w g b0 V R D) {v v' : Value} {j e : Nat} (hv : ∀ q, v.ownBlock = some q → ∃ cu, w.heap[q]? = some (Obj.cells cu e (0, 0))) (he : e ≠ 81) (hD : ∀ q, v.ownBlock = some q → D q) (hg : w.grownBy w1 v.ownBlock)
    (hat : ∀ m, v'.ownBlock = some m → v.ownBlock = some m ∨ w.heap.size ≤ m) (hj : j < 5) (ho : v'.oneCell' = true) :
    (w1.setCell ⟨g, j, none⟩ v').heap[g]? = some (.cells ((topR V R).setIfInBounds j v') 81 (0, 0)) ∧ Fr w (w1.setCell ⟨g, j, none⟩ v') D ∧ (∀ q, v'.ownBlock = some q → q ≠ g ∧ Dn D w.heap.size q) ∧
    (∀ {q : Nat} {cu : Array Value} {t : TypeId}, t ≠ e → t ≠ 81 → w.heap[q]? = some (Obj.cells cu t (0, 0)) → (w1.setCell ⟨g, j, none⟩ v').heap[q]? = w.heap[q]?) := top_storeN h hv he hD hg (blk_lt h.top) hat hj ho
theorem hat_of {v v' : Value} {n : Nat} (h : v'.ownBlock = v.ownBlock ∨ ∃ m, v'.ownBlock = some m ∧ n ≤ m) : ∀ m, v'.ownBlock = some m → v.ownBlock = some m ∨ n ≤ m := by
  intro m hm
  rcases h with h | ⟨q, h1, h2⟩
  · exact .inl (h ▸ hm)
  · rw [h1] at hm; injection hm with hm; exact .inr (hm ▸ h2)
theorem grown_below {w w' : World} (h : Below w.heap.size w w') (row : Option Nat) : w.grownBy w' row := ⟨h.os, h.tape, h.output, h.size, fun k hk _ => h.block k hk⟩
theorem RT.setL {w w1 : World} {g b0 : Nat} {V : RV} {R : RF} {D : Nat → Prop} (h : RT w g b0 V R D) {v' : Value} {L' : List On} (hg : w.grownBy w1 V.lv.ownBlock) (hown : w1.ownsRow 0 83 7 v' L'.length (L'.flatMap On.cells)) (hat : ∀ m, v'.ownBlock = some m → V.lv.ownBlock = some m ∨ w.heap.size ≤ m) (ho : v'.oneCell' = true) :
    RT (w1.setCell ⟨g, 2, none⟩ v') g b0 { V with lv := v' } { R with L := L' } (Dn D w.heap.size) ∧ Fr w (w1.setCell ⟨g, 2, none⟩ v') D ∧ (∀ {q : Nat} {cu : Array Value} {t : TypeId}, t ≠ 83 → t ≠ 81 → w.heap[q]? = some (Obj.cells cu t (0, 0)) → (w1.setCell ⟨g, 2, none⟩ v').heap[q]? = w.heap[q]?) := by
  obtain ⟨t1, t2, t3, t4⟩ := top_store (j := 2) h (fun q hq => (own_lt h.lo hq).2) (by decide) h.loD hg hat (by decide) ho
  refine ⟨{ top := t1, topD := .inl h.topD, mki := ints_same h.mki fun hp a ha => t2.2.1 _ (Nat.lt_of_lt_of_le (h.mkB hp a ha) h.b0le) (fun z => by have := h.low _ z; have := h.mkB hp a ha; omega), mkB := h.mkB, low := fun b hb => hb.elim (h.low b) fun z => Nat.le_trans h.b0le z, b0le := Nat.le_trans h.b0le t2.1, lo := own_same hown fun q hq => Below.heap_setCell w1 _ _ q (t3 q hq).1, loD := fun q hq => (t3 q hq).2, co := own_same h.co fun q hq => ?_, coD := fun q hq => .inl (h.coD q hq), tO := own_same h.tO fun q hq => ?_, tD := fun q hq => .inl (h.tD q hq) }, t2, t4⟩
  · obtain ⟨_, cu, hcu⟩ := own_lt h.co hq; exact t4 (by decide) (by decide) hcu
  · obtain ⟨_, cu, hcu⟩ := own_lt h.tO hq; exact t4 (by decide) (by decide) hcu
theorem RT.setC {w w1 : World} {g b0 : Nat} {V : RV} {R : RF} {D : Nat → Prop} (h : RT w g b0 V R D) {v' : Value} {c' : List Int} (hg : w.grownBy w1 V.cv.ownBlock) (hown : w1.ownsRow 0 3 1 v' c'.length (c'.map (Value.int .i64))) (hat : ∀ m, v'.ownBlock = some m → V.cv.ownBlock = some m ∨ w.heap.size ≤ m) (ho : v'.oneCell' = true) :
    RT (w1.setCell ⟨g, 3, none⟩ v') g b0 { V with cv := v' } { R with calls := c' } (Dn D w.heap.size) ∧ Fr w (w1.setCell ⟨g, 3, none⟩ v') D ∧ (∀ {q : Nat} {cu : Array Value} {t : TypeId}, t ≠ 3 → t ≠ 81 → w.heap[q]? = some (Obj.cells cu t (0, 0)) → (w1.setCell ⟨g, 3, none⟩ v').heap[q]? = w.heap[q]?) := by
  obtain ⟨t1, t2, t3, t4⟩ := top_store (j := 3) h (fun q hq => (own_lt h.co hq).2) (by decide) h.coD hg hat (by decide) ho
  refine ⟨{ top := t1, topD := .inl h.topD, mki := ints_same h.mki fun hp a ha => t2.2.1 _ (Nat.lt_of_lt_of_le (h.mkB hp a ha) h.b0le) (fun z => by have := h.low _ z; have := h.mkB hp a ha; omega), mkB := h.mkB, low := fun b hb => hb.elim (h.low b) fun z => Nat.le_trans h.b0le z, b0le := Nat.le_trans h.b0le t2.1, co := own_same hown fun q hq => Below.heap_setCell w1 _ _ q (t3 q hq).1, coD := fun q hq => (t3 q hq).2, lo := own_same h.lo fun q hq => ?_, loD := fun q hq => .inl (h.loD q hq), tO := own_same h.tO fun q hq => ?_, tD := fun q hq => .inl (h.tD q hq) }, t2, t4⟩
  · obtain ⟨_, cu, hcu⟩ := own_lt h.lo hq; exact t4 (by decide) (by decide) hcu
  · obtain ⟨_, cu, hcu⟩ := own_lt h.tO hq; exact t4 (by decide) (by decide) hcu
theorem RT.setT {w w1 : World} {g b0 : Nat} {V : RV} {R : RF} {D : Nat → Prop} (h : RT w g b0 V R D) {v' : Value} {l' : List (Int × Int × Int)} (hg : w.grownBy w1 V.tv.ownBlock) (hown : w1.ownsRow 0 110 3 v' l'.length (l'.flatMap lcells)) (hat : ∀ m, v'.ownBlock = some m → V.tv.ownBlock = some m ∨ w.heap.size ≤ m) (ho : v'.oneCell' = true) :
    RT (w1.setCell ⟨g, 4, none⟩ v') g b0 { V with tv := v' } { R with lent := l' } (Dn D w.heap.size) ∧ Fr w (w1.setCell ⟨g, 4, none⟩ v') D ∧ (∀ {q : Nat} {cu : Array Value} {t : TypeId}, t ≠ 110 → t ≠ 81 → w.heap[q]? = some (Obj.cells cu t (0, 0)) → (w1.setCell ⟨g, 4, none⟩ v').heap[q]? = w.heap[q]?) := by
  obtain ⟨t1, t2, t3, t4⟩ := top_store (j := 4) h (fun q hq => (own_lt h.tO hq).2) (by decide) h.tD hg hat (by decide) ho
  refine ⟨{ top := t1, topD := .inl h.topD, mki := ints_same h.mki fun hp a ha => t2.2.1 _ (Nat.lt_of_lt_of_le (h.mkB hp a ha) h.b0le) (fun z => by have := h.low _ z; have := h.mkB hp a ha; omega), mkB := h.mkB, low := fun b hb => hb.elim (h.low b) fun z => Nat.le_trans h.b0le z, b0le := Nat.le_trans h.b0le t2.1, tO := own_same hown fun q hq => Below.heap_setCell w1 _ _ q (t3 q hq).1, tD := fun q hq => (t3 q hq).2, lo := own_same h.lo fun q hq => ?_, loD := fun q hq => .inl (h.loD q hq), co := own_same h.co fun q hq => ?_, coD := fun q hq => .inl (h.coD q hq) }, t2, t4⟩
  · obtain ⟨_, cu, hcu⟩ := own_lt h.lo hq; exact t4 (by decide) (by decide) hcu
  · obtain ⟨_, cu, hcu⟩ := own_lt h.co hq; exact t4 (by decide) (by decide) hcu
theorem RT.setTN {w w1 : World} {g b0 : Nat} {V : RV} {R : RF} {D : Nat → Prop} (h : RT w g b0 V R D) {v' : Value} {l' : List (Int × Int × Int)} {N : Nat} (hN : g < N) (hb : b0 ≤ N) (hg : w.grownBy w1 V.tv.ownBlock) (hown : w1.ownsRow 0 110 3 v' l'.length (l'.flatMap lcells)) (hat : ∀ m, v'.ownBlock = some m → V.tv.ownBlock = some m ∨ N ≤ m) (ho : v'.oneCell' = true) :
    RT (w1.setCell ⟨g, 4, none⟩ v') g b0 { V with tv := v' } { R with lent := l' } (Dn D N) ∧ Fr w (w1.setCell ⟨g, 4, none⟩ v') D := by
  obtain ⟨t1, t2, t3, t4⟩ := top_storeN (j := 4) h (fun q hq => (own_lt h.tO hq).2) (by decide) h.tD hg hN hat (by decide) ho
  refine ⟨{ top := t1, topD := .inl h.topD, mki := ints_same h.mki fun hp a ha => t2.2.1 _ (Nat.lt_of_lt_of_le (h.mkB hp a ha) h.b0le) (fun z => by have := h.low _ z; have := h.mkB hp a ha; omega), mkB := h.mkB, low := fun b hb' => hb'.elim (h.low b) fun z => Nat.le_trans hb z, b0le := Nat.le_trans h.b0le t2.1, tO := own_same hown fun q hq => Below.heap_setCell w1 _ _ q (t3 q hq).1, tD := fun q hq => (t3 q hq).2, lo := own_same h.lo fun q hq => ?_, loD := fun q hq => .inl (h.loD q hq), co := own_same h.co fun q hq => ?_, coD := fun q hq => .inl (h.coD q hq) }, t2⟩
  · obtain ⟨_, cu, hcu⟩ := own_lt h.lo hq; exact t4 (by decide) (by decide) hcu
  · obtain ⟨_, cu, hcu⟩ := own_lt h.co hq; exact t4 (by decide) (by decide) hcu
theorem info83 : (Try.prog.info? 83).map (fun i => (i.zero, i.size, i.bytes)) = some (some (.agg #[.int .i64 0, .int .i64 0, .int .i64 0, .int .i64 0, .bool false, .int .i64 0, .int .i64 0]), 7, 56) := by kernel_rfl
theorem info110 : (Try.prog.info? 110).map (fun i => (i.zero, i.size, i.bytes)) = some (some (.agg #[.int .i64 0, .int .i64 0, .int .i64 0]), 3, 24) := by kernel_rfl
theorem on_append {w : World} {v : Value} {l : List On} (hown : w.ownsRow 0 83 7 v l.length (l.flatMap On.cells)) (o : On) (hl : l.length < 1000000) (ty : TypeId) :
    ∃ v' w', (Builtin.append_ #[78, 78] ty #[v, .slice (some ⟨w.heap.size, 0, none⟩) 1 1]).run Try.prog (w.alloc (.cells o.cells.toArray 83)) = .ok v' w' ∧ w'.ownsRow 0 83 7 v' (l ++ [o]).length ((l ++ [o]).flatMap On.cells) ∧ w.grownBy w' v.ownBlock ∧ (v'.ownBlock = v.ownBlock ∨ ∃ m, v'.ownBlock = some m ∧ w.heap.size ≤ m) ∧ ∃ A c, v' = .slice A (l.length + 1) c := by
  obtain ⟨i0, hi, hz0, hz1, hz2⟩ := info_parts info83
  obtain ⟨v', w', h1, h2, h3, h4, h5⟩ := run_append_own_at (P := Try.prog) (w := w.alloc (.cells o.cells.toArray 83)) 0 78 ty 83 i0 _ 7 56 Try.underlying78 hi hz0 hz1 hz2 rfl (by decide) v l.length (l.flatMap On.cells)
    (own_same hown fun k hk => heap_alloc_old w _ k (own_lt hown hk).1) ⟨w.heap.size, 0, none⟩ 1 1 o.cells rfl (six_new w _ _) (by simp [Value.oneCell', On.cells]) (by simp only [maxLen]; omega) (by omega) (Nat.zero_le _)
  have he : (l ++ [o]).flatMap On.cells = l.flatMap On.cells ++ o.cells := by simp
  refine ⟨v', w', h1, by rw [he, List.length_append]; exact h2, (World.grownBy_alloc w _ _).trans h3, ?_, own_slice h2⟩
  rcases h5 with h | h
  · exact .inl h
  · refine .inr ⟨_, h, ?_⟩
    show w.heap.size ≤ (w.heap.push _).size
    simp
theorem lc_append {w : World} {base : Nat} {v : Value} {l : List (Int × Int × Int)} (hown : w.ownsRow base 110 3 v l.length (l.flatMap lcells)) (o : Int × Int × Int) (hl : l.length < 1000000) (hb : base ≤ w.heap.size) (ty : TypeId) :
    ∃ v' w', (Builtin.append_ #[79, 79] ty #[v, .slice (some ⟨w.heap.size, 0, none⟩) 1 1]).run Try.prog (w.alloc (.cells (lcells o).toArray 110)) = .ok v' w' ∧ w'.ownsRow base 110 3 v' (l ++ [o]).length ((l ++ [o]).flatMap lcells) ∧ w.grownBy w' v.ownBlock ∧ (v'.ownBlock = v.ownBlock ∨ ∃ m, v'.ownBlock = some m ∧ w.heap.size ≤ m) ∧ ∃ A c, v' = .slice A (l.length + 1) c := by
  obtain ⟨i0, hi, hz0, hz1, hz2⟩ := info_parts info110
  obtain ⟨v', w', h1, h2, h3, h4, h5⟩ := run_append_own_at (P := Try.prog) (w := w.alloc (.cells (lcells o).toArray 110)) base 79 ty 110 i0 _ 3 24 Try.underlying79 hi hz0 hz1 hz2 rfl (by decide) v l.length (l.flatMap lcells)
    (own_same hown fun k hk => heap_alloc_old w _ k (own_lt hown hk).1) ⟨w.heap.size, 0, none⟩ 1 1 (lcells o) rfl (six_new w _ _) (by simp [Value.oneCell', lcells]) (by simp only [maxLen]; omega) (by omega) (by show base ≤ (w.heap.push _).size; simp; omega)
  have he : (l ++ [o]).flatMap lcells = l.flatMap lcells ++ lcells o := by simp
  refine ⟨v', w', h1, by rw [he, List.length_append]; exact h2, (World.grownBy_alloc w _ _).trans h3, ?_, own_slice h2⟩
  rcases h5 with h | h
  · exact .inl h
  · refine .inr ⟨_, h, ?_⟩
    show w.heap.size ≤ (w.heap.push _).size
    simp
/-- A call behind those under way. -/
theorem calls_push {w : World} {v : Value} {l : List Int} (hown : w.ownsRow 0 3 1 v l.length (l.map (Value.int .i64))) (x : Int) (hl : l.length < 1000000) (ty : TypeId) :
    ∃ v' w', (Builtin.append_ #[44, 44] ty #[v, .slice (some ⟨w.heap.size, 0, none⟩) 1 1]).run Try.prog (w.alloc (.cells #[.int .i64 x] 3)) = .ok v' w' ∧ w'.ownsRow 0 3 1 v' (l ++ [x]).length ((l ++ [x]).map (Value.int .i64)) ∧ w.grownBy w' v.ownBlock ∧ (v'.ownBlock = v.ownBlock ∨ ∃ m, v'.ownBlock = some m ∧ w.heap.size ≤ m) ∧ ∃ A c, v' = .slice A (l.length + 1) c := by
  obtain ⟨i0, hi, hz0, hz1, hz2⟩ := info_parts info3
  obtain ⟨v', w', h1, h2, h3, h4, h5⟩ := run_append_own_at (P := Try.prog) (w := w.alloc (.cells #[.int .i64 x] 3)) 0 44 ty 3 i0 _ 1 8 Try.underlying44 hi hz0 hz1 hz2 rfl (by decide) v l.length (l.map (Value.int .i64))
    (own_same hown fun k hk => heap_alloc_old w _ k (own_lt hown hk).1) ⟨w.heap.size, 0, none⟩ 1 1 [.int .i64 x] rfl (one_new w _ _) (by simp [Value.oneCell']) (by simp only [maxLen]; omega) (by omega) (Nat.zero_le _)
  refine ⟨v', w', h1, by rw [List.map_append, List.length_append]; exact h2, (World.grownBy_alloc w _ _).trans h3, ?_, own_slice h2⟩
  rcases h5 with h | h
  · exact .inl h
  · refine .inr ⟨_, h, ?_⟩
    show w.heap.size ≤ (w.heap.push _).size
    simp
/-- The first index that is free, from a place on. -/
def frs : Nat → List (Int × E) → Int
  | k, [] => (k : Int) + 1
  | k, p :: l => if p.1 = (k : Int) + 1 then frs (k + 1) l else (k : Int) + 1
def RF.fresh (R : RF) (i : Int) (e : E) : Int × Int × RF := if (ofR R.L i).length = 256 then (0, 5, R) else (frs 0 (ofR R.L i), 0, { R with L := R.L ++ [⟨i, frs 0 (ofR R.L i), e⟩] })
def hbox (h : Int) (e : E) : Array Value := #[.int .i64 h, .int .i64 e.r, .int .i64 e.rep, .bool e.own, .int .i64 e.lends, .int .i64 e.call]
set_option maxHeartbeats 16000000 in
set_option maxRecDepth 100000 in
theorem fresh_calls {w : World} {g b0 : Nat} {V : RV} {R : RF} {D : Nat → Prop} (hT : RT w g b0 V R D) (i : Int) (e : E) (hl : R.L.length < 1000000) :
    Calls Try.prog 62 #[.pointer (some ⟨g, 0, none⟩), .int .i64 i, .agg #[.int .i64 0, .int .i64 e.r, .int .i64 e.rep, .bool e.own, .int .i64 e.lends, .int .i64 e.call]] w fun z w' => z = .returned (.tuple #[.int .i64 (R.fresh i e).1, .int .i64 (R.fresh i e).2.1]) ∧ AftR w g b0 D (R.fresh i e).2.2 w' := by
  have hof := of_calls (hT.alloc (.cells #[.int .i64 0, .int .i64 e.r, .int .i64 e.rep, .bool e.own, .int .i64 e.lends, .int .i64 e.call] 31)) i hl
  have XB := (Below.refl w.heap.size w).alloc (Nat.le_refl _) (.cells #[.int .i64 0, .int .i64 e.r, .int .i64 e.rep, .bool e.own, .int .i64 e.lends, .int .i64 e.call] 31)
  have X0 := blk_new w (.cells #[.int .i64 0, .int .i64 e.r, .int .i64 e.rep, .bool e.own, .int .i64 e.lends, .int .i64 e.call] 31)
  have hs0 : (w.alloc (.cells #[.int .i64 0, .int .i64 e.r, .int .i64 e.rep, .bool e.own, .int .i64 e.lends, .int .i64 e.call] 31)).heap.size = w.heap.size + 1 := Array.size_push _
  have hle := ofQ_le R.L i 256
  obtain ⟨FR, hFR⟩ : ∃ FR, FR = R.fresh i e := ⟨_, rfl⟩
  rw [← hFR]
  unfold RF.fresh at hFR
  change (ofR R.L i).length ≤ _ at hle
  generalize ofR R.L i = OF at hof hle hFR
  have HT0 := Aside0.mk hT
  have HL := Aside0.mk hl
  have HLE := Aside0.mk hle
  have HXB := Aside0.mk XB
  clear hT hl hle XB
  go_enter Try.func62, Try.ntmps62
  go_upto_region 2 with (first | (go_at_call 19; refine hof.mono ?_; rintro e0 w2 ⟨A, c, rfl, ho, hb⟩))
  have X2 := (hb.block _ (blk_lt X0)).trans X0
  have B2 : Below w.heap.size w w2 := bel_bel HXB.out hb
  have HB2 := Aside0.mk B2
  have HX2 := Aside0.mk X2
  have HO2 := Aside0.mk ho
  clear hof hb X2 ho B2 X0
  by_cases h256 : OF.length = 256
  · have q0 : ((OF.length : Int) == 256) = true := by rw [h256]; rfl
    rw [if_pos h256] at hFR
    subst hFR
    clear h256
    go_wp2
    go_ret2
    exact ⟨rfl, HT0.out.aftB HB2.out⟩
  · have q0 : ((OF.length : Int) == 256) = false := beq_eq_false_iff_ne.2 (by omega)
    rw [if_neg h256] at hFR
    subst hFR
    have hfz := fun j => blk_frozen HX2.out j
    have hc0 : w2.cell? ⟨w.heap.size, 0, none⟩ = some (.int .i64 0) := (blk_cell HX2.out 0).trans rfl
    clear h256
    go_wp2
    have hXs := blk_put HX2.out 0 (.int .i64 (wrap64 ((OF.length : Int) + 1))) rfl
    have hBs : Below w.heap.size w (w2.setCell ⟨w.heap.size, 0, none⟩ (.int .i64 (wrap64 ((OF.length : Int) + 1)))) := below_set HB2.out (Nat.le_refl _)
    have hOs : (w2.setCell ⟨w.heap.size, 0, none⟩ (.int .i64 (wrap64 ((OF.length : Int) + 1)))).ownsRow (w.heap.size + 1) 31 6 (.slice A OF.length c) OF.length (OF.flatMap hval) := by
      have h := HO2.out
      rw [hs0] at h
      exact own_same h fun q hq => Below.heap_setCell _ _ _ q (by have := own_ge h hq; show q ≠ w.heap.size; omega)
    generalize w2.setCell ⟨w.heap.size, 0, none⟩ (.int .i64 (wrap64 ((OF.length : Int) + 1))) = w3 at hXs hBs hOs ⊢
    have hw1 : wrap64 ((OF.length : Int) + 1) = frs OF.length (OF.drop OF.length) := by
      rw [List.drop_length]
      have := HLE.out
      have := HL.out
      unfold frs wrap64
      omega
    have hw2 : wrap64 ((OF.length : Int) - 1) = (OF.length : Int) - 1 := by
      have := HLE.out
      have := HL.out
      unfold wrap64
      omega
    rw [hw1] at hXs
    rw [hw2]
    have XX3 := Aside0.mk hXs
    have BB3 := Aside0.mk hBs
    have OO3 := Aside0.mk hOs
    clear hfz hc0 hXs hBs hOs HX2 HB2 HO2 hw1 hw2
    go_loopg [9] OF.length (fun gg s9 wr => ∃ jj : Nat, jj ≤ OF.length ∧ jj ≤ gg ∧ s9 = .int .i64 ((jj : Int) - 1) ∧ Aside0 (wr.heap[w.heap.size]? = some (.cells (hbox (frs jj (OF.drop jj)) e) 31 (0, 0))) ∧ Aside0 (Below w.heap.size w wr) ∧ Aside0 (wr.ownsRow (w.heap.size + 1) 31 6 (.slice A OF.length c) OF.length (OF.flatMap hval)))
    case atStart => exact ⟨OF.length, Nat.le_refl _, Nat.le_refl _, rfl, XX3, BB3, OO3⟩
    case round =>
      clear XX3 BB3 OO3
      obtain ⟨jj, hjj, hg, rfl, XX, BB, OO⟩ := hrel
      match jj, hjj, hg, XX with
      | 0, hjj, hg, XX =>
        have q1 : decide (0 ≤ ((0 : Nat) : Int) - 1) = false := rfl
        have hX := XX.out
        rw [List.drop_zero] at hX
        obtain ⟨fh, hfh⟩ : ∃ fh, fh = frs 0 OF := ⟨_, rfl⟩
        rw [← hfh] at hX
        have HFH := Aside0.mk hfh
        clear hfh
        have hT3 := HT0.out.below BB.out
        obtain ⟨lA, lc, hlv⟩ := own_slice hT3.lo
        obtain ⟨v', w4, a1, a2, a3, a4, A', c', rfl⟩ := on_append (hT3.drewN 1).lo ⟨i, fh, e⟩ HL.out 78
        rw [hlv] at a1
        change (Builtin.append_ _ _ _).run _ ((wr.drewN 1).alloc (.cells #[.int .i64 i, .int .i64 fh, .int .i64 e.r, .int .i64 e.rep, .bool e.own, .int .i64 e.lends, .int .i64 e.call] 83)) = _ at a1
        have hX1 : (wr.alloc (.cells #[.int .i64 i, .int .i64 fh, .int .i64 e.r, .int .i64 e.rep, .bool e.own, .int .i64 e.lends, .int .i64 e.call] 83)).heap[w.heap.size]? = _ := (heap_alloc_old wr _ _ (blk_lt hX)).trans hX
        have c2 : wr.cell? ⟨g, 2, none⟩ = some (.slice lA R.L.length lc) := by rw [← hlv]; exact (hT3.cell 2).trans rfl
        have c2a : (wr.alloc (.cells #[.int .i64 i, .int .i64 fh, .int .i64 e.r, .int .i64 e.rep, .bool e.own, .int .i64 e.lends, .int .i64 e.call] 83)).cell? ⟨g, 2, none⟩ = some (.slice lA R.L.length lc) := by rw [← hlv]; exact ((hT3.alloc _).cell 2).trans rfl
        have y0 : wr.cell? ⟨w.heap.size, 0, none⟩ = some (.int .i64 fh) := (blk_cell hX 0).trans rfl
        have y1 : wr.cell? ⟨w.heap.size, 1, none⟩ = some (.int .i64 e.r) := (blk_cell hX 1).trans rfl
        have y2 : wr.cell? ⟨w.heap.size, 2, none⟩ = some (.int .i64 e.rep) := (blk_cell hX 2).trans rfl
        have y3 : wr.cell? ⟨w.heap.size, 3, none⟩ = some (.bool e.own) := (blk_cell hX 3).trans rfl
        have y4 : wr.cell? ⟨w.heap.size, 4, none⟩ = some (.int .i64 e.lends) := (blk_cell hX 4).trans rfl
        have y5 : wr.cell? ⟨w.heap.size, 5, none⟩ = some (.int .i64 e.call) := (blk_cell hX 5).trans rfl
        obtain ⟨z1, z2, z3⟩ := (hT3.drewN 1).setL a3 a2 (hat_of a4) rfl
        have hg4 : w4.heap[g]? = some (.cells (topR V R) 81 (0, 0)) := (a3.block g (blk_lt hT3.top) (fun z => by obtain ⟨_, cu, hcu⟩ := own_lt hT3.lo z.symm; exact blk_ne hT3.top hcu (by decide) rfl)).trans hT3.top
        have s2 : w4.cell? ⟨g, 2, none⟩ = some V.lv := (blk_cell hg4 2).trans rfl
        have s2f : w4.frozen? ⟨g, 2, none⟩ = false := blk_frozen hg4 2
        have xf := (z3 (by decide) (by decide) hX).trans hX
        have f0 : (w4.setCell ⟨g, 2, none⟩ (.slice A' (R.L.length + 1) c')).cell? ⟨w.heap.size, 0, none⟩ = some (.int .i64 fh) := (blk_cell xf 0).trans rfl
        have Z1 := Aside0.mk z1
        have Z2 := Aside0.mk z2
        have A1 := Aside0.mk a1
        clear a1 a2 a3 a4 z1 z2 z3 hg4 xf hX hX1 hT3
        go_wp2
        go_region_law (refine step_append_eq rfl (.tmp 42) (.tmp 46) 78 rfl rfl rfl A1.out ?_)
        all_goals
          go_wp2
          go_ret2
          rw [← HFH.out]
          exact ⟨rfl, AftR.from ⟨_, Z1.out, Z2.out⟩ (pw_below_drewN BB.out 1) HT0.out.b0le HT0.out.low⟩
      | j + 1, hjj, hg, XX =>
        have e1 : ((j + 1 : Nat) : Int) - 1 = (j : Int) := by omega
        rw [e1]
        have q0 : (0 ≤ (j : Int)) = True := eq_true (Int.natCast_nonneg j)
        have q1 : decide (0 ≤ (j : Int)) = true := decide_eq_true (Int.natCast_nonneg j)
        have q2 : ((j : Int) < (OF.length : Int)) = True := eq_true (by omega)
        obtain ⟨b, cap, p, d1, d2, d3⟩ := hand_cells OO.out (show j < OF.length by omega)
        injection d1 with d1 _ d4
        subst d1; subst d4
        have k0 : wr.cell? ⟨b, j * 6, none⟩ = some (.int .i64 p.1) := d3 0 _ rfl
        have hdr : OF.drop j = p :: OF.drop (j + 1) := by
          obtain ⟨h1, h2⟩ := List.getElem?_eq_some_iff.1 d2
          rw [← h2]; exact List.drop_eq_getElem_cons h1
        have hfz := fun q => blk_frozen XX.out q
        have hc0 : wr.cell? ⟨w.heap.size, 0, none⟩ = some (.int .i64 (frs (j + 1) (OF.drop (j + 1)))) := (blk_cell XX.out 0).trans rfl
        have hjl := HL.out
        have hjle := HLE.out
        have hwj : wrap64 ((j : Int) + 1) = (j : Int) + 1 := by unfold wrap64; omega
        have hwj1 : wrap64 ((j : Int) - 1) = (j : Int) - 1 := by unfold wrap64; omega
        have HDR := Aside0.mk hdr
        clear hdr d2 d3 hjl hjle
        by_cases hp : p.1 = (j : Int) + 1
        · have dp : (p.1 != (j : Int) + 1) = false := by rw [hp]; simp
          have HP := Aside0.mk hp
          clear hp
          go_wp2
          go_roundg j
          case measure => omega
          case rel => exact ⟨j, by omega, by omega, by first | rfl | rw [hwj1], ⟨by rw [HDR.out]; unfold frs; rw [if_pos HP.out]; exact XX.out⟩, BB, OO⟩
        · have dp : (p.1 != (j : Int) + 1) = true := bne_iff_ne.2 hp
          have HP := Aside0.mk hp
          clear hp
          go_wp2
          go_roundg j
          case measure => omega
          case rel => exact ⟨j, by omega, by omega, by first | rfl | rw [hwj1], ⟨by rw [HDR.out]; unfold frs; rw [if_neg HP.out]; exact blk_put XX.out 0 (.int .i64 ((j : Int) + 1)) rfl⟩, ⟨below_set BB.out (Nat.le_refl _)⟩, ⟨own_same OO.out fun q hq => Below.heap_setCell _ _ _ q (by have := own_ge OO.out hq; show q ≠ w.heap.size; omega)⟩⟩
def RF.mak (R : RF) (r : Int) : Int := R.mkr.getD r.toNat 0
def RF.make (R : RF) (i r n : Int) : Int × Int × RF := if isB i r R.n R.mkr.length = true then if R.mak r = i then if wholeB n = true then R.fresh i ⟨r, n, true, 0, 0⟩ else (0, 17, R) else (0, 17, R) else (0, 17, R)
def RF.putN (R : RF) (i r n : Int) : Int × Int × RF := if isB i r R.n R.mkr.length = true then if wholeB n = true then R.fresh i ⟨r, n, true, 0, 0⟩ else (0, 17, R) else (0, 17, R)
def RF.borrow (R : RF) (i r n : Int) : Int × Int × RF := if isB i r R.n R.mkr.length = true then if R.calls.length = 0 then (0, 17, R) else if wholeB n = true then if R.mak r = i then (n, 0, R) else R.fresh i ⟨r, n, false, 0, (R.calls.length : Int)⟩ else (0, 17, R) else (0, 17, R)
theorem mk_cell {w : World} {g b0 : Nat} {V : RV} {R : RF} {D : Nat → Prop} (hT : RT w g b0 V R D) {r : Int} (h0 : 0 ≤ r) (h1 : r < (R.mkr.length : Int)) :
    ∃ (k : Nat) (ad : Addr), r = (k : Int) ∧ k < R.mkr.length ∧ V.mA = some ad ∧ w.cell? (ad.add k) = some (.int .i64 (R.mak r)) := by
  obtain ⟨k, rfl⟩ : ∃ k : Nat, r = (k : Int) := ⟨r.toNat, by omega⟩
  obtain ⟨ad, e1, e2⟩ := hT.mki k (by omega)
  exact ⟨k, ad, rfl, by omega, e1, e2⟩
set_option maxHeartbeats 16000000 in
set_option maxRecDepth 100000 in
theorem make39_calls {w : World} {g b0 : Nat} {V : RV} {R : RF} {D : Nat → Prop} (hT : RT w g b0 V R D) (i r n : Int) (hl : R.L.length < 1000000) :
    Calls Try.prog 39 #[.pointer (some ⟨g, 0, none⟩), .int .i64 i, .int .i64 r, .int .i64 n] w fun z w' => z = .returned (.tuple #[.int .i64 (R.make i r n).1, .int .i64 (R.make i r n).2.1]) ∧ AftR w g b0 D (R.make i r n).2.2 w' := by
  have his := is60_calls i r hT
  have hwh := fun W => rep61_calls n W
  obtain ⟨FR, hFR⟩ : ∃ FR, FR = R.make i r n := ⟨_, rfl⟩
  rw [← hFR]
  unfold RF.make at hFR
  cases hb : isB i r R.n R.mkr.length with
  | false =>
    rw [if_neg (by rw [hb]; decide)] at hFR
    subst hFR
    rw [hb] at his
    go_enter Try.func39, Try.ntmps39
    go_wp2_with (first | (go_at_call 60; refine his.mono ?_; rintro e w' ⟨rfl, rfl⟩))
    go_ret2
    exact ⟨rfl, hT.aft⟩
  | true =>
    rw [if_pos hb] at hFR
    rw [hb] at his
    obtain ⟨i0, i1, r0, r1⟩ := isB_true hb
    obtain ⟨k, ad, rfl, hk, e1, e2⟩ := mk_cell hT r0 r1
    have c1 : w.cell? ⟨g, 1, none⟩ = some (.slice (some ad) R.mkr.length V.mc) := by rw [← e1]; exact (hT.cell 1).trans rfl
    have p0 : (0 ≤ (k : Int)) = True := eq_true r0
    have p1 : ((k : Int) < (R.mkr.length : Int)) = True := eq_true r1
    have hfr := fun e => fresh_calls hT i e hl
    have HT0 := Aside0.mk hT
    generalize R.mak (k : Int) = m at e2 hFR
    clear hT hb i0 i1 r0 r1 hk
    by_cases hm : m = i
    · rw [if_pos hm] at hFR
      have dm : (m != i) = false := by rw [hm]; simp
      cases hw : wholeB n with
      | false =>
        rw [if_neg (by rw [hw]; decide)] at hFR
        subst hFR
        rw [hw] at hwh
        clear hw hm hfr
        go_enter Try.func39, Try.ntmps39
        go_wp2_with (first | (go_at_call 60; refine his.mono ?_; rintro e w' ⟨rfl, rfl⟩) | (go_at_call 61; refine (hwh _).mono ?_; rintro e w' ⟨rfl, rfl⟩))
        go_ret2
        exact ⟨rfl, HT0.out.aft⟩
      | true =>
        rw [if_pos hw] at hFR
        subst hFR
        rw [hw] at hwh
        have HF := Aside0.mk (hfr ⟨(k : Int), n, true, 0, 0⟩)
        generalize R.fresh i ⟨(k : Int), n, true, 0, 0⟩ = F at HF ⊢
        clear hw hm hfr
        go_enter Try.func39, Try.ntmps39
        go_wp2_with (first | (go_at_call 60; refine his.mono ?_; rintro e w' ⟨rfl, rfl⟩) | (go_at_call 61; refine (hwh _).mono ?_; rintro e w' ⟨rfl, rfl⟩) | (go_at_call 62; refine HF.out.mono ?_; rintro e w' ⟨rfl, hA⟩))
        go_ret2
        exact ⟨rfl, hA⟩
    · rw [if_neg hm] at hFR
      subst hFR
      have dm : (m != i) = true := bne_iff_ne.2 hm
      clear hm hfr
      go_enter Try.func39, Try.ntmps39
      go_wp2_with (first | (go_at_call 60; refine his.mono ?_; rintro e w' ⟨rfl, rfl⟩))
      go_ret2
      exact ⟨rfl, HT0.out.aft⟩
set_option maxHeartbeats 16000000 in
set_option maxRecDepth 100000 in
theorem put43_calls {w : World} {g b0 : Nat} {V : RV} {R : RF} {D : Nat → Prop} (hT : RT w g b0 V R D) (i r n : Int) (hl : R.L.length < 1000000) :
    Calls Try.prog 43 #[.pointer (some ⟨g, 0, none⟩), .int .i64 i, .int .i64 r, .int .i64 n] w fun z w' => z = .returned (.tuple #[.int .i64 (R.putN i r n).1, .int .i64 (R.putN i r n).2.1]) ∧ AftR w g b0 D (R.putN i r n).2.2 w' := by
  have his := is60_calls i r hT
  have hwh := fun W => rep61_calls n W
  obtain ⟨FR, hFR⟩ : ∃ FR, FR = R.putN i r n := ⟨_, rfl⟩
  rw [← hFR]
  unfold RF.putN at hFR
  have hfr := fun e => fresh_calls hT i e hl
  have HT0 := Aside0.mk hT
  clear hT
  cases hb : isB i r R.n R.mkr.length with
  | false =>
    rw [if_neg (by rw [hb]; decide)] at hFR
    subst hFR
    rw [hb] at his
    clear hfr
    go_enter Try.func43, Try.ntmps43
    go_wp2_with (first | (go_at_call 60; refine his.mono ?_; rintro e w' ⟨rfl, rfl⟩))
    go_ret2
    exact ⟨rfl, HT0.out.aft⟩
  | true =>
    rw [if_pos hb] at hFR
    rw [hb] at his
    clear hb
    cases hw : wholeB n with
    | false =>
      rw [if_neg (by rw [hw]; decide)] at hFR
      subst hFR
      rw [hw] at hwh
      clear hw hfr
      go_enter Try.func43, Try.ntmps43
      go_wp2_with (first | (go_at_call 60; refine his.mono ?_; rintro e w' ⟨rfl, rfl⟩) | (go_at_call 61; refine (hwh _).mono ?_; rintro e w' ⟨rfl, rfl⟩))
      go_ret2
      exact ⟨rfl, HT0.out.aft⟩
    | true =>
      rw [if_pos hw] at hFR
      subst hFR
      rw [hw] at hwh
      have HF := Aside0.mk (hfr ⟨r, n, true, 0, 0⟩)
      generalize R.fresh i ⟨r, n, true, 0, 0⟩ = F at HF ⊢
      clear hw hfr
      go_enter Try.func43, Try.ntmps43
      go_wp2_with (first | (go_at_call 60; refine his.mono ?_; rintro e w' ⟨rfl, rfl⟩) | (go_at_call 61; refine (hwh _).mono ?_; rintro e w' ⟨rfl, rfl⟩) | (go_at_call 62; refine HF.out.mono ?_; rintro e w' ⟨rfl, hA⟩))
      go_ret2
      exact ⟨rfl, hA⟩
set_option maxHeartbeats 16000000 in
set_option maxRecDepth 100000 in
theorem borrow45_calls {w : World} {g b0 : Nat} {V : RV} {R : RF} {D : Nat → Prop} (hT : RT w g b0 V R D) (i r n : Int) (hl : R.L.length < 1000000) :
    Calls Try.prog 45 #[.pointer (some ⟨g, 0, none⟩), .int .i64 i, .int .i64 r, .int .i64 n] w fun z w' => z = .returned (.tuple #[.int .i64 (R.borrow i r n).1, .int .i64 (R.borrow i r n).2.1]) ∧ AftR w g b0 D (R.borrow i r n).2.2 w' := by
  have his := is60_calls i r hT
  have hwh := fun W => rep61_calls n W
  obtain ⟨FR, hFR⟩ : ∃ FR, FR = R.borrow i r n := ⟨_, rfl⟩
  rw [← hFR]
  unfold RF.borrow at hFR
  obtain ⟨cA, cc, hcv⟩ := own_slice hT.co
  have c3 : w.cell? ⟨g, 3, none⟩ = some (.slice cA R.calls.length cc) := by rw [← hcv]; exact (hT.cell 3).trans rfl
  cases hb : isB i r R.n R.mkr.length with
  | false =>
    rw [if_neg (by rw [hb]; decide)] at hFR
    subst hFR
    rw [hb] at his
    go_enter Try.func45, Try.ntmps45
    go_wp2_with (first | (go_at_call 60; refine his.mono ?_; rintro e w' ⟨rfl, rfl⟩))
    go_ret2
    exact ⟨rfl, hT.aft⟩
  | true =>
    rw [if_pos hb] at hFR
    rw [hb] at his
    obtain ⟨i0, i1, r0, r1⟩ := isB_true hb
    obtain ⟨k, ad, rfl, hk, e1, e2⟩ := mk_cell hT r0 r1
    have c1 : w.cell? ⟨g, 1, none⟩ = some (.slice (some ad) R.mkr.length V.mc) := by rw [← e1]; exact (hT.cell 1).trans rfl
    have p0 : (0 ≤ (k : Int)) = True := eq_true r0
    have p1 : ((k : Int) < (R.mkr.length : Int)) = True := eq_true r1
    have hfr := fun e => fresh_calls hT i e hl
    have HT0 := Aside0.mk hT
    generalize R.mak (k : Int) = m at e2 hFR
    clear hT hb i0 i1 r0 r1 hk
    by_cases hc : R.calls.length = 0
    · rw [if_pos hc] at hFR
      subst hFR
      have dc : ((R.calls.length : Int) == 0) = true := by rw [hc]; rfl
      clear hc hfr
      go_enter Try.func45, Try.ntmps45
      go_wp2_with (first | (go_at_call 60; refine his.mono ?_; rintro e w' ⟨rfl, rfl⟩))
      go_ret2
      exact ⟨rfl, HT0.out.aft⟩
    · rw [if_neg hc] at hFR
      have dc : ((R.calls.length : Int) == 0) = false := beq_eq_false_iff_ne.2 (by omega)
      clear hc
      cases hw : wholeB n with
      | false =>
        rw [if_neg (by rw [hw]; decide)] at hFR
        subst hFR
        rw [hw] at hwh
        clear hw hfr
        go_enter Try.func45, Try.ntmps45
        go_wp2_with (first | (go_at_call 60; refine his.mono ?_; rintro e w' ⟨rfl, rfl⟩) | (go_at_call 61; refine (hwh _).mono ?_; rintro e w' ⟨rfl, rfl⟩))
        go_ret2
        exact ⟨rfl, HT0.out.aft⟩
      | true =>
        rw [if_pos hw] at hFR
        rw [hw] at hwh
        clear hw
        by_cases hm : m = i
        · rw [if_pos hm] at hFR
          subst hFR
          have dm : (m == i) = true := beq_iff_eq.2 hm
          clear hm hfr
          go_enter Try.func45, Try.ntmps45
          go_wp2_with (first | (go_at_call 60; refine his.mono ?_; rintro e w' ⟨rfl, rfl⟩) | (go_at_call 61; refine (hwh _).mono ?_; rintro e w' ⟨rfl, rfl⟩))
          go_ret2
          exact ⟨rfl, HT0.out.aft⟩
        · rw [if_neg hm] at hFR
          subst hFR
          have dm : (m == i) = false := beq_eq_false_iff_ne.2 hm
          have HF := Aside0.mk (hfr ⟨(k : Int), n, false, 0, (R.calls.length : Int)⟩)
          generalize R.fresh i ⟨(k : Int), n, false, 0, (R.calls.length : Int)⟩ = F at HF ⊢
          clear hm hfr
          go_enter Try.func45, Try.ntmps45
          go_wp2_with (first | (go_at_call 60; refine his.mono ?_; rintro e w' ⟨rfl, rfl⟩) | (go_at_call 61; refine (hwh _).mono ?_; rintro e w' ⟨rfl, rfl⟩) | (go_at_call 62; refine HF.out.mono ?_; rintro e w' ⟨rfl, hA⟩))
          go_ret2
          exact ⟨rfl, hA⟩
theorem AftR.of {w w1 w2 : World} {g b0 : Nat} {D D1 : Nat → Prop} {R : RF} (h : AftR w1 g b0 D1 R w2) (k : Below w.heap.size w w1) (hD : ∀ b, D1 b → D b) (hb : b0 ≤ w.heap.size) (hl : ∀ b, D b → b0 ≤ b) : AftR w g b0 D R w2 := by
  obtain ⟨V', h1, h2⟩ := h
  exact ⟨V', h1.imp (fun b z => z.imp (hD b) (fun z => Nat.le_trans k.size z)) (fun b z => z.elim (hl b) (fun z => Nat.le_trans hb z)), Nat.le_trans k.size h2.1, fun b hq hn => (h2.2.1 b (Nat.lt_of_lt_of_le hq k.size) (fun z => hn (hD b z))).trans (k.block b hq), h2.2.2.1.trans k.os, h2.2.2.2.trans k.tape, h2.2.2.3.trans k.output⟩
theorem on_len (l : List On) : (l.flatMap On.cells).length = l.length * 7 := by
  induction l with
  | nil => rfl
  | cons a l ih => rw [List.flatMap_cons, List.length_append, ih]; simp [On.cells]; omega
/-- Rows of handles out of a row of them, behind a row of the call's own. -/
theorem on_many {w : World} {base : Nat} {v : Value} {l m : List On} (hown : w.ownsRow base 83 7 v l.length (l.flatMap On.cells)) (a : Addr) (c : Nat) (hm : ∀ j u, (m.flatMap On.cells)[j]? = some u → w.cell? (a.add j) = some u) (hl : l.length + m.length < 1000000) (hb : base ≤ w.heap.size) (ty : TypeId) :
    ∃ v' w', (Builtin.append_ #[78, 78] ty #[v, .slice (some a) m.length c]).run Try.prog w = .ok v' w' ∧ w'.ownsRow base 83 7 v' (l ++ m).length ((l ++ m).flatMap On.cells) ∧ w.grownBy w' v.ownBlock ∧ ∃ A c, v' = .slice A (l ++ m).length c := by
  obtain ⟨i0, hi, hz0, hz1, hz2⟩ := info_parts info83
  obtain ⟨v', w', h1, h2, h3, h4, h5⟩ := run_append_own_at (P := Try.prog) (w := w) base 78 ty 83 i0 _ 7 56 Try.underlying78 hi hz0 hz1 hz2 rfl (by decide) v l.length (l.flatMap On.cells) hown a m.length c (m.flatMap On.cells) (on_len m) hm
    (fun u hu => by
      obtain ⟨o, _, hx⟩ := List.mem_flatMap.1 hu
      simp only [On.cells, List.mem_cons, List.not_mem_nil, or_false] at hx
      rcases hx with rfl | rfl | rfl | rfl | rfl | rfl | rfl <;> rfl) (by simp only [maxLen]; omega) (by omega) hb
  have he : (l ++ m).flatMap On.cells = l.flatMap On.cells ++ m.flatMap On.cells := by simp
  have h2' : w'.ownsRow base 83 7 v' (l ++ m).length ((l ++ m).flatMap On.cells) := by rw [he, List.length_append]; exact h2
  exact ⟨v', w', h1, h2', h3, own_slice h2'⟩
theorem on_seven (o : On) : o.cells.length = 7 := rfl
theorem on_take (cs : List On) (m : Nat) : (cs.take m).flatMap On.cells = (cs.flatMap On.cells).take (m * 7) := by
  induction m generalizing cs with
  | zero => simp
  | succ m ih =>
    cases cs with
    | nil => simp
    | cons a l =>
      rw [List.take_succ_cons, List.flatMap_cons, List.flatMap_cons, ih, List.take_append, List.take_of_length_le (l := a.cells) (by rw [on_seven]; omega), on_seven, show (m + 1) * 7 - 7 = m * 7 by omega]
theorem on_drop (cs : List On) (m : Nat) : (cs.drop m).flatMap On.cells = (cs.flatMap On.cells).drop (m * 7) := by
  induction m generalizing cs with
  | zero => simp
  | succ m ih =>
    cases cs with
    | nil => simp
    | cons a l =>
      rw [List.drop_succ_cons, List.flatMap_cons, ih, List.drop_append, List.drop_of_length_le (l := a.cells) (by rw [on_seven]; omega), List.nil_append, on_seven, show (m + 1) * 7 - 7 = m * 7 by omega]
set_option maxHeartbeats 16000000 in
set_option maxRecDepth 100000 in
theorem without_calls {w : World} {g b0 : Nat} {V : RV} {R : RF} {D : Nat → Prop} (hT : RT w g b0 V R D) (k : Nat) (hk : k < R.L.length) (hl : R.L.length < 1000000) :
    Calls Try.prog 64 #[.pointer (some ⟨g, 0, none⟩), .int .i64 k] w fun z w' => z = .returned (.tuple #[]) ∧ AftR w g b0 D { R with L := R.L.eraseIdx k } w' := by
  obtain ⟨b, cap, d1, d2, d3, d4⟩ := own_cells hT.lo (by omega)
  have c2 : w.cell? ⟨g, 2, none⟩ = some (.slice (some ⟨b, 0, none⟩) R.L.length cap) := by rw [← d1]; exact (hT.cell 2).trans rfl
  obtain ⟨v1, w1, a1, a2, a3, A1, C1, rfl⟩ := on_many (w := w) (base := w.heap.size) (v := .slice none 0 0) (l := []) (m := R.L.take k) ⟨rfl, .inl ⟨rfl, rfl⟩⟩ ⟨b, 0, none⟩ cap (fun j u hu => by
    rw [on_take] at hu
    rw [add_at, Nat.zero_add]
    exact d4 j u (by rw [List.getElem?_take] at hu; split at hu <;> simp_all)) (by simp; omega) (Nat.le_refl _) 78
  have B1 := (Below.refl w.heap.size w).grown a3 (Nat.le_refl _) (fun q hq => by cases hq)
  have hT1 := hT.below B1
  have hlen : (R.L.take k).length = k := by rw [List.length_take]; omega
  have p0 : (0 ≤ (k : Int)) = True := eq_true (Int.natCast_nonneg k)
  have p1 : ((k : Int) ≤ (cap : Int)) = True := eq_true (by omega)
  have p2 : ((k : Int) ≤ (R.L.length : Int)) = True := eq_true (by omega)
  rw [hlen] at a1
  have A1' := Aside0.mk a1
  go_enter Try.func64, Try.ntmps64
  go_upto_region 2 with (first | (at_builtin; refine wpList_append_eq rfl _ _ 78 rfl rfl rfl A1'.out ?_))
  have hO1 : w1.ownsRow w.heap.size 83 7 (.slice A1 k C1) (R.L.take k).length ((R.L.take k).flatMap On.cells) := by
    have h := a2
    simp only [List.nil_append] at h
    rw [hlen] at h ⊢; exact h
  have hge : ∀ q, (Value.slice A1 k C1).ownBlock = some q → w.heap.size ≤ q := fun q hq => own_ge hO1 hq
  have d4' : ∀ (j : Nat) (u : Value), (R.L.flatMap On.cells)[j]? = some u → w1.cell? ⟨b, j, none⟩ = some u := fun j u hu => by
    have hb := (own_lt hT.lo d3).1
    have := d4 j u hu
    unfold World.cell? at this ⊢
    rw [B1.block b hb]; exact this
  have e2 : w1.cell? ⟨g, 2, none⟩ = some (.slice (some ⟨b, 0, none⟩) R.L.length cap) := by rw [← d1]; exact (hT1.cell 2).trans rfl
  have hw : wrap64 ((k : Int) + 1) = (k : Int) + 1 := by unfold wrap64; omega
  have p3 : (0 ≤ (k : Int) + 1) = True := eq_true (by omega)
  have p4 : ((k : Int) + 1 ≤ (R.L.length : Int)) = True := eq_true (by omega)
  have p5 : ((R.L.length : Int) ≤ (cap : Int)) = True := eq_true (by omega)
  have hld : (R.L.drop (k + 1)).length = R.L.length - (k + 1) := by rw [List.length_drop]
  have hee : R.L.take k ++ R.L.drop (k + 1) = R.L.eraseIdx k := (List.eraseIdx_eq_take_drop_succ R.L k).symm
  by_cases hc : cap = k + 1
  · obtain ⟨v2, w2, f1, f2, f3, A2, C2, rfl⟩ := on_many (w := w1) (base := w.heap.size) (l := R.L.take k) (m := R.L.drop (k + 1)) hO1 ⟨b, 0, none⟩ 0 (fun j u hu => by
      rw [List.drop_of_length_le (by omega)] at hu
      cases hu) (by simp; omega) B1.size 78
    have B2 := B1.grown f3 B1.size hge
    rw [show (R.L.drop (k + 1)).length = 0 by rw [hld]; omega] at f1
    rw [hee] at f1 f2
    have F1 := Aside0.mk f1
    have s2 : w2.cell? ⟨g, 2, none⟩ = some V.lv := ((hT.below B2).cell 2).trans rfl
    have s2f : w2.frozen? ⟨g, 2, none⟩ = false := blk_frozen (hT.below B2).top 2
    obtain ⟨z1, z2, z3⟩ := hT.setL (grown_below B2 _) (own_mono f2 (Nat.zero_le _)) (fun m hm => .inr (own_ge f2 hm)) rfl
    have Z1 := Aside0.mk z1
    have Z2 := Aside0.mk z2
    clear a1 A1' c2 hge d4 d4' z1 z2 z3 f1 f2 f3 hee hld a2 a3 hO1 hT1 hT B1 B2 hl
    subst hc
    go_wp2_with (first | (at_builtin; refine wpList_append_eq rfl _ _ 78 rfl rfl rfl F1.out ?_))
    go_end0
    exact ⟨rfl, _, Z1.out, Z2.out⟩
  · obtain ⟨v2, w2, f1, f2, f3, A2, C2, rfl⟩ := on_many (w := w1) (base := w.heap.size) (l := R.L.take k) (m := R.L.drop (k + 1)) hO1 ⟨b, (k + 1) * 7, none⟩ (cap - (k + 1)) (fun j u hu => by
      rw [on_drop, List.getElem?_drop] at hu
      rw [add_at]
      exact d4' _ u hu) (by simp; omega) B1.size 78
    have B2 := B1.grown f3 B1.size hge
    rw [hld] at f1
    rw [hee] at f1 f2
    have F1 := Aside0.mk f1
    have s2 : w2.cell? ⟨g, 2, none⟩ = some V.lv := ((hT.below B2).cell 2).trans rfl
    have s2f : w2.frozen? ⟨g, 2, none⟩ = false := blk_frozen (hT.below B2).top 2
    obtain ⟨z1, z2, z3⟩ := hT.setL (grown_below B2 _) (own_mono f2 (Nat.zero_le _)) (fun m hm => .inr (own_ge f2 hm)) rfl
    have Z1 := Aside0.mk z1
    have Z2 := Aside0.mk z2
    have hcf : (cap = k + 1) = False := eq_false hc
    clear a1 A1' c2 hge d4 d4' z1 z2 z3 f1 f2 f3 hee hld a2 a3 hO1 hT1 hT B1 B2 hl hc
    go_wp2_with (first | (at_builtin; refine wpList_append_eq rfl _ _ 78 rfl rfl rfl F1.out ?_))
    go_end0
    exact ⟨rfl, _, Z1.out, Z2.out⟩
def zeroOn : On := ⟨0, 0, zeroE⟩
def RF.nth (R : RF) (k : Nat) : On := R.L.getD k zeroOn
def RF.rep (R : RF) (i r h : Int) : Int × Int := match fnd (isOn i r h) R.L 0 with
  | none => (0, 17)
  | some k => if R.mak r = i then ((R.nth k).e.rep, 0) else (0, 17)
def RF.less (R : RF) (k : Nat) : RF := { R with L := R.L.eraseIdx k }
def RF.drop (R : RF) (i r h : Int) : Int × Bool × Int × RF := match fnd (isOn i r h) R.L 0 with
  | none => (0, false, 17, R)
  | some k => if 0 < (R.nth k).e.lends then (0, false, 18, R) else ((R.nth k).e.rep, (R.nth k).e.own, 0, R.less k)
def RF.take (R : RF) (i r h : Int) : Int × Int × RF := match fnd (isOn i r h) R.L 0 with
  | none => (0, 17, R)
  | some k => if (R.nth k).e.own = true then if 0 < (R.nth k).e.lends then (0, 18, R) else ((R.nth k).e.rep, 0, R.less k) else (0, 17, R)
theorem fnd_at {R : RF} {i r h : Int} {k : Nat} (hf : fnd (isOn i r h) R.L 0 = some k) : R.L[k]? = some (R.nth k) ∧ (R.nth k).i = i ∧ (R.nth k).h = h ∧ (R.nth k).e.r = r ∧ fndR R.L i r h = (k : Int) := by
  obtain ⟨q, o, h1, h2, h3⟩ := fnd_some hf
  obtain rfl : k = q := by omega
  have hn : R.nth k = o := by unfold RF.nth List.getD; rw [h2]; rfl
  rw [hn]
  unfold isOn at h3
  simp only [Bool.and_eq_true, beq_iff_eq] at h3
  exact ⟨h2, h3.1.1, h3.1.2, h3.2, by unfold fndR; rw [hf]⟩
theorem fnd_no {R : RF} {i r h : Int} (hf : fnd (isOn i r h) R.L 0 = none) : fndR R.L i r h = -1 := by unfold fndR; rw [hf]
set_option maxHeartbeats 16000000 in
set_option maxRecDepth 100000 in
theorem rep40_calls {w : World} {g b0 : Nat} {V : RV} {R : RF} {D : Nat → Prop} (hT : RT w g b0 V R D) (i r h : Int) (hr : ∀ o ∈ R.L, 0 ≤ o.e.r ∧ o.e.r < (R.mkr.length : Int)) :
    Calls Try.prog 40 #[.pointer (some ⟨g, 0, none⟩), .int .i64 i, .int .i64 r, .int .i64 h] w fun z w' => z = .returned (.tuple #[.int .i64 (R.rep i r h).1, .int .i64 (R.rep i r h).2]) ∧ w' = w := by
  have hfi := find_calls hT i r h
  obtain ⟨FR, hFR⟩ : ∃ FR, FR = R.rep i r h := ⟨_, rfl⟩
  rw [← hFR]
  unfold RF.rep at hFR
  cases hf : fnd (isOn i r h) R.L 0 with
  | none =>
    rw [hf] at hFR
    dsimp only at hFR
    subst hFR
    rw [fnd_no hf] at hfi
    clear hf hr hT
    go_enter Try.func40, Try.ntmps40
    go_wp2_with (first | (go_at_call 63; refine hfi.mono ?_; rintro e w' ⟨rfl, rfl⟩))
    go_ret2
    exact ⟨rfl, rfl⟩
  | some k =>
    rw [hf] at hFR
    dsimp only at hFR
    obtain ⟨h1, h2, h3, h4, h5⟩ := fnd_at hf
    rw [h5] at hfi
    obtain ⟨r0, r1⟩ := hr _ (List.mem_of_getElem? h1)
    rw [h4] at r0 r1
    obtain ⟨q, ad, rfl, hk, e1, e2⟩ := mk_cell hT r0 r1
    have c1 : w.cell? ⟨g, 1, none⟩ = some (.slice (some ad) R.mkr.length V.mc) := by rw [← e1]; exact (hT.cell 1).trans rfl
    have p0 : (0 ≤ (q : Int)) = True := eq_true r0
    have p1 : ((q : Int) < (R.mkr.length : Int)) = True := eq_true r1
    have q0 : decide ((k : Int) < 0) = false := decide_eq_false (by omega)
    generalize R.mak (q : Int) = m at e2 hFR
    by_cases hm : m = i
    · rw [if_pos hm] at hFR
      have dm : (m != i) = false := by rw [hm]; simp
      obtain ⟨b, cap, f1, f2, f3, f4⟩ := hT.row h1
      have c2 : w.cell? ⟨g, 2, none⟩ = some (.slice (some ⟨b, 0, none⟩) R.L.length cap) := by rw [← f1]; exact (hT.cell 2).trans rfl
      have k3 : w.cell? ⟨b, k * 7 + 3, none⟩ = some (.int .i64 (R.nth k).e.rep) := f4 3 _ rfl
      have p2 : (0 ≤ (k : Int)) = True := eq_true (Int.natCast_nonneg k)
      have p3 : ((k : Int) < (R.L.length : Int)) = True := eq_true (by omega)
      subst hFR
      generalize R.nth k = o at k3
      clear hf hr h1 h2 h3 h4 h5 r0 r1 hk hm f4 hT
      go_enter Try.func40, Try.ntmps40
      go_wp2_with (first | (go_at_call 63; refine hfi.mono ?_; rintro e w' ⟨rfl, rfl⟩))
      go_ret2
      exact ⟨rfl, rfl⟩
    · rw [if_neg hm] at hFR
      subst hFR
      have dm : (m != i) = true := bne_iff_ne.2 hm
      clear hf hr h1 h2 h3 h4 h5 r0 r1 hk hm hT
      go_enter Try.func40, Try.ntmps40
      go_wp2_with (first | (go_at_call 63; refine hfi.mono ?_; rintro e w' ⟨rfl, rfl⟩))
      go_ret2
      exact ⟨rfl, rfl⟩
theorem aftR_blk {w w' : World} {g b0 b : Nat} {D : Nat → Prop} {R : RF} {o : Obj} (k : AftR w g b0 D R w') (h : w.heap[b]? = some o) (hD : ¬ D b) : w'.heap[b]? = some o := by
  obtain ⟨_, _, hF⟩ := k
  exact (hF.2.1 b (Array.getElem?_eq_some_iff.1 h).1 hD).trans h
theorem AftR.drew {w w' : World} {g b0 : Nat} {D : Nat → Prop} {R : RF} (k : AftR w g b0 D R w') (n : Nat) : AftR w g b0 D R (w'.drewN n) := by
  obtain ⟨V, h1, h2⟩ := k
  exact ⟨V, h1.drewN n, h2.drawn ⟨n, rfl⟩⟩
set_option maxHeartbeats 16000000 in
set_option maxRecDepth 100000 in
theorem drop41_calls {w : World} {g b0 : Nat} {V : RV} {R : RF} {D : Nat → Prop} (hT : RT w g b0 V R D) (i r h : Int) (hl : R.L.length < 1000000) :
    Calls Try.prog 41 #[.pointer (some ⟨g, 0, none⟩), .int .i64 i, .int .i64 r, .int .i64 h] w fun z w' => z = .returned (.tuple #[.int .i64 (R.drop i r h).1, .bool (R.drop i r h).2.1, .int .i64 (R.drop i r h).2.2.1]) ∧ AftR w g b0 D (R.drop i r h).2.2.2 w' := by
  have hfi := find_calls hT i r h
  obtain ⟨FR, hFR⟩ : ∃ FR, FR = R.drop i r h := ⟨_, rfl⟩
  rw [← hFR]
  unfold RF.drop at hFR
  have HT0 := Aside0.mk hT
  cases hf : fnd (isOn i r h) R.L 0 with
  | none =>
    rw [hf] at hFR
    dsimp only at hFR
    subst hFR
    rw [fnd_no hf] at hfi
    clear hf hT
    go_enter Try.func41, Try.ntmps41
    go_wp2_with (first | (go_at_call 63; refine hfi.mono ?_; rintro e w' ⟨rfl, rfl⟩))
    go_ret3
    exact ⟨rfl, HT0.out.aft⟩
  | some k =>
    rw [hf] at hFR
    dsimp only at hFR
    obtain ⟨h1, h2, h3, h4, h5⟩ := fnd_at hf
    rw [h5] at hfi
    have q0 : decide ((k : Int) < 0) = false := decide_eq_false (by omega)
    obtain ⟨b, cap, f1, f2, f3, f4⟩ := hT.row h1
    have c2 : w.cell? ⟨g, 2, none⟩ = some (.slice (some ⟨b, 0, none⟩) R.L.length cap) := by rw [← f1]; exact (hT.cell 2).trans rfl
    have p2 : (0 ≤ (k : Int)) = True := eq_true (Int.natCast_nonneg k)
    have p3 : ((k : Int) < (R.L.length : Int)) = True := eq_true (by omega)
    have k1 : w.cell? ⟨b, k * 7 + 1, none⟩ = some (.int .i64 (R.nth k).h) := f4 1 _ rfl
    have k2 : w.cell? ⟨b, k * 7 + 2, none⟩ = some (.int .i64 (R.nth k).e.r) := f4 2 _ rfl
    have k3 : w.cell? ⟨b, k * 7 + 3, none⟩ = some (.int .i64 (R.nth k).e.rep) := f4 3 _ rfl
    have k4 : w.cell? ⟨b, k * 7 + 4, none⟩ = some (.bool (R.nth k).e.own) := f4 4 _ rfl
    have k5 : w.cell? ⟨b, k * 7 + 5, none⟩ = some (.int .i64 (R.nth k).e.lends) := f4 5 _ rfl
    have k6 : w.cell? ⟨b, k * 7 + 6, none⟩ = some (.int .i64 (R.nth k).e.call) := f4 6 _ rfl
    have hwo := fun W (hW : RT W g b0 V R (fun b => D b ∧ b < w.heap.size)) => without_calls hW k f2 hl
    have hwith := hT.within
    change RT w g b0 V R (fun b => D b ∧ b < w.heap.size) at hwith
    have HWO := Aside0.mk hwo
    have HWI := Aside0.mk hwith
    clear hwo hwith hf h1 h2 h3 h4 h5 f4 hT
    generalize R.nth k = o at *
    by_cases hlen : 0 < o.e.lends
    · rw [if_pos hlen] at hFR
      subst hFR
      have ql : decide (0 < o.e.lends) = true := decide_eq_true hlen
      clear hlen
      go_enter Try.func41, Try.ntmps41
      go_wp2_with (first | (go_at_call 63; refine hfi.mono ?_; rintro e w' ⟨rfl, rfl⟩))
      go_ret3
      exact ⟨rfl, HT0.out.aftB ((Below.refl _ _).alloc (Nat.le_refl _) _)⟩
    · rw [if_neg hlen] at hFR
      subst hFR
      have ql : decide (0 < o.e.lends) = false := decide_eq_false hlen
      clear hlen
      go_enter Try.func41, Try.ntmps41
      go_upto_region 8 with (first | (go_at_call 63; refine hfi.mono ?_; rintro e w' ⟨rfl, rfl⟩) | (go_at_call 64; refine (HWO.out _ (HWI.out.alloc _)).mono ?_; rintro e w9 ⟨rfl, hA⟩))
      have hX := aftR_blk hA (heap_alloc_new _ _) (fun z => Nat.lt_irrefl _ z.2)
      have y2 : w9.cell? ⟨w'.heap.size, 2, none⟩ = some (.int .i64 o.e.rep) := (blk_cell hX 2).trans rfl
      have y3 : w9.cell? ⟨w'.heap.size, 3, none⟩ = some (.bool o.e.own) := (blk_cell hX 3).trans rfl
      have HA := Aside0.mk (AftR.of hA ((Below.refl _ _).alloc (Nat.le_refl _) _) (fun b hb => hb.1) HT0.out.b0le HT0.out.low)
      clear hA hX
      go_wp2
      repeat (go_quiet (fail); try go_wp2)
      go_ret3
      exact ⟨rfl, HA.out.drew _⟩
set_option maxHeartbeats 16000000 in
set_option maxRecDepth 100000 in
theorem take42_calls {w : World} {g b0 : Nat} {V : RV} {R : RF} {D : Nat → Prop} (hT : RT w g b0 V R D) (i r h : Int) (hl : R.L.length < 1000000) :
    Calls Try.prog 42 #[.pointer (some ⟨g, 0, none⟩), .int .i64 i, .int .i64 r, .int .i64 h] w fun z w' => z = .returned (.tuple #[.int .i64 (R.take i r h).1, .int .i64 (R.take i r h).2.1]) ∧ AftR w g b0 D (R.take i r h).2.2 w' := by
  have hfi := find_calls hT i r h
  obtain ⟨FR, hFR⟩ : ∃ FR, FR = R.take i r h := ⟨_, rfl⟩
  rw [← hFR]
  unfold RF.take at hFR
  have HT0 := Aside0.mk hT
  cases hf : fnd (isOn i r h) R.L 0 with
  | none =>
    rw [hf] at hFR
    dsimp only at hFR
    subst hFR
    rw [fnd_no hf] at hfi
    clear hf hT
    go_enter Try.func42, Try.ntmps42
    go_wp2_with (first | (go_at_call 63; refine hfi.mono ?_; rintro e w' ⟨rfl, rfl⟩))
    go_ret2
    exact ⟨rfl, HT0.out.aft⟩
  | some k =>
    rw [hf] at hFR
    dsimp only at hFR
    obtain ⟨h1, h2, h3, h4, h5⟩ := fnd_at hf
    rw [h5] at hfi
    have q0 : decide ((k : Int) < 0) = false := decide_eq_false (by omega)
    obtain ⟨b, cap, f1, f2, f3, f4⟩ := hT.row h1
    have c2 : w.cell? ⟨g, 2, none⟩ = some (.slice (some ⟨b, 0, none⟩) R.L.length cap) := by rw [← f1]; exact (hT.cell 2).trans rfl
    have p2 : (0 ≤ (k : Int)) = True := eq_true (Int.natCast_nonneg k)
    have p3 : ((k : Int) < (R.L.length : Int)) = True := eq_true (by omega)
    have k1 : w.cell? ⟨b, k * 7 + 1, none⟩ = some (.int .i64 (R.nth k).h) := f4 1 _ rfl
    have k2 : w.cell? ⟨b, k * 7 + 2, none⟩ = some (.int .i64 (R.nth k).e.r) := f4 2 _ rfl
    have k3 : w.cell? ⟨b, k * 7 + 3, none⟩ = some (.int .i64 (R.nth k).e.rep) := f4 3 _ rfl
    have k4 : w.cell? ⟨b, k * 7 + 4, none⟩ = some (.bool (R.nth k).e.own) := f4 4 _ rfl
    have k5 : w.cell? ⟨b, k * 7 + 5, none⟩ = some (.int .i64 (R.nth k).e.lends) := f4 5 _ rfl
    have k6 : w.cell? ⟨b, k * 7 + 6, none⟩ = some (.int .i64 (R.nth k).e.call) := f4 6 _ rfl
    have hwo := fun W (hW : RT W g b0 V R (fun b => D b ∧ b < w.heap.size)) => without_calls hW k f2 hl
    have hwith := hT.within
    change RT w g b0 V R (fun b => D b ∧ b < w.heap.size) at hwith
    have HWO := Aside0.mk hwo
    have HWI := Aside0.mk hwith
    clear hwo hwith hf h1 h2 h3 h4 h5 f4 hT
    generalize R.nth k = o at *
    by_cases ho : o.e.own = true
    · rw [if_pos ho] at hFR
      rw [ho] at k4
      have ho2 := Aside0.mk ho
      clear ho
      by_cases hlen : 0 < o.e.lends
      · rw [if_pos hlen] at hFR
        subst hFR
        have ql : decide (0 < o.e.lends) = true := decide_eq_true hlen
        clear hlen
        go_enter Try.func42, Try.ntmps42
        go_wp2_with (first | (go_at_call 63; refine hfi.mono ?_; rintro e w' ⟨rfl, rfl⟩))
        go_ret2
        exact ⟨rfl, HT0.out.aftB ((Below.refl _ _).alloc (Nat.le_refl _) _)⟩
      · rw [if_neg hlen] at hFR
        subst hFR
        have ql : decide (0 < o.e.lends) = false := decide_eq_false hlen
        clear hlen
        go_enter Try.func42, Try.ntmps42
        go_upto_region 8 with (first | (go_at_call 63; refine hfi.mono ?_; rintro e w' ⟨rfl, rfl⟩) | (go_at_call 64; refine (HWO.out _ (HWI.out.alloc _)).mono ?_; rintro e w9 ⟨rfl, hA⟩))
        have hX := aftR_blk hA (heap_alloc_new _ _) (fun z => Nat.lt_irrefl _ z.2)
        have y2 : w9.cell? ⟨w'.heap.size, 2, none⟩ = some (.int .i64 o.e.rep) := (blk_cell hX 2).trans rfl
        have y3 : w9.cell? ⟨w'.heap.size, 3, none⟩ = some (.bool true) := (blk_cell hX 3).trans rfl
        have HA := Aside0.mk (AftR.of hA ((Below.refl _ _).alloc (Nat.le_refl _) _) (fun b hb => hb.1) HT0.out.b0le HT0.out.low)
        clear hA hX
        go_wp2
        repeat (go_quiet (fail); try go_wp2)
        go_ret2
        exact ⟨rfl, HA.out⟩
    · rw [if_neg ho] at hFR
      subst hFR
      have ho' : o.e.own = false := by simpa using ho
      rw [ho'] at k4
      clear ho ho'
      go_enter Try.func42, Try.ntmps42
      go_wp2_with (first | (go_at_call 63; refine hfi.mono ?_; rintro e w' ⟨rfl, rfl⟩))
      repeat (go_quiet (fail); try go_wp2)
      go_ret2
      exact ⟨rfl, HT0.out.aft⟩
def On.lnd (o : On) (x : Int) : On := { o with e := { o.e with lends := x } }
theorem set_on : ∀ (L : List On) (k : Nat) (o : On) (x : Int), L[k]? = some o → (L.set k (o.lnd x)).flatMap On.cells = (L.flatMap On.cells).set (k * 7 + 5) (.int .i64 x)
  | [], _, _, _, h => by cases h
  | a :: l, 0, o, x, h => by
    injection h with h
    subst h
    rfl
  | a :: l, k + 1, o, x, h => by
    rw [List.set_cons_succ, List.flatMap_cons, List.flatMap_cons, set_on l k o x h, List.set_append_right _ _ (by rw [on_seven]; omega), on_seven, show (k + 1) * 7 + 5 - 7 = k * 7 + 5 by omega]
theorem RT.lnd {w : World} {g b0 : Nat} {V : RV} {R : RF} {D : Nat → Prop} (h : RT w g b0 V R D) {k b : Nat} {o : On} (hk : R.L[k]? = some o) (hb : V.lv.ownBlock = some b) (x : Int) :
    RT (w.setCell ⟨b, k * 7 + 5, none⟩ (.int .i64 x)) g b0 V { R with L := R.L.set k (o.lnd x) } D ∧ Fr w (w.setCell ⟨b, k * 7 + 5, none⟩ (.int .i64 x)) D := by
  have hlt := (List.getElem?_eq_some_iff.1 hk).1
  obtain ⟨hbl, cu, hcu⟩ := own_lt h.lo hb
  have hold : ∀ q, q ≠ b → (w.setCell ⟨b, k * 7 + 5, none⟩ (.int .i64 x)).heap[q]? = w.heap[q]? := fun q hq => Below.heap_setCell w _ _ q hq
  have hF : Fr w (w.setCell ⟨b, k * 7 + 5, none⟩ (.int .i64 x)) D := ⟨by simp [World.setCell], fun q _ hn => hold q (fun z => hn (z ▸ h.loD b hb)), ⟨rfl, rfl, rfl⟩⟩
  refine ⟨{ h with top := (hold g (blk_ne h.top hcu (by decide))).trans h.top, mki := ints_same h.mki fun hp a ha => hold _ (fun z => by have := h.low b (h.loD b hb); have := h.mkB hp a ha; omega), b0le := Nat.le_trans h.b0le hF.1, lo := ?_, co := own_same h.co fun q hq => hold q (by obtain ⟨_, cq, hcq⟩ := own_lt h.co hq; exact blk_ne hcq hcu (by decide)), tO := own_same h.tO fun q hq => hold q (by obtain ⟨_, cq, hcq⟩ := own_lt h.tO hq; exact blk_ne hcq hcu (by decide)) }, hF⟩
  show (w.setCell ⟨b, k * 7 + 5, none⟩ (.int .i64 x)).ownsRow 0 83 7 V.lv (R.L.set k (o.lnd x)).length ((R.L.set k (o.lnd x)).flatMap On.cells)
  rw [set_on R.L k o x hk, List.length_set]
  exact own_set h.lo hb (by rw [on_len]; omega)
def RF.lend (R : RF) (i r h : Int) : Int × Int × RF := match fnd (isOn i r h) R.L 0 with
  | none => (0, 17, R)
  | some k => if R.calls.length = 0 then (0, 17, R) else ((R.nth k).e.rep, 0, { R with L := R.L.set k ((R.nth k).lnd (wrap64 ((R.nth k).e.lends + 1))), lent := R.lent ++ [((R.calls.length : Int), i, h)] })
set_option maxHeartbeats 16000000 in
set_option maxRecDepth 100000 in
theorem lend44_calls {w : World} {g b0 : Nat} {V : RV} {R : RF} {D : Nat → Prop} (hT : RT w g b0 V R D) (i r h : Int) (hl : R.lent.length < 1000000) :
    Calls Try.prog 44 #[.pointer (some ⟨g, 0, none⟩), .int .i64 i, .int .i64 r, .int .i64 h] w fun z w' => z = .returned (.tuple #[.int .i64 (R.lend i r h).1, .int .i64 (R.lend i r h).2.1]) ∧ AftR w g b0 D (R.lend i r h).2.2 w' := by
  have hfi := find_calls hT i r h
  obtain ⟨FR, hFR⟩ : ∃ FR, FR = R.lend i r h := ⟨_, rfl⟩
  rw [← hFR]
  unfold RF.lend at hFR
  have HT0 := Aside0.mk hT
  obtain ⟨cA, cc, hcv⟩ := own_slice hT.co
  have c3 : w.cell? ⟨g, 3, none⟩ = some (.slice cA R.calls.length cc) := by rw [← hcv]; exact (hT.cell 3).trans rfl
  cases hf : fnd (isOn i r h) R.L 0 with
  | none =>
    rw [hf] at hFR
    dsimp only at hFR
    subst hFR
    rw [fnd_no hf] at hfi
    clear hf hT
    go_enter Try.func44, Try.ntmps44
    go_wp2_with (first | (go_at_call 63; refine hfi.mono ?_; rintro e w' ⟨rfl, rfl⟩))
    go_ret2
    exact ⟨rfl, HT0.out.aft⟩
  | some k =>
    rw [hf] at hFR
    dsimp only at hFR
    obtain ⟨h1, h2, h3, h4, h5⟩ := fnd_at hf
    rw [h5] at hfi
    have q0 : decide ((k : Int) < 0) = false := decide_eq_false (by omega)
    by_cases hc : R.calls.length = 0
    · rw [if_pos hc] at hFR
      subst hFR
      have dc : ((R.calls.length : Int) == 0) = true := by rw [hc]; rfl
      clear hc hf h1 h2 h3 h4 h5 hT
      go_enter Try.func44, Try.ntmps44
      go_wp2_with (first | (go_at_call 63; refine hfi.mono ?_; rintro e w' ⟨rfl, rfl⟩))
      go_ret2
      exact ⟨rfl, HT0.out.aft⟩
    · rw [if_neg hc] at hFR
      subst hFR
      have dc : ((R.calls.length : Int) == 0) = false := beq_eq_false_iff_ne.2 (by omega)
      obtain ⟨b, cap, f1, f2, f3, f4⟩ := hT.row h1
      have c2 : w.cell? ⟨g, 2, none⟩ = some (.slice (some ⟨b, 0, none⟩) R.L.length cap) := by rw [← f1]; exact (hT.cell 2).trans rfl
      have p2 : (0 ≤ (k : Int)) = True := eq_true (Int.natCast_nonneg k)
      have p3 : ((k : Int) < (R.L.length : Int)) = True := eq_true (by omega)
      have k5 : w.cell? ⟨b, k * 7 + 5, none⟩ = some (.int .i64 (R.nth k).e.lends) := f4 5 _ rfl
      obtain ⟨_, cu, hcu⟩ := own_lt hT.lo f3
      have k5f : w.frozen? ⟨b, k * 7 + 5, none⟩ = false := blk_frozen hcu _
      obtain ⟨z1, z2⟩ := hT.lnd h1 f3 (wrap64 ((R.nth k).e.lends + 1))
      have hk2 : (R.L.set k ((R.nth k).lnd (wrap64 ((R.nth k).e.lends + 1))))[k]? = some ((R.nth k).lnd (wrap64 ((R.nth k).e.lends + 1))) := by rw [List.getElem?_set_self f2]
      generalize R.nth k = o at k5 z1 z2 hk2 ⊢
      clear hc hf h1 h2 h3 h4 h5 f4 hT hcu
      go_enter Try.func44, Try.ntmps44
      go_upto_region 5 with (first | (go_at_call 63; refine hfi.mono ?_; rintro e w' ⟨rfl, rfl⟩))
      go_region
      replace z1 : RT (w'.setCell ⟨b, k * 7 + 1 + 4, none⟩ (.int .i64 (wrap64 (o.e.lends + 1)))).drew g b0 V { R with L := R.L.set k (o.lnd (wrap64 (o.e.lends + 1))) } D := z1.drewN 1
      replace z2 : Fr w' (w'.setCell ⟨b, k * 7 + 1 + 4, none⟩ (.int .i64 (wrap64 (o.e.lends + 1)))).drew D := z2.drawn ⟨1, rfl⟩
      generalize (w'.setCell ⟨b, k * 7 + 1 + 4, none⟩ (.int .i64 (wrap64 (o.e.lends + 1)))).drew = w2 at z1 z2 ⊢
      clear k5 k5f c3 hfi
      obtain ⟨tA, tc, htv⟩ := own_slice z1.tO
      have t4 : w2.cell? ⟨g, 4, none⟩ = some (.slice tA R.lent.length tc) := by rw [← htv]; exact (z1.cell 4).trans rfl
      have t3 : w2.cell? ⟨g, 3, none⟩ = some (.slice cA R.calls.length cc) := by rw [← hcv]; exact (z1.cell 3).trans rfl
      have t4a : (w2.alloc (.cells #[.int .i64 R.calls.length, .int .i64 i, .int .i64 h] 110)).cell? ⟨g, 4, none⟩ = some (.slice tA R.lent.length tc) := by rw [← htv]; exact ((z1.alloc _).cell 4).trans rfl
      obtain ⟨v', w4, a1, a2, a3, a4, A', c', rfl⟩ := lc_append (z1.drewN 1).tO ((R.calls.length : Int), i, h) hl (Nat.zero_le _) 79
      change (Builtin.append_ _ _ #[V.tv, _]).run _ ((w2.drewN 1).alloc (.cells #[.int .i64 R.calls.length, .int .i64 i, .int .i64 h] 110)) = _ at a1
      rw [htv] at a1
      have A1 := Aside0.mk a1
      obtain ⟨y1, y2, y3⟩ := (z1.drewN 1).setT a3 a2 (hat_of a4) rfl
      have hg4 : w4.heap[g]? = some (.cells (topR V R) 81 (0, 0)) := (a3.block g (blk_lt z1.top) (fun z => by obtain ⟨_, cu, hcu⟩ := own_lt z1.tO z.symm; exact blk_ne z1.top hcu (by decide) rfl)).trans z1.top
      have s2 : w4.cell? ⟨g, 4, none⟩ = some V.tv := (blk_cell hg4 4).trans rfl
      have s2f : w4.frozen? ⟨g, 4, none⟩ = false := blk_frozen hg4 4
      obtain ⟨b', cap', g1, g2, g3, g4⟩ := y1.row hk2
      have hbb : b' = b := by
        have g3' : V.lv.ownBlock = some b' := g3
        rw [f3] at g3'; injection g3' with g3'; exact g3'.symm
      subst hbb
      have r2 : (w4.setCell ⟨g, 4, none⟩ (.slice A' (R.lent.length + 1) c')).cell? ⟨g, 2, none⟩ = some (.slice (some ⟨b', 0, none⟩) R.L.length cap) := by rw [← f1]; exact (y1.cell 2).trans rfl
      have r3 : (w4.setCell ⟨g, 4, none⟩ (.slice A' (R.lent.length + 1) c')).cell? ⟨b', k * 7 + 3, none⟩ = some (.int .i64 o.e.rep) := g4 3 _ rfl
      have HZ : Aside0 (AftR w' g b0 D { R with L := R.L.set k (o.lnd (wrap64 (o.e.lends + 1))), lent := R.lent ++ [((R.calls.length : Int), i, h)] } (w4.setCell ⟨g, 4, none⟩ (.slice A' (R.lent.length + 1) c'))) := ⟨_, y1.imp (fun q hq => hq.imp id (fun z => Nat.le_trans z2.1 z)) (fun q hq => hq.elim (HT0.out.low q) (fun z => Nat.le_trans HT0.out.b0le z)), Fr.trans (D1 := D) z2 (y2.from ⟨1, rfl⟩) (fun _ _ h => h)⟩
      clear a1 a2 a3 a4 y1 y2 y3 z1 z2 hg4 g1 g2 g3 g4 c2 hk2
      go_wp2
      go_region_law (refine step_append_eq rfl (.tmp 48) (.tmp 57) 79 rfl rfl rfl A1.out ?_)
      all_goals
        go_wp2
        go_ret2
        exact ⟨rfl, HZ.out⟩
def RF.enter (R : RF) (i : Int) : Int × RF := if 0 ≤ i then if i < (R.n : Int) then if R.calls.any (fun c => c == i) = true then (19, R) else if R.calls.length = 16 then (8, R) else (0, { R with calls := R.calls ++ [i] }) else (19, R) else (19, R)
theorem any_step {l : List Int} {k : Nat} {x i : Int} (hx : l[k]? = some x) (hn : (l.take k).any (fun c => c == i) = false) (hi : (x == i) = false) : (l.take (k + 1)).any (fun c => c == i) = false := by
  rw [List.take_add_one, hx, Option.toList_some, List.any_append, hn]
  simp [hi]
theorem any_hit {l : List Int} {k : Nat} {x i : Int} (hx : l[k]? = some x) (hi : (x == i) = true) : l.any (fun c => c == i) = true := List.any_eq_true.2 ⟨x, List.mem_of_getElem? hx, hi⟩
set_option maxHeartbeats 16000000 in
set_option maxRecDepth 100000 in
theorem enter46_calls {w : World} {g b0 : Nat} {V : RV} {R : RF} {D : Nat → Prop} (hT : RT w g b0 V R D) (i : Int) (hl : R.calls.length < 1000000) :
    Calls Try.prog 46 #[.pointer (some ⟨g, 0, none⟩), .int .i64 i] w fun z w' => z = .returned (.int .i64 (R.enter i).1) ∧ AftR w g b0 D (R.enter i).2 w' := by
  obtain ⟨FR, hFR⟩ : ∃ FR, FR = R.enter i := ⟨_, rfl⟩
  rw [← hFR]
  unfold RF.enter at hFR
  have HT0 := Aside0.mk hT
  have c0 : w.cell? ⟨g, 0, none⟩ = some (.int .i64 R.n) := (hT.cell 0).trans rfl
  by_cases h0 : 0 ≤ i
  · rw [if_pos h0] at hFR
    have bz : decide (i < 0) = false := decide_eq_false (by omega)
    by_cases h1 : i < (R.n : Int)
    · rw [if_pos h1] at hFR
      have b1 : decide ((R.n : Int) ≤ i) = false := decide_eq_false (by omega)
      obtain ⟨cA, cc, hcv⟩ := own_slice hT.co
      have HC := Aside0.mk hT.co
      have c3 : w.cell? ⟨g, 3, none⟩ = some (.slice cA R.calls.length cc) := by rw [← hcv]; exact (hT.cell 3).trans rfl
      have HFR := Aside0.mk hFR
      clear hFR hT h0 h1
      go_enter Try.func46, Try.ntmps46
      go_wp2
      go_loopg [5] R.calls.length (fun gg s5 wr => wr = w ∧ ∃ kk : Nat, kk ≤ R.calls.length ∧ R.calls.length - kk ≤ gg ∧ s5 = Value.int .i64 (kk : Int) ∧ Aside0 ((R.calls.take kk).any (fun c => c == i) = false))
      case atStart => exact ⟨rfl, 0, Nat.zero_le _, by omega, rfl, ⟨rfl⟩⟩
      case round =>
        obtain ⟨rfl, kk, hkk, hg, rfl, AN⟩ := hrel
        by_cases hlt : kk < R.calls.length
        · obtain ⟨x, hx⟩ : ∃ x, R.calls[kk]? = some x := ⟨_, List.getElem?_eq_getElem hlt⟩
          obtain ⟨b, cap, e1, e2, e3, e4⟩ := own_cells HC.out (by omega)
          rw [hcv] at e1
          injection e1 with e1 _ e5
          subst e1; subst e5
          have p0 : (0 ≤ (kk : Int)) = True := eq_true (Int.natCast_nonneg kk)
          have p1 : ((kk : Int) < (R.calls.length : Int)) = True := eq_true (by omega)
          have p3 : decide ((kk : Int) < (R.calls.length : Int)) = true := decide_eq_true (by omega)
          have k0 : wr.cell? ⟨b, kk, none⟩ = some (.int .i64 x) := e4 kk _ (by rw [List.getElem?_map, hx]; rfl)
          clear e4 e3
          cases hq : (x == i) with
          | true =>
            have hF : FR = (19, R) := by rw [HFR.out, if_pos (any_hit hx hq)]
            have HF := Aside0.mk hF
            clear hx hF
            go_wp2
            go_ret
            rw [HF.out]
            exact ⟨rfl, HT0.out.aft⟩
          | false =>
            have AN2 := Aside0.mk (any_step hx AN.out hq)
            clear hx AN
            go_wp2
            go_roundg (R.calls.length - (kk + 1))
            case measure => omega
            case rel => exact ⟨rfl, kk + 1, by omega, by omega, by first | rfl | (congr 1; unfold wrap64; omega), AN2⟩
        · have p3 : decide ((kk : Int) < (R.calls.length : Int)) = false := decide_eq_false (by omega)
          have han := AN.out
          rw [List.take_of_length_le (by omega)] at han
          have hF := HFR.out
          rw [if_neg (by rw [han]; decide)] at hF
          clear AN han HFR
          by_cases h16 : R.calls.length = 16
          · rw [if_pos h16] at hF
            subst hF
            have q16 : ((R.calls.length : Int) == 16) = true := by rw [h16]; rfl
            clear h16
            go_wp2
            go_ret
            exact ⟨rfl, HT0.out.aft⟩
          · rw [if_neg h16] at hF
            subst hF
            have q16 : ((R.calls.length : Int) == 16) = false := beq_eq_false_iff_ne.2 (by omega)
            clear h16
            have hT := HT0.out
            have c3a : (wr.alloc (.cells #[.int .i64 i] 3)).cell? ⟨g, 3, none⟩ = some (.slice cA R.calls.length cc) := by rw [← hcv]; exact ((hT.alloc _).cell 3).trans rfl
            obtain ⟨v', w4, a1, a2, a3, a4, A', c', rfl⟩ := calls_push hT.co i hl 44
            rw [hcv] at a1
            change (Builtin.append_ _ _ _).run _ (wr.alloc (.cells #[.int .i64 i] 3)) = _ at a1
            have A1 := Aside0.mk a1
            obtain ⟨y1, y2, y3⟩ := hT.setC a3 a2 (hat_of a4) rfl
            have hg4 : w4.heap[g]? = some (.cells (topR V R) 81 (0, 0)) := (a3.block g (blk_lt hT.top) (fun z => by obtain ⟨_, cu, hcu⟩ := own_lt hT.co z.symm; exact blk_ne hT.top hcu (by decide) rfl)).trans hT.top
            have s2 : w4.cell? ⟨g, 3, none⟩ = some V.cv := (blk_cell hg4 3).trans rfl
            have s2f : w4.frozen? ⟨g, 3, none⟩ = false := blk_frozen hg4 3
            have HZ : Aside0 (AftR wr g b0 D { R with calls := R.calls ++ [i] } (w4.setCell ⟨g, 3, none⟩ (.slice A' (R.calls.length + 1) c'))) := ⟨_, y1, y2⟩
            clear a1 a2 a3 a4 y1 y2 y3 hg4 hT
            go_wp2_with (first | (at_builtin; refine wpList_append_eq rfl _ _ 44 rfl rfl rfl A1.out ?_))
            go_ret
            exact ⟨rfl, HZ.out⟩
    · rw [if_neg h1] at hFR
      subst hFR
      have b1 : decide ((R.n : Int) ≤ i) = true := decide_eq_true (by omega)
      go_enter Try.func46, Try.ntmps46
      go_wp2
      go_ret
      exact ⟨rfl, HT0.out.aft⟩
  · rw [if_neg h0] at hFR
    subst hFR
    have bz : decide (i < 0) = true := decide_eq_true (by omega)
    go_enter Try.func46, Try.ntmps46
    go_wp2
    go_ret
    exact ⟨rfl, HT0.out.aft⟩
/-- A handle that is lent once less. -/
def decN (p : Int × Int) (o : On) : On := if o.i = p.1 ∧ o.h = p.2 then o.lnd (wrap64 (o.e.lends - 1)) else o
def decs (L : List On) (l : List (Int × Int)) : List On := l.foldl (fun L p => L.map (decN p)) L
def ofCall (n : Nat) (l : List (Int × Int × Int)) : List (Int × Int) := (l.filter fun x => x.1 == (n : Int)).map (·.2)
def notCall (n : Nat) (l : List (Int × Int × Int)) : List (Int × Int × Int) := l.filter fun x => x.1 != (n : Int)
def RF.leave (R : RF) : Int × RF := if R.calls.length = 0 then (20, R) else if R.L.any (fun o => o.e.call == (R.calls.length : Int)) = true then (18, R) else (0, { R with L := decs R.L (ofCall R.calls.length R.lent), lent := notCall R.calls.length R.lent, calls := R.calls.dropLast })
theorem decs_len (l : List (Int × Int)) : ∀ L : List On, (decs L l).length = L.length := by
  induction l with
  | nil => intro L; rfl
  | cons p l ih => intro L; unfold decs; rw [List.foldl_cons]; exact (ih _).trans (List.length_map _)
def half (L : List On) (p : Int × Int) (j : Nat) : List On := (L.take j).map (decN p) ++ L.drop j
theorem half_zero (L : List On) (p : Int × Int) : half L p 0 = L := by simp [half]
theorem half_all (L : List On) (p : Int × Int) : half L p L.length = L.map (decN p) := by simp [half]
theorem half_len (L : List On) (p : Int × Int) (j : Nat) : (half L p j).length = L.length := by simp [half]; omega
theorem half_at {L : List On} {p : Int × Int} {j : Nat} {o : On} (h : L[j]? = some o) : (half L p j)[j]? = some o := by
  have hj := (List.getElem?_eq_some_iff.1 h).1
  have hl : ((L.take j).map (decN p)).length = j := by simp; omega
  unfold half
  rw [List.getElem?_append_right (by omega), hl, Nat.sub_self, List.getElem?_drop, Nat.add_zero]
  exact h
theorem half_step {L : List On} {p : Int × Int} {j : Nat} {o : On} (h : L[j]? = some o) : half L p (j + 1) = (half L p j).set j (decN p o) := by
  have hj := (List.getElem?_eq_some_iff.1 h).1
  have hl : ((L.take j).map (decN p)).length = j := by simp; omega
  have hd : L.drop j = o :: L.drop (j + 1) := by
    obtain ⟨h1, h2⟩ := List.getElem?_eq_some_iff.1 h
    rw [← h2]; exact List.drop_eq_getElem_cons h1
  unfold half
  rw [List.set_append_right _ _ (by omega), hl, Nat.sub_self, hd, List.set_cons_zero, List.take_add_one, h, Option.toList_some, List.map_append, List.append_assoc]
  rfl
theorem half_same {L : List On} {p : Int × Int} {j : Nat} {o : On} (h : L[j]? = some o) (hn : ¬ (o.i = p.1 ∧ o.h = p.2)) : half L p (j + 1) = half L p j := by
  rw [half_step h, show decN p o = o by unfold decN; rw [if_neg hn]]
  have h2 := half_at (p := p) h
  refine List.ext_getElem? fun q => ?_
  rw [List.getElem?_set]
  split
  · rename_i hq
    subst hq
    rw [if_pos (List.getElem?_eq_some_iff.1 h2).1, h2]
  · rfl
theorem ofCall_hit {n : Nat} {l : List (Int × Int × Int)} {k : Nat} {x : Int × Int × Int} (h : l[k]? = some x) (hx : x.1 = (n : Int)) : ofCall n (l.take (k + 1)) = ofCall n (l.take k) ++ [x.2] ∧ notCall n (l.take (k + 1)) = notCall n (l.take k) := by
  unfold ofCall notCall
  rw [List.take_add_one, h, Option.toList_some, List.filter_append, List.filter_append, List.map_append]
  constructor
  · simp [hx]
  · simp [hx]
theorem ofCall_miss {n : Nat} {l : List (Int × Int × Int)} {k : Nat} {x : Int × Int × Int} (h : l[k]? = some x) (hx : x.1 ≠ (n : Int)) : ofCall n (l.take (k + 1)) = ofCall n (l.take k) ∧ notCall n (l.take (k + 1)) = notCall n (l.take k) ++ [x] := by
  unfold ofCall notCall
  rw [List.take_add_one, h, Option.toList_some, List.filter_append, List.filter_append, List.map_append]
  constructor
  · simp [hx]
  · simp [hx]
theorem decs_step (L : List On) (l : List (Int × Int)) (p : Int × Int) : decs L (l ++ [p]) = (decs L l).map (decN p) := by
  unfold decs; rw [List.foldl_append]; rfl
theorem any_onstep {l : List On} {k : Nat} {x : On} {n : Int} (hx : l[k]? = some x) (hn : (l.take k).any (fun c => c.e.call == n) = false) (hi : (x.e.call == n) = false) : (l.take (k + 1)).any (fun c => c.e.call == n) = false := by
  rw [List.take_add_one, hx, Option.toList_some, List.any_append, hn]
  simp [hi]
theorem any_onhit {l : List On} {k : Nat} {x : On} {n : Int} (hx : l[k]? = some x) (hi : (x.e.call == n) = true) : l.any (fun c => c.e.call == n) = true := List.any_eq_true.2 ⟨x, List.mem_of_getElem? hx, hi⟩
set_option maxHeartbeats 32000000 in
set_option maxRecDepth 100000 in
theorem leave47_calls {w : World} {g b0 : Nat} {V : RV} {R : RF} {D : Nat → Prop} (hT0 : RT w g b0 V R D) (hl : R.lent.length < 1000000) :
    Calls Try.prog 47 #[.pointer (some ⟨g, 0, none⟩)] w fun z w' => z = .returned (.int .i64 R.leave.1) ∧ AftR w g b0 D R.leave.2 w' := by
  have hT := hT0.within
  have HTT := Aside0.mk hT0
  obtain ⟨FR, hFR⟩ : ∃ FR, FR = R.leave := ⟨_, rfl⟩
  rw [← hFR]
  unfold RF.leave at hFR
  have HFR := Aside0.mk hFR
  obtain ⟨cA, cc, hcv⟩ := own_slice hT.co
  have c3 : w.cell? ⟨g, 3, none⟩ = some (.slice cA R.calls.length cc) := by rw [← hcv]; exact (hT.cell 3).trans rfl
  clear hFR hT0
  by_cases hn : R.calls.length = 0
  · have hF : FR = (20, R) := by rw [HFR.out, if_pos hn]
    subst hF
    have q0 : ((R.calls.length : Int) == 0) = true := by rw [hn]; rfl
    clear hn HFR
    go_enter Try.func47, Try.ntmps47
    go_wp2
    go_ret
    exact ⟨rfl, HTT.out.aft⟩
  · have q0 : ((R.calls.length : Int) == 0) = false := beq_eq_false_iff_ne.2 (by omega)
    have HN := Aside0.mk hn
    obtain ⟨lA, lc, hlv⟩ := own_slice hT.lo
    have c2 : w.cell? ⟨g, 2, none⟩ = some (.slice lA R.L.length lc) := by rw [← hlv]; exact (hT.cell 2).trans rfl
    have HT0 := Aside0.mk hT
    have hmx : R.L.length ≤ 9223372036854775807 := own_max hT.lo
    clear hT hn
    go_enter Try.func47, Try.ntmps47
    go_wp2
    go_loopg [4] R.L.length (fun gg s4 wr => wr = w ∧ ∃ kk : Nat, kk ≤ R.L.length ∧ R.L.length - kk ≤ gg ∧ s4 = Value.int .i64 (kk : Int) ∧ Aside0 ((R.L.take kk).any (fun c => c.e.call == (R.calls.length : Int)) = false))
    case atStart => exact ⟨rfl, 0, Nat.zero_le _, by omega, rfl, ⟨rfl⟩⟩
    case round =>
      obtain ⟨hww, kk, hkk, hg, rfl, AN⟩ := hrel
      obtain rfl : w = wr := hww.symm
      clear hww
      by_cases hlt : kk < R.L.length
      · obtain ⟨o, ho⟩ : ∃ o, R.L[kk]? = some o := ⟨_, List.getElem?_eq_getElem hlt⟩
        obtain ⟨b, cap, e1, _, _, e4⟩ := HT0.out.row ho
        rw [hlv] at e1
        injection e1 with e1 _ e2
        subst e1; subst e2
        have p0 : (0 ≤ (kk : Int)) = True := eq_true (Int.natCast_nonneg kk)
        have p1 : ((kk : Int) < (R.L.length : Int)) = True := eq_true (by omega)
        have p3 : decide ((kk : Int) < (R.L.length : Int)) = true := decide_eq_true (by omega)
        have k6 : w.cell? ⟨b, kk * 7 + 6, none⟩ = some (.int .i64 o.e.call) := e4 6 _ rfl
        clear e4
        cases hq : (o.e.call == (R.calls.length : Int)) with
        | true =>
          have hF : FR = (18, R) := by rw [HFR.out, if_neg HN.out, if_pos (any_onhit ho hq)]
          have HF := Aside0.mk hF
          clear ho hF
          go_wp2
          go_ret
          rw [HF.out]
          exact ⟨rfl, HTT.out.aft⟩
        | false =>
          have AN2 := Aside0.mk (any_onstep ho AN.out hq)
          clear ho AN
          go_wp2
          go_roundg (R.L.length - (kk + 1))
          case measure => omega
          case rel => exact ⟨rfl, kk + 1, by omega, by omega, by first | rfl | (congr 1; unfold wrap64; omega), AN2⟩
      · have p3 : decide ((kk : Int) < (R.L.length : Int)) = false := decide_eq_false (by omega)
        have han := AN.out
        rw [List.take_of_length_le (by omega)] at han
        have hF := HFR.out
        rw [if_neg HN.out, if_neg (by rw [han]; decide)] at hF
        have HF := Aside0.mk hF
        clear AN han HFR hF
        obtain ⟨LF, hLF⟩ : ∃ LF : Nat → List On, LF = fun k => decs R.L (ofCall R.calls.length (R.lent.take k)) := ⟨_, rfl⟩
        obtain ⟨NF, hNF⟩ : ∃ NF : Nat → List (Int × Int × Int), NF = fun k => notCall R.calls.length (R.lent.take k) := ⟨_, rfl⟩
        have LZ : Aside0 (LF 0 = R.L) := ⟨by rw [hLF]; rfl⟩
        have NZ : Aside0 (NF 0 = []) := ⟨by rw [hNF]; rfl⟩
        have LL : Aside0 (∀ k, (LF k).length = R.L.length) := ⟨fun k => by rw [hLF]; exact decs_len _ _⟩
        have NN : Aside0 (∀ k, (NF k).length ≤ R.lent.length) := ⟨fun k => by rw [hNF]; exact Nat.le_trans (List.length_filter_le _ _) (List.length_take_le' _ _)⟩
        have HIT : Aside0 (∀ k x, R.lent[k]? = some x → x.1 = (R.calls.length : Int) → LF (k + 1) = (LF k).map (decN x.2) ∧ NF (k + 1) = NF k) := ⟨fun k x h1 h2 => by
          rw [hLF, hNF]
          dsimp only
          obtain ⟨q1, q2⟩ := ofCall_hit h1 h2
          rw [q1, q2, decs_step]; exact ⟨rfl, rfl⟩⟩
        have MISS : Aside0 (∀ k x, R.lent[k]? = some x → x.1 ≠ (R.calls.length : Int) → LF (k + 1) = LF k ∧ NF (k + 1) = NF k ++ [x]) := ⟨fun k x h1 h2 => by
          rw [hLF, hNF]
          dsimp only
          obtain ⟨q1, q2⟩ := ofCall_miss h1 h2
          rw [q1, q2]; exact ⟨rfl, rfl⟩⟩
        have LE : Aside0 (LF R.lent.length = decs R.L (ofCall R.calls.length R.lent) ∧ NF R.lent.length = notCall R.calls.length R.lent) := ⟨by rw [hLF, hNF]; dsimp only; rw [List.take_length]; exact ⟨rfl, rfl⟩⟩
        have HLN := Aside0.mk hl
        obtain ⟨tA, tc, htv⟩ := own_slice HT0.out.tO
        have hmt : R.lent.length ≤ 9223372036854775807 := own_max HT0.out.tO
        clear hLF hNF hl
        go_wp2
        go_loopg [5, 6, 7] R.lent.length (fun gg s5 s6 s7 wx => ∃ k2 : Nat, k2 ≤ R.lent.length ∧ R.lent.length - k2 ≤ gg ∧ s6 = Value.int .i64 (k2 : Int) ∧ Aside0 (RT wx g b0 V { R with L := LF k2 } (fun b => D b ∧ b < w.heap.size)) ∧ Aside0 (Fr w wx (fun b => D b ∧ b < w.heap.size)) ∧ Aside0 (wx.ownsRow w.heap.size 110 3 s5 (NF k2).length ((NF k2).flatMap lcells)))
        case atStart => exact ⟨0, Nat.zero_le _, by omega, rfl, ⟨by rw [LZ.out]; exact HT0.out⟩, ⟨Fr.refl _ _⟩, ⟨by rw [NZ.out]; exact ⟨rfl, .inl ⟨rfl, rfl⟩⟩⟩⟩
        case round =>
          obtain ⟨k2, hk2, hg2, rfl, RX, FX, OX⟩ := hrel
          have t4 : wr.cell? ⟨g, 4, none⟩ = some (.slice tA R.lent.length tc) := by rw [← htv]; exact (RX.out.cell 4).trans rfl
          by_cases hlt2 : k2 < R.lent.length
          · obtain ⟨x, hx⟩ : ∃ x, R.lent[k2]? = some x := ⟨_, List.getElem?_eq_getElem hlt2⟩
            obtain ⟨b, cap, e1, _, e3, e4⟩ := RX.out.rowL (k := k2) (o := x) hx
            rw [htv] at e1 e3
            injection e1 with e1 _ e2
            subst e1
            have e2' : tc = cap := e2
            subst e2'
            have p4 : (0 ≤ (k2 : Int)) = True := eq_true (Int.natCast_nonneg k2)
            have p5 : ((k2 : Int) < (R.lent.length : Int)) = True := eq_true (by omega)
            have p6 : decide ((k2 : Int) < (R.lent.length : Int)) = true := decide_eq_true (by omega)
            have x0 : wr.cell? ⟨b, k2 * 3, none⟩ = some (.int .i64 x.1) := e4 0 _ rfl
            by_cases hx1 : x.1 = (R.calls.length : Int)
            · obtain ⟨s1, s2⟩ := HIT.out k2 x hx hx1
              have S1 := Aside0.mk s1
              have S2 := Aside0.mk s2
              have HX := Aside0.mk hx
              have qx : (x.1 != (R.calls.length : Int)) = false := by rw [hx1]; simp
              have E4 := Aside0.mk e4
              obtain ⟨LK, hLK⟩ : ∃ LK, LK = LF k2 := ⟨_, rfl⟩
              have LKL : LK.length = R.L.length := by rw [hLK]; exact LL.out k2
              have HH : ∀ j, (half LK x.2 j).length = R.L.length := fun j => (half_len _ _ _).trans LKL
              rw [← hLK] at RX
              have HLK := Aside0.mk hLK
              have HHL := Aside0.mk HH
              have HLKL := Aside0.mk LKL
              clear s1 s2 hx1 hx e4 e3 hLK HH LKL
              go_wp2
              go_loopg [7] R.L.length (fun gg s7 wy => ∃ jj : Nat, jj ≤ R.L.length ∧ R.L.length - jj ≤ gg ∧ s7 = Value.int .i64 (jj : Int) ∧ Aside0 (RT wy g b0 V { R with L := half LK x.2 jj } (fun b => D b ∧ b < w.heap.size)) ∧ Aside0 (Fr w wy (fun b => D b ∧ b < w.heap.size)) ∧ Aside0 (wy.ownsRow w.heap.size 110 3 u5 (NF k2).length ((NF k2).flatMap lcells)))
              case atStart => exact ⟨0, Nat.zero_le _, by omega, rfl, ⟨by rw [half_zero]; exact RX.out⟩, FX, OX⟩
              case round =>
                clear t4 x0 E4
                obtain ⟨jj, hjj, hgj, rfl, RY, FY, OY⟩ := hrel
                have t2 : wr.cell? ⟨g, 2, none⟩ = some (.slice lA R.L.length lc) := by rw [← hlv]; exact (RY.out.cell 2).trans rfl
                have t4 : wr.cell? ⟨g, 4, none⟩ = some (.slice (some ⟨b, 0, none⟩) R.lent.length tc) := by rw [← htv]; exact (RY.out.cell 4).trans rfl
                by_cases hlt3 : jj < R.L.length
                · obtain ⟨o, ho⟩ : ∃ o, LK[jj]? = some o := ⟨_, List.getElem?_eq_getElem (by rw [HLKL.out]; exact hlt3)⟩
                  have hho := half_at (p := x.2) ho
                  obtain ⟨lb, lcap, f1, _, f3, f4⟩ := RY.out.row (k := jj) (o := o) hho
                  rw [hlv] at f1
                  injection f1 with f1 f9 f2
                  clear f9
                  subst f1
                  have f2' : lc = lcap := f2
                  subst f2'
                  obtain ⟨xb, xcap, r1, _, r3, r4⟩ := RY.out.rowL (k := k2) (o := x) HX.out
                  rw [htv] at r1
                  injection r1 with r1 r9 r2
                  clear r9 r2
                  injection r1 with r1
                  injection r1 with r1
                  subst r1
                  have p7 : (0 ≤ (jj : Int)) = True := eq_true (Int.natCast_nonneg jj)
                  have p8 : ((jj : Int) < (R.L.length : Int)) = True := eq_true (by omega)
                  have p9 : decide ((jj : Int) < (R.L.length : Int)) = true := decide_eq_true (by omega)
                  have o0 : wr.cell? ⟨lb, jj * 7, none⟩ = some (.int .i64 o.i) := f4 0 _ rfl
                  have o1 : wr.cell? ⟨lb, jj * 7 + 1, none⟩ = some (.int .i64 o.h) := f4 1 _ rfl
                  have o5 : wr.cell? ⟨lb, jj * 7 + 5, none⟩ = some (.int .i64 o.e.lends) := f4 5 _ rfl
                  have x1 : wr.cell? ⟨b, k2 * 3 + 1, none⟩ = some (.int .i64 x.2.1) := r4 1 _ rfl
                  have x2 : wr.cell? ⟨b, k2 * 3 + 2, none⟩ = some (.int .i64 x.2.2) := r4 2 _ rfl
                  have HO := Aside0.mk ho
                  have F3 : Aside0 (V.lv.ownBlock = some lb) := ⟨f3⟩
                  clear f4 r4 r3 f3 ho
                  cases d1 : (o.i == x.2.1) with
                  | false =>
                    have HS := Aside0.mk (half_same (p := x.2) HO.out (fun z => by rw [z.1] at d1; simp at d1))
                    clear hho
                    go_wp2
                    repeat (go_quiet (fail); try go_wp2)
                    go_roundg (R.L.length - (jj + 1))
                    case measure => omega
                    case rel => exact ⟨jj + 1, by omega, by omega, by first | rfl | (congr 1; unfold wrap64; omega), ⟨by rw [HS.out]; exact RY.out.drewN nq⟩, ⟨FY.out.drawn ⟨nq, rfl⟩⟩, ⟨OY.out⟩⟩
                  | true =>
                    cases d2 : (o.h == x.2.2) with
                    | false =>
                      have HS := Aside0.mk (half_same (p := x.2) HO.out (fun z => by rw [z.2] at d2; simp at d2))
                      clear hho
                      go_wp2
                      repeat (go_quiet (fail); try go_wp2)
                      go_roundg (R.L.length - (jj + 1))
                      case measure => omega
                      case rel => exact ⟨jj + 1, by omega, by omega, by first | rfl | (congr 1; unfold wrap64; omega), ⟨by rw [HS.out]; exact RY.out.drewN nq⟩, ⟨FY.out.drawn ⟨nq, rfl⟩⟩, ⟨OY.out⟩⟩
                    | true =>
                      have hd : decN x.2 o = o.lnd (wrap64 (o.e.lends - 1)) := by unfold decN; rw [if_pos ⟨by simpa using d1, by simpa using d2⟩]
                      have HS := Aside0.mk ((half_step (p := x.2) HO.out).trans (by rw [hd]))
                      have HHO := Aside0.mk hho
                      clear hho hd
                      go_wp2
                      go_quiet (fail)
                      have hRq := RY.out.drewN nq
                      have hFq := FY.out.drawn (w2 := wr.drewN nq) ⟨nq, rfl⟩
                      have hOq : (wr.drewN nq).ownsRow w.heap.size 110 3 u5 (NF k2).length ((NF k2).flatMap lcells) := OY.out
                      clear t2 t4 o0 o1 o5 x1 x2
                      generalize wr.drewN nq = wq at hRq hFq hOq ⊢
                      have t2 : wq.cell? ⟨g, 2, none⟩ = some (.slice (some ⟨lb, 0, none⟩) R.L.length lc) := by rw [← hlv]; exact (hRq.cell 2).trans rfl
                      obtain ⟨lb', lcap, f1, _, f3, f4⟩ := hRq.row (k := jj) (o := o) HHO.out
                      have hlb : lb' = lb := by
                        have h1 := F3.out
                        rw [f3] at h1; injection h1
                      subst hlb
                      have o5 : wq.cell? ⟨lb', jj * 7 + 5, none⟩ = some (.int .i64 o.e.lends) := f4 5 _ rfl
                      obtain ⟨_, cu, hcu⟩ := own_lt hRq.lo F3.out
                      have o5f : wq.frozen? ⟨lb', jj * 7 + 5, none⟩ = false := blk_frozen hcu _
                      obtain ⟨z1, z2⟩ := hRq.lnd (k := jj) HHO.out F3.out (wrap64 (o.e.lends - 1))
                      have hlo := (hRq.loD lb' F3.out).2
                      have z3 : (wq.setCell ⟨lb', jj * 7 + 5, none⟩ (.int .i64 (wrap64 (o.e.lends - 1)))).ownsRow w.heap.size 110 3 u5 (NF k2).length ((NF k2).flatMap lcells) := own_same hOq fun q hq => Below.heap_setCell _ _ _ q (by have := own_ge hOq hq; show q ≠ lb'; omega)
                      replace z1 : RT (wq.setCell ⟨lb', jj * 7 + 1 + 4, none⟩ (.int .i64 (wrap64 (o.e.lends - 1)))).drew g b0 V { R with L := (half LK x.2 jj).set jj (o.lnd (wrap64 (o.e.lends - 1))) } (fun b => D b ∧ b < w.heap.size) := z1.drewN 1
                      replace z2 : Fr w (wq.setCell ⟨lb', jj * 7 + 1 + 4, none⟩ (.int .i64 (wrap64 (o.e.lends - 1)))).drew (fun b => D b ∧ b < w.heap.size) := (hFq.trans z2 (fun _ _ h => h)).drawn ⟨1, rfl⟩
                      replace z3 : (wq.setCell ⟨lb', jj * 7 + 1 + 4, none⟩ (.int .i64 (wrap64 (o.e.lends - 1)))).drew.ownsRow w.heap.size 110 3 u5 (NF k2).length ((NF k2).flatMap lcells) := z3
                      have Z1 := Aside0.mk z1
                      have Z2 := Aside0.mk z2
                      have Z3 := Aside0.mk z3
                      clear z1 z2 z3 hcu hlo f1 f3 f4 hRq hFq hOq
                      go_wp2
                      go_region
                      generalize (wq.setCell ⟨lb', jj * 7 + 1 + 4, none⟩ (.int .i64 (wrap64 (o.e.lends - 1)))).drew = wz at Z1 Z2 Z3 ⊢
                      go_wp2
                      go_roundg (R.L.length - (jj + 1))
                      case measure => omega
                      case rel => exact ⟨jj + 1, by omega, by omega, by first | rfl | (congr 1; unfold wrap64; omega), ⟨by rw [HS.out]; exact Z1.out⟩, Z2, Z3⟩
                · have p9 : decide ((jj : Int) < (R.L.length : Int)) = false := decide_eq_false (by omega)
                  have hje : jj = R.L.length := by omega
                  subst hje
                  have HE : Aside0 (half LK x.2 R.L.length = LK.map (decN x.2)) := ⟨by rw [← HLKL.out]; exact half_all _ _⟩
                  go_wp2
                  go_roundg (R.lent.length - (k2 + 1))
                  case measure => omega
                  case rel => exact ⟨k2 + 1, by omega, by omega, by first | rfl | (congr 1; unfold wrap64; omega), ⟨by rw [S1.out, ← HLK.out, ← HE.out]; exact RY.out⟩, FY, ⟨by rw [S2.out]; exact OY.out⟩⟩
            · obtain ⟨s1, s2⟩ := MISS.out k2 x hx hx1
              have S1 := Aside0.mk s1
              have S2 := Aside0.mk s2
              have qx : (x.1 != (R.calls.length : Int)) = true := bne_iff_ne.2 hx1
              have x1 : wr.cell? ⟨b, k2 * 3 + 1, none⟩ = some (.int .i64 x.2.1) := e4 1 _ rfl
              have x2 : wr.cell? ⟨b, k2 * 3 + 2, none⟩ = some (.int .i64 x.2.2) := e4 2 _ rfl
              have hO := OX.out
              obtain ⟨oA, oc, rfl⟩ := own_slice OX.out
              have hge : ∀ q', (Value.slice oA (NF k2).length oc).ownBlock = some q' → w.heap.size ≤ q' := fun q' hq' => own_ge hO hq'
              obtain ⟨v', w', a1, a2, a3, a4, A', c', rfl⟩ := lc_append hO x (by have := NN.out k2; have := HLN.out; omega) FX.out.1 79
              change (Builtin.append_ _ _ _).run _ (wr.alloc (.cells #[.int .i64 x.1, .int .i64 x.2.1, .int .i64 x.2.2] 110)) = _ at a1
              have A1 := Aside0.mk a1
              have A2 := Aside0.mk a2
              have hsame : ∀ q, q < w.heap.size → w'.heap[q]? = wr.heap[q]? := fun q hq => a3.block q (Nat.lt_of_lt_of_le hq FX.out.1) (fun z => by have := hge q z.symm; omega)
              have A3 : Aside0 (RT w' g b0 V { R with L := LF k2 } (fun b => D b ∧ b < w.heap.size)) := ⟨RX.out.keep a3.size fun q _ hq => hsame q (hq.elim (fun z => z.2) (fun z => Nat.lt_of_lt_of_le z HTT.out.b0le))⟩
              have A4 : Aside0 (Fr w w' (fun b => D b ∧ b < w.heap.size)) := ⟨Nat.le_trans FX.out.1 a3.size, fun q hq hn => (hsame q hq).trans (FX.out.2.1 q hq hn), a3.os.trans FX.out.2.2.os, a3.tape.trans FX.out.2.2.tape, a3.output.trans FX.out.2.2.output⟩
              clear a1 a2 a3 a4 hge hO s1 s2 hx1 hx e4 e3 hsame
              go_wp2_with (first | (at_builtin; refine wpList_append_eq rfl _ _ 79 rfl rfl rfl A1.out ?_))
              go_roundg (R.lent.length - (k2 + 1))
              case measure => omega
              case rel => exact ⟨k2 + 1, by omega, by omega, by first | rfl | (congr 1; unfold wrap64; omega), by rw [S1.out]; exact A3, A4, by rw [S2.out]; exact A2⟩
          · have p6 : decide ((k2 : Int) < (R.lent.length : Int)) = false := decide_eq_false (by omega)
            have hke : k2 = R.lent.length := by omega
            subst hke
            obtain ⟨s1, s2⟩ := LE.out
            rw [s1] at RX
            rw [s2] at OX
            clear s1 s2
            obtain ⟨oA, oc, rfl⟩ := own_slice OX.out
            have t4f : wr.frozen? ⟨g, 4, none⟩ = false := blk_frozen RX.out.top 4
            obtain ⟨y1, y2⟩ := RX.out.setTN (N := w.heap.size) RX.out.topD.2 HTT.out.b0le ⟨rfl, rfl, rfl, Nat.le_refl _, fun _ _ _ => rfl⟩ (own_mono OX.out (Nat.zero_le _)) (fun m hm => .inr (own_ge OX.out hm)) rfl
            have hn := HN.out
            obtain ⟨m, hm⟩ : ∃ m, R.calls.length = m + 1 := ⟨R.calls.length - 1, by omega⟩
            obtain ⟨cb, ccap, d1, d2, d3, d4⟩ := own_cells y1.co (show 0 < R.calls.length by omega)
            have d1' : V.cv = .slice (some ⟨cb, 0, none⟩) R.calls.length ccap := d1
            rw [hcv] at d1'
            injection d1' with d1' _ d5
            subst d1'; subst d5
            have d2' : R.calls.length ≤ cc := d2
            have t3 : (wr.setCell ⟨g, 4, none⟩ (.slice oA (notCall R.calls.length R.lent).length oc)).cell? ⟨g, 3, none⟩ = some (.slice (some ⟨cb, 0, none⟩) R.calls.length cc) := by rw [← hcv]; exact (y1.cell 3).trans rfl
            have t3f : (wr.setCell ⟨g, 4, none⟩ (.slice oA (notCall R.calls.length R.lent).length oc)).frozen? ⟨g, 3, none⟩ = false := blk_frozen y1.top 3
            have hcmx : R.calls.length ≤ 9223372036854775807 := own_max y1.co
            have hw : wrap64 ((R.calls.length : Int) - 1) = (m : Int) := by rw [hm]; unfold wrap64; omega
            have p7 : (0 ≤ (m : Int)) = True := eq_true (Int.natCast_nonneg m)
            have p8 : ((m : Int) ≤ (cc : Int)) = True := eq_true (by omega)
            have p9 : (cc = 0) = False := eq_false (by omega)
            have hot : World.ownsRow _ 0 3 1 (.slice (some ⟨cb, 0, none⟩) m cc) m ((R.calls.map (Value.int .i64)).take (m * 1)) := own_take (m := m) (by have h := y1.co; change World.ownsRow _ 0 3 1 V.cv R.calls.length _ at h; rw [hcv] at h; exact h) (by omega)
            obtain ⟨z1, z2, z3⟩ := y1.setC (v' := .slice (some ⟨cb, 0, none⟩) m cc) (c' := R.calls.dropLast) ⟨rfl, rfl, rfl, Nat.le_refl _, fun _ _ _ => rfl⟩ (by
              rw [Nat.mul_one, ← List.map_take] at hot
              rw [List.dropLast_eq_take, show R.calls.length - 1 = m by omega]
              have hlt' : (R.calls.take m).length = m := by rw [List.length_take]; omega
              rw [hlt']
              exact hot) (fun q hq => .inl (by show V.cv.ownBlock = _; rw [hcv]; exact hq)) rfl
            have HZ : Aside0 (AftR w g b0 D { R with L := decs R.L (ofCall R.calls.length R.lent), lent := notCall R.calls.length R.lent, calls := R.calls.dropLast } ((wr.setCell ⟨g, 4, none⟩ (.slice oA (notCall R.calls.length R.lent).length oc)).setCell ⟨g, 3, none⟩ (.slice (some ⟨cb, 0, none⟩) m cc))) := by
              have hsz : w.heap.size ≤ (wr.setCell ⟨g, 4, none⟩ (.slice oA (notCall R.calls.length R.lent).length oc)).heap.size := Nat.le_trans FX.out.1 y2.1
              refine ⟨_, z1.imp (fun q hq => ?_) (fun q hq => ?_), ?_⟩
              · rcases hq with (hq | hq) | hq
                · exact .inl hq.1
                · exact .inr hq
                · exact .inr (Nat.le_trans hsz hq)
              · exact hq.elim (HTT.out.low q) (fun z => Nat.le_trans HTT.out.b0le z)
              · have hq := (FX.out.trans y2 (fun _ _ h => h)).trans z2 (fun b hb h => h.elim id (fun z => absurd z (by omega)))
                exact ⟨hq.1, fun b hb hn => hq.2.1 b hb (fun z => hn z.1), hq.2.2⟩
            clear y1 y2 z1 z2 z3 hot d1 d2 d2' d3 d4 hm hn hcmx
            go_wp2
            go_ret
            rw [HF.out]
            exact ⟨rfl, HZ.out⟩
set_option maxHeartbeats 16000000 in
set_option maxRecDepth 100000 in
theorem new_bad2 (w : World) (l : List Int) (A : Option Addr) (cc : Nat) (h : Ints w A l) (hmx : l.length ≤ 9223372036854775807) (n : Int) (hb : newB n l = false) :
    Calls Try.prog 14 #[.int .i64 n, .slice A l.length cc] w fun e w' => e = .returned (.tuple #[.pointer none, .int .i64 1]) ∧ Fr w w' (fun _ => False) := by
  have F1 := fr_alloc (Fr.refl w (fun _ => False)) (.cells #[.int .i64 n] 3)
  have hB : (w.alloc (.cells #[.int .i64 n] 3)).cell? ⟨w.heap.size, 0, none⟩ = some (.int .i64 n) := (blk_cell (heap_alloc_new w _) 0).trans rfl
  have h1 : Ints (w.alloc (.cells #[.int .i64 n] 3)) A l := fun j hj => by
    obtain ⟨ad, e1, e2⟩ := h j hj
    exact ⟨ad, e1, Go.Lib.cell?_alloc_some _ e2⟩
  have hc := containsI_calls _ l A cc h1 hmx w.heap.size n hB
  clear h h1
  by_cases a : n < 1
  · have p1 : decide (n < 1) = true := decide_eq_true a
    clear hb hc
    go_enter Try.func14, Try.ntmps14
    go_wp2
    go_ret2
    all_goals exact ⟨rfl, F1⟩
  · have p1 : decide (n < 1) = false := decide_eq_false a
    by_cases b : 4 < n
    · have p2 : decide (4 < n) = true := decide_eq_true b
      clear hb hc
      go_enter Try.func14, Try.ntmps14
      go_wp2
      go_ret2
      all_goals exact ⟨rfl, F1⟩
    · have p2 : decide (4 < n) = false := decide_eq_false b
      by_cases c : 16 < l.length
      · have p3 : decide ((16 : Int) < (l.length : Int)) = true := decide_eq_true (by omega)
        clear hb hc
        go_enter Try.func14, Try.ntmps14
        go_wp2
        go_ret2
        all_goals exact ⟨rfl, F1⟩
      · have p3 : decide ((16 : Int) < (l.length : Int)) = false := decide_eq_false (by omega)
        have hk : l.any (badB n) = true := by
          unfold newB at hb
          rw [decide_eq_true (show 1 ≤ n by omega), decide_eq_true (show n ≤ 4 by omega), decide_eq_true (show l.length ≤ 16 by omega)] at hb
          simpa using hb
        rw [hk] at hc
        clear hb hk
        go_enter Try.func14, Try.ntmps14
        go_wp2_with (first | (go_at_call 37; refine hc.mono ?_; rintro e w' ⟨rfl, m, rfl⟩))
        go_ret2
        all_goals exact ⟨rfl, F1.drawn ⟨_, rfl⟩⟩
theorem new_good' (w : World) (l : List Int) (A : Option Addr) (cc : Nat) (h : Ints w A l) (hmx : l.length ≤ 9223372036854775807) (n : Int) (hb : newB n l = true) :
    Calls Try.prog 14 #[.int .i64 n, .slice A l.length cc] w fun e w' => ∃ g S, e = .returned (.tuple #[.pointer (some ⟨g, 0, none⟩), .int .i64 0]) ∧ HT w' g S (fun b => w.heap.size ≤ b) ∧ S.abs = newT n.toNat l ∧ Fr w w' (fun _ => False) := by
  refine new_good w l A cc h ?_ n hb
  unfold newB at hb
  simp only [Bool.and_eq_true, decide_eq_true_eq] at hb
  omega
structure RF.Ok (R : RF) : Prop where
  l : R.L.length < 1000000
  t : R.lent.length < 1000000
  c : R.calls.length < 1000000
  r : ∀ o ∈ R.L, 0 ≤ o.e.r ∧ o.e.r < (R.mkr.length : Int)
/-- A deed: its answer, its trap, whether it was owned, the document's tables behind it. -/
def RF.doz (R : RF) (k i r h : Int) : Int × Int × Bool × RF :=
  if k = 0 then ((R.make i r h).1, (R.make i r h).2.1, false, (R.make i r h).2.2) else
  if k = 1 then ((R.rep i r h).1, (R.rep i r h).2, false, R) else
  if k = 2 then ((R.drop i r h).1, (R.drop i r h).2.2.1, (R.drop i r h).2.1, (R.drop i r h).2.2.2) else
  if k = 3 then ((R.drop i r h).1, (R.drop i r h).2.2.1, (R.drop i r h).2.1, (R.drop i r h).2.2.2) else
  if k = 4 then ((R.take i r h).1, (R.take i r h).2.1, false, (R.take i r h).2.2) else
  if k = 5 then ((R.putN i r h).1, (R.putN i r h).2.1, false, (R.putN i r h).2.2) else
  if k = 6 then ((R.lend i r h).1, (R.lend i r h).2.1, false, (R.lend i r h).2.2) else
  if k = 7 then ((R.borrow i r h).1, (R.borrow i r h).2.1, false, (R.borrow i r h).2.2) else
  if k = 8 then (0, (R.enter i).1, false, (R.enter i).2) else (0, R.leave.1, false, R.leave.2)
set_option maxHeartbeats 32000000 in
set_option maxRecDepth 100000 in
theorem did_aft {w : World} {g b0 : Nat} {V : RV} {R : RF} {D : Nat → Prop} (hT : RT w g b0 V R D) (hok : R.Ok) (k i r h : Int) (b : Bool) :
    Calls Try.prog 20 #[.pointer (some ⟨g, 0, none⟩), .agg #[.int .i64 k, .int .i64 i, .int .i64 r, .int .i64 h, .bool b]] w fun z w' => z = .returned (.tuple #[.int .i64 (R.doz k i r h).1, .int .i64 (R.doz k i r h).2.1, .bool (R.doz k i r h).2.2.1]) ∧ AftR w g b0 D (R.doz k i r h).2.2.2 w' := by
  have hN1 := hT.alloc (.cells #[.int .i64 k, .int .i64 i, .int .i64 r, .int .i64 h, .bool b] 39)
  have hX := heap_alloc_new w (.cells #[.int .i64 k, .int .i64 i, .int .i64 r, .int .i64 h, .bool b] 39)
  have fin : ∀ T w', AftR (w.alloc (.cells #[.int .i64 k, .int .i64 i, .int .i64 r, .int .i64 h, .bool b] 39)) g b0 D T w' → AftR w g b0 D T w' := fun T w' h => AftR.from h ((Below.refl _ w).alloc (Nat.le_refl _) _) hT.b0le hT.low
  generalize hw1 : w.alloc (.cells #[.int .i64 k, .int .i64 i, .int .i64 r, .int .i64 h, .bool b] 39) = w1 at hN1 hX fin
  have x0 : w1.cell? ⟨w.heap.size, 0, none⟩ = some (.int .i64 k) := (blk_cell hX 0).trans rfl
  have x1 : w1.cell? ⟨w.heap.size, 1, none⟩ = some (.int .i64 i) := (blk_cell hX 1).trans rfl
  have x2 : w1.cell? ⟨w.heap.size, 2, none⟩ = some (.int .i64 r) := (blk_cell hX 2).trans rfl
  have x3 : w1.cell? ⟨w.heap.size, 3, none⟩ = some (.int .i64 h) := (blk_cell hX 3).trans rfl
  clear hT hX
  unfold RF.doz
  by_cases h0 : k = 0
  · subst h0
    rw [if_pos rfl]
    have kk := make39_calls hN1 i r h hok.l
    clear hN1 hok
    go_enter Try.func20, Try.ntmps20
    go_wp2_with (first | (go_at_call 39; refine kk.mono ?_; rintro e w2 ⟨rfl, N1⟩))
    go_ret3
    all_goals exact ⟨rfl, fin _ _ N1⟩
  · skip
    by_cases h1 : k = 1
    · subst h1
      clear h0
      rw [if_neg (by decide), if_pos rfl]
      have hA := hN1.aft
      have kk := rep40_calls hN1 i r h hok.r
      clear hN1 hok
      go_enter Try.func20, Try.ntmps20
      go_wp2_with (first | (go_at_call 40; refine kk.mono ?_; rintro e w2 ⟨rfl, rfl⟩))
      go_ret3
      all_goals exact ⟨rfl, fin _ _ hA⟩
    · skip
      by_cases h2 : k = 2
      · subst h2
        clear h0 h1
        rw [if_neg (by decide), if_neg (by decide), if_pos rfl]
        have kk := drop41_calls hN1 i r h hok.l
        clear hN1 hok
        go_enter Try.func20, Try.ntmps20
        go_wp2_with (first | (go_at_call 41; refine kk.mono ?_; rintro e w2 ⟨rfl, N1⟩))
        go_ret3
        all_goals exact ⟨rfl, fin _ _ N1⟩
      · skip
        by_cases h3 : k = 3
        · subst h3
          clear h0 h1 h2
          rw [if_neg (by decide), if_neg (by decide), if_neg (by decide), if_pos rfl]
          have kk := drop41_calls hN1 i r h hok.l
          clear hN1 hok
          go_enter Try.func20, Try.ntmps20
          go_wp2_with (first | (go_at_call 41; refine kk.mono ?_; rintro e w2 ⟨rfl, N1⟩))
          go_ret3
          all_goals exact ⟨rfl, fin _ _ N1⟩
        · skip
          by_cases h4 : k = 4
          · subst h4
            clear h0 h1 h2 h3
            rw [if_neg (by decide), if_neg (by decide), if_neg (by decide), if_neg (by decide), if_pos rfl]
            have kk := take42_calls hN1 i r h hok.l
            clear hN1 hok
            go_enter Try.func20, Try.ntmps20
            go_wp2_with (first | (go_at_call 42; refine kk.mono ?_; rintro e w2 ⟨rfl, N1⟩))
            go_ret3
            all_goals exact ⟨rfl, fin _ _ N1⟩
          · skip
            by_cases h5 : k = 5
            · subst h5
              clear h0 h1 h2 h3 h4
              rw [if_neg (by decide), if_neg (by decide), if_neg (by decide), if_neg (by decide), if_neg (by decide), if_pos rfl]
              have kk := put43_calls hN1 i r h hok.l
              clear hN1 hok
              go_enter Try.func20, Try.ntmps20
              go_wp2_with (first | (go_at_call 43; refine kk.mono ?_; rintro e w2 ⟨rfl, N1⟩))
              go_ret3
              all_goals exact ⟨rfl, fin _ _ N1⟩
            · skip
              by_cases h6 : k = 6
              · subst h6
                clear h0 h1 h2 h3 h4 h5
                rw [if_neg (by decide), if_neg (by decide), if_neg (by decide), if_neg (by decide), if_neg (by decide), if_neg (by decide), if_pos rfl]
                have kk := lend44_calls hN1 i r h hok.t
                clear hN1 hok
                go_enter Try.func20, Try.ntmps20
                go_wp2_with (first | (go_at_call 44; refine kk.mono ?_; rintro e w2 ⟨rfl, N1⟩))
                go_ret3
                all_goals exact ⟨rfl, fin _ _ N1⟩
              · skip
                by_cases h7 : k = 7
                · subst h7
                  clear h0 h1 h2 h3 h4 h5 h6
                  rw [if_neg (by decide), if_neg (by decide), if_neg (by decide), if_neg (by decide), if_neg (by decide), if_neg (by decide), if_neg (by decide), if_pos rfl]
                  have kk := borrow45_calls hN1 i r h hok.l
                  clear hN1 hok
                  go_enter Try.func20, Try.ntmps20
                  go_wp2_with (first | (go_at_call 45; refine kk.mono ?_; rintro e w2 ⟨rfl, N1⟩))
                  go_ret3
                  all_goals exact ⟨rfl, fin _ _ N1⟩
                · skip
                  by_cases h8 : k = 8
                  · subst h8
                    clear h0 h1 h2 h3 h4 h5 h6 h7
                    rw [if_neg (by decide), if_neg (by decide), if_neg (by decide), if_neg (by decide), if_neg (by decide), if_neg (by decide), if_neg (by decide), if_neg (by decide), if_pos rfl]
                    have kk := enter46_calls hN1 i hok.c
                    clear hN1 hok
                    go_enter Try.func20, Try.ntmps20
                    go_wp2_with (first | (go_at_call 46; refine kk.mono ?_; rintro e w2 ⟨rfl, N1⟩))
                    go_ret3
                    all_goals exact ⟨rfl, fin _ _ N1⟩
                  · skip
                    rw [if_neg h0, if_neg h1, if_neg h2, if_neg h3, if_neg h4, if_neg h5, if_neg h6, if_neg h7, if_neg h8]
                    have e0 : (k == 0) = false := by simpa using h0
                    have e1 : (k == 1) = false := by simpa using h1
                    have e2 : (k == 2) = false := by simpa using h2
                    have e3 : (k == 3) = false := by simpa using h3
                    have e4 : (k == 4) = false := by simpa using h4
                    have e5 : (k == 5) = false := by simpa using h5
                    have e6 : (k == 6) = false := by simpa using h6
                    have e7 : (k == 7) = false := by simpa using h7
                    have e8 : (k == 8) = false := by simpa using h8
                    clear h0 h1 h2 h3 h4 h5 h6 h7 h8
                    have kk := leave47_calls hN1 hok.t
                    clear hN1 hok
                    go_enter Try.func20, Try.ntmps20
                    go_wp2_with (first | (go_at_call 47; refine kk.mono ?_; rintro e w2 ⟨rfl, N1⟩))
                    go_ret3
                    all_goals exact ⟨rfl, fin _ _ N1⟩def newR (n : Int) (l : List Int) : RF := ⟨n.toNat, l, [], [], []⟩
set_option maxHeartbeats 8000000 in
set_option maxRecDepth 100000 in
theorem new18_calls (w : World) (l : List Int) (A : Option Addr) (cc : Nat) (h : Ints w A l) (hmx : l.length ≤ 9223372036854775807) (hA : 0 < l.length → ∀ a, A = some a → a.block < w.heap.size) (n : Int) :
    Calls Try.prog 18 #[.int .i64 n, .slice A l.length cc] w fun e w' => (newB n l = true → e = .returned (.tuple #[.pointer (some ⟨w.heap.size, 0, none⟩), .int .i64 0]) ∧ ∃ V, RT w' w.heap.size w.heap.size V (newR n l) (fun b => w.heap.size ≤ b) ∧ V.mA = A) ∧ (newB n l = false → e = .returned (.tuple #[.pointer none, .int .i64 1])) ∧ Below w.heap.size w w' := by
  have HA := Aside0.mk hA
  have HI := Aside0.mk h
  have bad : newB n l = false → ∀ (e : Ending) (w' : World), e = .returned (.tuple #[.pointer none, .int .i64 1]) → w' = w → (newB n l = true → e = .returned (.tuple #[.pointer (some ⟨w.heap.size, 0, none⟩), .int .i64 0]) ∧ ∃ V, RT w' w.heap.size w.heap.size V (newR n l) (fun b => w.heap.size ≤ b) ∧ V.mA = A) ∧ (newB n l = false → e = .returned (.tuple #[.pointer none, .int .i64 1])) ∧ Below w.heap.size w w' := by
    intro hb e w' h1 h2
    subst h2
    exact ⟨(fun z => by rw [hb] at z; cases z), fun _ => h1, Below.refl _ _⟩
  have HB := Aside0.mk bad
  clear hA h bad
  by_cases a : n < 1
  · have p1 : decide (n < 1) = true := decide_eq_true a
    have hb : newB n l = false := by unfold newB; rw [decide_eq_false (show ¬ 1 ≤ n by omega)]; rfl
    have HBB := Aside0.mk hb
    clear hb a
    go_enter Try.func18, Try.ntmps18
    go_wp2
    go_ret2
    exact HB.out HBB.out _ _ rfl rfl
  · have p1 : decide (n < 1) = false := decide_eq_false a
    by_cases b : 4 < n
    · have p2 : decide (4 < n) = true := decide_eq_true b
      have hb : newB n l = false := by unfold newB; rw [decide_eq_false (show ¬ n ≤ 4 by omega)]; simp
      have HBB := Aside0.mk hb
      clear hb a b
      go_enter Try.func18, Try.ntmps18
      go_wp2
      go_ret2
      exact HB.out HBB.out _ _ rfl rfl
    · have p2 : decide (4 < n) = false := decide_eq_false b
      by_cases c : 16 < l.length
      · have p3 : decide ((16 : Int) < (l.length : Int)) = true := decide_eq_true (by omega)
        have hb : newB n l = false := by unfold newB; rw [decide_eq_false (show ¬ l.length ≤ 16 by omega)]; simp
        have HBB := Aside0.mk hb
        clear hb a b c
        go_enter Try.func18, Try.ntmps18
        go_wp2
        go_ret2
        exact HB.out HBB.out _ _ rfl rfl
      · have p3 : decide ((16 : Int) < (l.length : Int)) = false := decide_eq_false (by omega)
        have hnb : newB n l = !l.any (badB n) := by
          unfold newB
          rw [decide_eq_true (show 1 ≤ n by omega), decide_eq_true (show n ≤ 4 by omega), decide_eq_true (show l.length ≤ 16 by omega)]
          rfl
        have HNB := Aside0.mk hnb
        have HN := Aside0.mk (show 1 ≤ n by omega)
        clear hnb a b c
        go_enter Try.func18, Try.ntmps18
        go_wp2
        go_loopg [6] l.length (fun gg s6 wr => wr = w ∧ ∃ kk : Nat, kk ≤ l.length ∧ l.length - kk ≤ gg ∧ s6 = Value.int .i64 (kk : Int) ∧ Aside0 ((l.take kk).any (badB n) = false))
        case atStart => exact ⟨rfl, 0, Nat.zero_le _, by omega, rfl, ⟨rfl⟩⟩
        case round =>
          obtain ⟨hww, kk, hkk, hg, rfl, AN⟩ := hrel
          obtain rfl : w = wr := hww.symm
          clear hww
          by_cases hlt : kk < l.length
          · have p4 : (0 ≤ (kk : Int)) = True := eq_true (Int.natCast_nonneg kk)
            have p5 : ((kk : Int) < (l.length : Int)) = True := eq_true (by omega)
            have p6 : decide ((kk : Int) < (l.length : Int)) = true := decide_eq_true (by omega)
            obtain ⟨ad, e1, e2⟩ := HI.out kk hlt
            subst e1
            obtain ⟨x, hx⟩ : ∃ x, l[kk]? = some x := ⟨_, List.getElem?_eq_getElem hlt⟩
            rw [show l.getD kk 0 = x by simp [List.getD, hx]] at e2
            have hstep : (l.take (kk + 1)).any (badB n) = badB n x := by
              rw [List.take_add_one, hx, Option.toList_some, List.any_append, AN.out]
              simp
            have hhit : badB n x = true → l.any (badB n) = true := fun z => List.any_eq_true.2 ⟨x, List.mem_of_getElem? hx, z⟩
            have ST := Aside0.mk hstep
            have HIT := Aside0.mk hhit
            clear hstep hhit hx AN
            by_cases q1 : x < 0
            · have d1 : decide (x < 0) = true := decide_eq_true q1
              have hbx : newB n l = false := by rw [HNB.out, HIT.out (by unfold badB; rw [d1]; rfl)]; rfl
              have HBB := Aside0.mk hbx
              clear hbx q1
              go_wp2
              repeat (go_quiet (fail); try go_wp2)
              go_ret2
              exact HB.out HBB.out _ _ rfl rfl
            · have d1 : decide (x < 0) = false := decide_eq_false q1
              by_cases q2 : n ≤ x
              · have d2 : decide (n ≤ x) = true := decide_eq_true q2
                have hbx : newB n l = false := by rw [HNB.out, HIT.out (by unfold badB; rw [d1, d2]; rfl)]; rfl
                have HBB := Aside0.mk hbx
                clear hbx q1 q2
                go_wp2
                repeat (go_quiet (fail); try go_wp2)
                go_ret2
                exact HB.out HBB.out _ _ rfl rfl
              · have d2 : decide (n ≤ x) = false := decide_eq_false q2
                have hbx : badB n x = false := by unfold badB; rw [d1, d2]; rfl
                have HBX := Aside0.mk hbx
                clear hbx q1 q2
                go_wp2
                repeat (go_quiet (fail); try go_wp2)
                go_roundg (l.length - (kk + 1))
                case measure => omega
                case rel => exact ⟨rfl, kk + 1, by omega, by omega, by first | rfl | (congr 1; unfold wrap64; omega), ⟨by rw [ST.out, HBX.out]⟩⟩
          · have p6 : decide ((kk : Int) < (l.length : Int)) = false := decide_eq_false (by omega)
            have han := AN.out
            rw [List.take_of_length_le (by omega)] at han
            have hb : newB n l = true := by rw [HNB.out, han]; rfl
            have HBB := Aside0.mk hb
            clear hb han AN HNB HB
            go_wp2
            go_ret2
            refine ⟨fun _ => ⟨rfl, ⟨A, cc, .slice none 0 0, .slice none 0 0, .slice none 0 0⟩, ?_, rfl⟩, (fun z => by rw [HBB.out] at z; cases z), (Below.refl _ _).alloc (Nat.le_refl _) _⟩
            have hn : ((n.toNat : Nat) : Int) = n := by have := HN.out; omega
            refine { top := ?_, topD := Nat.le_refl _, mki := ints_same HI.out fun hp a ha => heap_alloc_old w _ _ (HA.out hp a ha), mkB := HA.out, low := fun b hb => hb, b0le := by show _ ≤ (w.heap.push _).size; simp, lo := ⟨rfl, .inl ⟨rfl, rfl⟩⟩, loD := fun k hk => (by cases hk), co := ⟨rfl, .inl ⟨rfl, rfl⟩⟩, coD := fun k hk => (by cases hk), tO := ⟨rfl, .inl ⟨rfl, rfl⟩⟩, tD := fun k hk => (by cases hk) }
            refine (heap_alloc_new w _).trans ?_
            show _ = some (Obj.cells #[.int .i64 ((n.toNat : Nat) : Int), .slice A l.length cc, .slice none 0 0, .slice none 0 0, .slice none 0 0] 81 (0, 0))
            rw [hn]
open Go.RowKit Go.Proofs
def On.key (o : On) : Int × Int := (o.i, o.h)
/-- What is lent for each call, the calls from a number on. -/
def lentF : Nat → List AC → List (Int × Int × Int)
  | _, [] => []
  | k, c :: cs => c.lent.map (fun p => ((k : Int), p)) ++ lentF (k + 1) cs
/-- The same handles. -/
structure Mem (T : AT) (L : List On) : Prop where
  mem : ∀ o : On, o ∈ L ↔ 0 ≤ o.i ∧ T.at o.i.toNat o.h = some o.e
  nd : (L.map On.key).Nodup
structure Rel (T : AT) (R : RF) : Prop where
  mkr : R.mkr = T.mkr
  n : R.n = T.tabs.length
  m : Mem T R.L
  calls : R.calls = T.calls.map AC.i
  lent : R.lent = lentF 1 T.calls
theorem lentF_append : ∀ (a b : List AC) (k : Nat), lentF k (a ++ b) = lentF k a ++ lentF (k + a.length) b
  | [], b, k => by simp [lentF]
  | c :: a, b, k => by
    rw [List.cons_append, lentF, lentF, lentF_append a b (k + 1), List.append_assoc, List.length_cons, show k + 1 + a.length = k + (a.length + 1) by omega]
theorem lentF_lt : ∀ (a : List AC) (k : Nat), ∀ x ∈ lentF k a, x.1 < ((k + a.length : Nat) : Int)
  | [], k, x, h => by cases h
  | c :: a, k, x, h => by
    rw [lentF, List.mem_append] at h
    rcases h with h | h
    · obtain ⟨p, _, rfl⟩ := List.mem_map.1 h
      simp only [List.length_cons]; omega
    · have := lentF_lt a (k + 1) x h
      simp only [List.length_cons] at this ⊢; omega
theorem at_len {T : AT} {i : Nat} {h : Int} {e : E} (ha : T.at i h = some e) : i < T.tabs.length := by
  unfold AT.at at ha
  by_cases hi : i < T.tabs.length
  · exact hi
  · rw [List.getD, List.getElem?_eq_none (by omega)] at ha
    cases ha
theorem find_rel {T : AT} {R : RF} {n : Nat} (hR : Rel T R) (hI : T.Inv n) (i r h : Int) :
    match fnd (isOn i r h) R.L 0 with
    | none => T.get i r h = none
    | some k => T.get i r h = some (R.nth k).e ∧ R.nth k = ⟨i, h, (R.nth k).e⟩ ∧ R.L[k]? = some (R.nth k) ∧ (R.nth k).e.r = r ∧ 0 ≤ i ∧ i < (T.tabs.length : Int) ∧ T.at i.toNat h = some (R.nth k).e := by
  cases hf : fnd (isOn i r h) R.L 0 with
  | none =>
    dsimp only
    cases hg : T.get i r h with
    | none => rfl
    | some e =>
      obtain ⟨h1, h2, h3, h4, _, _⟩ := get_at hg
      have := fnd_none hf _ ((hR.m.mem ⟨i, h, e⟩).2 ⟨h3, h1⟩)
      unfold isOn at this
      simp [h2] at this
  | some k =>
    dsimp only
    obtain ⟨h1, h2, h3, h4, h5⟩ := fnd_at hf
    obtain ⟨h6, h7⟩ := (hR.m.mem _).1 (List.mem_of_getElem? h1)
    rw [h2] at h6
    rw [h2, h3] at h7
    obtain ⟨h8, h9⟩ := hI.rs _ _ _ h7
    have hl := at_len h7
    have hi : ((i.toNat : Nat) : Int) = i := by omega
    have := at_get h7 ⟨h8, h9⟩
    rw [hi, h4] at this
    refine ⟨this, ?_, h1, h4, h6, by omega, h7⟩
    cases hx : R.nth k with
    | mk a b c =>
      rw [hx] at h2 h3
      simp only at h2 h3
      rw [h2, h3]
theorem filter_one {L : List On} (hn : (L.map On.key).Nodup) {o : On} (ho : o ∈ L) {p : On → Bool} (hp : ∀ x ∈ L, p x = true ↔ x.key = o.key) : L.filter p = [o] := by
  induction L with
  | nil => cases ho
  | cons a l ih =>
    rw [List.map_cons, List.nodup_cons] at hn
    rcases List.mem_cons.1 ho with rfl | ho
    · rw [List.filter_cons, if_pos ((hp _ List.mem_cons_self).2 rfl), List.filter_eq_nil_iff.2]
      intro x hx hpx
      have := (hp x (List.mem_cons_of_mem _ hx)).1 hpx
      exact hn.1 (this ▸ List.mem_map_of_mem hx)
    · rw [List.filter_cons, if_neg (fun z => hn.1 ((hp a List.mem_cons_self).1 z ▸ List.mem_map_of_mem ho))]
      exact ih hn.2 ho fun x hx => hp x (List.mem_cons_of_mem _ hx)
theorem atQ_rel {T : AT} {L : List On} (hM : Mem T L) (i : Int) (q : Nat) : atQ L i q = (if 0 ≤ i then (T.at i.toNat ((q : Int) + 1)).map fun e => ((q : Int) + 1, e) else none).toList := by
  have hp : ∀ x : On, atB i q x = true ↔ x.key = (i, (q : Int) + 1) := fun x => by
    unfold atB On.key
    simp only [Bool.and_eq_true, beq_iff_eq, Prod.mk.injEq]
  unfold atQ
  by_cases hi : 0 ≤ i
  · rw [if_pos hi]
    cases ha : T.at i.toNat ((q : Int) + 1) with
    | none =>
      rw [List.filter_eq_nil_iff.2]
      · rfl
      · intro x hx hpx
        have h1 := (hp x).1 hpx
        unfold On.key at h1
        injection h1 with h1 h2
        have := (hM.mem x).1 hx
        rw [h1, h2, ha] at this
        cases this.2
    | some e =>
      have ho : (⟨i, (q : Int) + 1, e⟩ : On) ∈ L := (hM.mem _).2 ⟨hi, ha⟩
      rw [filter_one hM.nd ho fun x _ => hp x]
      rfl
  · rw [if_neg hi, List.filter_eq_nil_iff.2]
    · rfl
    · intro x hx hpx
      have h1 := (hp x).1 hpx
      unfold On.key at h1
      injection h1 with h1 h2
      have := (hM.mem x).1 hx
      omega
theorem flatMap_toList {α β : Type} (f : α → Option β) : ∀ l : List α, (l.flatMap fun x => (f x).toList) = l.filterMap f
  | [] => rfl
  | a :: l => by
    rw [List.flatMap_cons, List.filterMap_cons, flatMap_toList f l]
    cases f a <;> rfl
theorem of_rel {T : AT} {L : List On} (hM : Mem T L) (i : Int) : ofR L i = T.hands i := by
  unfold ofR ofQ
  rw [show atQ L i = fun q => _ from funext (atQ_rel hM i), flatMap_toList]
  unfold AT.hands
  by_cases hi : 0 ≤ i
  · simp only [if_pos hi]
    by_cases hl : i < (T.tabs.length : Int)
    · rw [if_pos hl]; rfl
    · rw [if_neg hl, List.filterMap_eq_nil_iff]
      intro q _
      cases ha : T.at i.toNat ((q : Int) + 1) with
      | none => rfl
      | some e => have := at_len ha; omega
  · simp only [if_neg hi]
    rw [List.filterMap_eq_nil_iff]
    intro q _; rfl
theorem hands_cnt {T : AT} {i : Int} (h0 : 0 ≤ i) (h1 : i < (T.tabs.length : Int)) : (T.hands i).length = cntA (T.tabs.getD i.toNat fun _ => none) := by
  unfold AT.hands cntA
  rw [if_pos h0, if_pos h1]
  unfold AT.tab
  generalize (List.range 256) = l
  induction l with
  | nil => rfl
  | cons a l ih =>
    rw [List.filterMap_cons, List.filter_cons]
    cases (T.tabs.getD i.toNat fun _ => none) ((a : Int) + 1) with
    | none => simpa using ih
    | some e => simpa using ih
theorem frs_range (f : Int → Option E) : ∀ (m a : Nat), frs a ((List.range' a m).filterMap fun k : Nat => (f ((k : Int) + 1)).map fun e => ((k : Int) + 1, e)) = match (List.range' a m).find? (fun k : Nat => (f ((k : Int) + 1)).isNone) with | some k => (k : Int) + 1 | none => ((a + m : Nat) : Int) + 1
  | 0, a => by simp [frs]
  | m + 1, a => by
    rw [List.range'_succ, List.filterMap_cons, List.find?_cons]
    cases hf : f ((a : Int) + 1) with
    | some e =>
      simp only [Option.map_some, Option.isNone_some]
      rw [frs, if_pos rfl, frs_range f m (a + 1)]
      rw [show a + 1 + m = a + (m + 1) by omega]
    | none =>
      simp only [Option.map_none, Option.isNone_none]
      have hge : ∀ x ∈ (List.range' (a + 1) m).filterMap (fun k : Nat => (f ((k : Int) + 1)).map fun e => ((k : Int) + 1, e)), (a : Int) + 2 ≤ x.1 := by
        intro x hx
        obtain ⟨q, hq, hx⟩ := List.mem_filterMap.1 hx
        rw [Option.map_eq_some_iff] at hx
        obtain ⟨e, _, rfl⟩ := hx
        have := (List.mem_range'_1.1 hq).1
        show (a : Int) + 2 ≤ (q : Int) + 1
        omega
      generalize (List.range' (a + 1) m).filterMap (fun k : Nat => (f ((k : Int) + 1)).map fun e => ((k : Int) + 1, e)) = l at hge
      cases l with
      | nil => rfl
      | cons x l =>
        have := hge x List.mem_cons_self
        rw [frs, if_neg (by omega)]
theorem frs_fresh {T : AT} {i : Int} (h0 : 0 ≤ i) (h1 : i < (T.tabs.length : Int)) (hc : ¬ 256 ≤ cntA (T.tabs.getD i.toNat fun _ => none)) : frs 0 (T.hands i) = freshA (T.tabs.getD i.toNat fun _ => none) := by
  unfold AT.hands
  rw [if_pos h0, if_pos h1, List.range_eq_range']
  rw [frs_range]
  unfold freshA AT.tab
  rw [List.range_eq_range']
  cases hf : (List.range' 0 256).find? (fun k : Nat => ((T.tabs.getD i.toNat fun _ => none) ((k : Int) + 1)).isNone) with
  | some k => rfl
  | none =>
    exfalso
    refine hc ?_
    unfold cntA
    rw [List.range_eq_range', List.filter_eq_self.2]
    · simp
    · intro k hk
      have := List.find?_eq_none.1 hf k hk
      cases hx : (T.tabs.getD i.toNat fun _ => none) ((k : Int) + 1) with
      | none => rw [hx] at this; simp at this
      | some e => rfl
theorem cnt_le (f : Int → Option E) : cntA f ≤ 256 := by
  unfold cntA
  exact Nat.le_trans (List.length_filter_le _ _) (by simp)
/-- A handle more. -/
theorem mem_put {T : AT} {L : List On} (hM : Mem T L) {i : Nat} (hi : i < T.tabs.length) {h : Int} (hf : T.at i h = none) (e : E) : Mem (T.upd i h (some e)) (L ++ [⟨(i : Int), h, e⟩]) := by
  refine ⟨fun o => ?_, ?_⟩
  · rw [List.mem_append, List.mem_singleton, at_upd, hM.mem]
    constructor
    · rintro (⟨h1, h2⟩ | rfl)
      · refine ⟨h1, ?_⟩
        rw [if_neg (fun z => by rw [z.1, z.2.1, hf] at h2; cases h2)]
        exact h2
      · refine ⟨Int.natCast_nonneg _, ?_⟩
        rw [if_pos ⟨by simp, rfl, hi⟩]
    · rintro ⟨h1, h2⟩
      split at h2
      · rename_i hx
        injection h2 with h2
        right
        cases o with
        | mk a b c =>
          simp only at hx h1 h2
          rw [On.mk.injEq]
          exact ⟨by omega, hx.2.1, h2.symm⟩
      · exact .inl ⟨h1, h2⟩
  · rw [List.map_append, List.nodup_append]
    refine ⟨hM.nd, by simp, ?_⟩
    intro a ha b hb hab
    subst hab
    simp only [List.map_cons, List.map_nil, List.mem_singleton] at hb
    subst hb
    obtain ⟨o, ho, hk⟩ := List.mem_map.1 ha
    unfold On.key at hk
    injection hk with hk1 hk2
    have := (hM.mem o).1 ho
    rw [hk1, hk2] at this
    simp only [Int.toNat_natCast] at this
    rw [hf] at this
    cases this.2
theorem key_idx {L : List On} (hn : (L.map On.key).Nodup) {k j : Nat} {o x : On} (hk : L[k]? = some o) (hj : L[j]? = some x) (h : x.key = o.key) : j = k := by
  have h1 : (L.map On.key)[k]? = some o.key := by rw [List.getElem?_map, hk]; rfl
  have h2 : (L.map On.key)[j]? = some o.key := by rw [List.getElem?_map, hj]; simp [h]
  obtain ⟨a1, a2⟩ := List.getElem?_eq_some_iff.1 h1
  obtain ⟨b1, b2⟩ := List.getElem?_eq_some_iff.1 h2
  have hp := List.pairwise_iff_getElem.1 (List.nodup_iff_pairwise_ne.1 hn)
  rcases Nat.lt_trichotomy j k with q | q | q
  · exact absurd (b2.trans a2.symm) (hp j k b1 a1 q)
  · exact q
  · exact absurd (a2.trans b2.symm) (hp k j a1 b1 q)
theorem mem_erase {L : List On} (hn : (L.map On.key).Nodup) {k : Nat} {o : On} (hk : L[k]? = some o) (x : On) : x ∈ L.eraseIdx k ↔ x ∈ L ∧ x.key ≠ o.key := by
  rw [List.mem_eraseIdx_iff_getElem?]
  constructor
  · rintro ⟨j, hj, hx⟩
    exact ⟨List.mem_of_getElem? hx, fun z => hj (key_idx hn hk hx z)⟩
  · rintro ⟨h1, h2⟩
    obtain ⟨j, hj⟩ := List.getElem?_of_mem h1
    exact ⟨j, fun z => by subst z; rw [hk] at hj; injection hj with hj; exact h2 (hj ▸ rfl), hj⟩
/-- A handle less. -/
theorem mem_less {T : AT} {L : List On} (hM : Mem T L) {k : Nat} {o : On} (hk : L[k]? = some o) : Mem (T.upd o.i.toNat o.h none) (L.eraseIdx k) := by
  have ho := (hM.mem o).1 (List.mem_of_getElem? hk)
  have hl := at_len ho.2
  refine ⟨fun x => ?_, ?_⟩
  · rw [mem_erase hM.nd hk, hM.mem, at_upd]
    constructor
    · rintro ⟨⟨h1, h2⟩, h3⟩
      refine ⟨h1, ?_⟩
      rw [if_neg (fun z => h3 (by unfold On.key; rw [Prod.mk.injEq]; exact ⟨by omega, z.2.1⟩))]
      exact h2
    · rintro ⟨h1, h2⟩
      split at h2
      · cases h2
      · rename_i hx
        refine ⟨⟨h1, h2⟩, fun z => hx ?_⟩
        unfold On.key at z
        injection z with z1 z2
        exact ⟨by rw [z1], z2, hl⟩
  · exact (List.Nodup.sublist ((List.eraseIdx_sublist _ _).map _) hM.nd)
/-- A handle that is changed. -/
theorem mem_set {T : AT} {L : List On} (hM : Mem T L) {k : Nat} {o : On} (hk : L[k]? = some o) (e : E) : Mem (T.upd o.i.toNat o.h (some e)) (L.set k { o with e := e }) := by
  have ho := (hM.mem o).1 (List.mem_of_getElem? hk)
  have hl := at_len ho.2
  have hkl := (List.getElem?_eq_some_iff.1 hk).1
  refine ⟨fun x => ?_, ?_⟩
  · have hm : x ∈ L.set k { o with e := e } ↔ (x ∈ L ∧ x.key ≠ o.key) ∨ x = { o with e := e } := by
      constructor
      · intro hx
        obtain ⟨j, hj⟩ := List.getElem?_of_mem hx
        rw [List.getElem?_set] at hj
        split at hj
        · injection hj with hj; exact .inr hj.symm
        · rename_i hne; exact .inl ⟨List.mem_of_getElem? hj, fun z => hne (key_idx hM.nd hk hj z).symm⟩
      · rintro (⟨h1, h2⟩ | rfl)
        · obtain ⟨j, hj⟩ := List.getElem?_of_mem h1
          refine List.mem_of_getElem? (i := j) ?_
          rw [List.getElem?_set, if_neg (fun z => by subst z; rw [hk] at hj; injection hj with hj; exact h2 (hj ▸ rfl))]
          exact hj
        · exact List.mem_of_getElem? (i := k) (by rw [List.getElem?_set_self hkl])
    rw [hm, hM.mem, at_upd]
    constructor
    · rintro (⟨⟨h1, h2⟩, h3⟩ | rfl)
      · refine ⟨h1, ?_⟩
        rw [if_neg (fun z => h3 (by unfold On.key; rw [Prod.mk.injEq]; exact ⟨by omega, z.2.1⟩))]
        exact h2
      · exact ⟨ho.1, by rw [if_pos ⟨rfl, rfl, hl⟩]⟩
    · rintro ⟨h1, h2⟩
      split at h2
      · rename_i hx
        injection h2 with h2
        right
        cases x with
        | mk a b c =>
          simp only at hx h1 h2
          rw [On.mk.injEq]
          exact ⟨by omega, hx.2.1, h2.symm⟩
      · rename_i hx
        refine .inl ⟨⟨h1, h2⟩, fun z => hx ?_⟩
        unfold On.key at z
        injection z with z1 z2
        exact ⟨by rw [z1], z2, hl⟩
  · have : (L.set k { o with e := e }).map On.key = L.map On.key := by
      refine List.ext_getElem? fun q => ?_
      rw [List.getElem?_map, List.getElem?_map, List.getElem?_set]
      split
      · rename_i hq; subst hq; rw [hk]; rfl
      · rfl
    rw [this]; exact hM.nd
/-- A handle that is lent once less. -/
theorem mem_unlend {T : AT} {L : List On} (hM : Mem T L) (p : Int × Int) (hp : 0 ≤ p.1) : Mem (T.unlend p) (L.map (decN p)) := by
  have hkey : ∀ o, (decN p o).key = o.key := fun o => by unfold decN; split <;> rfl
  refine ⟨fun x => ?_, ?_⟩
  · rw [List.mem_map]
    constructor
    · rintro ⟨o, ho, rfl⟩
      obtain ⟨h1, h2⟩ := (hM.mem o).1 ho
      have hi : ((o.i.toNat : Nat) : Int) = o.i := by omega
      unfold decN
      split
      · rename_i hx
        refine ⟨h1, ?_⟩
        show (T.unlend p).at o.i.toNat o.h = some { o.e with lends := wrap64 (o.e.lends - 1) }
        rw [unlend_at T p _ _ hp, h2, Option.map_some, hi, if_pos (by rw [hx.1, hx.2])]
      · rename_i hx
        refine ⟨h1, ?_⟩
        rw [unlend_at T p _ _ hp, h2, Option.map_some, hi, if_neg (fun z => hx (by rw [← z]; exact ⟨rfl, rfl⟩))]
    · rintro ⟨h1, h2⟩
      rw [unlend_at T p _ _ hp, Option.map_eq_some_iff] at h2
      obtain ⟨e, he, hx⟩ := h2
      have hi : ((x.i.toNat : Nat) : Int) = x.i := by omega
      rw [hi] at hx
      refine ⟨⟨x.i, x.h, e⟩, (hM.mem _).2 ⟨h1, he⟩, ?_⟩
      unfold decN
      split at hx
      · rename_i hy
        rw [if_pos (by rw [← hy]; exact ⟨rfl, rfl⟩)]
        cases x with
        | mk a b c => simp only at hx ⊢; unfold On.lnd; rw [← hx]
      · rename_i hy
        rw [if_neg (fun z => hy (by simp only at z; rw [z.1, z.2]))]
        cases x with
        | mk a b c => simp only at hx ⊢; rw [← hx]
  · rw [List.map_map, show On.key ∘ decN p = On.key from funext hkey]; exact hM.nd
theorem mem_decs (l : List (Int × Int)) : ∀ {T : AT} {L : List On}, Mem T L → (∀ p ∈ l, 0 ≤ p.1) → Mem (l.foldl AT.unlend T) (decs L l) := by
  induction l with
  | nil => intro T L hM _; exact hM
  | cons p l ih =>
    intro T L hM hp
    unfold decs
    rw [List.foldl_cons, List.foldl_cons]
    exact ih (mem_unlend hM p (hp p List.mem_cons_self)) fun q hq => hp q (List.mem_cons_of_mem _ hq)
end Go.Proofs.Ytdjkjdlbckcplaa.Hd
