/- Several texts, laid into one for a claim: MN, MO, MP, MQ. -/
import Derived.Test.YtdjkjdlbckcplaaPHandlesPlays5
namespace Go.Proofs.Ytdjkjdlbckcplaa.Hd
open Go.RowKit Go.Proofs
set_option linter.unusedVariables false
set_option linter.unusedSimpArgs false
def Sim3 (a : Int × Int × RF) (b : Int × Int × AT) : Prop := a.1 = b.1 ∧ a.2.1 = b.2.1 ∧ Rel b.2.2 a.2.2
theorem rel_mak {T : AT} {R : RF} (hR : Rel T R) (r : Int) : R.mak r = T.mak r := by unfold RF.mak AT.mak; rw [hR.mkr]
theorem rel_is {T : AT} {R : RF} (hR : Rel T R) (i r : Int) : isB i r R.n R.mkr.length = T.is i r := by unfold AT.is; rw [hR.mkr, hR.n]
theorem rel_clen {T : AT} {R : RF} (hR : Rel T R) : R.calls.length = T.calls.length := by rw [hR.calls, List.length_map]
theorem fresh_rel {T : AT} {R : RF} (hR : Rel T R) {i : Int} (h0 : 0 ≤ i) (h1 : i < (T.tabs.length : Int)) (e : E) : Sim3 (R.fresh i e) (T.put i.toNat e) := by
  have hi : ((i.toNat : Nat) : Int) = i := by omega
  unfold RF.fresh AT.put
  rw [of_rel hR.m, hands_cnt h0 h1]
  by_cases hc : 256 ≤ cntA (T.tabs.getD i.toNat fun _ => none)
  · rw [if_pos hc, if_pos (by have := cnt_le (T.tabs.getD i.toNat fun _ => none); omega)]
    exact ⟨rfl, rfl, hR⟩
  · rw [if_neg hc, if_neg (by omega), frs_fresh h0 h1 hc]
    obtain ⟨hf, _, _⟩ := fresh_free _ hc
    refine ⟨rfl, rfl, hR.mkr, ?_, ?_, hR.calls, hR.lent⟩
    · show R.n = (T.tabs.set _ _).length
      rw [List.length_set]; exact hR.n
    · have h := mem_put hR.m (i := i.toNat) (by omega) (h := freshA (T.tabs.getD i.toNat fun _ => none)) hf e
      rw [hi] at h
      exact h
theorem lentF_congr : ∀ (a b : List AC) (k : Nat), a.map AC.lent = b.map AC.lent → lentF k a = lentF k b
  | [], [], _, _ => rfl
  | [], _ :: _, _, h => by cases h
  | _ :: _, [], _, h => by cases h
  | x :: a, y :: b, k, h => by
    rw [List.map_cons, List.map_cons] at h
    injection h with h1 h2
    rw [lentF, lentF, h1, lentF_congr a b (k + 1) h2]
theorem rel_bor {T : AT} {R : RF} (hR : Rel T R) (k : Nat) (v : Int) : Rel (T.setBor k v) R := by
  have hg : ∀ {β : Type} (f : AC → β), (∀ c : AC, f { c with bor := v } = f c) → ((T.setBor k v).calls).map f = T.calls.map f := by
    intro β f hf
    unfold AT.setBor
    refine map_set_same f _ _ _ fun y hy => ?_
    rw [List.getD, hy]
    exact hf y
  exact ⟨hR.mkr, hR.n, ⟨fun o => hR.m.mem o, hR.m.nd⟩, by rw [hR.calls, hg AC.i (fun _ => rfl)], by rw [hR.lent, lentF_congr _ _ 1 (hg AC.lent (fun _ => rfl)).symm]⟩
theorem make_rel {T : AT} {R : RF} (hR : Rel T R) (i r n : Int) : Sim3 (R.make i r n) (T.make i r n) := by
  unfold RF.make AT.make
  rw [rel_is hR, rel_mak hR]
  cases hb : T.is i r with
  | false => rw [if_neg (by decide), if_neg (by decide)]; exact ⟨rfl, rfl, hR⟩
  | true =>
    rw [if_pos rfl, if_pos rfl]
    obtain ⟨h1, h2, _, _⟩ := isB_true hb
    split
    · split
      · exact fresh_rel hR h1 h2 _
      · exact ⟨rfl, rfl, hR⟩
    · exact ⟨rfl, rfl, hR⟩
theorem putN_rel {T : AT} {R : RF} (hR : Rel T R) (i r n : Int) : Sim3 (R.putN i r n) (T.putN i r n) := by
  unfold RF.putN AT.putN
  rw [rel_is hR]
  cases hb : T.is i r with
  | false => rw [if_neg (by decide), if_neg (by decide)]; exact ⟨rfl, rfl, hR⟩
  | true =>
    rw [if_pos rfl, if_pos rfl]
    obtain ⟨h1, h2, _, _⟩ := isB_true hb
    split
    · exact fresh_rel hR h1 h2 _
    · exact ⟨rfl, rfl, hR⟩
theorem borrow_rel {T : AT} {R : RF} (hR : Rel T R) (i r n : Int) : Sim3 (R.borrow i r n) (T.borrow i r n) := by
  unfold RF.borrow AT.borrow
  rw [rel_is hR, rel_mak hR, rel_clen hR]
  cases hb : T.is i r with
  | false => rw [if_neg (by decide), if_neg (by decide)]; exact ⟨rfl, rfl, hR⟩
  | true =>
    rw [if_pos rfl, if_pos rfl]
    obtain ⟨h1, h2, _, _⟩ := isB_true hb
    split
    · exact ⟨rfl, rfl, hR⟩
    · split
      · split
        · exact ⟨rfl, rfl, hR⟩
        · obtain ⟨a, b, c⟩ := fresh_rel hR h1 h2 ⟨r, n, false, 0, (T.calls.length : Int)⟩
          unfold AT.lend1
          split
          · exact ⟨a, b, rel_bor c _ _⟩
          · exact ⟨a, b, c⟩
      · exact ⟨rfl, rfl, hR⟩
theorem rep_rel {T : AT} {R : RF} {n : Nat} (hR : Rel T R) (hI : T.Inv n) (i r h : Int) : R.rep i r h = T.rep i r h := by
  have hf := find_rel hR hI i r h
  unfold RF.rep AT.rep
  cases hx : fnd (isOn i r h) R.L 0 with
  | none => rw [hx] at hf; dsimp only at hf; rw [hf]
  | some k =>
    rw [hx] at hf
    dsimp only at hf
    rw [hf.1, rel_mak hR]
theorem del_rel {T : AT} {R : RF} (hR : Rel T R) {k : Nat} {i h : Int} (h0 : 0 ≤ i) (hk : R.L[k]? = some (R.nth k)) (hx : R.nth k = ⟨i, h, (R.nth k).e⟩) : Rel (T.del i.toNat h) (R.less k) := by
  have hm := mem_less hR.m hk
  rw [show (R.nth k).i = i by rw [hx], show (R.nth k).h = h by rw [hx]] at hm
  exact ⟨hR.mkr, by show R.n = (T.tabs.set _ _).length; rw [List.length_set]; exact hR.n, hm, hR.calls, hR.lent⟩
theorem drop_rel {T : AT} {R : RF} {n : Nat} (hR : Rel T R) (hI : T.Inv n) (i r h : Int) : (R.drop i r h).1 = (T.drop i r h).1 ∧ (R.drop i r h).2.1 = (T.drop i r h).2.1 ∧ (R.drop i r h).2.2.1 = (T.drop i r h).2.2.1 ∧ Rel (T.drop i r h).2.2.2 (R.drop i r h).2.2.2 := by
  have hf := find_rel hR hI i r h
  unfold RF.drop AT.drop
  cases hx : fnd (isOn i r h) R.L 0 with
  | none => rw [hx] at hf; dsimp only at hf; rw [hf]; exact ⟨rfl, rfl, rfl, hR⟩
  | some k =>
    rw [hx] at hf
    dsimp only at hf
    obtain ⟨h1, h2, h3, h4, h5, h6, h7⟩ := hf
    rw [h1]
    dsimp only
    split
    · exact ⟨rfl, rfl, rfl, hR⟩
    · have hd := del_rel hR h5 h3 h2
      refine ⟨rfl, rfl, rfl, ?_⟩
      dsimp only
      split
      · exact hd
      · exact rel_bor hd _ _
theorem take_rel {T : AT} {R : RF} {n : Nat} (hR : Rel T R) (hI : T.Inv n) (i r h : Int) : Sim3 (R.take i r h) (T.take i r h) := by
  have hf := find_rel hR hI i r h
  unfold RF.take AT.take
  cases hx : fnd (isOn i r h) R.L 0 with
  | none => rw [hx] at hf; dsimp only at hf; rw [hf]; exact ⟨rfl, rfl, hR⟩
  | some k =>
    rw [hx] at hf
    dsimp only at hf
    obtain ⟨h1, h2, h3, h4, h5, h6, h7⟩ := hf
    rw [h1]
    dsimp only
    split
    · split
      · exact ⟨rfl, rfl, hR⟩
      · exact ⟨rfl, rfl, del_rel hR h5 h3 h2⟩
    · exact ⟨rfl, rfl, hR⟩
theorem lend_rel {T : AT} {R : RF} {n : Nat} (hR : Rel T R) (hI : T.Inv n) (i r h : Int) : Sim3 (R.lend i r h) (T.lend i r h) := by
  have hf := find_rel hR hI i r h
  unfold RF.lend AT.lend
  rw [rel_clen hR]
  cases hx : fnd (isOn i r h) R.L 0 with
  | none => rw [hx] at hf; dsimp only at hf; rw [hf]; exact ⟨rfl, rfl, hR⟩
  | some k =>
    rw [hx] at hf
    dsimp only at hf
    obtain ⟨h1, h2, h3, h4, h5, h6, h7⟩ := hf
    rw [h1]
    dsimp only
    split
    · exact ⟨rfl, rfl, hR⟩
    · rename_i hc
      obtain ⟨L', hL'⟩ : ∃ L', L' = R.L.set k ((R.nth k).lnd (wrap64 ((R.nth k).e.lends + 1))) := ⟨_, rfl⟩
      have hm : Mem (T.upd (R.nth k).i.toNat (R.nth k).h (some { (R.nth k).e with lends := wrap64 ((R.nth k).e.lends + 1) })) L' := by
        rw [hL']; exact mem_set hR.m h3 { (R.nth k).e with lends := wrap64 ((R.nth k).e.lends + 1) }
      rw [show (R.nth k).i.toNat = i.toNat by rw [h2], show (R.nth k).h = h by rw [h2], hL'] at hm
      obtain ⟨cs, c1, c2, c3⟩ := last_split hc
      have hset : ∀ x : AC, T.calls.set (T.calls.length - 1) x = cs ++ [x] := fun x => by
        rw [c1, List.length_append, List.length_singleton, Nat.add_sub_cancel, List.set_append_right _ _ (Nat.le_refl _), Nat.sub_self]; rfl
      refine ⟨rfl, rfl, hR.mkr, ?_, ?_, ?_, ?_⟩
      · show R.n = (T.tabs.set _ _).length
        rw [List.length_set]; exact hR.n
      · exact ⟨fun o => hm.mem o, hm.nd⟩
      · show R.calls = (T.calls.set (T.calls.length - 1) _).map AC.i
        rw [hset, hR.calls]
        conv => lhs; rw [c1]
        rw [List.map_append, List.map_append]; rfl
      · show R.lent ++ [((T.calls.length : Int), i, h)] = lentF 1 (T.calls.set (T.calls.length - 1) _)
        rw [hset, hR.lent, lentF_append]
        conv => lhs; rw [c1]
        rw [lentF_append]
        simp only [lentF, List.append_nil, List.map_append, List.map_cons, List.map_nil, List.append_assoc]
        rw [show ((1 + cs.length : Nat) : Int) = ((cs ++ [T.lastC]).length : Int) by simp; omega]
theorem enter_rel {T : AT} {R : RF} {n : Nat} (hR : Rel T R) (hI : T.Inv n) (i : Int) : (R.enter i).1 = (T.enter i).1 ∧ Rel (T.enter i).2 (R.enter i).2 := by
  have ha : R.calls.any (fun c => c == i) = T.hasC i := by
    rw [hR.calls, List.any_map]; rfl
  have hd := hI.deep
  unfold RF.enter AT.enter
  rw [rel_clen hR, ha, hR.n]
  split
  · split
    · split
      · exact ⟨rfl, hR⟩
      · by_cases h16 : 16 ≤ T.calls.length
        · rw [if_pos h16, if_pos (by omega)]; exact ⟨rfl, hR⟩
        · rw [if_neg h16, if_neg (by omega)]
          refine ⟨rfl, hR.mkr, rfl, ⟨fun o => hR.m.mem o, hR.m.nd⟩, ?_, ?_⟩
          · show R.calls ++ [i] = (T.calls ++ [_]).map AC.i
            rw [List.map_append, hR.calls]; rfl
          · show R.lent = lentF 1 (T.calls ++ [_])
            rw [lentF_append, hR.lent]
            simp [lentF]
    · exact ⟨rfl, hR⟩
  · exact ⟨rfl, hR⟩
theorem sum_pos : ∀ (l : List Nat), 0 < l.sum → ∃ (i : Nat) (y : Nat), l[i]? = some y ∧ 0 < y
  | [], h => by cases h
  | a :: l, h => by
    rw [List.sum_cons] at h
    by_cases ha : 0 < a
    · exact ⟨0, a, rfl, ha⟩
    · obtain ⟨i, y, h1, h2⟩ := sum_pos l (by omega)
      exact ⟨i + 1, y, h1, h2⟩
theorem tot_pos2 {T : AT} {n : Nat} (hI : T.Inv n) (p : E → Bool) : 0 < tot p T ↔ ∃ (i : Nat) (h : Int) (e : E), T.at i h = some e ∧ p e = true := by
  constructor
  · intro h
    obtain ⟨i, y, h1, h2⟩ := sum_pos _ h
    rw [List.getElem?_map, Option.map_eq_some_iff] at h1
    obtain ⟨f, hf, rfl⟩ := h1
    obtain ⟨k, hk⟩ := List.exists_mem_of_length_pos h2
    have := (List.mem_filter.1 hk).2
    cases hx : f ((k : Int) + 1) with
    | none => rw [hx] at this; cases this
    | some e =>
      rw [hx] at this
      exact ⟨i, (k : Int) + 1, e, by unfold AT.at; rw [List.getD, hf]; exact hx, this⟩
  · rintro ⟨i, h, e, ha, hp⟩
    have hl := at_len ha
    obtain ⟨k1, k2⟩ := hI.keys i h e ha
    refine Nat.lt_of_lt_of_le ?_ (le_sum _ i _ (by rw [List.getElem?_map, List.getElem?_eq_getElem hl]; rfl))
    unfold cntP
    refine List.length_pos_of_mem (a := (h - 1).toNat) (List.mem_filter.2 ⟨List.mem_range.2 (by omega), ?_⟩)
    rw [show (((h - 1).toNat : Nat) : Int) + 1 = h by omega]
    have : T.tabs[i] h = some e := by
      unfold AT.at at ha
      rw [List.getD, List.getElem?_eq_getElem hl] at ha; exact ha
    rw [this]; exact hp
theorem leave_rel {T : AT} {R : RF} {n : Nat} (hR : Rel T R) (hI : T.Inv n) : R.leave.1 = T.leave.1 ∧ Rel T.leave.2 R.leave.2 := by
  unfold RF.leave AT.leave
  rw [rel_clen hR]
  by_cases hc : T.calls.length = 0
  · rw [if_pos hc, if_pos hc]; exact ⟨rfl, hR⟩
  · rw [if_neg hc, if_neg hc]
    have hb := last_bor hI hc
    have htp := tot_pos2 hI (fun e => e.call == (T.calls.length : Int))
    by_cases hbo : 0 < T.lastC.bor
    · rw [if_pos hbo, if_pos]
      · exact ⟨rfl, hR⟩
      · obtain ⟨i, h, e, h1, h2⟩ := htp.1 (by omega)
        exact List.any_eq_true.2 ⟨⟨(i : Int), h, e⟩, (hR.m.mem _).2 ⟨Int.natCast_nonneg _, by simpa using h1⟩, h2⟩
    · rw [if_neg hbo, if_neg]
      · obtain ⟨cs, c1, c2, c3⟩ := last_split hc
        have hlt := lentF_lt cs 1
        have hl : R.lent = lentF 1 cs ++ T.lastC.lent.map (fun p => ((T.calls.length : Int), p)) := by
          rw [hR.lent]
          conv => lhs; rw [c1]
          rw [lentF_append, show 1 + cs.length = T.calls.length by omega]
          simp [lentF]
        have hof : ofCall T.calls.length R.lent = T.lastC.lent := by
          unfold ofCall
          rw [hl, List.filter_append, List.filter_eq_nil_iff.2 (fun x hx z => by have := hlt x hx; have := beq_iff_eq.1 z; omega), List.nil_append, List.filter_eq_self.2 (fun x hx => by obtain ⟨p, _, rfl⟩ := List.mem_map.1 hx; exact beq_self_eq_true _), List.map_map]
          exact List.map_id _
        have hnt : notCall T.calls.length R.lent = lentF 1 cs := by
          unfold notCall
          rw [hl, List.filter_append, List.filter_eq_self.2 (fun x hx => by have := hlt x hx; exact bne_iff_ne.2 (by omega)), List.filter_eq_nil_iff.2 (fun x hx z => by obtain ⟨p, _, rfl⟩ := List.mem_map.1 hx; simp at z), List.append_nil]
        have hmem : T.lastC ∈ T.calls := by
          have : T.lastC ∈ cs ++ [T.lastC] := by simp
          exact c1 ▸ this
        have hm := mem_decs T.lastC.lent hR.m (fun p hp => (hI.there _ hmem p hp).1)
        obtain ⟨r1, r2, r3⟩ := fold_rest T.lastC.lent T
        rw [hof, hnt]
        refine ⟨rfl, ?_, ?_, ⟨fun o => hm.mem o, hm.nd⟩, ?_, ?_⟩
        · show R.mkr = (T.lastC.lent.foldl AT.unlend T).mkr
          rw [r2]; exact hR.mkr
        · show R.n = (T.lastC.lent.foldl AT.unlend T).tabs.length
          rw [r3]; exact hR.n
        · show R.calls.dropLast = T.calls.dropLast.map AC.i
          rw [hR.calls, List.map_dropLast]
        · show lentF 1 cs = lentF 1 T.calls.dropLast
          rw [c3]
      · intro z
        obtain ⟨o, h1, h2⟩ := List.any_eq_true.1 z
        obtain ⟨h3, h4⟩ := (hR.m.mem o).1 h1
        have := htp.2 ⟨_, _, _, h4, h2⟩
        omega
/-- Each deed answers the same, and leaves the same. -/
theorem doz_rel {T : AT} {R : RF} {n : Nat} (hR : Rel T R) (hI : T.Inv n) (k i r h : Int) : (R.doz k i r h).1 = (T.doz k i r h).1 ∧ (R.doz k i r h).2.1 = (T.doz k i r h).2.1 ∧ (R.doz k i r h).2.2.1 = (T.doz k i r h).2.2.1 ∧ Rel (T.doz k i r h).2.2.2 (R.doz k i r h).2.2.2 := by
  unfold RF.doz AT.doz
  split
  · obtain ⟨a, b, c⟩ := make_rel hR i r h; exact ⟨a, b, rfl, c⟩
  · split
    · rw [rep_rel hR hI]; exact ⟨rfl, rfl, rfl, hR⟩
    · split
      · obtain ⟨a, b, c, d⟩ := drop_rel hR hI i r h; exact ⟨a, c, b, d⟩
      · split
        · obtain ⟨a, b, c, d⟩ := drop_rel hR hI i r h; exact ⟨a, c, b, d⟩
        · split
          · obtain ⟨a, b, c⟩ := take_rel hR hI i r h; exact ⟨a, b, rfl, c⟩
          · split
            · obtain ⟨a, b, c⟩ := putN_rel hR i r h; exact ⟨a, b, rfl, c⟩
            · split
              · obtain ⟨a, b, c⟩ := lend_rel hR hI i r h; exact ⟨a, b, rfl, c⟩
              · split
                · obtain ⟨a, b, c⟩ := borrow_rel hR i r h; exact ⟨a, b, rfl, c⟩
                · split
                  · obtain ⟨a, b⟩ := enter_rel hR hI i; exact ⟨rfl, a, rfl, b⟩
                  · obtain ⟨a, b⟩ := leave_rel hR hI; exact ⟨rfl, a, rfl, b⟩
theorem lentF_len : ∀ (a : List AC) (k : Nat), (lentF k a).length = (a.map fun c => c.lent.length).sum
  | [], _ => rfl
  | c :: a, k => by rw [lentF, List.length_append, List.length_map, lentF_len a (k + 1), List.map_cons, List.sum_cons]
theorem rel_few {T : AT} {R : RF} {n : Nat} (hR : Rel T R) (hI : T.Inv n) : R.L.length ≤ 1024 := by
  have h1 : (R.L.map On.key).length ≤ ((List.range 4).flatMap fun a : Nat => (List.range 256).map fun b : Nat => ((a : Int), (b : Int) + 1)).length := by
    refine nodup_sub_len _ _ hR.m.nd fun x hx => ?_
    obtain ⟨o, ho, rfl⟩ := List.mem_map.1 hx
    obtain ⟨h1, h2⟩ := (hR.m.mem o).1 ho
    have h3 := at_len h2
    have h4 := hI.few
    obtain ⟨h5, h6⟩ := hI.keys _ _ _ h2
    refine List.mem_flatMap.2 ⟨o.i.toNat, List.mem_range.2 (by omega), List.mem_map.2 ⟨(o.h - 1).toNat, List.mem_range.2 (by omega), ?_⟩⟩
    unfold On.key
    rw [Prod.mk.injEq]
    exact ⟨by omega, by omega⟩
  rw [List.length_map] at h1
  refine Nat.le_trans h1 (Nat.le_of_eq ?_)
  have hl : ∀ l : List Nat, (l.flatMap fun a : Nat => (List.range 256).map fun b : Nat => ((a : Int), (b : Int) + 1)).length = l.length * 256 := by
    intro l
    induction l with
    | nil => rfl
    | cons a l ih => rw [List.flatMap_cons, List.length_append, ih, List.length_map, List.length_range, List.length_cons]; omega
  rw [hl]; rfl
theorem rel_ok {T : AT} {R : RF} {n : Nat} (hR : Rel T R) (hI : T.Inv n) (hn : n < 1000000) : R.Ok := by
  refine ⟨by have := rel_few hR hI; omega, ?_, ?_, fun o ho => ?_⟩
  · rw [hR.lent, lentF_len]; have := hI.room; omega
  · rw [rel_clen hR]; have := hI.deep; omega
  · rw [hR.mkr]; exact hI.rs _ _ _ ((hR.m.mem o).1 ho).2
theorem new_rel (n : Int) (l : List Int) (hn : 1 ≤ n) : Rel (newT n.toNat l) (newR n l) := by
  refine ⟨rfl, ?_, ⟨fun o => ?_, List.nodup_nil⟩, rfl, rfl⟩
  · show n.toNat = (List.replicate n.toNat noneT).length
    rw [List.length_replicate]
  · constructor
    · intro h; cases h
    · rintro ⟨_, h⟩; rw [newT_at] at h; cases h
open Go.RowKit Go.Proofs Go.Proofs.YtdjkjdlbckcplaaW.PrintWords Go.Proofs.YtdjkjdlbckcplaaW.PrintLast Go.Proofs.YtdjkjdlbckcplaaW.PrintMore Go.Proofs.Ytdjkjdlbckcplaa.MapI
set_option maxHeartbeats 32000000 in
set_option maxRecDepth 100000 in
theorem same21_calls {w : World} {ga gb b0 : Nat} {S : Tb} {V : RV} {R : RF} {Da Db : Nat → Prop} (ha : HT w ga S Da) (hb : RT w gb b0 V R Db) (hR : Rel S.abs R) (hc : S.calls.length < 1000000) (hl : R.L.length < 1000000) (hn : R.n ≤ 1000000) :
    Calls Try.prog 21 #[.pointer (some ⟨ga, 0, none⟩), .pointer (some ⟨gb, 0, none⟩)] w fun e w' => e = .returned (.bool true) ∧ Below w.heap.size w w' := by
  have hci : R.calls = S.calls.map CL.i := by
    rw [hR.calls]
    simp [Tb.abs, CL.abs, Function.comp_def]
  have K1 : ∀ (ii : Int) W, Below w.heap.size w W → Calls Try.prog 12 #[.pointer (some ⟨ga, 0, none⟩), .int .i64 ii] W fun e w' => ∃ A c, e = .returned (.slice A (S.abs.hands ii).length c) ∧ w'.ownsRow W.heap.size 31 6 (.slice A (S.abs.hands ii).length c) (S.abs.hands ii).length ((S.abs.hands ii).flatMap hval) ∧ Below W.heap.size W w' := fun ii W hW =>
    (hands_ht (ht_below ha hW) ii).mono fun e w' ⟨A, c, h1, h2, _, h4⟩ => ⟨A, c, h1, h2, h4⟩
  have K2 : ∀ (ii : Int) W, Below w.heap.size w W → Calls Try.prog 19 #[.pointer (some ⟨gb, 0, none⟩), .int .i64 ii] W fun e w' => ∃ A c, e = .returned (.slice A (S.abs.hands ii).length c) ∧ w'.ownsRow W.heap.size 31 6 (.slice A (S.abs.hands ii).length c) (S.abs.hands ii).length ((S.abs.hands ii).flatMap hval) ∧ Below W.heap.size W w' := fun ii W hW => by
    rw [← of_rel hR.m ii]
    exact of_calls (hb.below hW) ii hl
  have K3 : ∀ W, Below w.heap.size w W → Calls Try.prog 22 #[.pointer (some ⟨ga, 0, none⟩)] W fun e w' => ∃ A c, e = .returned (.slice A R.calls.length c) ∧ w'.ownsRow W.heap.size 3 1 (.slice A R.calls.length c) R.calls.length (R.calls.map (Value.int .i64)) ∧ Below W.heap.size W w' := fun W hW => by
    rw [hci]
    refine (calls_calls (ht_below ha hW) hc).mono ?_
    rintro e w' ⟨v, rfl, h1, h2⟩
    obtain ⟨A, c, rfl⟩ := own_slice h1
    exact ⟨A, c, by rw [List.length_map], by rw [List.length_map]; exact h1, h2⟩
  have hll : ∀ ii : Int, (S.abs.hands ii).length ≤ 256 := fun ii => hands_le S.abs ii
  have hcs : R.calls.length ≤ 1000000 := by rw [hci, List.length_map]; omega
  obtain ⟨cA, cc, hcv⟩ := own_slice hb.co
  obtain ⟨HL, hHL⟩ : ∃ HL : Int → List (Int × E), HL = fun ii => S.abs.hands ii := ⟨_, rfl⟩
  have e1 : ∀ ii, S.abs.hands ii = HL ii := fun ii => by rw [hHL]
  simp only [e1] at K1 K2 hll
  have HK1 := Aside0.mk K1
  have HK2 := Aside0.mk K2
  have HK3 := Aside0.mk K3
  have HLL := Aside0.mk hll
  have HCS := Aside0.mk hcs
  have HRT := Aside0.mk hb
  have HNN := Aside0.mk hn
  clear K1 K2 K3 hll hcs e1 hHL hci ha hb hR hc hl hn
  go_enter Try.func21, Try.ntmps21
  go_wp2
  go_loopg [5] R.n (fun gg s5 wr => ∃ kk : Nat, kk ≤ R.n ∧ R.n - kk ≤ gg ∧ s5 = Value.int .i64 (kk : Int) ∧ Aside0 (Below w.heap.size w wr))
  case atStart => exact ⟨0, Nat.zero_le _, by omega, rfl, ⟨Below.refl _ _⟩⟩
  case round =>
    obtain ⟨kk, hkk, hg, rfl, BR⟩ := hrel
    have c0 : wr.cell? ⟨gb, 0, none⟩ = some (.int .i64 R.n) := ((HRT.out.below BR.out).cell 0).trans rfl
    by_cases hlt : kk < R.n
    · have q : decide ((kk : Int) < (R.n : Int)) = true := decide_eq_true (by omega)
      have hnn := HNN.out
      have k1 := HK1.out (kk : Int) _ BR.out
      have k2 := fun W => HK2.out (kk : Int) W
      have hl := HLL.out (kk : Int)
      generalize HL (kk : Int) = LH at k1 k2 hl
      have HK := Aside0.mk k2
      have HLE := Aside0.mk hl
      clear k2 hl
      go_wp2_with (first | (go_at_call 19; refine (HK.out _ BB1.out).mono ?_; rintro e w2 ⟨A2, c2, rfl, o2, B2⟩; have O1' := Aside0.mk (own_bel O1.out B2); have O2 := Aside0.mk o2; have BB2 := Aside0.mk (bel_bel BB1.out B2); clear o2 B2) | (go_at_call 12; refine k1.mono ?_; rintro e w1 ⟨A1, c1, rfl, o1, B1⟩; have O1 := Aside0.mk o1; have BB1 := Aside0.mk (bel_bel BR.out B1); clear o1 B1) | (go_at_call 48; refine (same16_calls O1'.out O2.out HLE.out).mono ?_; rintro e w3 ⟨rfl, B3⟩; have BB3 := Aside0.mk (bel_bel BB2.out B3); clear B3))
      go_roundg (R.n - (kk + 1))
      case measure => omega
      case rel => exact ⟨kk + 1, by omega, by omega, by first | rfl | (congr 1; unfold wrap64; omega), BB3⟩
    · have q : decide ((kk : Int) < (R.n : Int)) = false := decide_eq_false (by omega)
      have c3r : wr.cell? ⟨gb, 3, none⟩ = some (.slice cA R.calls.length cc) := by rw [← hcv]; exact ((HRT.out.below BR.out).cell 3).trans rfl
      have BRd : Aside0 (Below w.heap.size w wr.drew) := ⟨BR.out.drew⟩
      go_wp2
      go_region_with (first | (go_at_call 22; refine (HK3.out _ BRd.out).mono ?_; rintro e w1 ⟨A1, c1, rfl, o1, B1⟩; have O1 := Aside0.mk o1; have BB1 := Aside0.mk (bel_bel BRd.out B1); have c3 : w1.cell? ⟨gb, 3, none⟩ = some (.slice cA R.calls.length cc) := (by rw [← hcv]; exact ((HRT.out.below BB1.out).cell 3).trans rfl); have O2 : Aside0 (w1.ownsRow 0 3 1 (.slice cA R.calls.length cc) R.calls.length (R.calls.map (Value.int .i64))) := ⟨by rw [← hcv]; exact (HRT.out.below BB1.out).co⟩; clear o1 B1) | (go_at_call 49; refine (same01_calls O1.out O2.out HCS.out).mono ?_; rintro e w3 ⟨rfl, B3⟩; have BB3 := Aside0.mk (bel_bel BB1.out B3); clear B3))
      all_goals
        go_wp2
        go_ret
        exact ⟨rfl, BB3.out⟩
open Go.RowKit Go.Proofs Go.Proofs.YtdjkjdlbckcplaaW.PrintWords Go.Proofs.YtdjkjdlbckcplaaW.PrintLast Go.Proofs.YtdjkjdlbckcplaaW.PrintMore Go.Proofs.Ytdjkjdlbckcplaa.MapI Go.Proofs.Ytdjkjdlbckcplaa.Reads
theorem RT.lower {w : World} {g b0 b1 : Nat} {V : RV} {R : RF} {D : Nat → Prop} (h : RT w g b0 V R D) (hb : b1 ≤ b0) (hm : 0 < R.mkr.length → ∀ a, V.mA = some a → a.block < b1) : RT w g b1 V R D :=
  { h with mkB := hm, low := fun b z => Nat.le_trans hb (h.low b z), b0le := Nat.le_trans hb h.b0le }
theorem RT.fr {w w' : World} {g b0 : Nat} {V : RV} {R : RF} {D D1 : Nat → Prop} (h : RT w g b0 V R D) (k : Fr w w' D1) (hd : ∀ b, D1 b → ¬ D b) (hl : ∀ b, D1 b → b0 ≤ b) : RT w' g b0 V R D :=
  h.keep k.1 fun b hb hD => k.2.1 b hb fun z => hD.elim (hd b z) fun q => by have := hl b z; omega
theorem RT.set {w : World} {g b0 : Nat} {V : RV} {R : RF} {D : Nat → Prop} (h : RT w g b0 V R D) {b j : Nat} {u : Value} (hb : ¬ D b) (hb0 : b0 ≤ b) : RT (w.setCell ⟨b, j, none⟩ u) g b0 V R D :=
  h.keep (by simp [World.setCell]) fun q _ hq => Below.heap_setCell w _ _ q (fun z => by
    have z' : q = b := z
    subst z'
    exact hq.elim hb (fun q' => by omega))
theorem bne_self_eq_false' (x : Int) : (x != x) = false := by simp
theorem blk_new' (w : World) (o : Obj) : (w.alloc o).heap[w.heap.size]? = some o := heap_alloc_new w o
theorem fr_all {w w' : World} (h : Fr w w' (fun _ => False)) : Below w.heap.size w w' := ⟨h.2.2.os, h.2.2.tape, h.2.2.output, h.1, fun q hq => h.2.1 q hq id⟩
/-- The program's tables and the document's, side by side. -/
def Both (w wr : World) (ga gb k : Nat) : Prop := ∃ S V R D1 D2, HT wr ga S D1 ∧ RT wr gb w.heap.size V R D2 ∧ Rel S.abs R ∧ S.abs.Inv k ∧ (∀ b, D1 b → ¬ D2 b) ∧ (∀ b, D1 b → w.heap.size ≤ b) ∧ Below w.heap.size w wr
theorem both_new {w w1 w2 : World} {ga : Nat} {S : Tb} {V : RV} {n : Int} {l : List Int} (h1 : HT w1 ga S (fun b => w.heap.size ≤ b)) (hS : S.abs = newT n.toNat l) (hF : Fr w w1 (fun _ => False)) (h2 : RT w2 w1.heap.size w1.heap.size V (newR n l) (fun b => w1.heap.size ≤ b)) (hB : Below w1.heap.size w1 w2) (hn : newB n l = true) (hm : 0 < l.length → ∀ a, V.mA = some a → a.block < w.heap.size) :
    Both w w2 ga w1.heap.size 0 := by
  unfold newB at hn
  simp only [Bool.and_eq_true, decide_eq_true_eq] at hn
  refine ⟨S, V, newR n l, fun b => w.heap.size ≤ b ∧ b < w1.heap.size, fun b => w1.heap.size ≤ b, ht_below h1.within hB, h2.lower hF.1 hm, by rw [hS]; exact new_rel n l hn.1, by rw [hS]; exact newT_inv _ _ (by omega), fun b hb z => by omega, fun b hb => hb.1, (fr_all hF).trans ⟨hB.os, hB.tape, hB.output, hB.size, fun q hq => hB.block q (Nat.lt_of_lt_of_le hq hF.1)⟩⟩
set_option maxHeartbeats 32000000 in
set_option maxRecDepth 100000 in
theorem scarflaw16_HandlesPlays.calls (n : Int) (M : Option Addr) (mc : Nat) (mk : List Int) (A : Option Addr) (cc : Nat) (l : List Dd) (b : Bool) (w : World) (hM : Ints w M mk ∧ mk.length ≤ 9223372036854775807) (hmc : mk.length ≤ mc) (hD : Dds w A l) (hlc : l.length ≤ cc) (hb : some true = some b) :
    Calls Try.prog 5 #[.int .i64 n, .slice M mk.length mc, .slice A l.length cc] w fun e w' => e = .returned (.bool b) ∧ Below w.heap.size w w' := by
  obtain rfl : true = b := Option.some.inj hb
  clear hb
  obtain ⟨hI, hmx⟩ := hM
  have hMB : 0 < mk.length → ∀ a, M = some a → a.block < w.heap.size := fun hp a ha => by
    obtain ⟨ad, e1, e2⟩ := hI 0 hp
    rw [e1] at ha
    injection ha with ha
    subst ha
    have hb : (ad.add 0).block = ad.block := by unfold Addr.add; split <;> rfl
    rw [← hb]
    unfold World.cell? at e2
    cases hx : w.heap[(ad.add 0).block]? with
    | none => rw [hx] at e2; cases e2
    | some o => exact (Array.getElem?_eq_some_iff.1 hx).1
  have h18 : ∀ W, Below w.heap.size w W → Calls Try.prog 18 #[.int .i64 n, .slice M mk.length mc] W fun e w' => (newB n mk = true → e = .returned (.tuple #[.pointer (some ⟨W.heap.size, 0, none⟩), .int .i64 0]) ∧ ∃ V, RT w' W.heap.size W.heap.size V (newR n mk) (fun b => W.heap.size ≤ b) ∧ V.mA = M) ∧ (newB n mk = false → e = .returned (.tuple #[.pointer none, .int .i64 1])) ∧ Below W.heap.size W w' := fun W hW =>
    new18_calls W mk M mc (ints_same hI fun hp a ha => hW.block _ (hMB hp a ha)) hmx (fun hp a ha => Nat.lt_of_lt_of_le (hMB hp a ha) hW.size) n
  cases hnb : newB n mk with
  | false =>
    have h14 := new_bad2 w mk M mc hI hmx n hnb
    rw [hnb] at h18
    clear hI hmx hMB hD hnb
    go_enter Try.func5, Try.ntmps5
    go_wp2_with (first | (go_at_call 14; refine h14.mono ?_; rintro e w1 ⟨rfl, F1⟩; have B1 := Aside0.mk (fr_all F1); clear F1) | (go_at_call 18; refine (h18 _ B1.out).mono ?_; rintro e w2 ⟨-, q2, q3⟩; obtain rfl := q2 (by trivial); have B2 := Aside0.mk (bel_bel B1.out q3); clear q2 q3) | (go_at_call 13; refine (awake_calls _).mono ?_; rintro e w4 ⟨rfl, B4⟩))
    go_ret
    exact ⟨rfl, bel_bel B2.out B4⟩
  | true =>
    have h14 := new_good' w mk M mc hI hmx n hnb
    rw [hnb] at h18
    have hsome := fun W => some_calls W A l.length cc hlc
    have HMB := Aside0.mk hMB
    have HNB := Aside0.mk hnb
    have HD := Aside0.mk hD
    clear hI hmx hMB hD hnb
    go_enter Try.func5, Try.ntmps5
    go_wp2_with (first | (go_at_call 14; refine h14.mono ?_; rintro e w1 ⟨ga, S, rfl, hT, hS, F1⟩; have HT1 := Aside0.mk hT; have HS1 := Aside0.mk hS; have FF1 := Aside0.mk F1; clear hT hS F1) | (go_at_call 18; refine (h18 _ (fr_all FF1.out)).mono ?_; rintro e w2 ⟨q1, -, q3⟩; obtain ⟨rfl, V, q4, q5⟩ := q1 (by trivial); have HB := Aside0.mk (both_new HT1.out HS1.out FF1.out q4 q3 HNB.out (fun hp a ha => HMB.out hp a (q5 ▸ ha))); clear q1 q3 q4 q5) | (go_at_call 15; refine (hsome _).mono ?_; rintro e w3 ⟨rfl, rfl⟩))
    generalize hm : min l.length 150 = m
    have hml : m ≤ l.length := by omega
    have hmc2 : m ≤ cc := by omega
    have hm150 : m ≤ 150 := by omega
    generalize w1.heap.size = gb at HB
    clear h14 h18 hsome HT1 HS1 FF1 HMB HNB hm
    go_loopg [11, 12, 13, 14, 15, 16, 17, 18] m (fun gg s11 s12 s13 s14 s15 s16 s17 s18 wr => ∃ kk : Nat, kk ≤ m ∧ m - kk ≤ gg ∧ s11 = Value.int .i64 (kk : Int) ∧ Aside0 (Both w wr ga gb kk))
    case atStart => exact ⟨0, Nat.zero_le _, by omega, rfl, HB⟩
    case round =>
      clear HB
      obtain ⟨kk, hkk, hg, rfl, NW⟩ := hrel
      obtain ⟨S', V, R, D1', D2', hT, hR, hRel, hInv, hdis, hlow, hBel⟩ := NW.out
      by_cases hlt' : kk < m
      · have q0 : (0 ≤ (kk : Int)) = True := eq_true (Int.natCast_nonneg kk)
        have q1 : ((kk : Int) < (m : Int)) = True := eq_true (by omega)
        have q2 : decide ((kk : Int) < (m : Int)) = true := decide_eq_true (by omega)
        obtain ⟨x, hx⟩ : ∃ x, l[kk]? = some x := ⟨_, List.getElem?_eq_getElem (by omega)⟩
        obtain ⟨ad, rfl, c0, hcr⟩ := (dds_below HD.out hBel) kk x hx
        have c1 := hcr 1 _ (by decide) rfl
        have c2 := hcr 2 _ (by decide) rfl
        have c3 := hcr 3 _ (by decide) rfl
        have c4 := hcr 4 _ (by decide) rfl
        have hTw := hT.within
        have hRw := hR.within
        have hdis2 : ∀ b, (D1' b ∧ b < wr.heap.size) → ¬ (D2' b ∧ b < wr.heap.size) := fun b h1 h2 => hdis b h1.1 h2.1
        have hup : ∀ b, wr.heap.size ≤ b → ¬ (D1' b ∧ b < wr.heap.size) ∧ ¬ (D2' b ∧ b < wr.heap.size) := fun b hb => ⟨fun z => by omega, fun z => by omega⟩
        have hlow2 : ∀ b, (D1' b ∧ b < wr.heap.size) → w.heap.size ≤ b := fun b h => hlow b h.1
        have hlt2 : ∀ b, (D2' b ∧ b < wr.heap.size) → b < wr.heap.size := fun b h => h.2
        generalize hDA : (fun b => D1' b ∧ b < wr.heap.size) = D1 at hTw
        generalize hDB : (fun b => D2' b ∧ b < wr.heap.size) = D2 at hRw
        have DIS : Aside0 (∀ b, D1 b → ¬ D2 b) := ⟨by rw [← hDA, ← hDB]; exact hdis2⟩
        have UP : Aside0 (∀ b, wr.heap.size ≤ b → ¬ D1 b ∧ ¬ D2 b) := ⟨by rw [← hDA, ← hDB]; exact hup⟩
        have LOW : Aside0 (∀ b, D1 b → w.heap.size ≤ b) := ⟨by rw [← hDA]; exact hlow2⟩
        have LT2 : Aside0 (∀ b, D2 b → b < wr.heap.size) := ⟨by rw [← hDB]; exact hlt2⟩
        have REL := Aside0.mk hRel
        have INV := Aside0.mk hInv
        have BEL := Aside0.mk hBel
        have HTW := Aside0.mk hTw
        have HRW := Aside0.mk hRw
        have hok := rel_ok hRel hInv (by omega)
        have OK := Aside0.mk hok
        have DDS : Aside0 (∀ W, Below w.heap.size w W → W.cell? (ad.add (kk * 5)) = some (.int .i64 x.k) ∧ (∀ q u, 0 < q → x.cells[q]? = some u → W.cell? ⟨(ad.add (kk * 5)).block, (ad.add (kk * 5)).off + q, none⟩ = some u)) := ⟨fun W hW => by
          obtain ⟨ad', e, c0', hcr'⟩ := (dds_below HD.out hW) kk x hx
          injection e with e; subst e; exact ⟨c0', hcr'⟩⟩
        clear hT hR hRel hInv hdis hlow hBel hTw hRw hdis2 hup hlow2 hlt2 hDA hDB NW hok hcr
        have K19 : ∀ W, Below wr.heap.size wr W → Calls Try.prog 19 #[.pointer (some ⟨gb, 0, none⟩), .int .i64 x.i] W fun e w' => ∃ A c, e = .returned (.slice A (S'.abs.hands x.i).length c) ∧ w'.ownsRow W.heap.size 31 6 (.slice A (S'.abs.hands x.i).length c) (S'.abs.hands x.i).length ((S'.abs.hands x.i).flatMap hval) ∧ Below W.heap.size W w' := fun W hW => by
          rw [← of_rel REL.out.m x.i]
          exact of_calls (HRW.out.below hW) x.i OK.out.l
        have HLE := hands_le S'.abs x.i
        generalize hLH : S'.abs.hands x.i = LH at K19 HLE
        have C16 := fun W A c (B : Nat) (ho : World.ownsRow W B 31 6 (.slice A LH.length c) LH.length (LH.flatMap hval)) => aimed_calls x.k x.i x.r x.h x.near LH A c ho HLE
        generalize hAP : aimP x.k x.r x.h x.near LH = AP at C16
        obtain ⟨ar, ah⟩ := AP
        dsimp only at C16
        clear hLH hAP
        go_upto_region 11 with (fail)
        go_cut [12] (fun s12 wc => ∃ B : Nat, s12 = .pointer (some ⟨B, 0, none⟩) ∧ wr.heap.size ≤ B ∧ Aside0 (wc.heap[B]? = some (.cells #[.int .i64 x.k, .int .i64 x.i, .int .i64 ar, .int .i64 ah, .bool x.near] 39 (0, 0))) ∧ Aside0 (HT wc ga S' D1) ∧ Aside0 (RT wc gb w.heap.size V R D2) ∧ Aside0 (Below wr.heap.size wr wc))
        case first =>
          have FIN : Aside0 (∀ (WF : World) (B : Nat), wr.heap.size ≤ B → WF.heap[B]? = some (.cells #[.int .i64 x.k, .int .i64 x.i, .int .i64 ar, .int .i64 ah, .bool x.near] 39 (0, 0)) → Below wr.heap.size wr WF → ∃ B' : Nat, Value.pointer (some ⟨B, 0, none⟩) = .pointer (some ⟨B', 0, none⟩) ∧ wr.heap.size ≤ B' ∧ Aside0 (WF.heap[B']? = some (.cells #[.int .i64 x.k, .int .i64 x.i, .int .i64 ar, .int .i64 ah, .bool x.near] 39 (0, 0))) ∧ Aside0 (HT WF ga S' D1) ∧ Aside0 (RT WF gb w.heap.size V R D2) ∧ Aside0 (Below wr.heap.size wr WF)) := ⟨fun WF B h1 h2 h3 => ⟨B, rfl, h1, ⟨h2⟩, ⟨ht_below HTW.out h3⟩, ⟨HRW.out.below h3⟩, ⟨h3⟩⟩⟩
          have BD : Aside0 (Below wr.heap.size wr wr.drew) := ⟨(Below.refl _ _).drew⟩
          have BA : Aside0 (Below wr.heap.size wr (wr.alloc (.cells #[.int .i64 0, .int .i64 0, .int .i64 0, .int .i64 0, .bool false] 39))) := ⟨(Below.refl _ _).alloc (Nat.le_refl _) _⟩
          have BAd : Aside0 (Below wr.heap.size wr (wr.alloc (.cells #[.int .i64 0, .int .i64 0, .int .i64 0, .int .i64 0, .bool false] 39)).drew) := ⟨BA.out.drew⟩
          have y0a : (wr.alloc (.cells #[.int .i64 0, .int .i64 0, .int .i64 0, .int .i64 0, .bool false] 39)).cell? (ad.add (kk * 5)) = some (.int .i64 x.k) := (DDS.out _ (bel_bel BEL.out BA.out)).1
          have yca := (DDS.out _ (bel_bel BEL.out BA.out)).2
          have y1a := yca 1 _ (by decide) rfl
          have y2a := yca 2 _ (by decide) rfl
          have y3a := yca 3 _ (by decide) rfl
          have y4a := yca 4 _ (by decide) rfl
          clear yca
          go_region_with (first
            | (go_at_call 19; refine (K19 _ BD.out).mono ?_; rintro e W4 ⟨hA, hcp, rfl, ho, B4⟩; have BB4 := Aside0.mk (bel_bel BD.out B4); obtain ⟨v0, vcr⟩ := DDS.out (W4.alloc (.cells #[.int .i64 0, .int .i64 0, .int .i64 0, .int .i64 0, .bool false] 39)) (bel_bel BEL.out (BB4.out.alloc BB4.out.size _)); have v1 := vcr 1 _ (by decide) rfl; have v2 := vcr 2 _ (by decide) rfl; have v3 := vcr 3 _ (by decide) rfl; have v4 := vcr 4 _ (by decide) rfl; clear vcr; obtain ⟨y0, ycr⟩ := DDS.out W4 (bel_bel BEL.out BB4.out); have y1 := ycr 1 _ (by decide) rfl; have y2 := ycr 2 _ (by decide) rfl; have y3 := ycr 3 _ (by decide) rfl; have y4 := ycr 4 _ (by decide) rfl; have OO4 := Aside0.mk ho; clear ho B4 ycr)
            | (go_at_call 19; refine (K19 _ BAd.out).mono ?_; rintro e W4 ⟨hA, hcp, rfl, ho, B4⟩; have BB4 := Aside0.mk (bel_bel BAd.out B4); have XB4 : Aside0 (W4.heap[wr.heap.size]? = some (.cells #[.int .i64 0, .int .i64 0, .int .i64 0, .int .i64 0, .bool false] 39 (0, 0))) := ⟨(B4.block _ (blk_lt (blk_new' wr (.cells #[.int .i64 0, .int .i64 0, .int .i64 0, .int .i64 0, .bool false] 39)))).trans (blk_new' wr _)⟩; obtain ⟨y0, ycr⟩ := DDS.out W4 (bel_bel BEL.out BB4.out); have y1 := ycr 1 _ (by decide) rfl; have y2 := ycr 2 _ (by decide) rfl; have y3 := ycr 3 _ (by decide) rfl; have y4 := ycr 4 _ (by decide) rfl; have OO4 := Aside0.mk ho; clear ho B4 ycr)
            | (go_at_call 16; refine (C16 _ hA hcp _ OO4.out).mono ?_; rintro e W5 ⟨rfl, B5⟩; have X5 := (B5.block _ (blk_lt XB4.out)).trans XB4.out; obtain ⟨z0, z1, z2, z3, z4⟩ := five_cells X5; have fz := fun j => blk_frozen X5 j; have XX5 := Aside0.mk X5; have BB5 := Aside0.mk (bel_bel BB4.out B5); clear B5 X5)
            | (go_at_call 16; refine (C16 _ hA hcp _ (own_same OO4.out fun q hq => heap_alloc_old W4 (.cells #[.int .i64 0, .int .i64 0, .int .i64 0, .int .i64 0, .bool false] 39) q (own_lt OO4.out hq).1)).mono ?_; rintro e W5 ⟨rfl, B5⟩; have X5 := (B5.block _ (blk_lt (blk_new' W4 (.cells #[.int .i64 0, .int .i64 0, .int .i64 0, .int .i64 0, .bool false] 39)))).trans (blk_new' W4 _); obtain ⟨z0, z1, z2, z3, z4⟩ := five_cells X5; have fz := fun j => blk_frozen X5 j; have XX5 := Aside0.mk X5; have BB5 := Aside0.mk (bel_bel (BB4.out.alloc BB4.out.size (.cells #[.int .i64 0, .int .i64 0, .int .i64 0, .int .i64 0, .bool false] 39)) B5); clear B5 X5)
            | (go_at_call 16; refine (C16 _ hA hcp _ OO4.out).mono ?_; rintro e W5 ⟨rfl, B5⟩; have X5 := blk_new' W5 (.cells #[.int .i64 0, .int .i64 0, .int .i64 0, .int .i64 0, .bool false] 39); obtain ⟨z0, z1, z2, z3, z4⟩ := five_cells X5; have fz := fun j => blk_frozen X5 j; have XX5 := Aside0.mk X5; have BB5 := Aside0.mk (bel_bel BB4.out B5); clear B5 X5))
          all_goals
            go_wp2
            go_meet
            case rel => first | exact FIN.out _ _ BB5.out.size (blk_new' W5 _) (BB5.out.alloc BB5.out.size _) | exact FIN.out _ _ BB4.out.size (blk_put (blk_put (blk_put (blk_put (blk_put XX5.out 0 (.int .i64 x.k) rfl) 1 (.int .i64 x.i) rfl) 2 (.int .i64 ar) rfl) 3 (.int .i64 ah) rfl) 4 (.bool x.near) rfl) (below_set (below_set (below_set (below_set (below_set BB5.out BB4.out.size) BB4.out.size) BB4.out.size) BB4.out.size) BB4.out.size) | exact FIN.out _ _ (Nat.le_refl _) (blk_put (blk_put (blk_put (blk_put (blk_put XX5.out 0 (.int .i64 x.k) rfl) 1 (.int .i64 x.i) rfl) 2 (.int .i64 ar) rfl) 3 (.int .i64 ah) rfl) 4 (.bool x.near) rfl) (below_set (below_set (below_set (below_set (below_set BB5.out (Nat.le_refl _)) (Nat.le_refl _)) (Nat.le_refl _)) (Nat.le_refl _)) (Nat.le_refl _))
        case rest =>
          obtain ⟨B, rfl, hB, XC, HTC, HRC, HBC⟩ := hcut
          have hrel := doz_rel REL.out INV.out x.k x.i ar ah
          have hinv := INV.out.doz (by omega) x.k x.i ar ah
          have hdo := does_aft HTC.out (INV.out.ok (by omega)) x.k x.i ar ah x.near
          have hdid := fun W (h : RT W gb w.heap.size V R D2) => did_aft h OK.out x.k x.i ar ah x.near
          generalize S'.abs.doz x.k x.i ar ah = DZ at hrel hinv hdo
          generalize R.doz x.k x.i ar ah = RZ at hrel hdid
          obtain ⟨dn, de, dw, T2⟩ := DZ
          obtain ⟨rn, re, rw', R2⟩ := RZ
          dsimp only at hrel hinv hdo hdid
          obtain ⟨rfl, rfl, rfl, hrel⟩ := hrel
          have REL2 := Aside0.mk hrel
          have INV2 := Aside0.mk hinv
          have HDID := Aside0.mk hdid
          have UB := UP.out B hB
          have v0 : wc.cell? ⟨B, 0, none⟩ = some (.int .i64 x.k) := (blk_cell XC.out 0).trans rfl
          have v1 : wc.cell? ⟨B, 1, none⟩ = some (.int .i64 x.i) := (blk_cell XC.out 1).trans rfl
          have v2 : wc.cell? ⟨B, 2, none⟩ = some (.int .i64 ar) := (blk_cell XC.out 2).trans rfl
          have v3 : wc.cell? ⟨B, 3, none⟩ = some (.int .i64 ah) := (blk_cell XC.out 3).trans rfl
          have v4 : wc.cell? ⟨B, 4, none⟩ = some (.bool x.near) := (blk_cell XC.out 4).trans rfl
          clear hrel hinv hdid K19 C16 c0 c1 c2 c3 c4 HLE
          go_upto_region 13 with (first | (go_at_call 17; refine hdo.mono ?_; rintro e W6 ⟨rfl, N6⟩))
          have X6 := aft_blk N6 XC.out UB.1
          obtain ⟨S6, hT6, hS6, hF6⟩ := N6
          have hR6 : RT W6 gb w.heap.size V R D2 := HRC.out.fr hF6 DIS.out LOW.out
          have hdid := HDID.out W6 hR6
          obtain ⟨DC, hDC⟩ : ∃ DC : Nat → Prop, DC = fun b => Dn D1 wc.heap.size b ∧ b < W6.heap.size := ⟨_, rfl⟩
          have hT6w : HT W6 ga S6 DC := by rw [hDC]; exact hT6.within
          have hd6 : ∀ b, DC b → ¬ Dn D2 W6.heap.size b := fun b h1 h2 => by
            rw [hDC] at h1
            have h3 : ¬ D2 b := h1.1.elim (DIS.out b) fun z q => by have := LT2.out b q; have := HBC.out.size; omega
            exact h2.elim h3 fun z => by have := h1.2; omega
          have hl6 : ∀ b, DC b → w.heap.size ≤ b := fun b h1 => by
            rw [hDC] at h1
            exact h1.1.elim (LOW.out b) fun z => by have := HBC.out.size; have := BEL.out.size; omega
          have B6 : Below w.heap.size w W6 := ⟨hF6.2.2.os.trans (HBC.out.os.trans BEL.out.os), hF6.2.2.tape.trans (HBC.out.tape.trans BEL.out.tape), hF6.2.2.output.trans (HBC.out.output.trans BEL.out.output), Nat.le_trans BEL.out.size (Nat.le_trans HBC.out.size hF6.1), fun q hq => by
            have h1 := Nat.lt_of_lt_of_le hq BEL.out.size
            exact (hF6.2.1 q (Nat.lt_of_lt_of_le h1 HBC.out.size) (fun z => by have := LOW.out q z; omega)).trans ((HBC.out.block q h1).trans (BEL.out.block q hq))⟩
          have HT6 := Aside0.mk hT6w
          have HD6 := Aside0.mk hd6
          have HL6 := Aside0.mk hl6
          have HB6 := Aside0.mk B6
          have HS6 := Aside0.mk hS6
          have v0 : W6.cell? ⟨B, 0, none⟩ = some (.int .i64 x.k) := (blk_cell X6 0).trans rfl
          have v1 : W6.cell? ⟨B, 1, none⟩ = some (.int .i64 x.i) := (blk_cell X6 1).trans rfl
          have v2 : W6.cell? ⟨B, 2, none⟩ = some (.int .i64 ar) := (blk_cell X6 2).trans rfl
          have v3 : W6.cell? ⟨B, 3, none⟩ = some (.int .i64 ah) := (blk_cell X6 3).trans rfl
          have v4 : W6.cell? ⟨B, 4, none⟩ = some (.bool x.near) := (blk_cell X6 4).trans rfl
          have HRL := Aside0.mk hR6.low
          clear hdo hT6 hS6 hF6 hR6 hT6w hd6 hl6 B6 X6 HDID
          clear hDC
          go_upto_region 14 with (first | (go_at_call 20; refine hdid.mono ?_; rintro e W7 ⟨rfl, N7⟩))
          obtain ⟨V7, hR7, hF7⟩ := N7
          have hT7 : HT W7 ga S6 DC := HT6.out.keep fun b hb hD => hF7.2.1 b hb fun z => HD6.out b hD (.inl z)
          have B7 : Below w.heap.size w W7 := HB6.out.trans ⟨hF7.2.2.os, hF7.2.2.tape, hF7.2.2.output, hF7.1, fun q hq => hF7.2.1 q (Nat.lt_of_lt_of_le hq HB6.out.size) (fun z => by have := HRL.out q z; omega)⟩
          have hrl6 : Rel S6.abs R2 := by rw [HS6.out]; exact REL2.out
          have hc6 : S6.calls.length < 1000000 := by
            have h1 : (S6.calls.map CL.abs).length ≤ 16 := by have := INV2.out.deep; rw [← HS6.out] at this; exact this
            rw [List.length_map] at h1; omega
          have hsm := same21_calls hT7 hR7 hrl6 hc6 (by have := rel_few REL2.out INV2.out; omega) (by rw [REL2.out.n]; have := INV2.out.few; omega)
          have HT7 := Aside0.mk hT7
          have HR7 := Aside0.mk hR7
          have HB7 := Aside0.mk B7
          have HRL6 := Aside0.mk hrl6
          have INV6 : Aside0 (S6.abs.Inv (kk + 1)) := ⟨by rw [HS6.out]; exact INV2.out⟩
          have t1 : (rn != rn) = false := bne_self_eq_false' _
          have t2 : (re != re) = false := bne_self_eq_false' _
          have t3 : (rw' != rw') = false := by cases rw' <;> rfl
          clear hdid hT7 hR7 B7 hrl6 hc6 hF7 v0 v1 v2 v3 v4
          go_wp2_with (first | (go_at_call 21; refine hsm.mono ?_; rintro e W8 ⟨rfl, B8⟩; have HB8 := Aside0.mk B8; clear B8))
          go_roundg (m - (kk + 1))
          case measure => omega
          case rel => exact ⟨kk + 1, by omega, by omega, by first | rfl | (congr 1; unfold wrap64; omega), ⟨S6, V7, R2, DC, Dn D2 W6.heap.size, ht_below HT7.out HB8.out, HR7.out.below HB8.out, HRL6.out, INV6.out, HD6.out, HL6.out, bel_bel HB7.out HB8.out⟩⟩
      · have q2 : decide ((kk : Int) < (m : Int)) = false := decide_eq_false (by omega)
        have BEL := Aside0.mk hBel
        clear hT hR hRel hInv hdis hlow hBel NW
        go_wp2_with (first | (go_at_call 13; refine (awake_calls _).mono ?_; rintro e w4 ⟨rfl, B4⟩))
        go_ret
        exact ⟨rfl, bel_bel BEL.out B4⟩
/-- The argument of a law: whole numbers. -/
theorem arg_ints {H : Type} {enc : TypeId × Value → H} {w : World} {v : Value} {d : DataW H} {ps : List MemPlace} (h : DataW.Trod enc Try.prog w 0 (fun _ => true) true 44 v d ps) (hv : ∃ a len cap, v = .slice a len cap) (hz : ∀ q ∈ d.weights Try.prog 44, q ≤ reachBytes) :
    ∃ (A : Option Addr) (c : Nat) (l : List Int), v = .slice A l.length c ∧ l.length ≤ c ∧ (Ints w A l ∧ l.length ≤ 9223372036854775807) ∧ l.length ≤ 9223372036854775807 ∧ ∀ x ∈ l, True := by
  obtain ⟨n, hn⟩ := h
  obtain ⟨a, len, cap, rfl⟩ := hv
  have hi : Opn enc Try.prog w (Kd.int .i64) 3 (fun x => (Lit.int .i64 x).wf = true) n := opn_int Try.underlying3 n
  obtain ⟨l, ⟨A, c, e, hc, hC⟩, hm, hw⟩ := (opn_slice 3 Try.underlying44 (by kernel_rfl) hi) n (by omega) _ _ hn hz
  have e' : [Value.slice a len cap] = [Value.slice A l.length c] := e
  simp at e'
  obtain ⟨rfl, rfl, rfl⟩ := e'
  refine ⟨_, _, l, rfl, hc, ⟨fun j hj => ?_, hC.2.1⟩, hC.2.1, fun _ _ => trivial⟩
  obtain ⟨ad, e, hx⟩ := hC.2.2 (by omega)
  obtain ⟨cs, hs, rfl, hcell⟩ := hx j (l.getD j 0) (by rw [List.getD, List.getElem?_eq_getElem hj]; rfl)
  refine ⟨ad, e, ?_⟩
  have h4 : w.cell? ((ad.add (j * 1)).add 0) = some (Value.int .i64 (l.getD j 0)) := hcell 0 _ rfl
  rw [Nat.mul_one] at h4
  exact h4
theorem handlesPlays_plain (n : Int) (mk : List Int) (l : List Dd) (hn : (Lit.int .i64 n).wf = true) (hm : mk.length ≤ 9223372036854775807) (hx : ∀ x ∈ mk, True) (hl : l.length ≤ 9223372036854775807) (hy : ∀ x ∈ l, True) : ∃ k : Nat, some true = some true := ⟨0, rfl⟩
end Go.Proofs.Ytdjkjdlbckcplaa.Hd
