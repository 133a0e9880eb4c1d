/- Several texts, laid into one for a claim: KI, PAx1, PAx72, PAx73, KJ, KK, KL, KF, KM. -/
import Derived.Test.YtdjkjdlbckcplaaPHandlesTraps4
import Derived.Maps.RangeWalk
import Derived.Test.YtdjkjdlbckcplaaPHandlesTraps1
import Derived.Deep.DeepCutAuto
namespace Go.Proofs.Ytdjkjdlbckcplaa.Hd
open Go.RowKit Go.Proofs Go.Proofs.YtdjkjdlbckcplaaW.PrintWords Go.Proofs.YtdjkjdlbckcplaaW.PrintLast Go.Proofs.YtdjkjdlbckcplaaW.PrintMore Go.Proofs.Ytdjkjdlbckcplaa.MapI
set_option linter.unusedVariables false
set_option linter.unusedSimpArgs false
theorem ints_of_own {w : World} {base : Nat} {A : Option Addr} {c : Nat} {l : List Int} (h : w.ownsRow base 3 1 (.slice A l.length c) l.length (l.map (Value.int .i64))) : Ints w A l := by
  intro j hj
  obtain ⟨b, cap, e1, _, _, e4⟩ := own_cells h (by omega)
  injection e1 with e1 _ _
  subst e1
  refine ⟨_, rfl, ?_⟩
  rw [add_at, Nat.zero_add]
  refine e4 j _ ?_
  rw [List.getElem?_map, List.getElem?_eq_getElem hj]
  simp [List.getD, List.getElem?_eq_getElem hj]
theorem grown_put (w : World) (b : Nat) (o : Obj) : w.grownBy (w.putObj b o) (some b) :=
  ⟨rfl, rfl, rfl, by show _ ≤ (Array.setIfInBounds _ _ _).size; simp, fun i hi hne => putObj_other w b i o (fun z => hne (by rw [z]))⟩
set_option maxHeartbeats 32000000 in
set_option maxRecDepth 100000 in
theorem clone_calls {w : World} {g : Nat} {S : Tb} {D : Nat → Prop} (hT : HT w g S D) (hm1 : S.mkr.length ≤ 1000000) (hm2 : S.mbs.length < 1000000) (hm3 : S.calls.length < 1000000) (hm4 : ∀ c ∈ S.calls, c.lent.length ≤ 1000000) :
    Calls Try.prog 30 #[.pointer (some ⟨g, 0, none⟩)] w fun e w' => ∃ gc S', e = .returned (.pointer (some ⟨gc, 0, none⟩)) ∧ HT w' gc S' (fun b => w.heap.size ≤ b) ∧ S'.abs = S.abs ∧ Below w.heap.size w w' := by
  obtain ⟨Am, cm, At, ct, Ac, cc, e1, e2, e3, hS⟩ := hT.ts
  have c0 : w.cell? ⟨g, 0, none⟩ = some (.slice Am S.mkr.length cm) := (blk_cell hS 0).trans rfl
  have hmk := hT.mkr
  rw [e1] at hmk
  have hcl := clone_any w S.mkr Am cm (ints_of_own hmk) hm1
  have HT0 := Aside0.mk hT
  have HM3 := Aside0.mk hm3
  have HM4 := Aside0.mk hm4
  clear hmk hm3 hm4 hT
  go_enter Try.func30, Try.ntmps30
  go_upto_region 4 with (first | (go_at_call 38; refine hcl.mono ?_; rintro e w3 ⟨v, rfl, ho, hs3, hio3, ho3⟩; obtain ⟨vA, vc, rfl⟩ := own_slice ho))
  have B3 : Below w.heap.size w w3 := ⟨hio3.os, hio3.tape, hio3.output, hs3, ho3⟩
  have hT0 := new_HT ho hs3
  have hab : (⟨.slice vA S.mkr.length vc, S.mkr, .slice none 0 0, [], [], [], .slice none 0 0, []⟩ : Tb).abs = ⟨S.mkr, S.abs.tabs.take 0, []⟩ := rfl
  have hm0 : (⟨.slice vA S.mkr.length vc, S.mkr, .slice none 0 0, [], [], [], .slice none 0 0, []⟩ : Tb).mbs.length = 0 := rfl
  have hcv0 : (⟨.slice vA S.mkr.length vc, S.mkr, .slice none 0 0, [], [], [], .slice none 0 0, []⟩ : Tb).cv = .slice none 0 0 := rfl
  have B5 := B3.alloc hs3 (.cells #[.slice vA S.mkr.length vc, .slice none 0 0, .slice none 0 0] 67)
  generalize hS0 : (⟨.slice vA S.mkr.length vc, S.mkr, .slice none 0 0, [], [], [], .slice none 0 0, []⟩ : Tb) = S0 at hT0 hab hm0 hcv0
  clear hS0
  generalize w3.heap.size = gc at hT0 ⊢
  generalize (w3.alloc (.cells #[.slice vA S.mkr.length vc, .slice none 0 0, .slice none 0 0] 67)) = w5 at hT0 B5 ⊢
  clear hcl ho hs3 hio3 ho3 B3
  have hT5 := ht_below HT0.out B5
  have c1 : w5.cell? ⟨g, 1, none⟩ = some (.slice At S.mbs.length ct) := by rw [← e2]; exact (blk_cell hT5.top 1).trans rfl
  have HT5 := Aside0.mk hT0
  have HB5 := Aside0.mk B5
  clear hT0 B5 hT5
  go_wp2
  go_loopg [26] S.mbs.length (fun gg s26 wr => ∃ (kk : Nat) (S1 : Tb), kk ≤ S.mbs.length ∧ S.mbs.length - kk ≤ gg ∧ s26 = Value.int .i64 (kk : Int) ∧ Aside0 (HT wr gc S1 (fun b => w.heap.size ≤ b)) ∧ S1.abs = ⟨S.mkr, S.abs.tabs.take kk, []⟩ ∧ S1.mbs.length = kk ∧ S1.cv = .slice none 0 0 ∧ Aside0 (Below w.heap.size w wr))
  case atStart => exact ⟨0, S0, Nat.zero_le _, by omega, rfl, HT5, hab, hm0, hcv0, HB5⟩
  case round =>
    clear HT5 HB5 hab hm0 hcv0
    obtain ⟨kk, S1, hkk, hg, rfl, HTR, hab, hmm, hcv, BR⟩ := hrel
    by_cases hlt' : kk < S.mbs.length
    · have q0 : (0 ≤ (kk : Int)) = True := eq_true (Int.natCast_nonneg kk)
      have q1 : ((kk : Int) < (S.mbs.length : Int)) = True := eq_true (by omega)
      have q2 : decide ((kk : Int) < (S.mbs.length : Int)) = true := decide_eq_true (by omega)
      have hTw := ht_below HT0.out BR.out
      obtain ⟨b, cap, mb, xs, ck, f1, f2, f3, f4, f5, f6, f7⟩ := hTw.table (i := (kk : Int)) (by omega) (by omega)
      rw [Int.toNat_natCast] at f2 f3 f4 f5 f6
      rw [f1] at e2
      injection e2 with e2 _ e5
      subst e2; subst e5
      go_upto_region 7 with (fail)
      have hmkm : (Instr.makeMap 74 none).run Try.prog wr = .ok (.map (some wr.heap.size)) (wr.alloc (.map #[] 0)) := run_makeMap 74 wr
      go_upto_region 8 with (fail)
      have hTW := hTw.alloc (.map #[] 0)
      have hnb : (wr.alloc (.map #[] 0)).heap[wr.heap.size]? = some (mobj (([] : List Row).map Row.enc) 0) := blk_new wr _
      have hmb := blk_alloc f7 (.map #[] 0)
      have BW := (Below.refl wr.heap.size wr).alloc (Nat.le_refl _) (.map #[] 0)
      have hWs : (wr.alloc (.map #[] 0)).heap.size = wr.heap.size + 1 := Array.size_push _
      generalize (wr.alloc (.map #[] 0)) = W0 at hTW hnb hmb BW hWs ⊢
      have hmem := List.mem_of_getElem? f4
      obtain ⟨DM, hown, hperm, hatk, hhas⟩ := rowsP_own hmb (hTw.keysR xs hmem) (hTw.keysN xs hmem) (hTw.born kk xs ck f4 f5) (rows_le xs (hTw.keysN xs hmem) (hTw.keysR xs hmem))
      have hmbl : mb < wr.heap.size := blk_lt f7
      have HTW := Aside0.mk hTW
      have HPERM := Aside0.mk hperm
      have HATK := Aside0.mk hatk
      have HHAS := Aside0.mk hhas
      have HMEM := Aside0.mk hmem
      have HOWN := Aside0.mk hown
      have CP0 : Aside0 (Cp W0 wr.heap.size wr.heap.size 0 xs [] []) := ⟨⟨hnb, rfl, fun x hx => (by cases hx), List.nodup_nil, ⟨List.nodup_nil, fun x hx => (by cases hx)⟩, fun x hx => (by cases hx)⟩⟩
      have HBW := Aside0.mk BW
      have HW0 := Aside0.mk hWs
      have HF4 := Aside0.mk f4
      have HF5 := Aside0.mk f5
      have HF3 := Aside0.mk f3
      clear hTW hnb hmb BW hmem hperm hatk hhas hTw f7 f6 f5 f4 f3 hWs hmkm f2
      go_wp2_with (first | (at_range; refine wpList_range_own _ rfl _ 74 rfl 3 62 keyed3 Try.underlying74 ptrR mb xs.length DM rfl hown ?_; intro w0 hrg0 hg0 hs0))
      have HRG := Aside0.mk hrg0
      have HG0 := Aside0.mk hg0
      have HS0 := Aside0.mk hs0
      clear hown hrg0 hg0 hs0
      obtain ⟨wA, hwA⟩ : ∃ x, x = wr := ⟨_, rfl⟩
      subst hwA
      have hsz0 : W0.heap.size ≤ w0.heap.size := HG0.out.size
      have CP1 : Aside0 (Cp w0 wA.heap.size wA.heap.size 0 xs [] []) := ⟨CP0.out.kept HG0.out (fun q z => by cases z)⟩
      have BB1 : Aside0 (Below wA.heap.size wA w0) := ⟨HBW.out.grown HG0.out HBW.out.size (fun q z => by cases z)⟩
      clear CP0
      go_loopg [] (Maps.size DM) (fun gg wr => ∃ left cnt ss rs c, cnt ≤ gg ∧ Aside0 (wr.ranges Try.prog 3 ptrR mb W0.heap.size xs.length DM left cnt) ∧ Aside0 (CollectedI DM left ss) ∧ Aside0 (Cp wr wA.heap.size wA.heap.size c xs rs ss) ∧ Aside0 (Below wA.heap.size wA wr))
      case atStart => exact ⟨_, _, [], [], 0, Nat.le_refl _, HRG, ⟨CollectedI.start DM⟩, CP1, BB1⟩
      case round =>
        clear HRG CP1 BB1
        obtain ⟨left, cnt, ss, rs, c, hcg, RG, CO, CP, BB⟩ := hrel
        have hrg := RG.out
        have hrl : Aside0 (∃ since seen c0, wr.heap[W0.heap.size]? = some (.mapIter (some mb) since seen c0)) := ⟨ranges_iter hrg⟩
        clear RG
        go_wp2_with (first | (at_next; refine wpList_next_ranges _ rfl _ rfl 3 keyed3 ptrR (Value.int .i64) mkP (fun key kl hk => by obtain ⟨x, hx, _⟩ := Maps.keyOf_i64 Try.underlying3 hk; exact ⟨x, hx⟩) ptrR_inv mb W0.heap.size xs.length _ _ _ rfl hrg ?_ ?_))
        · intro hc0 hl0
          have hps := CO.out.perm (hrg.owns) keyed3 Try.underlying3 hl0
          have hpr : (rs.map Row.h).Perm (xs.map Row.h) := by rw [CP.out.hh]; exact hps.trans HPERM.out
          have hN := HT0.out.keysN xs HMEM.out
          have hR := HT0.out.keysR xs HMEM.out
          have habs := absR_copy xs rs hN hpr CP.out.hy
          have hTr := ht_below HTR.out BB.out
          obtain ⟨At1, ct1, e21⟩ := own_slice hTr.tab
          have c1 : wr.cell? ⟨gc, 1, none⟩ = some (.slice At1 S1.mbs.length ct1) := by rw [← e21]; exact (blk_cell hTr.top 1).trans rfl
          obtain ⟨v', w4, a1, a2, a3, a4, A', c', rfl⟩ := tabs_append hTr.tab wA.heap.size (by omega) 64
          have hsz1 : (wr.alloc (.cells #[.map (some wA.heap.size)] 74)).heap.size = wr.heap.size + 1 := Array.size_push _
          have hszA := BB.out.size
          have hold0 : ∀ j, j < wA.heap.size → (wr.alloc (.cells #[.map (some wA.heap.size)] 74)).heap[j]? = wA.heap[j]? := fun j hj => by
            rw [heap_alloc_old _ _ _ (by omega)]; exact BB.out.block j hj
          have hkR : ∀ x ∈ rs, 1 ≤ x.h ∧ x.h ≤ 256 := fun x hx => by
            obtain ⟨y, hy, hyh, _⟩ := CP.out.hy x hx
            rw [← hyh]; exact hR y hy
          have hgne : ∀ q, S1.tv.ownBlock = some q → gc ≠ q := fun q hq => by obtain ⟨_, cu, hcu⟩ := own_lt hTr.tab hq; exact blk_ne hTr.top hcu (by decide)
          have hg4 : w4.heap[gc]? = some (.cells #[S1.mv, S1.tv, S1.cv] 67 (0, 0)) := (a3.block gc (by have := blk_lt hTr.top; omega) (fun z => hgne gc z.symm rfl)).trans (blk_alloc hTr.top _)
          have s1 : w4.cell? ⟨gc, 1, none⟩ = some S1.tv := (blk_cell hg4 1).trans rfl
          have s1f : w4.frozen? ⟨gc, 1, none⟩ = false := blk_frozen hg4 1
          have HC := Aside0.mk (tabsR_HT HTR.out (Nat.le_refl _) (by omega) hold0 (blk_alloc CP.out.hm _) (fun x hx => ⟨blk_alloc (CP.out.he x hx).1 _, (CP.out.he x hx).2⟩) CP.out.hn (by rw [hpr.nodup_iff]; exact hN) hkR CP.out.hb ⟨BB.out.os, BB.out.tape, BB.out.output⟩ a3 a2 a4)
          rw [e21, hmm] at a1
          have A1 := Aside0.mk a1
          have HABS := Aside0.mk habs
          clear a1 a2 a3 a4 hold0 hkR hgne hg4 hpr hps hN hR habs hrg hrl CP CO hTr hsz1
          go_wp2_with (first | (at_builtin; refine wpList_append_eq rfl _ _ 64 rfl rfl rfl A1.out ?_))
          go_roundg (S.mbs.length - (kk + 1))
          case measure => omega
          case rel =>
            have HO := HC.out
            rw [hmm] at HO
            obtain ⟨r1, r2⟩ := HO
            refine ⟨kk + 1, _, by omega, by omega, by first | rfl | (congr 1; unfold wrap64; omega), ⟨r1.imp (fun b hb => hb.elim id (fun z => Nat.le_trans BR.out.size z))⟩, ?_, by show (S1.mbs ++ [wA.heap.size]).length = kk + 1; rw [List.length_append, hmm]; rfl, hcv, ⟨?_⟩⟩
            · have h1 := congrArg AT.mkr hab
              have h2 := congrArg AT.tabs hab
              have h3 := congrArg AT.calls hab
              have h4 : S.abs.tabs[kk]? = some (absR xs) := by
                show (S.rows.map absR)[kk]? = _
                rw [List.getElem?_map, HF4.out]; rfl
              have h5 : (S1.rows ++ [rs]).map absR = S.abs.tabs.take (kk + 1) := by
                rw [List.map_append, List.take_add_one, h4, show S1.rows.map absR = S.abs.tabs.take kk from h2]
                show _ ++ [absR rs] = _ ++ [absR xs]
                rw [HABS.out]
              show (⟨S1.mkr, (S1.rows ++ [rs]).map absR, S1.calls.map CL.abs⟩ : AT) = _
              rw [h5, show S1.mkr = S.mkr from h1, show S1.calls.map CL.abs = [] from h3]
            · have r3 := r2.2.2
              exact ⟨r3.os.trans BR.out.os, r3.tape.trans BR.out.tape, r3.output.trans BR.out.output, Nat.le_trans BR.out.size r2.1, fun q hq => (r2.2.1 q (Nat.lt_of_lt_of_le hq BR.out.size) (fun z => Nat.lt_irrefl _ (Nat.lt_of_lt_of_le hq z))).trans (BR.out.block q hq)⟩
        · intro x eb kl yd yp w2 cnt2 hkey hlk hv hat hrg2 hlt hg2 hs2 hen
          obtain ⟨rfl, y0, hy0, rfl, rfl⟩ := step_row HATK.out HHAS.out hkey hv hat
          have hat' := hat
          obtain ⟨since, seen, it0, hit⟩ := hrl.out
          have CP2 := CP.out.kept hg2 (fun q z => by injection z with z; subst z; exact ⟨fun cs t f h => (by rw [hit] at h; injection h with h; cases h), fun z2 => by have := HW0.out; omega⟩)
          have BB2 : Below wA.heap.size wA w2 := BB.out.grown hg2 BB.out.size (fun q z => by injection z with z; have := HW0.out; omega)
          have hE := (BB2.block _ (blk_lt ((ht_below HT0.out BR.out).ents xs HMEM.out y0 hy0))).trans ((ht_below HT0.out BR.out).ents xs HMEM.out y0 hy0)
          have hnin : findR y0.h rs = none := by
            rw [findR_none, CP.out.hh]
            intro hm
            have := ((CO.out.2 y0.h).1 hm).2
            rw [hlk] at this; cases this
          have hu := run_update_new (P := Try.prog) (T := 74) (kt := 3) (et := 62) (w := w2.alloc (.cells y0.e.cells 69)) Try.underlying74 Try.underlying3 (blk_alloc CP2.hm _) y0.h (.pointer (some ⟨w2.heap.size, 0, none⟩)) (by rw [look_find, hnin])
          have x0 : w2.cell? ⟨y0.eb, 0, none⟩ = some (.int .i64 y0.e.r) := (blk_cell hE 0).trans rfl
          have x1 : w2.cell? ⟨y0.eb, 1, none⟩ = some (.int .i64 y0.e.rep) := (blk_cell hE 1).trans rfl
          have x2 : w2.cell? ⟨y0.eb, 2, none⟩ = some (.bool y0.e.own) := (blk_cell hE 2).trans rfl
          have x3 : w2.cell? ⟨y0.eb, 3, none⟩ = some (.int .i64 y0.e.lends) := (blk_cell hE 3).trans rfl
          have x4 : w2.cell? ⟨y0.eb, 4, none⟩ = some (.int .i64 y0.e.call) := (blk_cell hE 4).trans rfl
          have CPS := Aside0.mk (CP2.step BB2.size ⟨y0, hy0, rfl, rfl⟩)
          have CO2 := Aside0.mk (CO.out.step hlk hat)
          have RG2 := Aside0.mk hrg2
          have BB3 := Aside0.mk BB2
          have HIT := Aside0.mk hit
          have HG2 := Aside0.mk hg2
          clear CP2 BB2 hE hnin hat hat' hrg2 hg2 hs2 hlk hv hkey hit hrg hrl CP CO
          unfold E.cells at hu
          unfold mkP at hen
          go_wp2
          go_roundg cnt2
          case measure => omega
          case rel =>
            refine ⟨_, cnt2, ss ++ [y0.h], rs ++ [(⟨y0.h, w2.heap.size, c, y0.e⟩ : Row)], c + 1, Nat.le_refl _, ⟨(RG2.out.alloc _).kept (grown_put _ wA.heap.size _) (fun z => by injection z with z; omega) (fun z => by injection z with z; have := HW0.out; omega)⟩, CO2, ⟨CPS.out⟩, ⟨(BB3.out.alloc BB3.out.size _).grown (grown_put _ wA.heap.size _) (BB3.out.alloc BB3.out.size _).size (fun q z => by injection z with z; omega)⟩⟩
    · have q2 : decide ((kk : Int) < (S.mbs.length : Int)) = false := decide_eq_false (by omega)
      have hke : kk = S.mbs.length := by omega
      have hTw := ht_below HT0.out BR.out
      have hab2 : S1.abs = ⟨S.mkr, S.abs.tabs, S.abs.calls.take 0⟩ := by
        rw [hab, hke, List.take_of_length_le (by show (S.rows.map absR).length ≤ _; rw [List.length_map, HT0.out.len1]; exact Nat.le_refl _)]; rfl
      have hcl0 : S1.calls.length = 0 := by
        have h3 := congrArg AT.calls hab
        have h4 : (S1.calls.map CL.abs).length = 0 := by rw [show S1.calls.map CL.abs = [] from h3]; rfl
        simpa using h4
      have c2 : wr.cell? ⟨g, 2, none⟩ = some (.slice Ac S.calls.length cc) := by rw [← e3]; exact (blk_cell hTw.top 2).trans rfl
      clear hTw hke
      go_wp2
      go_loopg [59] S.calls.length (fun gg s59 wr => ∃ (kk : Nat) (S2 : Tb), kk ≤ S.calls.length ∧ S.calls.length - kk ≤ gg ∧ s59 = Value.int .i64 (kk : Int) ∧ Aside0 (HT wr gc S2 (fun b => w.heap.size ≤ b)) ∧ S2.abs = ⟨S.mkr, S.abs.tabs, S.abs.calls.take kk⟩ ∧ S2.calls.length = kk ∧ Aside0 (Below w.heap.size w wr))
      case atStart => exact ⟨0, S1, Nat.zero_le _, by omega, rfl, HTR, hab2, hcl0, BR⟩
      case round =>
        clear HTR BR hab hab2 hcl0 hmm hcv c2
        obtain ⟨kk, S2, hkk, hg, rfl, HTR, hab, hcl, BR⟩ := hrel
        by_cases hlt2 : kk < S.calls.length
        · have q0 : (0 ≤ (kk : Int)) = True := eq_true (Int.natCast_nonneg kk)
          have q1 : ((kk : Int) < (S.calls.length : Int)) = True := eq_true (by omega)
          have q3 : decide ((kk : Int) < (S.calls.length : Int)) = true := decide_eq_true (by omega)
          have hTw := ht_below HT0.out BR.out
          have hcal := hTw.cal
          rw [e3] at hcal
          obtain ⟨b, cap, c, f1, f2, f3, f4, f5⟩ := call_cells hcal hlt2
          injection f1 with f1 _ f6
          subst f1; subst f6
          have hcm := List.mem_of_getElem? f2
          have hlent := hTw.lent c hcm
          obtain ⟨lA, lc, hlv⟩ := own_slice hlent
          rw [hlv] at f5
          have HF2 := Aside0.mk f2
          have HLV := Aside0.mk hlv
          have HLL := Aside0.mk (HM4.out c hcm)
          have HLT := Aside0.mk hlent
          clear f2 hcm hlent hlv hTw hcal
          go_upto_region 18 with (fail)
          have X1 := blk_new wr (.cells #[.int .i64 c.i, .int .i64 c.bor, .slice lA c.lent.length lc] 94)
          have XB := (Below.refl wr.heap.size wr).alloc (Nat.le_refl _) (.cells #[.int .i64 c.i, .int .i64 c.bor, .slice lA c.lent.length lc] 94)
          have hL1 : (wr.alloc (.cells #[.int .i64 c.i, .int .i64 c.bor, .slice lA c.lent.length lc] 94)).ownsRow 0 96 2 (.slice lA c.lent.length lc) c.lent.length (lentVals c.lent) := by
            have hl' := HLT.out
            rw [HLV.out] at hl'
            exact own_same hl' fun k hk => XB.block k (own_lt hl' hk).1
          have hs1 : (wr.alloc (.cells #[.int .i64 c.i, .int .i64 c.bor, .slice lA c.lent.length lc] 94)).heap.size = wr.heap.size + 1 := Array.size_push _
          obtain ⟨wB, hwB⟩ : ∃ x, x = wr := ⟨_, rfl⟩
          subst hwB
          generalize (wB.alloc (.cells #[.int .i64 c.i, .int .i64 c.bor, .slice lA c.lent.length lc] 94)) = W1 at X1 XB hL1 hs1 ⊢
          have hclL := cloneL_calls W1 (.slice lA c.lent.length lc) c.lent hL1 HLL.out
          have z2 : W1.cell? ⟨wB.heap.size, 2, none⟩ = some (.slice lA c.lent.length lc) := (blk_cell X1 2).trans rfl
          have fz := fun j => blk_frozen X1 j
          clear hL1 f3 f4 f5
          go_upto_region 19 with (first | (go_at_call 55; refine hclL.mono ?_; rintro e W2 ⟨v', rfl, ho2, B2⟩; obtain ⟨lA2, lc2, rfl⟩ := own_slice ho2; have X2 := (B2.block _ (blk_lt X1)).trans X1; have z2' : W2.cell? ⟨wB.heap.size, 2, none⟩ = some (.slice lA c.lent.length lc) := (blk_cell X2 2).trans rfl; have fz2 := fun j => blk_frozen X2 j))
          have X3 := blk_put X2 2 (.slice lA2 c.lent.length lc2) rfl
          have B3 : Below wB.heap.size wB (W2.setCell ⟨wB.heap.size, 2, none⟩ (.slice lA2 c.lent.length lc2)) := below_set (XB.trans (B2.mono XB.size)) (Nat.le_refl _)
          have ho3 : (W2.setCell ⟨wB.heap.size, 2, none⟩ (.slice lA2 c.lent.length lc2)).ownsRow wB.heap.size 96 2 (.slice lA2 c.lent.length lc2) c.lent.length (lentVals c.lent) := own_mono (own_same ho2 fun q hq => Below.heap_setCell W2 _ _ q (by show q ≠ wB.heap.size; have := own_ge ho2 hq; omega)) (by omega)
          generalize (W2.setCell ⟨wB.heap.size, 2, none⟩ (.slice lA2 c.lent.length lc2)) = W3 at X3 B3 ho3 ⊢
          clear hclL z2 fz X1 XB hs1 ho2 B2 X2 z2' fz2
          have hT3 := ht_below HTR.out B3
          obtain ⟨At1, ct1, e21⟩ := own_slice hT3.cal
          rw [hcl] at e21
          have c2 : W3.cell? ⟨gc, 2, none⟩ = some (.slice At1 kk ct1) := by rw [← e21]; exact (blk_cell hT3.top 2).trans rfl
          have c2a : (W3.alloc (.cells #[.int .i64 c.i, .int .i64 c.bor, .slice lA2 c.lent.length lc2] 94)).cell? ⟨gc, 2, none⟩ = some (.slice At1 kk ct1) := by rw [← e21]; exact (blk_cell (hT3.alloc _).top 2).trans rfl
          have y0 : W3.cell? ⟨wB.heap.size, 0, none⟩ = some (.int .i64 c.i) := (blk_cell X3 0).trans rfl
          have y1 : W3.cell? ⟨wB.heap.size, 1, none⟩ = some (.int .i64 c.bor) := (blk_cell X3 1).trans rfl
          have y2 : W3.cell? ⟨wB.heap.size, 2, none⟩ = some (.slice lA2 c.lent.length lc2) := (blk_cell X3 2).trans rfl
          obtain ⟨v', w4, a1, a2, a3, a4, A', c', rfl⟩ := callsC_append (hT3.drewN 1).cal ⟨c.i, c.bor, .slice lA2 c.lent.length lc2, c.lent⟩ (A0 := lA2) (n0 := c.lent.length) (k0 := lc2) rfl (by have := HM3.out; omega) 65
          have hgne : ∀ q, S2.cv.ownBlock = some q → gc ≠ q := fun q hq => by obtain ⟨_, cu, hcu⟩ := own_lt hT3.cal hq; exact blk_ne hT3.top hcu (by decide)
          have hg4 : w4.heap[gc]? = some (.cells #[S2.mv, S2.tv, S2.cv] 67 (0, 0)) := (a3.block gc (blk_lt hT3.top) (fun z => hgne gc z.symm rfl)).trans hT3.top
          have s2 : w4.cell? ⟨gc, 2, none⟩ = some S2.cv := (blk_cell hg4 2).trans rfl
          have s2f : w4.frozen? ⟨gc, 2, none⟩ = false := blk_frozen hg4 2
          have HC := Aside0.mk (callsC_HT (w0 := W3.drewN 1) HTR.out (c0 := ⟨c.i, c.bor, .slice lA2 c.lent.length lc2, c.lent⟩) B3.size (fun j hj => B3.block j hj) ⟨B3.os, B3.tape, B3.output⟩ ho3 a3 a2 a4)
          rw [e21, hcl] at a1
          have A1 := Aside0.mk a1
          have HAB := Aside0.mk hab
          have HCL := Aside0.mk hcl
          clear a1 a2 a3 a4 hgne hg4 hT3 ho3 X3 hab hcl
          go_wp2
          go_region_law (refine step_append_eq rfl (.tmp 71) (.tmp 73) 65 rfl rfl rfl A1.out ?_)
          all_goals
            go_wp2
            go_roundg (S.calls.length - (kk + 1))
            case measure => omega
            case rel =>
              have HO := HC.out
              rw [HCL.out] at HO
              obtain ⟨r1, r2⟩ := HO
              refine ⟨kk + 1, _, by omega, by omega, by first | rfl | (have := HM3.out; congr 1; unfold wrap64; omega), ⟨r1.imp (fun b hb => hb.elim id (fun z => Nat.le_trans BR.out.size z))⟩, ?_, by show (S2.calls ++ [_]).length = kk + 1; rw [List.length_append, HCL.out]; rfl, ⟨?_⟩⟩
              · have h1 := congrArg AT.mkr HAB.out
                have h2 := congrArg AT.tabs HAB.out
                have h3 := congrArg AT.calls HAB.out
                have h4 : S.abs.calls[kk]? = some c.abs := by
                  show (S.calls.map CL.abs)[kk]? = _
                  rw [List.getElem?_map, HF2.out]; rfl
                have h5 : (S2.calls ++ [(⟨c.i, c.bor, .slice lA2 c.lent.length lc2, c.lent⟩ : CL)]).map CL.abs = S.abs.calls.take (kk + 1) := by
                  rw [List.map_append, List.take_add_one, h4, show S2.calls.map CL.abs = S.abs.calls.take kk from h3]
                  rfl
                show (⟨S2.mkr, S2.rows.map absR, (S2.calls ++ [(⟨c.i, c.bor, .slice lA2 c.lent.length lc2, c.lent⟩ : CL)]).map CL.abs⟩ : AT) = _
                rw [h5, show S2.mkr = S.mkr from h1, show S2.rows.map absR = S.abs.tabs from h2]
              · have r3 := r2.2.2
                exact ⟨r3.os.trans BR.out.os, r3.tape.trans BR.out.tape, r3.output.trans BR.out.output, Nat.le_trans BR.out.size r2.1, fun q hq => (r2.2.1 q (Nat.lt_of_lt_of_le hq BR.out.size) (fun z => Nat.lt_irrefl _ (Nat.lt_of_lt_of_le hq z))).trans (BR.out.block q hq)⟩
        · have q3 : decide ((kk : Int) < (S.calls.length : Int)) = false := decide_eq_false (by omega)
          have hke : kk = S.calls.length := by omega
          have HAB := Aside0.mk hab
          have HKE := Aside0.mk hke
          clear hab hke
          go_wp2
          go_ret
          refine ⟨gc, S2, rfl, HTR.out, ?_, BR.out⟩
          rw [HAB.out, HKE.out, List.take_of_length_le (by show (S.calls.map CL.abs).length ≤ _; rw [List.length_map]; exact Nat.le_refl _)]
          rfl
end Go.Proofs.Ytdjkjdlbckcplaa.Hd
namespace Go.Proofs.Ytdjkjdlbckcplaa.PA
open Go.RowKit Go.Proofs.YtdjkjdlbckcplaaW.PrintWords Go.Proofs.YtdjkjdlbckcplaaW.PrintLast Go.Proofs.YtdjkjdlbckcplaaW.PrintMore
attribute [local go_sem] max2_int min2_int max_two min_two max_three min_three max_four min_four   -- for this text's walks alone
set_option linter.unusedVariables false
set_option linter.unusedSimpArgs false
theorem eqA31 (d : Nat) (w : World) (x0 y0 : Int) (x1 y1 : Int) (x2 y2 : Int) (x3 y3 : Bool) (x4 y4 : Int) (x5 y5 : Int) :
 (Op.equalIn (d + 2) 31 (.agg #[.int .i64 x0, .int .i64 x1, .int .i64 x2, .bool x3, .int .i64 x4, .int .i64 x5]) (.agg #[.int .i64 y0, .int .i64 y1, .int .i64 y2, .bool y3, .int .i64 y4, .int .i64 y5])).run Try.prog w = .ok (x0 == y0 && (x1 == y1 && (x2 == y2 && (x3 == y3 && (x4 == y4 && (x5 == y5)))))) w := by
 refine eqA_of Try.underlying31 (by kernel_rfl) ?_; refine eqf_cons (by rfl) (by go_simp; rfl) (by go_simp; rfl) (by go_simp) ?_; refine eqf_cons (by rfl) (by go_simp; rfl) (by go_simp; rfl) (by go_simp) ?_; refine eqf_cons (by rfl) (by go_simp; rfl) (by go_simp; rfl) (by go_simp) ?_; refine eqf_cons (by rfl) (by go_simp; rfl) (by go_simp; rfl) (by go_simp) ?_; refine eqf_cons (by rfl) (by go_simp; rfl) (by go_simp; rfl) (by go_simp) ?_; exact eqf_last (by rfl) (by go_simp; rfl) (by go_simp; rfl) (by go_simp)
attribute [local go_sem high] eqA31
def scarfref16_Same.l0 : Nat → List (S31) → List (S31) → Int → Option (Bool)
 | 0, _, _, _ => none
 | k + 1, x0, x1, x5 => if x5 < (x0.length : Int) then (if 0 ≤ x5 then (if x5 < (x1.length : Int) then (if (!(((rd_T31 x0 x5).f0) == ((rd_T31 x1 x5).f0)) || (!(((rd_T31 x0 x5).f1) == ((rd_T31 x1 x5).f1)) || (!(((rd_T31 x0 x5).f2) == ((rd_T31 x1 x5).f2)) || (!(((rd_T31 x0 x5).f3) == ((rd_T31 x1 x5).f3)) || (!(((rd_T31 x0 x5).f4) == ((rd_T31 x1 x5).f4)) || (!(((rd_T31 x0 x5).f5) == ((rd_T31 x1 x5).f5)))))))) = true then (some false) else (scarfref16_Same.l0 k x0 x1 (wrap64 (x5 + 1)))) else (none)) else (none)) else (some true)
def scarfref16_Same.f (k : Nat) (l0 : List (S31)) (l1 : List (S31)) : Option (Bool) := if (l0.length : Int) = (l1.length : Int) then (scarfref16_Same.l0 k l0 l1 0) else (some false)
set_option maxHeartbeats 8000000 in
set_option maxRecDepth 100000 in
theorem scarfref16_Same.calls (k : Nat) (A0 : Option Addr) (c0 : Nat) (l0 : List (S31)) (A1 : Option Addr) (c1 : Nat) (l1 : List (S31)) (r : Bool) (w : World) (hr0 : Kd.C k31 w A0 l0.length l0) (hc0 : l0.length ≤ c0) (hr1 : Kd.C k31 w A1 l1.length l1) (hc1 : l1.length ≤ c1) (h : scarfref16_Same.f k l0 l1 = some r) :
 Calls Try.prog 48 #[.slice A0 l0.length c0, .slice A1 l1.length c1] w fun e w' => e = .returned (.bool r) ∧ Drawn0 w w' := by
 have hu31 := Try.underlying31; have HR0 := Aside0.mk hr0; have HC0 := Aside0.mk hc0; clear hr0 hc0; have HR1 := Aside0.mk hr1; have HC1 := Aside0.mk hc1; clear hr1 hc1; have H : (if (l0.length : Int) = (l1.length : Int) then (scarfref16_Same.l0 k l0 l1 0) else (some false)) = some r := h; clear h; by_cases c3 : (l0.length : Int) = (l1.length : Int)
 ·rw [if_pos c3] at H; have c3b0 : ((l0.length : Int) == (l1.length : Int)) = true := beq_iff_eq.mpr c3; have c3b1 : ((l0.length : Int) != (l1.length : Int)) = false := bne_eq_false_iff_eq.mpr c3; have c3b2 : (l0.length == l1.length) = true := by first | simpa using c3 | (simp at c3 ⊢; omega)
  clear c3; have H' := Aside0.mk H; clear H; go_enter Try.func48, Try.ntmps48; go_wp2; repeat (go_quiet (fail); try go_wp2)
  go_loopg [5] k (fun kq v5 w' => ∃ (x5_1 : Int), v5 = .int .i64 x5_1 ∧ Aside0 (scarfref16_Same.l0 kq l0 l1 x5_1 = some r) ∧ Aside0 (kq ≤ k) ∧ Drawn0 w w')
  case atStart => exact ⟨(0), (by first | rfl | (simp; done) | (simp [*]; done)), H', ⟨Nat.le_refl _⟩, by repeat (first | exact Drawn0.refl _ | apply Drawn0.step)⟩
  case round =>
   clear H'; (try clear c1); (try clear p2); (try clear c3 c3b0 c3b1 c3b2); obtain ⟨x5_1, rfl, HA, HK1, ⟨m1, rfl⟩⟩ := hrel; cases gk with
   | zero => exact absurd HA.out (by simp [scarfref16_Same.l0])
   | succ k1 =>
    have H := HA.out; clear HA; simp only [scarfref16_Same.l0] at H; by_cases c4 : x5_1 < (l0.length : Int)
    ·rw [if_pos c4] at H; have c4b0 : decide (x5_1 < (l0.length : Int)) = true := decide_eq_true c4; clear c4; by_cases c5 : 0 ≤ x5_1
     ·rw [if_pos c5] at H; have c5b0 : decide (0 ≤ x5_1) = true := decide_eq_true c5; clear c5; by_cases c6 : x5_1 < (l1.length : Int)
      ·rw [if_pos c6] at H; have c6b0 : decide (x5_1 < (l1.length : Int)) = true := decide_eq_true c6; clear c6; by_cases c7 : (!(((rd_T31 l0 x5_1).f0) == ((rd_T31 l1 x5_1).f0)) || (!(((rd_T31 l0 x5_1).f1) == ((rd_T31 l1 x5_1).f1)) || (!(((rd_T31 l0 x5_1).f2) == ((rd_T31 l1 x5_1).f2)) || (!(((rd_T31 l0 x5_1).f3) == ((rd_T31 l1 x5_1).f3)) || (!(((rd_T31 l0 x5_1).f4) == ((rd_T31 l1 x5_1).f4)) || (!(((rd_T31 l0 x5_1).f5) == ((rd_T31 l1 x5_1).f5)))))))) = true
       ·rw [if_pos c7] at H; have c7b0 : (!(((rd_T31 l0 x5_1).f0) == ((rd_T31 l1 x5_1).f0)) || (!(((rd_T31 l0 x5_1).f1) == ((rd_T31 l1 x5_1).f1)) || (!(((rd_T31 l0 x5_1).f2) == ((rd_T31 l1 x5_1).f2)) || (!(((rd_T31 l0 x5_1).f3) == ((rd_T31 l1 x5_1).f3)) || (!(((rd_T31 l0 x5_1).f4) == ((rd_T31 l1 x5_1).f4)) || (!(((rd_T31 l0 x5_1).f5) == ((rd_T31 l1 x5_1).f5)))))))) = true := c7; clear c7; obtain rfl := Option.some.inj H; have p282 : 0 ≤ (x5_1 : Int) := of_decide_eq_true (by first | (with_reducible assumption) | assumption); have q282 : x5_1 < (l0.length : Int) := of_decide_eq_true (by first | (with_reducible assumption) | assumption); obtain ⟨ad282, e282, hx282_0, hx282_1, hx282_2, hx282_3, hx282_4, hx282_5⟩ := at_T31 HR0.out x5_1 p282 q282; cases e282; replace p282 := eq_true p282; replace q282 := eq_true q282; have p283 : 0 ≤ (x5_1 : Int) := of_decide_eq_true (by first | (with_reducible assumption) | assumption); have q283 : x5_1 < (l1.length : Int) := of_decide_eq_true (by first | (with_reducible assumption) | assumption); obtain ⟨ad283, e283, hx283_0, hx283_1, hx283_2, hx283_3, hx283_4, hx283_5⟩ := at_T31 HR1.out x5_1 p283 q283; cases e283; replace p283 := eq_true p283; replace q283 := eq_true q283; go_wp2; repeat (go_quiet (fail); try go_wp2)
        go_ret
        exact ⟨by first | rfl | (simp; done) | (simp [*]; done), by repeat (first | exact Drawn0.refl _ | apply Drawn0.step)⟩
       ·rw [if_neg c7] at H; have c7b0 : (!(((rd_T31 l0 x5_1).f0) == ((rd_T31 l1 x5_1).f0)) || (!(((rd_T31 l0 x5_1).f1) == ((rd_T31 l1 x5_1).f1)) || (!(((rd_T31 l0 x5_1).f2) == ((rd_T31 l1 x5_1).f2)) || (!(((rd_T31 l0 x5_1).f3) == ((rd_T31 l1 x5_1).f3)) || (!(((rd_T31 l0 x5_1).f4) == ((rd_T31 l1 x5_1).f4)) || (!(((rd_T31 l0 x5_1).f5) == ((rd_T31 l1 x5_1).f5)))))))) = false := by simpa using c7
        clear c7; have H' := Aside0.mk H; clear H; have p282 : 0 ≤ (x5_1 : Int) := of_decide_eq_true (by first | (with_reducible assumption) | assumption); have q282 : x5_1 < (l0.length : Int) := of_decide_eq_true (by first | (with_reducible assumption) | assumption); obtain ⟨ad282, e282, hx282_0, hx282_1, hx282_2, hx282_3, hx282_4, hx282_5⟩ := at_T31 HR0.out x5_1 p282 q282; cases e282; replace p282 := eq_true p282; replace q282 := eq_true q282; have p283 : 0 ≤ (x5_1 : Int) := of_decide_eq_true (by first | (with_reducible assumption) | assumption); have q283 : x5_1 < (l1.length : Int) := of_decide_eq_true (by first | (with_reducible assumption) | assumption); obtain ⟨ad283, e283, hx283_0, hx283_1, hx283_2, hx283_3, hx283_4, hx283_5⟩ := at_T31 HR1.out x5_1 p283 q283; cases e283; replace p283 := eq_true p283; replace q283 := eq_true q283; go_wp2; repeat (go_quiet (fail); try go_wp2)
        go_roundg k1
        case measure => have := HK1.out; omega
        case rel => exact ⟨(wrap64 (x5_1 + 1)), (by first | rfl | (simp; done) | (simp [*]; done)), H', ⟨by have := HK1.out; omega⟩, by repeat (first | exact Drawn0.refl _ | apply Drawn0.step)⟩
      ·rw [if_neg c6] at H; exact absurd H (by simp)
     ·rw [if_neg c5] at H; exact absurd H (by simp)
    ·rw [if_neg c4] at H; have c4b0 : decide (x5_1 < (l0.length : Int)) = false := decide_eq_false c4; clear c4; obtain rfl := Option.some.inj H; go_wp2; repeat (go_quiet (fail); try go_wp2)
     go_ret
     exact ⟨by first | rfl | (simp; done) | (simp [*]; done), by repeat (first | exact Drawn0.refl _ | apply Drawn0.step)⟩
 ·rw [if_neg c3] at H; have c3b0 : ((l0.length : Int) == (l1.length : Int)) = false := beq_eq_false_iff_ne.mpr c3; have c3b1 : ((l0.length : Int) != (l1.length : Int)) = true := bne_iff_ne.mpr c3; have c3b2 : (l0.length == l1.length) = false := by first | simpa using c3 | (simp at c3 ⊢; omega)
  obtain rfl := Option.some.inj H; go_enter Try.func48, Try.ntmps48; go_wp2; repeat (go_quiet (fail); try go_wp2)
  go_ret
  exact ⟨by first | rfl | (simp; done) | (simp [*]; done), by repeat (first | exact Drawn0.refl _ | apply Drawn0.step)⟩
def scarfref01_Same.l0 : Nat → List Int → List Int → Int → Option (Bool)
 | 0, _, _, _ => none
 | k + 1, x0, x1, x5 => if x5 < (x0.length : Int) then (if 0 ≤ x5 then (if x5 < (x1.length : Int) then (if (rd x0 x5) = (rd x1 x5) then (scarfref01_Same.l0 k x0 x1 (wrap64 (x5 + 1))) else (some false)) else (none)) else (none)) else (some true)
def scarfref01_Same.f (k : Nat) (l0 : List Int) (l1 : List Int) : Option (Bool) := if (l0.length : Int) = (l1.length : Int) then (scarfref01_Same.l0 k l0 l1 0) else (some false)
set_option maxHeartbeats 8000000 in
set_option maxRecDepth 100000 in
theorem scarfref01_Same.calls (k : Nat) (A0 : Option Addr) (c0 : Nat) (l0 : List Int) (A1 : Option Addr) (c1 : Nat) (l1 : List Int) (r : Bool) (w : World) (hr0 : Kd.C (Kd.int .i64) w A0 l0.length l0) (hc0 : l0.length ≤ c0) (hr1 : Kd.C (Kd.int .i64) w A1 l1.length l1) (hc1 : l1.length ≤ c1) (h : scarfref01_Same.f k l0 l1 = some r) :
 Calls Try.prog 49 #[.slice A0 l0.length c0, .slice A1 l1.length c1] w fun e w' => e = .returned (.bool r) ∧ Drawn0 w w' := by
 have HR0 := Aside0.mk hr0; have HC0 := Aside0.mk hc0; clear hr0 hc0; have HR1 := Aside0.mk hr1; have HC1 := Aside0.mk hc1; clear hr1 hc1; have H : (if (l0.length : Int) = (l1.length : Int) then (scarfref01_Same.l0 k l0 l1 0) else (some false)) = some r := h; clear h; by_cases c3 : (l0.length : Int) = (l1.length : Int)
 ·rw [if_pos c3] at H; have c3b0 : ((l0.length : Int) == (l1.length : Int)) = true := beq_iff_eq.mpr c3; have c3b1 : ((l0.length : Int) != (l1.length : Int)) = false := bne_eq_false_iff_eq.mpr c3; have c3b2 : (l0.length == l1.length) = true := by first | simpa using c3 | (simp at c3 ⊢; omega)
  clear c3; have H' := Aside0.mk H; clear H; go_enter Try.func49, Try.ntmps49; go_wp2; repeat (go_quiet (fail); try go_wp2)
  go_loopg [5] k (fun kq v5 w' => ∃ (x5_1 : Int), v5 = .int .i64 x5_1 ∧ Aside0 (scarfref01_Same.l0 kq l0 l1 x5_1 = some r) ∧ Aside0 (kq ≤ k) ∧ Drawn0 w w')
  case atStart => exact ⟨(0), (by first | rfl | (simp; done) | (simp [*]; done)), H', ⟨Nat.le_refl _⟩, by repeat (first | exact Drawn0.refl _ | apply Drawn0.step)⟩
  case round =>
   clear H'; (try clear c1); (try clear p2); (try clear c3 c3b0 c3b1 c3b2); obtain ⟨x5_1, rfl, HA, HK1, ⟨m1, rfl⟩⟩ := hrel; cases gk with
   | zero => exact absurd HA.out (by simp [scarfref01_Same.l0])
   | succ k1 =>
    have H := HA.out; clear HA; simp only [scarfref01_Same.l0] at H; by_cases c4 : x5_1 < (l0.length : Int)
    ·rw [if_pos c4] at H; have c4b0 : decide (x5_1 < (l0.length : Int)) = true := decide_eq_true c4; clear c4; by_cases c5 : 0 ≤ x5_1
     ·rw [if_pos c5] at H; have c5b0 : decide (0 ≤ x5_1) = true := decide_eq_true c5; clear c5; by_cases c6 : x5_1 < (l1.length : Int)
      ·rw [if_pos c6] at H; have c6b0 : decide (x5_1 < (l1.length : Int)) = true := decide_eq_true c6; clear c6; by_cases c7 : (rd l0 x5_1) = (rd l1 x5_1)
       ·rw [if_pos c7] at H; have c7b0 : ((rd l0 x5_1) == (rd l1 x5_1)) = true := beq_iff_eq.mpr c7; have c7b1 : ((rd l0 x5_1) != (rd l1 x5_1)) = false := bne_eq_false_iff_eq.mpr c7; clear c7; have H' := Aside0.mk H; clear H; have p284 : 0 ≤ (x5_1 : Int) := of_decide_eq_true (by first | (with_reducible assumption) | assumption); have q284 : x5_1 < (l0.length : Int) := of_decide_eq_true (by first | (with_reducible assumption) | assumption); obtain ⟨ad284, e284, hx284_0⟩ := Kd.at_int HR0.out x5_1 p284 q284; cases e284; replace p284 := eq_true p284; replace q284 := eq_true q284; have p285 : 0 ≤ (x5_1 : Int) := of_decide_eq_true (by first | (with_reducible assumption) | assumption); have q285 : x5_1 < (l1.length : Int) := of_decide_eq_true (by first | (with_reducible assumption) | assumption); obtain ⟨ad285, e285, hx285_0⟩ := Kd.at_int HR1.out x5_1 p285 q285; cases e285; replace p285 := eq_true p285; replace q285 := eq_true q285; go_wp2; repeat (go_quiet (fail); try go_wp2)
        go_roundg k1
        case measure => have := HK1.out; omega
        case rel => exact ⟨(wrap64 (x5_1 + 1)), (by first | rfl | (simp; done) | (simp [*]; done)), H', ⟨by have := HK1.out; omega⟩, by repeat (first | exact Drawn0.refl _ | apply Drawn0.step)⟩
       ·rw [if_neg c7] at H; have c7b0 : ((rd l0 x5_1) == (rd l1 x5_1)) = false := beq_eq_false_iff_ne.mpr c7; have c7b1 : ((rd l0 x5_1) != (rd l1 x5_1)) = true := bne_iff_ne.mpr c7; obtain rfl := Option.some.inj H; have p284 : 0 ≤ (x5_1 : Int) := of_decide_eq_true (by first | (with_reducible assumption) | assumption); have q284 : x5_1 < (l0.length : Int) := of_decide_eq_true (by first | (with_reducible assumption) | assumption); obtain ⟨ad284, e284, hx284_0⟩ := Kd.at_int HR0.out x5_1 p284 q284; cases e284; replace p284 := eq_true p284; replace q284 := eq_true q284; have p285 : 0 ≤ (x5_1 : Int) := of_decide_eq_true (by first | (with_reducible assumption) | assumption); have q285 : x5_1 < (l1.length : Int) := of_decide_eq_true (by first | (with_reducible assumption) | assumption); obtain ⟨ad285, e285, hx285_0⟩ := Kd.at_int HR1.out x5_1 p285 q285; cases e285; replace p285 := eq_true p285; replace q285 := eq_true q285; go_wp2; repeat (go_quiet (fail); try go_wp2)
        go_ret
        exact ⟨by first | rfl | (simp; done) | (simp [*]; done), by repeat (first | exact Drawn0.refl _ | apply Drawn0.step)⟩
      ·rw [if_neg c6] at H; exact absurd H (by simp)
     ·rw [if_neg c5] at H; exact absurd H (by simp)
    ·rw [if_neg c4] at H; have c4b0 : decide (x5_1 < (l0.length : Int)) = false := decide_eq_false c4; clear c4; obtain rfl := Option.some.inj H; go_wp2; repeat (go_quiet (fail); try go_wp2)
     go_ret
     exact ⟨by first | rfl | (simp; done) | (simp [*]; done), by repeat (first | exact Drawn0.refl _ | apply Drawn0.step)⟩
 ·rw [if_neg c3] at H; have c3b0 : ((l0.length : Int) == (l1.length : Int)) = false := beq_eq_false_iff_ne.mpr c3; have c3b1 : ((l0.length : Int) != (l1.length : Int)) = true := bne_iff_ne.mpr c3; have c3b2 : (l0.length == l1.length) = false := by first | simpa using c3 | (simp at c3 ⊢; omega)
  obtain rfl := Option.some.inj H; go_enter Try.func49, Try.ntmps49; go_wp2; repeat (go_quiet (fail); try go_wp2)
  go_ret
  exact ⟨by first | rfl | (simp; done) | (simp [*]; done), by repeat (first | exact Drawn0.refl _ | apply Drawn0.step)⟩
end Go.Proofs.Ytdjkjdlbckcplaa.PA
namespace Go.Proofs.Ytdjkjdlbckcplaa.Hd
open Go.RowKit Go.Proofs Go.Proofs.YtdjkjdlbckcplaaW.PrintWords Go.Proofs.YtdjkjdlbckcplaaW.PrintLast Go.Proofs.YtdjkjdlbckcplaaW.PrintMore Go.Proofs.Ytdjkjdlbckcplaa.MapI Go.Proofs.Ytdjkjdlbckcplaa.PA
set_option linter.unusedVariables false
set_option linter.unusedSimpArgs false
def s31 (p : Int × E) : S31 := ⟨p.1, p.2.r, p.2.rep, p.2.own, p.2.lends, p.2.call⟩
theorem hands_kd {w : World} {base : Nat} {A : Option Addr} {c : Nat} {l : List (Int × E)} (h : w.ownsRow base 31 6 (.slice A l.length c) l.length (l.flatMap hval)) (hl : l.length ≤ 256) : Kd.C k31 w A (l.map s31).length (l.map s31) := by
  refine ⟨rfl, by rw [List.length_map]; omega, fun hpos => ?_⟩
  rw [List.length_map] at hpos
  obtain ⟨b, cap, e1, _, _, _⟩ := own_cells h hpos
  injection e1 with e1 _ _
  refine ⟨_, e1, fun j p hp => ?_⟩
  rw [List.getElem?_map, Option.map_eq_some_iff] at hp
  obtain ⟨q, hq, rfl⟩ := hp
  have hj := (List.getElem?_eq_some_iff.1 hq).1
  obtain ⟨b', cap', q', f1, f2, f3⟩ := hand_cells h hj
  injection f1 with f1 _ _
  rw [e1] at f1
  injection f1 with f1
  injection f1 with f1
  subst f1
  obtain rfl : q = q' := Option.some.inj (hq.symm.trans f2)
  refine ⟨hval q, rfl, k31_mk w (s31 q), fun i u hu => ?_⟩
  rw [add_at, Nat.zero_add]
  exact f3 i u hu
theorem ints_kd {w : World} {base : Nat} {A : Option Addr} {c : Nat} {l : List Int} (h : w.ownsRow base 3 1 (.slice A l.length c) l.length (l.map (Value.int .i64))) (hl : l.length ≤ 1000000) : Kd.C (Kd.int .i64) w A l.length l := by
  refine ⟨rfl, by omega, fun hpos => ?_⟩
  obtain ⟨b, cap, e1, _, _, e4⟩ := own_cells h hpos
  injection e1 with e1 _ _
  refine ⟨_, e1, fun j p hp => ⟨[.int .i64 p], rfl, rfl, fun i u hu => ?_⟩⟩
  have hi : i = 0 := by have := (List.getElem?_eq_some_iff.1 hu).1; simp at this; exact this
  subst hi
  rw [add_at, Nat.zero_add]
  refine e4 _ _ ?_
  show (l.map (Value.int .i64))[j * 1 + 0]? = _
  rw [Nat.mul_one, Nat.add_zero, List.getElem?_map, hp]
  exact hu
theorem same16_l0 (l : List S31) (hn : l.length ≤ 1000000) : ∀ (m i k : Nat), i + m = l.length → m + 1 ≤ k → scarfref16_Same.l0 k l l (i : Int) = some true := by
  intro m
  induction m with
  | zero =>
    intro i k hi hk
    obtain ⟨k, rfl⟩ : ∃ m, k = m + 1 := ⟨k - 1, by omega⟩
    rw [scarfref16_Same.l0, if_neg (by omega)]
  | succ m ih =>
    intro i k hi hk
    obtain ⟨k, rfl⟩ : ∃ m, k = m + 1 := ⟨k - 1, by omega⟩
    have hi1 : wrap64 ((i : Int) + 1) = ((i + 1 : Nat) : Int) := by unfold wrap64; omega
    rw [scarfref16_Same.l0, if_pos (by omega), if_pos (by omega), if_pos (by omega), hi1, if_neg (by simp), ih (i + 1) k (by omega) (by omega)]
theorem same16 (l : List S31) (hn : l.length ≤ 1000000) : scarfref16_Same.f (l.length + 1) l l = some true := by
  unfold scarfref16_Same.f
  rw [if_pos rfl]
  exact same16_l0 l hn l.length 0 _ (by omega) (by omega)
theorem same01_l0 (l : List Int) (hn : l.length ≤ 1000000) : ∀ (m i k : Nat), i + m = l.length → m + 1 ≤ k → scarfref01_Same.l0 k l l (i : Int) = some true := by
  intro m
  induction m with
  | zero =>
    intro i k hi hk
    obtain ⟨k, rfl⟩ : ∃ m, k = m + 1 := ⟨k - 1, by omega⟩
    rw [scarfref01_Same.l0, if_neg (by omega)]
  | succ m ih =>
    intro i k hi hk
    obtain ⟨k, rfl⟩ : ∃ m, k = m + 1 := ⟨k - 1, by omega⟩
    have hi1 : wrap64 ((i : Int) + 1) = ((i + 1 : Nat) : Int) := by unfold wrap64; omega
    rw [scarfref01_Same.l0, if_pos (by omega), if_pos (by omega), if_pos (by omega), if_pos rfl, hi1, ih (i + 1) k (by omega) (by omega)]
theorem same01 (l : List Int) (hn : l.length ≤ 1000000) : scarfref01_Same.f (l.length + 1) l l = some true := by
  unfold scarfref01_Same.f
  rw [if_pos rfl]
  exact same01_l0 l hn l.length 0 _ (by omega) (by omega)
theorem below_drawn {w w' : World} (h : Drawn0 w w') : Below w.heap.size w w' := by
  obtain ⟨m, rfl⟩ := h
  exact pw_below_drewN (Below.refl _ w) m
/-- Same, at one list told twice. -/
theorem same16_calls {w : World} {b1 b2 : Nat} {A1 A2 : Option Addr} {c1 c2 : Nat} {l : List (Int × E)} (h1 : w.ownsRow b1 31 6 (.slice A1 l.length c1) l.length (l.flatMap hval)) (h2 : w.ownsRow b2 31 6 (.slice A2 l.length c2) l.length (l.flatMap hval)) (hl : l.length ≤ 256) :
    Calls Try.prog 48 #[.slice A1 l.length c1, .slice A2 l.length c2] w fun e w' => e = .returned (.bool true) ∧ Below w.heap.size w w' := by
  have hc : ∀ {b : Nat} {A : Option Addr} {c : Nat}, w.ownsRow b 31 6 (.slice A l.length c) l.length (l.flatMap hval) → (l.map s31).length ≤ c := fun {b A c} h => by
    rw [List.length_map]
    rcases h.2 with ⟨e, h⟩ | ⟨g, cap, cur, e, _, _, hm, _⟩
    · rw [h]; exact Nat.zero_le _
    · injection e with _ _ e; rw [e]; exact hm
  have := scarfref16_Same.calls ((l.map s31).length + 1) A1 c1 (l.map s31) A2 c2 (l.map s31) true w (hands_kd h1 hl) (hc h1) (hands_kd h2 hl) (hc h2) (same16 _ (by rw [List.length_map]; omega))
  rw [List.length_map] at this
  exact this.mono fun e w' h => ⟨h.1, below_drawn h.2⟩
theorem same01_calls {w : World} {b1 b2 : Nat} {A1 A2 : Option Addr} {c1 c2 : Nat} {l : List Int} (h1 : w.ownsRow b1 3 1 (.slice A1 l.length c1) l.length (l.map (Value.int .i64))) (h2 : w.ownsRow b2 3 1 (.slice A2 l.length c2) l.length (l.map (Value.int .i64))) (hl : l.length ≤ 1000000) :
    Calls Try.prog 49 #[.slice A1 l.length c1, .slice A2 l.length c2] w fun e w' => e = .returned (.bool true) ∧ Below w.heap.size w w' := by
  have hc : ∀ {b : Nat} {A : Option Addr} {c : Nat}, w.ownsRow b 3 1 (.slice A l.length c) l.length (l.map (Value.int .i64)) → l.length ≤ c := fun {b A c} h => by
    rcases h.2 with ⟨e, h⟩ | ⟨g, cap, cur, e, _, _, hm, _⟩
    · rw [h]; exact Nat.zero_le _
    · injection e with _ _ e; rw [e]; exact hm
  exact (scarfref01_Same.calls (l.length + 1) A1 c1 l A2 c2 l true w (ints_kd h1 hl) (hc h1) (ints_kd h2 hl) (hc h2) (same01 l hl)).mono fun e w' h => ⟨h.1, below_drawn h.2⟩
open Go.RowKit Go.Proofs Go.Proofs.YtdjkjdlbckcplaaW.PrintWords Go.Proofs.YtdjkjdlbckcplaaW.PrintLast Go.Proofs.YtdjkjdlbckcplaaW.PrintMore Go.Proofs.Ytdjkjdlbckcplaa.MapI
theorem own_bel {w w' : World} {base e size n : Nat} {v : Value} {xs : List Value} (h : w.ownsRow base e size v n xs) (hb : Below w.heap.size w w') : w'.ownsRow base e size v n xs := own_same h fun k hk => hb.block k (own_lt h hk).1
theorem bel_bel {w a b : World} (h : Below w.heap.size w a) (k : Below a.heap.size a b) : Below w.heap.size w b := h.trans (k.mono h.size)
set_option maxHeartbeats 32000000 in
set_option maxRecDepth 100000 in
theorem alike_calls {w : World} {ga gb : Nat} {Sa Sb : Tb} {Da Db : Nat → Prop} (ha : HT w ga Sa Da) (hb : HT w gb Sb Db) (he : Sa.abs = Sb.abs) (hc : Sa.calls.length < 1000000) :
    Calls Try.prog 31 #[.pointer (some ⟨ga, 0, none⟩), .pointer (some ⟨gb, 0, none⟩)] w fun e w' => e = .returned (.bool true) ∧ Below w.heap.size w w' := by
  have hci : Sa.calls.map CL.i = Sb.calls.map CL.i := by
    have h := congrArg (fun T : AT => T.calls.map AC.i) he
    simpa [Tb.abs, CL.abs, Function.comp_def] using h
  have hcl : Sb.calls.length = Sa.calls.length := by
    have h := congrArg List.length hci
    simpa using h.symm
  have K1 : ∀ (ii : Int) W, Below w.heap.size w W → Calls Try.prog 12 #[.pointer (some ⟨ga, 0, none⟩), .int .i64 ii] W fun e w' => ∃ A c, e = .returned (.slice A (Sa.abs.hands ii).length c) ∧ w'.ownsRow W.heap.size 31 6 (.slice A (Sa.abs.hands ii).length c) (Sa.abs.hands ii).length ((Sa.abs.hands ii).flatMap hval) ∧ Below W.heap.size W w' := fun ii W hW =>
    (hands_ht (ht_below ha hW) ii).mono fun e w' ⟨A, c, h1, h2, _, h4⟩ => ⟨A, c, h1, h2, h4⟩
  have K2 : ∀ (ii : Int) W, Below w.heap.size w W → Calls Try.prog 12 #[.pointer (some ⟨gb, 0, none⟩), .int .i64 ii] W fun e w' => ∃ A c, e = .returned (.slice A (Sa.abs.hands ii).length c) ∧ w'.ownsRow W.heap.size 31 6 (.slice A (Sa.abs.hands ii).length c) (Sa.abs.hands ii).length ((Sa.abs.hands ii).flatMap hval) ∧ Below W.heap.size W w' := fun ii W hW => by
    rw [he]
    exact (hands_ht (ht_below hb hW) ii).mono fun e w' ⟨A, c, h1, h2, _, h4⟩ => ⟨A, c, h1, h2, h4⟩
  have K3 : ∀ W, Below w.heap.size w W → Calls Try.prog 22 #[.pointer (some ⟨ga, 0, none⟩)] W fun e w' => ∃ A c, e = .returned (.slice A (Sa.calls.map CL.i).length c) ∧ w'.ownsRow W.heap.size 3 1 (.slice A (Sa.calls.map CL.i).length c) (Sa.calls.map CL.i).length ((Sa.calls.map CL.i).map (Value.int .i64)) ∧ Below W.heap.size W w' := fun W hW => by
    refine (calls_calls (ht_below ha hW) hc).mono ?_
    rintro e w' ⟨v, rfl, h1, h2⟩
    obtain ⟨A, c, rfl⟩ := own_slice h1
    exact ⟨A, c, by rw [List.length_map], by rw [List.length_map]; exact h1, h2⟩
  have K4 : ∀ W, Below w.heap.size w W → Calls Try.prog 22 #[.pointer (some ⟨gb, 0, none⟩)] W fun e w' => ∃ A c, e = .returned (.slice A (Sa.calls.map CL.i).length c) ∧ w'.ownsRow W.heap.size 3 1 (.slice A (Sa.calls.map CL.i).length c) (Sa.calls.map CL.i).length ((Sa.calls.map CL.i).map (Value.int .i64)) ∧ Below W.heap.size W w' := fun W hW => by
    rw [hci]
    refine (calls_calls (ht_below hb hW) (by omega)).mono ?_
    rintro e w' ⟨v, rfl, h1, h2⟩
    obtain ⟨A, c, rfl⟩ := own_slice h1
    exact ⟨A, c, by rw [List.length_map], by rw [List.length_map]; exact h1, h2⟩
  have hll : ∀ ii : Int, (Sa.abs.hands ii).length ≤ 256 := fun ii => hands_le Sa.abs ii
  have hcs : (Sa.calls.map CL.i).length ≤ 1000000 := by rw [List.length_map]; omega
  obtain ⟨HL, hHL⟩ : ∃ HL : Int → List (Int × E), HL = fun ii => Sa.abs.hands ii := ⟨_, rfl⟩
  have e1 : ∀ ii, Sa.abs.hands ii = HL ii := fun ii => by rw [hHL]
  simp only [e1] at K1 K2 hll
  generalize Sa.calls.map CL.i = CI at K3 K4 hcs
  have HK1 := Aside0.mk K1
  have HK2 := Aside0.mk K2
  have HK3 := Aside0.mk K3
  have HK4 := Aside0.mk K4
  have HLL := Aside0.mk hll
  have HCS := Aside0.mk hcs
  clear K1 K2 K3 K4 hll hcs e1 hHL hci hcl ha hb he hc
  go_enter Try.func31, Try.ntmps31
  go_wp2
  go_loopg [5] 4 (fun gg s5 wr => ∃ kk : Nat, kk ≤ 4 ∧ 4 - kk ≤ gg ∧ s5 = Value.int .i64 (kk : Int) ∧ Aside0 (Below w.heap.size w wr))
  case atStart => exact ⟨0, Nat.zero_le _, by omega, rfl, ⟨Below.refl _ _⟩⟩
  case round =>
    obtain ⟨kk, hkk, hg, rfl, BR⟩ := hrel
    by_cases hlt : kk < 4
    · have q : decide ((kk : Int) < 4) = true := decide_eq_true (by omega)
      have k1 := HK1.out (kk : Int) _ BR.out
      have k2 := fun W => HK2.out (kk : Int) W
      have hl := HLL.out (kk : Int)
      generalize HL (kk : Int) = LH at k1 k2 hl
      have HK := Aside0.mk k2
      have HLE := Aside0.mk hl
      clear k2 hl
      go_wp2_with (first | (go_at_call 12; refine (HK.out _ BB1.out).mono ?_; rintro e w2 ⟨A2, c2, rfl, o2, B2⟩; have O1' := Aside0.mk (own_bel O1.out B2); have O2 := Aside0.mk o2; have BB2 := Aside0.mk (bel_bel BB1.out B2); clear o2 B2) | (go_at_call 12; refine k1.mono ?_; rintro e w1 ⟨A1, c1, rfl, o1, B1⟩; have O1 := Aside0.mk o1; have BB1 := Aside0.mk (bel_bel BR.out B1); clear o1 B1) | (go_at_call 48; refine (same16_calls O1'.out O2.out HLE.out).mono ?_; rintro e w3 ⟨rfl, B3⟩; have BB3 := Aside0.mk (bel_bel BB2.out B3); clear B3))
      go_roundg (4 - (kk + 1))
      case measure => omega
      case rel => exact ⟨kk + 1, by omega, by omega, by first | rfl | (congr 1; unfold wrap64; omega), BB3⟩
    · have q : decide ((kk : Int) < 4) = false := decide_eq_false (by omega)
      go_wp2_with (first | (go_at_call 22; refine (HK4.out _ BB1.out).mono ?_; rintro e w2 ⟨A2, c2, rfl, o2, B2⟩; have O1' := Aside0.mk (own_bel O1.out B2); have O2 := Aside0.mk o2; have BB2 := Aside0.mk (bel_bel BB1.out B2); clear o2 B2) | (go_at_call 22; refine (HK3.out _ BR.out).mono ?_; rintro e w1 ⟨A1, c1, rfl, o1, B1⟩; have O1 := Aside0.mk o1; have BB1 := Aside0.mk (bel_bel BR.out B1); clear o1 B1) | (go_at_call 49; refine (same01_calls O1'.out O2.out HCS.out).mono ?_; rintro e w3 ⟨rfl, B3⟩; have BB3 := Aside0.mk (bel_bel BB2.out B3); clear B3))
      go_ret
      exact ⟨rfl, BB3.out⟩
open Go.RowKit Go.Proofs
theorem put_trap (T : AT) (i : Nat) (e : E) (h : (T.put i e).2.1 ≠ 0) : T.put i e = (0, 5, T) := by
  unfold AT.put at h ⊢
  split
  · rfl
  · rename_i hs; rw [if_neg hs] at h; exact absurd rfl h
/-- With a trap nothing is done. -/
theorem doz_trap (T : AT) (k i r h : Int) (ht : (T.doz k i r h).2.1 ≠ 0) : (T.doz k i r h).1 = 0 ∧ (T.doz k i r h).2.2.1 = false ∧ (T.doz k i r h).2.2.2 = T := by
  have hdrop : (T.drop i r h).2.2.1 ≠ 0 → (T.drop i r h).1 = 0 ∧ (T.drop i r h).2.1 = false ∧ (T.drop i r h).2.2.2 = T := by
    unfold AT.drop
    cases T.get i r h with
    | none => intro _; exact ⟨rfl, rfl, rfl⟩
    | some e =>
      dsimp only
      split
      · intro _; exact ⟨rfl, rfl, rfl⟩
      · intro z; exact absurd rfl z
  unfold AT.doz at ht ⊢
  split
  · rename_i h0
    rw [if_pos h0] at ht
    dsimp only at ht ⊢
    unfold AT.make at ht ⊢
    split
    · rename_i h1
      rw [if_pos h1] at ht
      split
      · rename_i h2
        rw [if_pos h2] at ht
        split
        · rename_i h3
          rw [if_pos h3] at ht
          rw [put_trap _ _ _ ht]; exact ⟨rfl, rfl, rfl⟩
        · exact ⟨rfl, rfl, rfl⟩
      · exact ⟨rfl, rfl, rfl⟩
    · exact ⟨rfl, rfl, rfl⟩
  · rename_i h0
    rw [if_neg h0] at ht
    split
    · rename_i h1
      rw [if_pos h1] at ht
      dsimp only at ht ⊢
      unfold AT.rep at ht ⊢
      cases hg : T.get i r h with
      | none => exact ⟨rfl, rfl, rfl⟩
      | some e =>
        rw [hg] at ht
        dsimp only at ht ⊢
        split
        · rename_i h2
          rw [if_pos h2] at ht
          exact absurd rfl ht
        · exact ⟨rfl, rfl, rfl⟩
    · rename_i h1
      rw [if_neg h1] at ht
      split
      · rename_i h2
        rw [if_pos h2] at ht
        exact hdrop ht
      · rename_i h2
        rw [if_neg h2] at ht
        split
        · rename_i h3
          rw [if_pos h3] at ht
          exact hdrop ht
        · rename_i h3
          rw [if_neg h3] at ht
          split
          · rename_i h4
            rw [if_pos h4] at ht
            dsimp only at ht ⊢
            unfold AT.take at ht ⊢
            cases hg : T.get i r h with
            | none => exact ⟨rfl, rfl, rfl⟩
            | some e =>
              rw [hg] at ht
              dsimp only at ht ⊢
              split
              · rename_i h5
                rw [if_pos h5] at ht
                split
                · exact ⟨rfl, rfl, rfl⟩
                · rename_i h6
                  rw [if_neg h6] at ht
                  exact absurd rfl ht
              · exact ⟨rfl, rfl, rfl⟩
          · rename_i h4
            rw [if_neg h4] at ht
            split
            · rename_i h5
              rw [if_pos h5] at ht
              dsimp only at ht ⊢
              unfold AT.putN at ht ⊢
              split
              · rename_i h6
                rw [if_pos h6] at ht
                split
                · rename_i h7
                  rw [if_pos h7] at ht
                  rw [put_trap _ _ _ ht]; exact ⟨rfl, rfl, rfl⟩
                · exact ⟨rfl, rfl, rfl⟩
              · exact ⟨rfl, rfl, rfl⟩
            · rename_i h5
              rw [if_neg h5] at ht
              split
              · rename_i h6
                rw [if_pos h6] at ht
                dsimp only at ht ⊢
                unfold AT.lend at ht ⊢
                cases hg : T.get i r h with
                | none => exact ⟨rfl, rfl, rfl⟩
                | some e =>
                  rw [hg] at ht
                  dsimp only at ht ⊢
                  split
                  · exact ⟨rfl, rfl, rfl⟩
                  · rename_i h7
                    rw [if_neg h7] at ht
                    exact absurd rfl ht
              · rename_i h6
                rw [if_neg h6] at ht
                split
                · rename_i h7
                  rw [if_pos h7] at ht
                  dsimp only at ht ⊢
                  unfold AT.borrow at ht ⊢
                  split
                  · rename_i h8
                    rw [if_pos h8] at ht
                    split
                    · exact ⟨rfl, rfl, rfl⟩
                    · rename_i h9
                      rw [if_neg h9] at ht
                      split
                      · rename_i h10
                        rw [if_pos h10] at ht
                        split
                        · rename_i h11
                          rw [if_pos h11] at ht
                          exact absurd rfl ht
                        · rename_i h11
                          rw [if_neg h11] at ht
                          unfold AT.lend1 at ht ⊢
                          split
                          · rename_i h12
                            rw [if_pos h12] at ht
                            exact absurd h12 ht
                          · rename_i h12
                            rw [put_trap _ _ _ h12]; exact ⟨rfl, rfl, rfl⟩
                      · exact ⟨rfl, rfl, rfl⟩
                  · exact ⟨rfl, rfl, rfl⟩
                · rename_i h7
                  rw [if_neg h7] at ht
                  split
                  · rename_i h8
                    rw [if_pos h8] at ht
                    dsimp only at ht ⊢
                    unfold AT.enter at ht ⊢
                    split
                    · rename_i a1
                      rw [if_pos a1] at ht
                      split
                      · rename_i a2
                        rw [if_pos a2] at ht
                        split
                        · exact ⟨rfl, rfl, rfl⟩
                        · rename_i a3
                          rw [if_neg a3] at ht
                          split
                          · exact ⟨rfl, rfl, rfl⟩
                          · rename_i a4
                            rw [if_neg a4] at ht
                            exact absurd rfl ht
                      · exact ⟨rfl, rfl, rfl⟩
                    · exact ⟨rfl, rfl, rfl⟩
                  · rename_i h8
                    rw [if_neg h8] at ht
                    dsimp only at ht ⊢
                    unfold AT.leave at ht ⊢
                    split
                    · exact ⟨rfl, rfl, rfl⟩
                    · rename_i a1
                      rw [if_neg a1] at ht
                      split
                      · exact ⟨rfl, rfl, rfl⟩
                      · rename_i a2
                        rw [if_neg a2] at ht
                        exact absurd rfl ht
theorem doz_two {T : AT} {n : Nat} (h : T.Two n) (hn : n < 1000000) (k i r q : Int) : (T.doz k i r q).2.2.2.Two (n + 1) := by
  obtain ⟨h1, h2⟩ := doz_keep T k i r q
  exact ⟨h.inv.doz hn k i r q, h1.trans h.mkr, h2.trans h.tabs⟩
theorem own_le {T : AT} {n : Nat} (h : T.Inv n) : ownN T ≤ 1024 := tot_le _ _ h.few
theorem set_HT {w : World} {g : Nat} {S : Tb} {D : Nat → Prop} (h : HT w g S D) {b j : Nat} {u : Value} (hb : ¬ D b) : HT (w.setCell ⟨b, j, none⟩ u) g S D := h.keep fun q _ hq => Below.heap_setCell w _ _ q (fun z => hb (by have z' : q = b := z; rw [← z']; exact hq))
open Go.RowKit Go.Proofs Go.Proofs.YtdjkjdlbckcplaaW.PrintWords Go.Proofs.YtdjkjdlbckcplaaW.PrintLast Go.Proofs.YtdjkjdlbckcplaaW.PrintMore Go.Proofs.Ytdjkjdlbckcplaa.MapI Go.Proofs.Ytdjkjdlbckcplaa.Reads
/-- What a deed at one's tables leaves of others'. -/
theorem ht_apart {w w' : World} {g gc : Nat} {S : Tb} {D D' : Nat → Prop} {T : AT} (h : HT w g S D) (k : Aft w gc D' T w') (hd : ∀ b, D b → ¬ D' b) : HT w' g S D := by
  obtain ⟨S', h1, h2, h3⟩ := k
  exact h.keep fun b hb hD => h3.2.1 b hb (hd b hD)
theorem clone_ok {w : World} {g : Nat} {S : Tb} {D : Nat → Prop} {n : Nat} (hT : HT w g S D) (h2 : S.abs.Two n) (hn : n ≤ 1000000) : Calls Try.prog 30 #[.pointer (some ⟨g, 0, none⟩)] w fun e w' => ∃ gc S', e = .returned (.pointer (some ⟨gc, 0, none⟩)) ∧ HT w' gc S' (fun b => w.heap.size ≤ b) ∧ S'.abs = S.abs ∧ Below w.heap.size w w' := by
  have h1 : S.mkr = [0, 1] := h2.mkr
  have h3 : (S.rows.map absR).length = 2 := h2.tabs
  have h4 : (S.calls.map CL.abs).length ≤ 16 := h2.inv.deep
  rw [List.length_map] at h3 h4
  refine clone_calls hT (by rw [h1]; decide) (by have := hT.len1; omega) (by omega) (fun c hc => ?_)
  have := lent_le h2.inv c.abs (List.mem_map_of_mem hc)
  exact Nat.le_trans this hn
set_option maxHeartbeats 32000000 in
set_option maxRecDepth 100000 in
theorem scarflaw16_HandlesTraps.calls (A : Option Addr) (cc : Nat) (l : List Dd) (x : Dd) (b : Bool) (w : World) (hD : Dds w A l) (hlc : l.length ≤ cc) (hb : some true = some b) :
    Calls Try.prog 8 #[.slice A l.length cc, .agg #[.int .i64 x.k, .int .i64 x.i, .int .i64 x.r, .int .i64 x.h, .bool x.near]] w fun e w' => e = .returned (.bool b) ∧ Below w.heap.size w w' := by
  obtain rfl : true = b := Option.some.inj hb
  clear hb
  have XB := (Below.refl w.heap.size w).alloc (Nat.le_refl _) (.cells #[.int .i64 x.k, .int .i64 x.i, .int .i64 x.r, .int .i64 x.h, .bool x.near] 39)
  have X0 := blk_new w (.cells #[.int .i64 x.k, .int .i64 x.i, .int .i64 x.r, .int .i64 x.h, .bool x.near] 39)
  have hs0 : (w.alloc (.cells #[.int .i64 x.k, .int .i64 x.i, .int .i64 x.r, .int .i64 x.h, .bool x.near] 39)).heap.size = w.heap.size + 1 := Array.size_push _
  have hmade := made_calls (w.alloc (.cells #[.int .i64 x.k, .int .i64 x.i, .int .i64 x.r, .int .i64 x.h, .bool x.near] 39)) l A cc (dds_below hD XB) hlc
  have hTwo := made_two (l.take 150) (by rw [List.length_take]; omega)
  generalize madeF (newT 2 [0, 1]) (l.take 150) = T at hmade hTwo
  have HTwo := Aside0.mk hTwo
  clear hTwo hD
  go_enter Try.func8, Try.ntmps8
  go_upto_region 4 with (first | (go_at_call 10; refine hmade.mono ?_; rintro e w1 ⟨g, rfl, N1⟩))
  obtain ⟨S, hT, hSa, hF⟩ := N1
  have hS2 : S.abs.Two 150 := by rw [hSa]; exact HTwo.out
  have X1 : w1.heap[w.heap.size]? = some (.cells #[.int .i64 x.k, .int .i64 x.i, .int .i64 x.r, .int .i64 x.h, .bool x.near] 39 (0, 0)) := (hF.2.1 _ (by omega) id).trans X0
  have B1 : Below w.heap.size w w1 := XB.trans ⟨hF.2.2.os, hF.2.2.tape, hF.2.2.output, by have := hF.1; omega, fun q hq => hF.2.1 q (by omega) id⟩
  have hT1 := hT.within
  have hcl := clone_ok hT1 hS2 (by decide)
  clear hmade X0 hF hT HTwo hSa
  go_upto_region 5 with (first | (go_at_call 30; refine hcl.mono ?_; rintro e w2 ⟨gc, Sc, rfl, hTc, hSc, B2⟩))
  have X2 := (B2.block _ (blk_lt X1)).trans X1
  have hT2 := ht_below hT1 B2
  have hTc2 := hTc.within
  have hx1 : ¬ ((w.alloc (.cells #[.int .i64 x.k, .int .i64 x.i, .int .i64 x.r, .int .i64 x.h, .bool x.near] 39)).heap.size ≤ w.heap.size ∧ w.heap.size < w1.heap.size) := fun z => by omega
  have hx2 : ¬ (w1.heap.size ≤ w.heap.size ∧ w.heap.size < w2.heap.size) := fun z => by have := blk_lt X1; omega
  have hap : ∀ q, (w1.heap.size ≤ q ∧ q < w2.heap.size) → ¬ ((w.alloc (.cells #[.int .i64 x.k, .int .i64 x.i, .int .i64 x.r, .int .i64 x.h, .bool x.near] 39)).heap.size ≤ q ∧ q < w1.heap.size) := fun q h1 h2 => by omega
  have hlow1 : ∀ q, ((w.alloc (.cells #[.int .i64 x.k, .int .i64 x.i, .int .i64 x.r, .int .i64 x.h, .bool x.near] 39)).heap.size ≤ q ∧ q < w1.heap.size) → w.heap.size ≤ q := fun q h => by omega
  generalize hD1 : (fun b => (w.alloc (.cells #[.int .i64 x.k, .int .i64 x.i, .int .i64 x.r, .int .i64 x.h, .bool x.near] 39)).heap.size ≤ b ∧ b < w1.heap.size) = D1 at hT1 hT2
  generalize hD2 : (fun b => w1.heap.size ≤ b ∧ b < w2.heap.size) = D2 at hTc2
  have HX1 : Aside0 (¬ D1 w.heap.size) := ⟨by rw [← hD1]; exact hx1⟩
  have HX2 : Aside0 (¬ D2 w.heap.size) := ⟨by rw [← hD2]; exact hx2⟩
  have HAP : Aside0 (∀ q, D2 q → ¬ D1 q) := ⟨by rw [← hD1, ← hD2]; exact hap⟩
  have HL1 : Aside0 (∀ q, D1 q → w.heap.size ≤ q) := ⟨by rw [← hD1]; exact hlow1⟩
  have HL2 : Aside0 (∀ q, D2 q → w.heap.size ≤ q) := ⟨by rw [← hD2]; exact fun q h => by have := B1.size; have := h.1; omega⟩
  have d0 : w2.cell? ⟨w.heap.size, 0, none⟩ = some (.int .i64 x.k) := (blk_cell X2 0).trans rfl
  have d1 : w2.cell? ⟨w.heap.size, 1, none⟩ = some (.int .i64 x.i) := (blk_cell X2 1).trans rfl
  have d2 : w2.cell? ⟨w.heap.size, 2, none⟩ = some (.int .i64 x.r) := (blk_cell X2 2).trans rfl
  have d3 : w2.cell? ⟨w.heap.size, 3, none⟩ = some (.int .i64 x.h) := (blk_cell X2 3).trans rfl
  have d4 : w2.cell? ⟨w.heap.size, 4, none⟩ = some (.bool x.near) := (blk_cell X2 4).trans rfl
  have HS2 := Aside0.mk hS2
  have HT3 : Aside0 (HT w2.drew g S D1) := ⟨hT2.drewN 1⟩
  have HC3 : Aside0 (HT w2.drew gc Sc D2) := ⟨hTc2.drewN 1⟩
  have HB3 : Aside0 (Below w.heap.size w w2.drew) := ⟨(bel_bel B1 B2).drew⟩
  have XX3 := Aside0.mk X2
  have HSC := Aside0.mk hSc
  have H12 := hands_ht HT3.out x.i
  have HLE := hands_le S.abs x.i
  generalize hLH : S.abs.hands x.i = LH at H12 HLE
  have C16 := fun W A c (ho : World.ownsRow W w2.drew.heap.size 31 6 (.slice A LH.length c) LH.length (LH.flatMap hval)) => aimed_calls x.k x.i x.r x.h x.near LH A c ho HLE
  generalize hAP : aimP x.k x.r x.h x.near LH = AP at C16
  obtain ⟨ar, ah⟩ := AP
  dsimp only at C16
  clear hT1 hT2 hTc2 hx1 hx2 hap hlow1 hD1 hD2 hTc hSc hS2 X1 X2 B1 B2 hcl hs0 XB hLH hAP
  go_cut [] (fun wc => Aside0 (wc.heap[w.heap.size]? = some (.cells #[.int .i64 x.k, .int .i64 x.i, .int .i64 ar, .int .i64 ah, .bool x.near] 39 (0, 0))) ∧ Aside0 (HT wc g S D1) ∧ Aside0 (HT wc gc Sc D2) ∧ Aside0 (Below w.heap.size w wc))
  case first =>
    go_region_with (first | (go_at_call 12; refine H12.mono ?_; rintro e W4 ⟨hA, hcp, rfl, ho, hT4, B4⟩; have X4 := (B4.block _ (blk_lt XX3.out)).trans XX3.out; obtain ⟨y0, y1, y2, y3, y4⟩ := five_cells X4; have HT4 := Aside0.mk hT4; have OO4 := Aside0.mk ho; have XX4 := Aside0.mk X4; have HC4 := Aside0.mk (ht_below HC3.out B4); have HB4 := Aside0.mk (bel_bel HB3.out B4); clear ho hT4 B4 X4) | (go_at_call 16; refine (C16 _ hA hcp OO4.out).mono ?_; rintro e W5 ⟨rfl, B5⟩; have X5 := (B5.block _ (blk_lt XX4.out)).trans XX4.out; obtain ⟨z0, z1, z2, z3, z4⟩ := five_cells X5; have fz := fun j => blk_frozen X5 j; have HT5 := Aside0.mk (ht_below HT4.out B5); have XX5 := Aside0.mk X5; have HC5 := Aside0.mk (ht_below HC4.out B5); have HB5 := Aside0.mk (bel_bel HB4.out B5); clear B5 X5))
    all_goals
      go_wp2
      go_meet
      case rel => exact ⟨⟨blk_put (blk_put (blk_put (blk_put (blk_put XX5.out 0 (.int .i64 x.k) rfl) 1 (.int .i64 x.i) rfl) 2 (.int .i64 ar) rfl) 3 (.int .i64 ah) rfl) 4 (.bool x.near) rfl⟩, ⟨set_HT (set_HT (set_HT (set_HT (set_HT HT5.out HX1.out) HX1.out) HX1.out) HX1.out) HX1.out⟩, ⟨set_HT (set_HT (set_HT (set_HT (set_HT HC5.out HX2.out) HX2.out) HX2.out) HX2.out) HX2.out⟩, ⟨below_set (below_set (below_set (below_set (below_set HB5.out (Nat.le_refl _)) (Nat.le_refl _)) (Nat.le_refl _)) (Nat.le_refl _)) (Nat.le_refl _)⟩⟩
  case rest =>
    obtain ⟨XC, HTC, HCC, HBC⟩ := hcut
    have htwo := doz_two HS2.out (by decide) x.k x.i ar ah
    have htrap := doz_trap S.abs x.k x.i ar ah
    have hdo := does_aft HTC.out (HS2.out.inv.ok (by decide)) x.k x.i ar ah x.near
    have hdo2 := fun (W : World) (gq : Nat) (Sq : Tb) (Dq : Nat → Prop) (h : HT W gq Sq Dq) (hq : Sq.abs = S.abs) => does_aft h (by rw [hq]; exact HS2.out.inv.ok (by decide)) x.k x.i ar ah x.near
    have hdo3 : ∀ (W : World) (gq : Nat) (Sq : Tb) (Dq : Nat → Prop), HT W gq Sq Dq → Sq.abs = S.abs → Calls Try.prog 17 #[.pointer (some ⟨gq, 0, none⟩), .agg #[.int .i64 x.k, .int .i64 x.i, .int .i64 ar, .int .i64 ah, .bool x.near]] W fun z w' => z = .returned (.tuple #[.int .i64 (S.abs.doz x.k x.i ar ah).1, .int .i64 (S.abs.doz x.k x.i ar ah).2.1, .bool (S.abs.doz x.k x.i ar ah).2.2.1]) ∧ Aft W gq Dq (S.abs.doz x.k x.i ar ah).2.2.2 w' := fun W gq Sq Dq h hq => by
      have := hdo2 W gq Sq Dq h hq
      rw [hq] at this; exact this
    clear hdo2
    generalize S.abs.doz x.k x.i ar ah = DZ at htwo htrap hdo hdo3
    obtain ⟨dn, de, dw, V⟩ := DZ
    dsimp only at htwo htrap hdo hdo3
    have HTW2 := Aside0.mk htwo
    have HTRAP := Aside0.mk htrap
    have HDO3 := Aside0.mk hdo3
    have v0 : wc.cell? ⟨w.heap.size, 0, none⟩ = some (.int .i64 x.k) := (blk_cell XC.out 0).trans rfl
    have v1 : wc.cell? ⟨w.heap.size, 1, none⟩ = some (.int .i64 x.i) := (blk_cell XC.out 1).trans rfl
    have v2 : wc.cell? ⟨w.heap.size, 2, none⟩ = some (.int .i64 ar) := (blk_cell XC.out 2).trans rfl
    have v3 : wc.cell? ⟨w.heap.size, 3, none⟩ = some (.int .i64 ah) := (blk_cell XC.out 3).trans rfl
    have v4 : wc.cell? ⟨w.heap.size, 4, none⟩ = some (.bool x.near) := (blk_cell XC.out 4).trans rfl
    clear htwo htrap hdo3 C16 H12 HLE d0 d1 d2 d3 d4 XX3 HT3 HC3 HB3
    go_upto_region 7 with (first | (go_at_call 17; refine hdo.mono ?_; rintro e W6 ⟨rfl, N6⟩))
    have X6 := aft_blk N6 XC.out HX1.out
    have HC6 := ht_apart HCC.out N6 HAP.out
    obtain ⟨S6, hT6, hS6, hF6⟩ := N6
    have B6 : Below w.heap.size w W6 := ⟨hF6.2.2.os.trans HBC.out.os, hF6.2.2.tape.trans HBC.out.tape, hF6.2.2.output.trans HBC.out.output, Nat.le_trans HBC.out.size hF6.1, fun q hq => (hF6.2.1 q (Nat.lt_of_lt_of_le hq HBC.out.size) (fun z => Nat.lt_irrefl _ (Nat.lt_of_lt_of_le hq (HL1.out q z)))).trans (HBC.out.block q hq)⟩
    have HT6 := Aside0.mk hT6
    have HS6 := Aside0.mk hS6
    have HC6' := Aside0.mk HC6
    have HX6 := Aside0.mk X6
    have HB6 := Aside0.mk B6
    have hin : HT W6 g S6 (fun b => Dn D1 wc.heap.size b ∧ b < W6.heap.size) := hT6.within
    have hin2 : ∀ q, (Dn D1 wc.heap.size q ∧ q < W6.heap.size) → ¬ W6.heap.size ≤ q := fun q h1 h2 => by have := h1.2; omega
    have hin3 : ¬ (W6.heap.size ≤ w.heap.size) := fun z => by have := blk_lt X6; omega
    have hin4 : ¬ (Dn D1 wc.heap.size w.heap.size ∧ w.heap.size < W6.heap.size) := fun z => z.1.elim HX1.out (fun h => by have := blk_lt XC.out; omega)
    generalize hD6 : (fun b => Dn D1 wc.heap.size b ∧ b < W6.heap.size) = D6 at hin
    have HT6 := Aside0.mk hin
    have HS6 := Aside0.mk hS6
    have HC6' := Aside0.mk HC6
    have HX6 := Aside0.mk X6
    have HB6 := Aside0.mk B6
    have HI2 : Aside0 (∀ q, D6 q → ¬ W6.heap.size ≤ q) := ⟨by rw [← hD6]; exact hin2⟩
    have HI3 := Aside0.mk hin3
    have HI4 : Aside0 (¬ D6 w.heap.size) := ⟨by rw [← hD6]; exact hin4⟩
    have hcn : S6.calls.length < 1000000 := by
      have h1 : (S6.calls.map CL.abs).length ≤ 16 := by have := HTW2.out.inv.deep; rw [← hS6] at this; exact this
      rw [List.length_map] at h1; omega
    have HCN := Aside0.mk hcn
    clear hdo HC6 hT6 hS6 hF6 X6 B6 v0 v1 v2 v3 v4 hin hin2 hin3 hin4 hD6 hcn
    go_cut [47] (fun s47 wd => s47 = .bool false ∧ Aside0 (Below W6.heap.size W6 wd))
    case first =>
      by_cases he : de = 0
      · have d0 : (de != 0) = false := by rw [he]; rfl
        clear he
        go_wp2
        go_meet
        case rel => exact ⟨rfl, ⟨Below.refl _ _⟩⟩
      · have d0 : (de != 0) = true := bne_iff_ne.2 he
        obtain ⟨rfl, rfl, hV⟩ := HTRAP.out he
        have hal := alike_calls HT6.out HC6'.out (by rw [HS6.out, hV, HSC.out]) HCN.out
        have HAL := Aside0.mk hal
        clear hal hV
        go_wp2_with (first | (go_at_call 31; refine HAL.out.mono ?_; rintro e W7 ⟨rfl, B7⟩))
        go_meet
        case rel => exact ⟨rfl, ⟨B7⟩⟩
    case rest =>
      obtain ⟨rfl, BW⟩ := hcut
      have hTg := ht_below HT6.out BW.out
      have hcl2 := clone_ok (ht_below HC6'.out BW.out) (n := 150) (by rw [HSC.out]; exact HS2.out) (by decide)
      have HB7 := Aside0.mk (bel_bel HB6.out BW.out)
      have XX7 := Aside0.mk ((BW.out.block _ (blk_lt HX6.out)).trans HX6.out)
      have HTG := Aside0.mk hTg
      have HI7 : Aside0 (∀ q, D6 q → ¬ wc.heap.size ≤ q) := ⟨fun q hq h => HI2.out q hq (Nat.le_trans BW.out.size h)⟩
      have HI8 : Aside0 (¬ (wc.heap.size ≤ w.heap.size)) := ⟨fun z => by have := blk_lt XX7.out; omega⟩
      clear hTg HX6 HB6 HC6' HT6 BW HI2 HI3
      go_upto_region 10 with (first | (go_at_call 30; refine hcl2.mono ?_; rintro e W8 ⟨gd, Sd, rfl, hTd, hSd, B8⟩))
      have X8 := (B8.block _ (blk_lt XX7.out)).trans XX7.out
      have hdo := HDO3.out W8 gd Sd _ hTd (hSd.trans HSC.out)
      have HTG8 := Aside0.mk (ht_below HTG.out B8)
      have HB8 := Aside0.mk (bel_bel HB7.out B8)
      have v0 : W8.cell? ⟨w.heap.size, 0, none⟩ = some (.int .i64 x.k) := (blk_cell X8 0).trans rfl
      have v1 : W8.cell? ⟨w.heap.size, 1, none⟩ = some (.int .i64 x.i) := (blk_cell X8 1).trans rfl
      have v2 : W8.cell? ⟨w.heap.size, 2, none⟩ = some (.int .i64 ar) := (blk_cell X8 2).trans rfl
      have v3 : W8.cell? ⟨w.heap.size, 3, none⟩ = some (.int .i64 ah) := (blk_cell X8 3).trans rfl
      have v4 : W8.cell? ⟨w.heap.size, 4, none⟩ = some (.bool x.near) := (blk_cell X8 4).trans rfl
      clear hcl2 hTd hSd B8 X8 HTG HB7
      go_upto_region 11 with (first | (go_at_call 17; refine hdo.mono ?_; rintro e W9 ⟨rfl, N9⟩))
      have hTg9 := ht_apart HTG8.out N9 HI7.out
      obtain ⟨S9, hT9, hS9, hF9⟩ := N9
      have hc9 : S9.calls.length < 1000000 := by
        have h1 : (S9.calls.map CL.abs).length ≤ 16 := by have := HTW2.out.inv.deep; rw [← hS9] at this; exact this
        rw [List.length_map] at h1; omega
      have hal := alike_calls hT9 hTg9 (hS9.trans HS6.out.symm) hc9
      have B9 : Below w.heap.size w W9 := ⟨hF9.2.2.os.trans HB8.out.os, hF9.2.2.tape.trans HB8.out.tape, hF9.2.2.output.trans HB8.out.output, Nat.le_trans HB8.out.size hF9.1, fun q hq => (hF9.2.1 q (Nat.lt_of_lt_of_le hq HB8.out.size) (fun z => HI8.out (Nat.le_of_lt (Nat.lt_of_le_of_lt z hq)))).trans (HB8.out.block q hq)⟩
      have HB9 := Aside0.mk B9
      have t1 : (dn == dn) = true := beq_self_eq_true _
      have t2 : (de == de) = true := beq_self_eq_true _
      have t3 : (dw == dw) = true := beq_self_eq_true _
      clear hdo hT9 hS9 hF9 hTg9 B9 hc9 v0 v1 v2 v3 v4
      go_wp2_with (first | (go_at_call 31; refine hal.mono ?_; rintro e W10 ⟨rfl, B10⟩; have HB10 := Aside0.mk (bel_bel HB9.out B10); clear B10) | (go_at_call 13; refine (awake_calls _).mono ?_; rintro e W11 ⟨rfl, B11⟩))
      go_ret
      all_goals exact ⟨rfl, bel_bel HB10.out B11⟩
/-- The argument of a law: a deed by itself. -/
theorem arg_deed {H : Type} {enc : TypeId × Value → H} {w : World} {v : Value} {d : DataW H} {ps : List MemPlace} (h : DataW.Trod enc Try.prog w 0 (fun _ => true) true 39 v d ps) (hv : ∃ cs, v = .agg cs ∧ cs.size = Try.prog.cellsOf 39) (hz : ∀ q ∈ d.weights Try.prog 39, q ≤ reachBytes) :
    ∃ x : Dd, v = .agg #[.int .i64 x.k, .int .i64 x.i, .int .i64 x.r, .int .i64 x.h, .bool x.near] := by
  obtain ⟨n, hn⟩ := h
  obtain ⟨cs, rfl, _⟩ := hv
  have hi : Opn enc Try.prog w (Kd.int .i64) 3 (fun x => (Lit.int .i64 x).wf = true) n := opn_int Try.underlying3 n
  have hb : Opn enc Try.prog w Kd.bool 4 (fun _ => True) n := opn_bool Try.underlying4 n
  have hs := opn_struct (d := kDd) Try.underlying39 (by kernel_rfl) (opn_pair rfl (by kernel_rfl) hi (opn_pair rfl (by kernel_rfl) hi (opn_pair rfl (by kernel_rfl) hi (opn_pair rfl (by kernel_rfl) hi (opn_one rfl (by kernel_rfl) hb)))))
  obtain ⟨x, ⟨_, _, hcs, rfl, ⟨_, _, rfl, rfl, ⟨_, _, rfl, rfl, ⟨_, _, rfl, rfl, rfl⟩⟩⟩⟩, _⟩ := hs n (by omega) _ _ hn hz
  refine ⟨ddOf x, ?_⟩
  have h2 : cs.toList = _ := hcs
  have h3 : cs = #[.int .i64 x.1, .int .i64 x.2.1, .int .i64 x.2.2.1, .int .i64 x.2.2.2.1, .bool x.2.2.2.2] := Array.toList_inj.1 h2
  rw [h3]; rfl
theorem handlesTraps_plain (l : List Dd) (x : Dd) (hl : l.length ≤ 9223372036854775807) (hx : ∀ x ∈ l, True) : ∃ k : Nat, some true = some true := ⟨0, rfl⟩
end Go.Proofs.Ytdjkjdlbckcplaa.Hd
