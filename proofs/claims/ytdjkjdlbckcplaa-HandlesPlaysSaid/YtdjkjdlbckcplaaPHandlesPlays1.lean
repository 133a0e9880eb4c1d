/- Several texts, laid into one for a claim: PAx0, MapI, H1, H2, H3, H4, H5, H6, H7, H8, H9, HA, HB, HC, HD. -/
import Derived.Test.YtdjkjdlbckcplaaProg
import Derived.Below
import Derived.Deep.Draws
import Derived.Deep.AppendLies
import Derived.Maps.AppendAt
import Derived.OwnWalk
import Derived.Laws.BytesArg
import Derived.Laws.MakeOwn
import Derived.Laws.OwnMore
import Derived.Deep.OwnRows
import Derived.Tactics
import Derived.Lib.ConvBytes
import Derived.Laws.Slices
import Derived.WalkKit
import Derived.KernelRfl
import Derived.RowKit3
import Derived.Deep.LoopGhost
import Derived.Deep.QuietTactic
import Derived.BigQuiet
import Derived.WideLaws
import Derived.Deep.DeepCutAuto
import Derived.Deep.CutBlock
import Derived.Deep.RegionHeld3
import Derived.Laws.Rows
import Derived.Lib.AppendStr
import Derived.ArgAppend
import Derived.Laws.IdiomCopy
import Derived.OrdersHeld
import Derived.Laws.BitsLemmas
import Derived.RowKit
import Derived.ScopeJumps
import Derived.WalkMore
import Derived.Lib.TrailingZeros
import Derived.Test.YtdjkjdlbckcplaaPHandlesPlays0
import Derived.Maps.Own
import Derived.Laws.IdiomRangeMap
import Derived.RangeFuncRecord
import Derived.Laws.AppendOwn
import Derived.RegionTactic
import Derived.ChangeAlike
import Derived.BigRegion
import Derived.Shelf.Abstract
namespace Go.Proofs.Ytdjkjdlbckcplaa.PA
open Go.RowKit Go.Proofs.YtdjkjdlbckcplaaW.PrintWords Go.Proofs.YtdjkjdlbckcplaaW.PrintLast Go.Proofs.YtdjkjdlbckcplaaW.PrintMore
attribute [local go_sem] max2_int min2_int max_two min_two max_three min_three max_four min_four   -- for this text's walks alone
set_option linter.unusedVariables false
set_option linter.unusedSimpArgs false
theorem info31 : (Try.prog.info? 31).map (fun i => (i.zero, i.size, i.bytes)) = some (some (.agg #[(.int .i64 0), (.int .i64 0), (.int .i64 0), (.bool false), (.int .i64 0), (.int .i64 0)]), 6, 48) := by kernel_rfl
structure S39 where
 f0 : Int
 f1 : Int
 f2 : Int
 f3 : Int
 f4 : Bool
structure S31 where
 f0 : Int
 f1 : Int
 f2 : Int
 f3 : Bool
 f4 : Int
 f5 : Int
def z31 : S31 := ⟨(0 : Int), (0 : Int), (0 : Int), false, (0 : Int), (0 : Int)⟩
def k31 : Kd S31 := Kd.iso (Kd.pair (Kd.int .i64) (Kd.pair (Kd.int .i64) (Kd.pair (Kd.int .i64) (Kd.pair Kd.bool (Kd.pair (Kd.int .i64) (Kd.int .i64)))))) (fun x : S31 => (x.f0, x.f1, x.f2, x.f3, x.f4, x.f5))
theorem k31_open {w : World} {x : S31} {cs : List Value} (h : k31.K w x cs) : cs = [.int .i64 x.f0, .int .i64 x.f1, .int .i64 x.f2, .bool x.f3, .int .i64 x.f4, .int .i64 x.f5] := by
 obtain ⟨_, _, rfl, rfl, ⟨_, _, rfl, rfl, ⟨_, _, rfl, rfl, ⟨_, _, rfl, rfl, ⟨_, _, rfl, rfl, rfl⟩⟩⟩⟩⟩ := h; exact rfl
theorem k31_mk (w : World) (x : S31)  : k31.K w x [.int .i64 x.f0, .int .i64 x.f1, .int .i64 x.f2, .bool x.f3, .int .i64 x.f4, .int .i64 x.f5] := ⟨[.int .i64 x.f0], [.int .i64 x.f1, .int .i64 x.f2, .bool x.f3, .int .i64 x.f4, .int .i64 x.f5], rfl, rfl, ⟨[.int .i64 x.f1], [.int .i64 x.f2, .bool x.f3, .int .i64 x.f4, .int .i64 x.f5], rfl, rfl, ⟨[.int .i64 x.f2], [.bool x.f3, .int .i64 x.f4, .int .i64 x.f5], rfl, rfl, ⟨[.bool x.f3], [.int .i64 x.f4, .int .i64 x.f5], rfl, rfl, ⟨[.int .i64 x.f4], [.int .i64 x.f5], rfl, rfl, rfl⟩⟩⟩⟩⟩
def rd_T31 (xs : List S31) (i : Int) : S31 := xs.getD i.toNat z31
theorem at_T31 {w : World} {A : Option Addr} {n : Nat} {xs : List S31} (h : Kd.C k31 w A n xs) (i : Int) (h0 : 0 ≤ i) (h1 : i < n) : ∃ ad , A = some ad ∧ w.cell? (ad.add (i.toNat * 6)) = some (.int .i64 (rd_T31 xs i).f0) ∧ w.cell? ⟨(ad.add (i.toNat * 6)).block, (ad.add (i.toNat * 6)).off + 1, none⟩ = some (.int .i64 (rd_T31 xs i).f1) ∧ w.cell? ⟨(ad.add (i.toNat * 6)).block, (ad.add (i.toNat * 6)).off + 2, none⟩ = some (.int .i64 (rd_T31 xs i).f2) ∧ w.cell? ⟨(ad.add (i.toNat * 6)).block, (ad.add (i.toNat * 6)).off + 3, none⟩ = some (.bool (rd_T31 xs i).f3) ∧ w.cell? ⟨(ad.add (i.toNat * 6)).block, (ad.add (i.toNat * 6)).off + 4, none⟩ = some (.int .i64 (rd_T31 xs i).f4) ∧ w.cell? ⟨(ad.add (i.toNat * 6)).block, (ad.add (i.toNat * 6)).off + 5, none⟩ = some (.int .i64 (rd_T31 xs i).f5) := by
 obtain ⟨ad, c, e, _, hK, hc0⟩ := Kd.C_get h z31 i h0 h1; have hc : ∀ j u, c[j]? = some u → w.cell? (ad.add (i.toNat * 6 + j)) = some u := hc0; obtain rfl := k31_open hK; exact ⟨ad, e, hc 0 _ rfl, by rw [← add_field _ _ 1 (by omega)]; exact hc 1 _ rfl, by rw [← add_field _ _ 2 (by omega)]; exact hc 2 _ rfl, by rw [← add_field _ _ 3 (by omega)]; exact hc 3 _ rfl, by rw [← add_field _ _ 4 (by omega)]; exact hc 4 _ rfl, by rw [← add_field _ _ 5 (by omega)]; exact hc 5 _ rfl⟩
structure S83 where
 f0 : Int
 f1 : S31
structure S110 where
 f0 : Int
 f1 : Int
 f2 : Int
end Go.Proofs.Ytdjkjdlbckcplaa.PA
namespace Go.Proofs.Ytdjkjdlbckcplaa.MapI
open Go
set_option linter.unusedVariables false
set_option linter.unusedSimpArgs false
/-- An entry. -/
def ent (x : Int × Value × Nat) : MapEntry := { key := .int .i64 x.1, val := x.2.1, born := x.2.2 }
/-- A map's block. -/
def mobj (xs : List (Int × Value × Nat)) (c : Nat) : Obj := .map (xs.map ent).toArray c
/-- Where a key is, and what it leads to. -/
def lookI (h : Int) : List (Int × Value × Nat) → Nat → Option (Nat × Value)
  | [], _ => none
  | x :: xs, i => if h = x.1 then some (i, x.2.1) else lookI h xs (i + 1)
theorem find_ent (h : Int) : ∀ (xs : List (Int × Value × Nat)) (i : Nat), Instr.findNow (.int .i64) (.int .i64 h) (xs.map ent) i = some (lookI h xs i)
  | [], i => rfl
  | x :: xs, i => by
    have hs : Instr.sameNow (.int .i64) (.int .i64 h) (ent x).key = some (h == x.1) := rfl
    rw [List.map_cons, Instr.findNow, hs, lookI]
    by_cases e : h = x.1
    · rw [if_pos e, show (h == x.1) = true by simpa using e]; rfl
    · rw [if_neg e, show (h == x.1) = false by simpa using e]
      exact find_ent h xs (i + 1)
variable {P : Program} {T kt et : TypeId}
theorem mobj_get {w : World} {b : Nat} {xs : List (Int × Value × Nat)} {c : Nat} (hb : w.heap[b]? = some (mobj xs c)) : w.heap[b]? = some (.map (xs.map ent).toArray c) := hb
theorem check_i (hk : P.underlying kt = some (.int .i64)) (w : World) (e : Bool) (h : Int) : (Instr.checkKey e 10000 kt (.int .i64 h)).run P w = .ok () w := MapKept.run_checkKey (k := .int .i64 h) hk (by simp [MapKept.IsKey]) e 9999
theorem run_lookup (ht : P.underlying T = some (.map kt et)) (hk : P.underlying kt = some (.int .i64)) {w : World} {b : Nat} {xs : List (Int × Value × Nat)} {c : Nat} (hb : w.heap[b]? = some (mobj xs c)) {z : Value} (hz : (zeroValue et).run P w = .ok z w) (h : Int) :
    (Instr.lookup T (.map (some b)) (.int .i64 h) false).run P w = .ok (match lookI h xs 0 with | some (_, v) => v | none => z) w := by
  have hf := MapKept.run_findKey (P := P) (w := w) hk (find_ent h xs 0)
  cases hl : lookI h xs 0 with
  | none =>
    rw [hl] at hf
    simp [Instr.lookup, run_underlying ht, MapKept.run_getObj_map (mobj_get hb), check_i hk, hf, hz, Result.andThen]
  | some p =>
    obtain ⟨i, v⟩ := p
    rw [hl] at hf
    simp [Instr.lookup, run_underlying ht, MapKept.run_getObj_map (mobj_get hb), check_i hk, hf, Result.andThen]
theorem run_lookup2 (ht : P.underlying T = some (.map kt et)) (hk : P.underlying kt = some (.int .i64)) {w : World} {b : Nat} {xs : List (Int × Value × Nat)} {c : Nat} (hb : w.heap[b]? = some (mobj xs c)) {z : Value} (hz : (zeroValue et).run P w = .ok z w) (h : Int) :
    (Instr.lookup T (.map (some b)) (.int .i64 h) true).run P w = .ok (match lookI h xs 0 with | some (_, v) => .tuple #[v, .bool true] | none => .tuple #[z, .bool false]) w := by
  have hf := MapKept.run_findKey (P := P) (w := w) hk (find_ent h xs 0)
  cases hl : lookI h xs 0 with
  | none =>
    rw [hl] at hf
    simp [Instr.lookup, run_underlying ht, MapKept.run_getObj_map (mobj_get hb), check_i hk, hf, hz, Result.andThen]
  | some p =>
    obtain ⟨i, v⟩ := p
    rw [hl] at hf
    simp [Instr.lookup, run_underlying ht, MapKept.run_getObj_map (mobj_get hb), check_i hk, hf, Result.andThen]
theorem run_update_new (ht : P.underlying T = some (.map kt et)) (hk : P.underlying kt = some (.int .i64)) {w : World} {b : Nat} {xs : List (Int × Value × Nat)} {c : Nat} (hb : w.heap[b]? = some (mobj xs c)) (h : Int) (v : Value) (hl : lookI h xs 0 = none) :
    (Instr.mapUpdate T (.map (some b)) (.int .i64 h) v).run P w = .ok () (w.putObj b (mobj (xs ++ [(h, v, c)]) (c + 1))) := by
  have hf := MapKept.run_findKey (P := P) (w := w) hk (find_ent h xs 0)
  rw [hl] at hf
  have e : mobj (xs ++ [(h, v, c)]) (c + 1) = .map ((xs.map ent).toArray.push { key := .int .i64 h, val := v, born := c }) (c + 1) := by
    simp [mobj, ent]
  rw [e]
  simp [Instr.mapUpdate, run_underlying ht, MapKept.run_getObj_map (mobj_get hb), check_i hk, hf, MapKept.run_setObj_map _ (mobj_get hb), Result.andThen, World.putObj]
theorem run_delete_i (ht : P.underlying T = some (.map kt et)) (hk : P.underlying kt = some (.int .i64)) {w : World} {b : Nat} {xs : List (Int × Value × Nat)} {c : Nat} (hb : w.heap[b]? = some (mobj xs c)) (h : Int) (i : Nat) (v : Value) (hl : lookI h xs 0 = some (i, v)) (hi : i < xs.length) (at_ : Array TypeId) (ty : TypeId) (hat : at_[0]? = some T) :
    (Builtin.delete_ at_ ty #[.map (some b), .int .i64 h]).run P w = .ok (.tuple #[]) (w.putObj b (mobj (xs.eraseIdx i) c)) := by
  have hf := MapKept.run_findKey (P := P) (w := w) hk (find_ent h xs 0)
  rw [hl] at hf
  have e : mobj (xs.eraseIdx i) c = .map ((xs.map ent).toArray.eraseIdxIfInBounds i) c := by
    have : i < (xs.map ent).toArray.size := by simpa using hi
    rw [Array.eraseIdxIfInBounds, dif_pos this]
    have hm : ∀ (l : List (Int × Value × Nat)) (j : Nat), (l.eraseIdx j).map ent = (l.map ent).eraseIdx j := by
      intro l
      induction l with
      | nil => intro j; rfl
      | cons a l ih => intro j; cases j with
        | zero => rfl
        | succ j => simp [List.eraseIdx_cons_succ, ih j]
    simp [mobj, hm]
  rw [e]
  simp [Builtin.delete_, hat, run_underlying ht, MapKept.run_getObj_map (mobj_get hb), check_i hk, hf, MapKept.run_setObj_map _ (mobj_get hb), Result.andThen, World.putObj]
theorem run_len_i (ht : P.underlying T = some (.map kt et)) {w : World} {b : Nat} {xs : List (Int × Value × Nat)} {c : Nat} (hb : w.heap[b]? = some (mobj xs c)) (at_ : Array TypeId) (ty : TypeId) (hat : at_[0]? = some T) :
    (Builtin.len_ at_ ty #[.map (some b)]).run P w = .ok (.int .i64 (xs.length : Int)) w := by
  simp [Builtin.len_, hat, run_underlying ht, MapKept.run_getObj_map (mobj_get hb), Result.andThen, goInt]
end Go.Proofs.Ytdjkjdlbckcplaa.MapI
namespace Go.Proofs.Ytdjkjdlbckcplaa.Hd
open Go.RowKit Go.Proofs.YtdjkjdlbckcplaaW.PrintWords Go.Proofs.YtdjkjdlbckcplaaW.PrintLast Go.Proofs.YtdjkjdlbckcplaaW.PrintMore
set_option linter.unusedVariables false
set_option linter.unusedSimpArgs false
/-- The tables' own block. -/
def TS (w : World) (g : Nat) (Am : Option Addr) (nm cm : Nat) (At : Option Addr) (nt ct : Nat) (Ac : Option Addr) (nc cc : Nat) : Prop := w.heap[g]? = some (.cells #[.slice Am nm cm, .slice At nt ct, .slice Ac nc cc] 67 (0, 0))
def isB (i r : Int) (nt nm : Nat) : Bool := decide (0 ≤ i) && decide (i < (nt : Int)) && decide (0 ≤ r) && decide (r < (nm : Int))
set_option maxHeartbeats 4000000 in
set_option maxRecDepth 100000 in
theorem is_calls {w : World} {g : Nat} {Am At Ac : Option Addr} {nm cm nt ct nc cc : Nat} (i r : Int) (hT : TS w g Am nm cm At nt ct Ac nc cc) :
    Calls Try.prog 50 #[.pointer (some ⟨g, 0, none⟩), .int .i64 i, .int .i64 r] w fun e w' => e = .returned (.bool (isB i r nt nm)) ∧ w' = w := by
  have c0 : w.cell? ⟨g, 0, none⟩ = some (.slice Am nm cm) := (blk_cell hT 0).trans rfl
  have c1 : w.cell? ⟨g, 1, none⟩ = some (.slice At nt ct) := (blk_cell hT 1).trans rfl
  unfold isB
  clear hT
  by_cases h1 : 0 ≤ i
  · have b1 : decide (0 ≤ i) = true := decide_eq_true h1
    clear h1
    by_cases h2 : i < (nt : Int)
    · have b2 : decide (i < (nt : Int)) = true := decide_eq_true h2
      clear h2
      by_cases h3 : 0 ≤ r
      · have b3 : decide (0 ≤ r) = true := decide_eq_true h3
        clear h3
        rw [b1, b2, b3]
        go_enter Try.func50, Try.ntmps50
        go_wp2
        go_ret
        exact ⟨by simp, rfl⟩
      · have b3 : decide (0 ≤ r) = false := decide_eq_false h3
        clear h3
        rw [b1, b2, b3]
        go_enter Try.func50, Try.ntmps50
        go_wp2
        go_ret
        exact ⟨by simp, rfl⟩
    · have b2 : decide (i < (nt : Int)) = false := decide_eq_false h2
      clear h2
      rw [b1, b2]
      go_enter Try.func50, Try.ntmps50
      go_wp2
      go_ret
      exact ⟨by simp, rfl⟩
  · have b1 : decide (0 ≤ i) = false := decide_eq_false h1
    clear h1
    rw [b1]
    go_enter Try.func50, Try.ntmps50
    go_wp2
    go_ret
    exact ⟨by simp, rfl⟩
def wholeB (n : Int) : Bool := decide (0 ≤ n) && decide (n < 4294967296)
set_option maxHeartbeats 4000000 in
set_option maxRecDepth 100000 in
theorem whole_calls (n : Int) (w : World) : Calls Try.prog 51 #[.int .i64 n] w fun e w' => e = .returned (.bool (wholeB n)) ∧ w' = w := by
  unfold wholeB
  by_cases h1 : 0 ≤ n
  · have b1 : decide (0 ≤ n) = true := decide_eq_true h1
    clear h1
    rw [b1]
    go_enter Try.func51, Try.ntmps51
    go_wp2
    go_ret
    exact ⟨by simp, rfl⟩
  · have b1 : decide (0 ≤ n) = false := decide_eq_false h1
    clear h1
    rw [b1]
    go_enter Try.func51, Try.ntmps51
    go_wp2
    go_ret
    exact ⟨by simp, rfl⟩
open Go.RowKit Go.Proofs.YtdjkjdlbckcplaaW.PrintWords Go.Proofs.YtdjkjdlbckcplaaW.PrintLast Go.Proofs.YtdjkjdlbckcplaaW.PrintMore Go.Proofs.Ytdjkjdlbckcplaa.MapI
/-- What a handle holds. -/
structure E where
  r : Int
  rep : Int
  own : Bool
  lends : Int
  call : Int
/-- A handle in a table: its index, its block, its stamp, what it holds. -/
structure Row where
  h : Int
  eb : Nat
  born : Nat
  e : E
def Row.enc (x : Row) : Int × Value × Nat := (x.h, .pointer (some ⟨x.eb, 0, none⟩), x.born)
def E.cells (e : E) : Array Value := #[.int .i64 e.r, .int .i64 e.rep, .bool e.own, .int .i64 e.lends, .int .i64 e.call]
/-- A call that is under way: whose, how many it has borrowed, where what is lent for it lies, and what. -/
structure CL where
  i : Int
  bor : Int
  lv : Value
  lent : List (Int × Int)
def CL.cells (c : CL) : List Value := [.int .i64 c.i, .int .i64 c.bor, c.lv]
/-- The tables: makers, tables, calls, each with where it lies. -/
structure Tb where
  mv : Value
  mkr : List Int
  tv : Value
  mbs : List Nat
  cks : List Nat
  rows : List (List Row)
  cv : Value
  calls : List CL
/-- The world's blocks, all in D, hold the tables S. -/
structure HT (w : World) (g : Nat) (S : Tb) (D : Nat → Prop) : Prop where
  top : w.heap[g]? = some (.cells #[S.mv, S.tv, S.cv] 67 (0, 0))
  topD : D g
  mkr : w.ownsRow 0 3 1 S.mv S.mkr.length (S.mkr.map (Value.int .i64))
  mkD : ∀ k, S.mv.ownBlock = some k → D k
  tab : w.ownsRow 0 74 1 S.tv S.mbs.length (S.mbs.map fun b => .map (some b))
  tabD : ∀ k, S.tv.ownBlock = some k → D k
  len1 : S.rows.length = S.mbs.length
  len2 : S.cks.length = S.mbs.length
  maps : ∀ (k b : Nat) (xs : List Row) (c : Nat), S.mbs[k]? = some b → S.rows[k]? = some xs → S.cks[k]? = some c → w.heap[b]? = some (mobj (xs.map Row.enc) c)
  mapsD : ∀ b ∈ S.mbs, D b
  mapsN : S.mbs.Nodup
  ents : ∀ xs ∈ S.rows, ∀ x ∈ xs, w.heap[x.eb]? = some (.cells x.e.cells 69 (0, 0))
  entsD : ∀ xs ∈ S.rows, ∀ x ∈ xs, D x.eb
  entsN : (S.rows.flatten.map Row.eb).Nodup
  keysN : ∀ xs ∈ S.rows, (xs.map Row.h).Nodup
  keysR : ∀ xs ∈ S.rows, ∀ x ∈ xs, 1 ≤ x.h ∧ x.h ≤ 256
  born : ∀ (k : Nat) (xs : List Row) (c : Nat), S.rows[k]? = some xs → S.cks[k]? = some c → (xs.map Row.born).Nodup ∧ ∀ x ∈ xs, x.born < c
  cal : w.ownsRow 0 94 3 S.cv S.calls.length (S.calls.flatMap CL.cells)
  calD : ∀ k, S.cv.ownBlock = some k → D k
  lent : ∀ c ∈ S.calls, w.ownsRow 0 96 2 c.lv c.lent.length (c.lent.flatMap fun p => [Value.int .i64 p.1, Value.int .i64 p.2])
  lentD : ∀ c ∈ S.calls, ∀ k, c.lv.ownBlock = some k → D k
  lentN : ∀ (p q : Nat) (c d : CL), S.calls[p]? = some c → S.calls[q]? = some d → p ≠ q → ∀ b, c.lv.ownBlock = some b → d.lv.ownBlock ≠ some b
theorem own_same {w w' : World} {base e size n : Nat} {v : Value} {xs : List Value} (h : w.ownsRow base e size v n xs) (hk : ∀ k, v.ownBlock = some k → w'.heap[k]? = w.heap[k]?) : w'.ownsRow base e size v n xs := by
  obtain ⟨h1, h2⟩ := h
  refine ⟨h1, ?_⟩
  rcases h2 with h2 | ⟨g, cap, cur, rfl, hb, hh, r⟩
  · exact .inl h2
  · exact .inr ⟨g, cap, cur, rfl, hb, (hk g rfl).trans hh, r⟩
theorem own_lt {w : World} {base e size n : Nat} {v : Value} {xs : List Value} (h : w.ownsRow base e size v n xs) {k : Nat} (hk : v.ownBlock = some k) : k < w.heap.size ∧ ∃ cur, w.heap[k]? = some (.cells cur e (0, 0)) := by
  rcases h.2 with ⟨rfl, _⟩ | ⟨g, cap, cur, rfl, hb, hh, r⟩
  · cases hk
  · injection hk with hk
    subst hk
    exact ⟨(Array.getElem?_eq_some_iff.1 hh).1, cur, hh⟩
/-- What is not in D may turn. -/
theorem HT.keep {w w' : World} {g : Nat} {S : Tb} {D : Nat → Prop} (h : HT w g S D) (hk : ∀ b, b < w.heap.size → D b → w'.heap[b]? = w.heap[b]?) : HT w' g S D :=
  { h with
    top := (hk g (Array.getElem?_eq_some_iff.1 h.top).1 h.topD).trans h.top
    mkr := own_same h.mkr fun k e => hk k (own_lt h.mkr e).1 (h.mkD k e)
    tab := own_same h.tab fun k e => hk k (own_lt h.tab e).1 (h.tabD k e)
    maps := fun k b xs c h1 h2 h3 => (hk b (Array.getElem?_eq_some_iff.1 (h.maps k b xs c h1 h2 h3)).1 (h.mapsD b (List.mem_of_getElem? h1))).trans (h.maps k b xs c h1 h2 h3)
    ents := fun xs h1 x h2 => (hk _ (Array.getElem?_eq_some_iff.1 (h.ents xs h1 x h2)).1 (h.entsD xs h1 x h2)).trans (h.ents xs h1 x h2)
    cal := own_same h.cal fun k e => hk k (own_lt h.cal e).1 (h.calD k e)
    lent := fun c hc => own_same (h.lent c hc) fun k e => hk k (own_lt (h.lent c hc) e).1 (h.lentD c hc k e) }
theorem HT.alloc {w : World} {g : Nat} {S : Tb} {D : Nat → Prop} (h : HT w g S D) (o : Obj) : HT (w.alloc o) g S D := h.keep fun b hb _ => heap_alloc_old w o hb
theorem HT.imp {w : World} {g : Nat} {S : Tb} {D D' : Nat → Prop} (h : HT w g S D) (hD : ∀ b, D b → D' b) : HT w g S D' :=
  { h with topD := hD _ h.topD, mkD := fun k e => hD _ (h.mkD k e), tabD := fun k e => hD _ (h.tabD k e), mapsD := fun b hb => hD _ (h.mapsD b hb), entsD := fun xs h1 x h2 => hD _ (h.entsD xs h1 x h2), calD := fun k e => hD _ (h.calD k e), lentD := fun c hc k e => hD _ (h.lentD c hc k e) }
theorem HT.drewN {w : World} {g : Nat} {S : Tb} {D : Nat → Prop} (h : HT w g S D) (n : Nat) : HT (w.drewN n) g S D := h.keep fun b _ _ => rfl
/-- A slice that holds something has a block, and these cells. -/
theorem own_cells {w : World} {base e size n : Nat} {v : Value} {xs : List Value} (h : w.ownsRow base e size v n xs) (hn : 0 < n) : ∃ b cap, v = .slice (some ⟨b, 0, none⟩) n cap ∧ n ≤ cap ∧ v.ownBlock = some b ∧ ∀ j u, xs[j]? = some u → w.cell? ⟨b, j, none⟩ = some u := by
  obtain ⟨h1, h2⟩ := h
  rcases h2 with ⟨_, h2⟩ | ⟨b, cap, cur, rfl, hb, hh, hc, hm, hs, ht⟩
  · omega
  · refine ⟨b, cap, rfl, hc, rfl, fun j u hu => ?_⟩
    rw [cell_of_row w b j cur e (0, 0) hh]
    rw [← ht, List.getElem?_take] at hu
    split at hu
    · rw [← Array.getElem?_toList]; exact hu
    · cases hu
theorem own_slice {w : World} {base e size n : Nat} {v : Value} {xs : List Value} (h : w.ownsRow base e size v n xs) : ∃ A cap, v = .slice A n cap := by
  rcases h.2 with ⟨rfl, rfl⟩ | ⟨b, cap, cur, rfl, _⟩
  · exact ⟨_, _, rfl⟩
  · exact ⟨_, _, rfl⟩
/-- The handle of an index, in a table. -/
def findR (h : Int) (xs : List Row) : Option Row := xs.find? fun x => x.h == h
theorem look_find (h : Int) : ∀ (xs : List Row) (i : Nat), lookI h (xs.map Row.enc) i = match findR h xs with | some x => (xs.findIdx? fun y => y.h == h).map fun j => (i + j, .pointer (some ⟨x.eb, 0, none⟩)) | none => none
  | [], i => rfl
  | x :: xs, i => by
    rw [List.map_cons, lookI]
    by_cases e : h = x.h
    · rw [if_pos (show h = x.enc.1 from e)]
      simp [findR, List.find?_cons, List.findIdx?_cons, e, Row.enc]
    · have e' : (x.h == h) = false := by simpa using fun z : x.h = h => e z.symm
      rw [if_neg (show ¬ h = x.enc.1 from e), look_find h xs (i + 1)]
      simp only [findR, List.find?_cons, e', List.findIdx?_cons]
      cases List.find? (fun y => y.h == h) xs with
      | none => rfl
      | some y =>
        simp only [Bool.false_eq_true, if_false, Option.map_map]
        cases List.findIdx? (fun y => y.h == h) xs with
        | none => rfl
        | some j => simp; omega
theorem findR_mem {h : Int} {xs : List Row} {x : Row} (e : findR h xs = some x) : x ∈ xs ∧ x.h = h := by
  refine ⟨List.mem_of_find?_eq_some e, ?_⟩
  have := List.find?_some e
  simpa using this
theorem findR_idx {h : Int} {xs : List Row} {x : Row} (e : findR h xs = some x) : ∃ j, (xs.findIdx? fun y => y.h == h) = some j ∧ xs[j]? = some x := by
  induction xs with
  | nil => cases e
  | cons y xs ih =>
    unfold findR at e ih
    rw [List.find?_cons] at e
    rw [List.findIdx?_cons]
    cases hy : (y.h == h) with
    | true =>
      rw [hy] at e
      injection e with e
      exact ⟨0, by simp, by simp [e]⟩
    | false =>
      rw [hy] at e
      obtain ⟨j, h1, h2⟩ := ih e
      exact ⟨j + 1, by simp [h1], by simpa using h2⟩
def Tb.get (S : Tb) (i r h : Int) : Option Row := if isB i r S.mbs.length S.mkr.length = true then (findR h (S.rows.getD i.toNat [])).bind fun x => if x.e.r = r then some x else none else none
def ptr : Option Row → Value
  | some x => .pointer (some ⟨x.eb, 0, none⟩)
  | none => .pointer none
theorem zero62 (w : World) : (zeroValue 62).run Try.prog w = .ok (.pointer none) w := by kernel_rfl
theorem isB_true {i r : Int} {nt nm : Nat} (h : isB i r nt nm = true) : 0 ≤ i ∧ i < (nt : Int) ∧ 0 ≤ r ∧ r < (nm : Int) := by
  unfold isB at h
  simp only [Bool.and_eq_true, decide_eq_true_eq] at h
  exact ⟨h.1.1.1, h.1.1.2, h.1.2, h.2⟩
theorem HT.ts {w : World} {g : Nat} {S : Tb} {D : Nat → Prop} (h : HT w g S D) : ∃ Am cm At ct Ac cc, S.mv = .slice Am S.mkr.length cm ∧ S.tv = .slice At S.mbs.length ct ∧ S.cv = .slice Ac S.calls.length cc ∧ TS w g Am S.mkr.length cm At S.mbs.length ct Ac S.calls.length cc := by
  obtain ⟨Am, cm, e1⟩ := own_slice h.mkr
  obtain ⟨At, ct, e2⟩ := own_slice h.tab
  obtain ⟨Ac, cc, e3⟩ := own_slice h.cal
  refine ⟨Am, cm, At, ct, Ac, cc, e1, e2, e3, ?_⟩
  have := h.top
  rw [e1, e2, e3] at this
  exact this
/-- A table, and its map's block. -/
theorem HT.table {w : World} {g : Nat} {S : Tb} {D : Nat → Prop} (h : HT w g S D) {i : Int} (h0 : 0 ≤ i) (h1 : i < (S.mbs.length : Int)) : ∃ b cap mb xs c, S.tv = .slice (some ⟨b, 0, none⟩) S.mbs.length cap ∧ w.cell? ⟨b, i.toNat, none⟩ = some (.map (some mb)) ∧ S.mbs[i.toNat]? = some mb ∧ S.rows[i.toNat]? = some xs ∧ S.cks[i.toNat]? = some c ∧ S.rows.getD i.toNat [] = xs ∧ w.heap[mb]? = some (mobj (xs.map Row.enc) c) := by
  have hi : i.toNat < S.mbs.length := by omega
  obtain ⟨b, cap, e1, _, _, e3⟩ := own_cells h.tab (by omega)
  have hm : S.mbs[i.toNat]? = some S.mbs[i.toNat] := List.getElem?_eq_getElem hi
  have hr : S.rows[i.toNat]? = some (S.rows[i.toNat]'(by rw [h.len1]; exact hi)) := List.getElem?_eq_getElem _
  have hc : S.cks[i.toNat]? = some (S.cks[i.toNat]'(by rw [h.len2]; exact hi)) := List.getElem?_eq_getElem _
  refine ⟨b, cap, _, _, _, e1, e3 i.toNat _ (by rw [List.getElem?_map, hm]; rfl), hm, hr, hc, ?_, h.maps _ _ _ _ hm hr hc⟩
  simp [List.getD, hr]
set_option maxHeartbeats 8000000 in
set_option maxRecDepth 100000 in
theorem get_calls {w : World} {g : Nat} {S : Tb} {D : Nat → Prop} (hT : HT w g S D) (i r h : Int) :
    Calls Try.prog 33 #[.pointer (some ⟨g, 0, none⟩), .int .i64 i, .int .i64 r, .int .i64 h] w fun e w' => e = .returned (ptr (S.get i r h)) ∧ Drawn0 w w' := by
  obtain ⟨Am, cm, At, ct, Ac, cc, e1, e2, e3, hS⟩ := hT.ts
  have his := fun W (hh : TS W g Am S.mkr.length cm At S.mbs.length ct Ac S.calls.length cc) => is_calls i r hh
  unfold Tb.get
  cases hb : isB i r S.mbs.length S.mkr.length with
  | false =>
    rw [if_neg (by decide)]
    rw [hb] at his
    go_enter Try.func33, Try.ntmps33
    go_wp2_with (first | (go_at_call 50; refine (his _ hS).mono ?_; rintro e w' ⟨rfl, rfl⟩))
    go_ret
    exact ⟨rfl, Drawn0.refl _⟩
  | true =>
    rw [if_pos rfl]
    rw [hb] at his
    obtain ⟨i0, i1, r0, r1⟩ := isB_true hb
    obtain ⟨b, cap, mb, xs, c, f1, f2, f3, f4, f5, f6, f7⟩ := hT.table i0 i1
    rw [f6]
    rw [f1] at e2
    injection e2 with e2 _ e4
    subst e2; subst e4
    have hl := fun W (hh : W.heap[mb]? = some (mobj (xs.map Row.enc) c)) => run_lookup2 (P := Try.prog) (T := 74) (kt := 3) (et := 62) Try.underlying74 Try.underlying3 hh (zero62 W) h
    have p0 : (0 ≤ i) = True := eq_true i0
    have p1 : (i < (S.mbs.length : Int)) = True := eq_true i1
    have c1 : w.cell? ⟨g, 1, none⟩ = some (.slice (some ⟨b, 0, none⟩) S.mbs.length cap) := (blk_cell hS 1).trans rfl
    clear i0 i1 r0 r1
    cases hf : findR h xs with
    | none =>
      have hL := hl w f7
      rw [look_find, hf] at hL
      replace hL : (Instr.lookup 74 (.map (some mb)) (.int .i64 h) true).run Try.prog w = .ok (.tuple #[.pointer none, .bool false]) w := hL
      clear hl
      go_enter Try.func33, Try.ntmps33
      go_wp2_with (first | (go_at_call 50; refine (his _ hS).mono ?_; rintro e w' ⟨rfl, rfl⟩))
      go_ret
      exact ⟨rfl, Drawn0.refl _⟩
    | some x =>
      obtain ⟨j, g1, g2⟩ := findR_idx hf
      obtain ⟨g3, g4⟩ := findR_mem hf
      have hL := hl w f7
      rw [look_find, hf] at hL
      simp only [g1, Option.map_some] at hL
      clear hl
      have hE := hT.ents xs (List.mem_of_getElem? f4) x g3
      have k0 : w.cell? ⟨x.eb, 0, none⟩ = some (.int .i64 x.e.r) := (blk_cell hE 0).trans rfl
      clear hE
      rw [Option.bind_some]
      by_cases hr : x.e.r = r
      · rw [if_pos hr]
        have hr' : (x.e.r == r) = true := by simpa using hr
        have hr'' : (x.e.r != r) = false := by simpa using hr
        clear hr
        go_enter Try.func33, Try.ntmps33
        go_wp2_with (first | (go_at_call 50; refine (his _ hS).mono ?_; rintro e w' ⟨rfl, rfl⟩))
        go_ret
        exact ⟨rfl, Drawn0.refl _⟩
      · rw [if_neg hr]
        have hr' : (x.e.r == r) = false := by simpa using hr
        have hr'' : (x.e.r != r) = true := by simpa using hr
        clear hr
        go_enter Try.func33, Try.ntmps33
        go_wp2_with (first | (go_at_call 50; refine (his _ hS).mono ?_; rintro e w' ⟨rfl, rfl⟩))
        go_ret
        exact ⟨rfl, Drawn0.refl _⟩
/-- The first index from h on that no handle has. -/
def freshF : Nat → Int → List Row → Option Int
  | 0, _, _ => none
  | k + 1, h, xs => match findR h xs with
    | none => some h
    | some _ => freshF k (wrap64 (h + 1)) xs
set_option maxHeartbeats 8000000 in
set_option maxRecDepth 100000 in
theorem put_full {w : World} {g : Nat} {S : Tb} {D : Nat → Prop} (hT : HT w g S D) (i : Int) (cs : Array Value) (h0 : 0 ≤ i) (h1 : i < (S.mbs.length : Int)) (hs : 256 ≤ (S.rows.getD i.toNat []).length) :
    Calls Try.prog 52 #[.pointer (some ⟨g, 0, none⟩), .int .i64 i, .agg cs] w fun e w' => e = .returned (.tuple #[.int .i64 0, .int .i64 5]) ∧ Drawn0 (w.alloc (.cells cs 69)) w' := by
  have hT1 := hT.alloc (.cells cs 69)
  generalize hW : w.alloc (.cells cs 69) = w1 at hT1
  obtain ⟨Am, cm, At, ct, Ac, cc, e1, e2, e3, hS⟩ := hT1.ts
  obtain ⟨b, cap, mb, xs, c, f1, f2, f3, f4, f5, f6, f7⟩ := hT1.table h0 h1
  rw [f6] at hs
  rw [f1] at e2
  injection e2 with e2 _ e4
  subst e2; subst e4
  have p0 : (0 ≤ i) = True := eq_true h0
  have p1 : (i < (S.mbs.length : Int)) = True := eq_true h1
  have c1 : w1.cell? ⟨g, 1, none⟩ = some (.slice (some ⟨b, 0, none⟩) S.mbs.length cap) := (blk_cell hS 1).trans rfl
  have hl := run_len_i (P := Try.prog) (T := 74) (kt := 3) (et := 62) Try.underlying74 f7 #[74] 3 rfl
  rw [List.length_map] at hl
  have hd : decide ((256 : Int) ≤ (xs.length : Int)) = true := decide_eq_true (by omega)
  clear h0 h1 hs hT1 f7
  go_enter Try.func52, Try.ntmps52
  go_wp2
  go_ret2
  exact ⟨rfl, Drawn0.refl _⟩
/-- What a new handle makes of the tables. -/
def Tb.put (S : Tb) (i : Nat) (h : Int) (eb : Nat) (e : E) : Tb := { S with rows := S.rows.set i (S.rows.getD i [] ++ [⟨h, eb, S.cks.getD i 0, e⟩]), cks := S.cks.set i (S.cks.getD i 0 + 1) }
set_option maxHeartbeats 8000000 in
set_option maxRecDepth 100000 in
theorem put_walk {w : World} {g : Nat} {S : Tb} {D : Nat → Prop} (hT : HT w g S D) (i : Int) (cs : Array Value) (k : Nat) (hn : Int) (h0 : 0 ≤ i) (h1 : i < (S.mbs.length : Int)) (hs : (S.rows.getD i.toNat []).length < 256) (H : freshF k 1 (S.rows.getD i.toNat []) = some hn) (hnf : findR hn (S.rows.getD i.toNat []) = none) :
    Calls Try.prog 52 #[.pointer (some ⟨g, 0, none⟩), .int .i64 i, .agg cs] w fun e w' => e = .returned (.tuple #[.int .i64 hn, .int .i64 0]) ∧ ∃ mb xs c m, S.mbs[i.toNat]? = some mb ∧ S.rows[i.toNat]? = some xs ∧ S.cks[i.toNat]? = some c ∧ w' = ((w.alloc (.cells cs 69)).drewN m).putObj mb (mobj (xs.map Row.enc ++ [(hn, .pointer (some ⟨w.heap.size, 0, none⟩), c)]) (c + 1)) := by
  have hT1 := hT.alloc (.cells cs 69)
  generalize hW : w.alloc (.cells cs 69) = w1 at hT1 ⊢
  obtain ⟨Am, cm, At, ct, Ac, cc, e1, e2, e3, hS⟩ := hT1.ts
  obtain ⟨b, cap, mb, xs, c, f1, f2, f3, f4, f5, f6, f7⟩ := hT1.table h0 h1
  rw [f6] at hs H hnf
  rw [f1] at e2
  injection e2 with e2 _ e4
  subst e2; subst e4
  have p0 : (0 ≤ i) = True := eq_true h0
  have p1 : (i < (S.mbs.length : Int)) = True := eq_true h1
  have c1 : w1.cell? ⟨g, 1, none⟩ = some (.slice (some ⟨b, 0, none⟩) S.mbs.length cap) := (blk_cell hS 1).trans rfl
  have hl := run_len_i (P := Try.prog) (T := 74) (kt := 3) (et := 62) Try.underlying74 f7 #[74] 3 rfl
  rw [List.length_map] at hl
  have hd : decide ((256 : Int) ≤ (xs.length : Int)) = false := decide_eq_false (by omega)
  have hu : ∀ m, (Instr.mapUpdate 74 (.map (some mb)) (.int .i64 hn) (.pointer (some ⟨w.heap.size, 0, none⟩))).run Try.prog (w1.drewN m) = .ok () ((w1.drewN m).putObj mb (mobj (xs.map Row.enc ++ [(hn, .pointer (some ⟨w.heap.size, 0, none⟩), c)]) (c + 1))) := fun m => run_update_new (w := w1.drewN m) Try.underlying74 Try.underlying3 f7 hn _ (by rw [look_find, hnf])
  have hq : ∀ (m : Nat) (x : Int), (Instr.lookup 74 (.map (some mb)) (.int .i64 x) false).run Try.prog (w1.drewN m) = .ok (ptr (findR x xs)) (w1.drewN m) := fun m x => by
    have := run_lookup (P := Try.prog) (T := 74) (kt := 3) (et := 62) (w := w1.drewN m) Try.underlying74 Try.underlying3 f7 (zero62 _) x
    rw [this, look_find]
    cases hf : findR x xs with
    | none => rfl
    | some y =>
      obtain ⟨j, g1, g2⟩ := findR_idx hf
      simp only [g1, Option.map_some]; rfl
  clear h0 h1 hs hT1 f7
  have HQ := Aside0.mk hq
  have HU := Aside0.mk hu
  have HF := Aside0.mk H
  clear hq hu H
  go_enter Try.func52, Try.ntmps52
  go_wp2
  repeat (go_quiet (fail); try go_wp2)
  go_loopg [8] k (fun kq v8 w' => ∃ (x : Int), v8 = .int .i64 x ∧ Aside0 (freshF kq x xs = some hn) ∧ Aside0 (kq ≤ k) ∧ Drawn0 w1 w')
  case atStart => exact ⟨1, rfl, HF, ⟨Nat.le_refl _⟩, Drawn0.refl _⟩
  case round =>
    clear HF
    obtain ⟨x, rfl, HA, HK1, ⟨m1, rfl⟩⟩ := hrel
    cases gk with
    | zero => exact absurd HA.out (by simp [freshF])
    | succ k1 =>
      have H := HA.out
      clear HA
      rw [freshF] at H
      have hq := HQ.out m1 x
      cases hf : findR x xs with
      | none =>
        rw [hf] at H hq
        injection H with H
        subst H
        have hu := HU.out
        simp only [ptr] at hq
        go_wp2
        go_ret2
        exact ⟨rfl, mb, xs, c, _, f3, f4, f5, rfl⟩
      | some y =>
        rw [hf] at H hq
        have H' := Aside0.mk H
        clear H
        simp only [ptr] at hq
        go_wp2
        repeat (go_quiet (fail); try go_wp2)
        go_roundg k1
        case measure => have := HK1.out; omega
        case rel => exact ⟨wrap64 (x + 1), by first | rfl | (simp; done) | (simp [*]; done), H', ⟨by have := HK1.out; omega⟩, by repeat (first | exact Drawn0.refl _ | apply Drawn0.step)⟩
/-- What is old, and not in D, is as it was. -/
structure Io (w w' : World) : Prop where
  os : w'.os = w.os
  tape : w'.tape = w.tape
  output : w'.output = w.output
def Fr (w w' : World) (D : Nat → Prop) : Prop := w.heap.size ≤ w'.heap.size ∧ (∀ b, b < w.heap.size → ¬ D b → w'.heap[b]? = w.heap[b]?) ∧ Io w w'
theorem Fr.refl (w : World) (D : Nat → Prop) : Fr w w D := ⟨Nat.le_refl _, fun _ _ _ => rfl, ⟨rfl, rfl, rfl⟩⟩
theorem Fr.trans {w w1 w2 : World} {D D1 : Nat → Prop} (h : Fr w w1 D) (k : Fr w1 w2 D1) (hD : ∀ b, b < w.heap.size → D1 b → D b) : Fr w w2 D :=
  ⟨Nat.le_trans h.1 k.1, fun b hb hn => (k.2.1 b (Nat.lt_of_lt_of_le hb h.1) (fun z => hn (hD b hb z))).trans (h.2.1 b hb hn), ⟨k.2.2.os.trans h.2.2.os, k.2.2.tape.trans h.2.2.tape, k.2.2.output.trans h.2.2.output⟩⟩
theorem Fr.drawn {w w1 w2 : World} {D : Nat → Prop} (h : Fr w w1 D) (k : Drawn0 w1 w2) : Fr w w2 D := by
  obtain ⟨m, rfl⟩ := k
  exact ⟨h.1, h.2.1, ⟨h.2.2.os, h.2.2.tape, h.2.2.output⟩⟩
theorem Fr.from {w w1 w2 : World} {D : Nat → Prop} (h : Fr w1 w2 D) (k : Drawn0 w w1) : Fr w w2 D := by
  obtain ⟨m, rfl⟩ := k
  exact ⟨h.1, h.2.1, ⟨h.2.2.os, h.2.2.tape, h.2.2.output⟩⟩
/-- Old blocks of D, and new ones. -/
def Dn (D : Nat → Prop) (n : Nat) (b : Nat) : Prop := D b ∨ n ≤ b
theorem set_get {α : Type} (l : List α) (i k : Nat) (x y : α) (h : (l.set i x)[k]? = some y) : (k = i ∧ y = x ∧ i < l.length) ∨ (k ≠ i ∧ l[k]? = some y) := by
  rw [List.getElem?_set] at h
  split at h
  · rename_i e
    split at h
    · injection h with h; exact .inl ⟨e.symm, h.symm, by assumption⟩
    · cases h
  · rename_i e
    exact .inr ⟨fun z => e z.symm, h⟩
theorem putObj_same (w : World) (r : Nat) (o : Obj) (h : r < w.heap.size) : (w.putObj r o).heap[r]? = some o := by
  show (w.heap.setIfInBounds r o)[r]? = some o
  simp [h]
theorem putObj_other (w : World) (r b : Nat) (o : Obj) (h : b ≠ r) : (w.putObj r o).heap[b]? = w.heap[b]? := by
  show (w.heap.setIfInBounds r o)[b]? = _
  simp [Ne.symm h]
theorem flatten_set {α : Type} (l : List (List α)) (i : Nat) (xs : List α) (y : α) (h : l[i]? = some xs) : (l.set i (xs ++ [y])).flatten.Perm (l.flatten ++ [y]) := by
  induction l generalizing i with
  | nil => cases h
  | cons a l ih =>
    cases i with
    | zero =>
      injection h with h
      subst h
      rw [List.set_cons_zero, List.flatten_cons, List.flatten_cons, List.append_assoc, List.append_assoc]
      exact List.Perm.append_left _ List.perm_append_comm
    | succ i =>
      rw [List.set_cons_succ, List.flatten_cons, List.flatten_cons, List.append_assoc]
      exact List.Perm.append_left _ (ih i h)
theorem put_HT {w : World} {g : Nat} {S : Tb} {D : Nat → Prop} (hT : HT w g S D) {i mb c m : Nat} {xs : List Row} (hn : Int) (e : E) (f3 : S.mbs[i]? = some mb) (f4 : S.rows[i]? = some xs) (f5 : S.cks[i]? = some c) (hnf : findR hn xs = none) (hr : 1 ≤ hn ∧ hn ≤ 256) :
    HT (((w.alloc (.cells e.cells 69)).drewN m).putObj mb (mobj (xs.map Row.enc ++ [(hn, .pointer (some ⟨w.heap.size, 0, none⟩), c)]) (c + 1))) g (S.put i hn w.heap.size e) (Dn D w.heap.size) ∧
    Fr w (((w.alloc (.cells e.cells 69)).drewN m).putObj mb (mobj (xs.map Row.enc ++ [(hn, .pointer (some ⟨w.heap.size, 0, none⟩), c)]) (c + 1))) D := by
  generalize hW : ((w.alloc (.cells e.cells 69)).drewN m).putObj mb (mobj (xs.map Row.enc ++ [(hn, .pointer (some ⟨w.heap.size, 0, none⟩), c)]) (c + 1)) = w'
  have hmb := hT.maps i mb xs c f3 f4 f5
  have hlt : mb < w.heap.size := (Array.getElem?_eq_some_iff.1 hmb).1
  have hsz : ((w.alloc (.cells e.cells 69)).drewN m).heap.size = w.heap.size + 1 := Array.size_push _
  have hold : ∀ b, b < w.heap.size → b ≠ mb → w'.heap[b]? = w.heap[b]? := fun b hb hne => by
    rw [← hW, putObj_other _ _ _ _ hne]; exact heap_alloc_old w _ hb
  have hmb' : w'.heap[mb]? = some (mobj (xs.map Row.enc ++ [(hn, .pointer (some ⟨w.heap.size, 0, none⟩), c)]) (c + 1)) := by
    rw [← hW]; exact putObj_same _ _ _ (by rw [hsz]; omega)
  have hnew : w'.heap[w.heap.size]? = some (.cells e.cells 69 (0, 0)) := by
    rw [← hW, putObj_other _ _ _ _ (by omega)]; exact heap_alloc_new w _
  have hcell : ∀ (b : Nat) (cur : Array Value) (t : TypeId) (f : Nat × Nat), w.heap[b]? = some (Obj.cells cur t f) → b < w.heap.size ∧ b ≠ mb := fun b cur t f h => ⟨(Array.getElem?_eq_some_iff.1 h).1, fun z => by rw [z, hmb] at h; injection h with h; cases h⟩
  have keepc : ∀ (b : Nat) (cur : Array Value) (t : TypeId) (f : Nat × Nat), w.heap[b]? = some (Obj.cells cur t f) → w'.heap[b]? = some (Obj.cells cur t f) := fun b cur t f h => (hold b (hcell b cur t f h).1 (hcell b cur t f h).2).trans h
  have keepo : ∀ {base e size n : Nat} {v : Value} {ys : List Value}, w.ownsRow base e size v n ys → w'.ownsRow base e size v n ys := fun h => own_same h fun k hk => by
    obtain ⟨_, cur, hc⟩ := own_lt h hk
    rw [hc]; exact keepc k cur _ _ hc
  have hxs : S.rows.getD i [] = xs := by simp [List.getD, f4]
  have hck : S.cks.getD i 0 = c := by simp [List.getD, f5]
  have hmemr : xs ∈ S.rows := List.mem_of_getElem? f4
  have hebs : ∀ ys ∈ S.rows, ∀ x ∈ ys, x.eb < w.heap.size := fun ys h1 x h2 => (Array.getElem?_eq_some_iff.1 (hT.ents ys h1 x h2)).1
  have hborn := hT.born i xs c f4 f5
  have hmem : ∀ ys ∈ (S.put i hn w.heap.size e).rows, ∀ x ∈ ys, (∃ zs ∈ S.rows, x ∈ zs) ∨ x = ⟨hn, w.heap.size, c, e⟩ := by
    intro ys hy x hx
    obtain ⟨k, hk⟩ := List.getElem?_of_mem hy
    rcases set_get _ _ _ _ _ hk with ⟨_, h2, _⟩ | ⟨_, h2⟩
    · rw [h2, hxs, hck] at hx
      rcases List.mem_append.1 hx with h | h
      · exact .inl ⟨xs, hmemr, h⟩
      · exact .inr (List.mem_singleton.1 h)
    · exact .inl ⟨ys, List.mem_of_getElem? h2, hx⟩
  refine ⟨{ top := keepc _ _ _ _ hT.top, topD := .inl hT.topD, mkr := keepo hT.mkr, mkD := fun k h => .inl (hT.mkD k h), tab := keepo hT.tab, tabD := fun k h => .inl (hT.tabD k h), len1 := (by simp [Tb.put, hT.len1]), len2 := (by simp [Tb.put, hT.len2]), mapsD := fun b h => .inl (hT.mapsD b h), mapsN := hT.mapsN, cal := keepo hT.cal, calD := fun k h => .inl (hT.calD k h), lent := fun c hc => keepo (hT.lent c hc), lentD := fun c hc k h => .inl (hT.lentD c hc k h), lentN := hT.lentN, maps := ?_, ents := ?_, entsD := ?_, entsN := ?_, keysN := ?_, keysR := ?_, born := ?_ }, ?_⟩
  · intro k b ys c' h1 h2 h3
    rcases set_get _ _ _ _ _ h2 with ⟨rfl, h4, _⟩ | ⟨hne, h4⟩
    · rcases set_get _ _ _ _ _ h3 with ⟨_, h5, _⟩ | ⟨h5, _⟩
      · have : b = mb := Option.some.inj (h1.symm.trans f3)
        subst this
        rw [h4, h5, hxs, hck, List.map_append]
        exact hmb'
      · exact absurd rfl h5
    · rcases set_get _ _ _ _ _ h3 with ⟨h5, _, _⟩ | ⟨_, h5⟩
      · exact absurd h5 hne
      · have h6 := hT.maps k b ys c' h1 h4 h5
        have hbne : b ≠ mb := by
          intro z
          subst z
          have hk1 := (List.getElem?_eq_some_iff.1 h1).1
          have hk2 := (List.getElem?_eq_some_iff.1 f3).1
          exact hne ((List.getElem?_inj hk1 hT.mapsN).1 (h1.trans f3.symm))
        exact (hold b (Array.getElem?_eq_some_iff.1 h6).1 hbne).trans h6
  · intro ys hy x hx
    rcases hmem ys hy x hx with ⟨zs, h1, h2⟩ | rfl
    · exact keepc _ _ _ _ (hT.ents zs h1 x h2)
    · exact hnew
  · intro ys hy x hx
    rcases hmem ys hy x hx with ⟨zs, h1, h2⟩ | rfl
    · exact .inl (hT.entsD zs h1 x h2)
    · exact .inr (Nat.le_refl _)
  · have hp := (flatten_set S.rows i xs ⟨hn, w.heap.size, c, e⟩ f4).map Row.eb
    rw [List.map_append] at hp
    show (((S.rows.set i (S.rows.getD i [] ++ [⟨hn, w.heap.size, S.cks.getD i 0, e⟩])).flatten).map Row.eb).Nodup
    rw [hxs, hck, hp.nodup_iff, List.nodup_append]
    refine ⟨hT.entsN, by simp, ?_⟩
    intro a ha b hb
    obtain ⟨x, hx, rfl⟩ := List.mem_map.1 ha
    obtain ⟨ys, hy, hx⟩ := List.mem_flatten.1 hx
    have := hebs ys hy x hx
    simp at hb
    omega
  · intro ys hy
    obtain ⟨k, hk⟩ := List.getElem?_of_mem hy
    rcases set_get _ _ _ _ _ hk with ⟨_, h2, _⟩ | ⟨_, h2⟩
    · rw [h2, hxs, hck, List.map_append, List.nodup_append]
      refine ⟨hT.keysN xs hmemr, by simp, ?_⟩
      intro a ha b hb
      obtain ⟨x, hx, rfl⟩ := List.mem_map.1 ha
      simp at hb
      subst hb
      intro z
      have := List.find?_eq_none.1 hnf x hx
      simp [z] at this
    · exact hT.keysN ys (List.mem_of_getElem? h2)
  · intro ys hy x hx
    rcases hmem ys hy x hx with ⟨zs, h1, h2⟩ | rfl
    · exact hT.keysR zs h1 x h2
    · exact hr
  · intro k ys c' h2 h3
    rcases set_get _ _ _ _ _ h2 with ⟨rfl, h4, _⟩ | ⟨hne, h4⟩
    · rcases set_get _ _ _ _ _ h3 with ⟨_, h5, _⟩ | ⟨h5, _⟩
      · rw [h4, h5, hxs, hck, List.map_append, List.nodup_append]
        refine ⟨⟨hborn.1, by simp, ?_⟩, ?_⟩
        · intro a ha b hb
          obtain ⟨x, hx, rfl⟩ := List.mem_map.1 ha
          have := hborn.2 x hx
          simp at hb
          omega
        · intro x hx
          rcases List.mem_append.1 hx with h | h
          · have := hborn.2 x h; omega
          · rw [List.mem_singleton.1 h]; exact Nat.lt_succ_self c
      · exact absurd rfl h5
    · rcases set_get _ _ _ _ _ h3 with ⟨h5, _, _⟩ | ⟨_, h5⟩
      · exact absurd h5 hne
      · exact hT.born k ys c' h4 h5
  · refine ⟨?_, fun b hb hD => hold b hb (fun z => hD (z ▸ hT.mapsD mb (List.mem_of_getElem? f3))), by rw [← hW]; exact ⟨rfl, rfl, rfl⟩⟩
    rw [← hW]
    show _ ≤ (Array.setIfInBounds _ _ _).size
    rw [Array.size_setIfInBounds, hsz]; omega
/-- A call, without its blocks. -/
structure AC where
  i : Int
  bor : Int
  lent : List (Int × Int)
/-- Tables, without their blocks. -/
structure AT where
  mkr : List Int
  tabs : List (Int → Option E)
  calls : List AC
def absR (xs : List Row) : Int → Option E := fun h => (findR h xs).map Row.e
def CL.abs (c : CL) : AC := ⟨c.i, c.bor, c.lent⟩
def Tb.abs (S : Tb) : AT := ⟨S.mkr, S.rows.map absR, S.calls.map CL.abs⟩
/-- How many handles a table has; its first free index. -/
def cntA (f : Int → Option E) : Nat := ((List.range 256).filter fun k : Nat => (f ((k : Int) + 1)).isSome).length
def freshA (f : Int → Option E) : Int := match (List.range 256).find? (fun k : Nat => (f ((k : Int) + 1)).isNone) with | some k => (k : Int) + 1 | none => 0
theorem nodup_sub_len {α : Type} [DecidableEq α] : ∀ (l m : List α), l.Nodup → (∀ x ∈ l, x ∈ m) → l.length ≤ m.length := by
  intro l
  induction l with
  | nil => intro m _ _; exact Nat.zero_le _
  | cons a l ih =>
    intro m hn hs
    have ha := hs a List.mem_cons_self
    have h1 := ih (m.erase a) (List.nodup_cons.1 hn).2 (fun x hx => by
      have hxa : x ≠ a := fun e => (List.nodup_cons.1 hn).1 (e ▸ hx)
      exact (List.mem_erase_of_ne hxa).2 (hs x (List.mem_cons_of_mem _ hx)))
    rw [List.length_erase_of_mem ha] at h1
    have : 0 < m.length := List.length_pos_of_mem ha
    rw [List.length_cons]; omega
theorem findR_none {h : Int} {xs : List Row} : findR h xs = none ↔ h ∉ xs.map Row.h := by
  unfold findR
  rw [List.find?_eq_none, List.mem_map]
  constructor
  · rintro H ⟨x, hx, e⟩
    have := H x hx
    simp [e] at this
  · intro H x hx
    simp only [beq_iff_eq]
    exact fun e => H ⟨x, hx, e⟩
theorem cnt_abs (xs : List Row) (hN : (xs.map Row.h).Nodup) (hR : ∀ x ∈ xs, 1 ≤ x.h ∧ x.h ≤ 256) : cntA (absR xs) = xs.length := by
  have hmem : ∀ k : Nat, k ∈ (List.range 256).filter (fun k : Nat => (absR xs ((k : Int) + 1)).isSome) ↔ k < 256 ∧ (k : Int) + 1 ∈ xs.map Row.h := by
    intro k
    rw [List.mem_filter, List.mem_range]
    unfold absR
    rw [Option.isSome_map]
    constructor
    · rintro ⟨h1, h2⟩
      refine ⟨h1, ?_⟩
      rw [← Classical.not_not (a := ((k : Int) + 1 ∈ xs.map Row.h)), ← findR_none]
      intro h; rw [h] at h2; cases h2
    · rintro ⟨h1, h2⟩
      refine ⟨h1, ?_⟩
      cases hf : findR ((k : Int) + 1) xs with
      | none => exact absurd h2 (findR_none.1 hf)
      | some x => rfl
  have hF : ((List.range 256).filter (fun k : Nat => (absR xs ((k : Int) + 1)).isSome)).Nodup := List.Nodup.sublist List.filter_sublist List.nodup_range
  refine Nat.le_antisymm ?_ ?_
  · have := nodup_sub_len (((List.range 256).filter (fun k : Nat => (absR xs ((k : Int) + 1)).isSome)).map fun k : Nat => (k : Int) + 1) (xs.map Row.h) (by
      rw [List.nodup_iff_pairwise_ne] at hF ⊢
      rw [List.pairwise_map]
      exact hF.imp (fun h z => h (by omega))) (fun x hx => by
      obtain ⟨k, hk, rfl⟩ := List.mem_map.1 hx
      exact ((hmem k).1 hk).2)
    rw [List.length_map, List.length_map] at this
    exact this
  · have := nodup_sub_len ((xs.map Row.h).map fun h : Int => (h - 1).toNat) ((List.range 256).filter (fun k : Nat => (absR xs ((k : Int) + 1)).isSome)) (by
      rw [List.nodup_iff_pairwise_ne] at hN ⊢
      rw [List.pairwise_map]
      refine List.Pairwise.imp_of_mem ?_ hN
      intro a b ha hb h z
      obtain ⟨x, hx, rfl⟩ := List.mem_map.1 ha
      obtain ⟨y, hy, rfl⟩ := List.mem_map.1 hb
      have := hR x hx
      have := hR y hy
      exact h (by omega)) (fun k hk => by
      obtain ⟨h, hh, rfl⟩ := List.mem_map.1 hk
      obtain ⟨x, hx, rfl⟩ := List.mem_map.1 hh
      have := hR x hx
      refine (hmem _).2 ⟨by omega, ?_⟩
      rw [show (((x.h - 1).toNat : Nat) : Int) + 1 = x.h by omega]
      exact hh)
    rw [List.length_map, List.length_map] at this
    exact this
/-- The walk's search finds the first free index. -/
theorem fresh_from (xs : List Row) : ∀ (m k : Nat), k + m = 256 → (∃ j, k ≤ j ∧ j < 256 ∧ findR ((j : Int) + 1) xs = none) → ∃ j, k ≤ j ∧ j < 256 ∧ freshF (m + 1) ((k : Int) + 1) xs = some ((j : Int) + 1) ∧ findR ((j : Int) + 1) xs = none ∧ ∀ q, k ≤ q → q < j → findR ((q : Int) + 1) xs ≠ none := by
  intro m
  induction m with
  | zero => rintro k hk ⟨j, h1, h2, _⟩; omega
  | succ m ih =>
    rintro k hk ⟨j, h1, h2, h3⟩
    rw [freshF]
    cases hf : findR ((k : Int) + 1) xs with
    | none => exact ⟨k, Nat.le_refl _, by omega, rfl, hf, fun q h4 h5 => by omega⟩
    | some x =>
      have hjk : j ≠ k := by rintro rfl; rw [hf] at h3; cases h3
      obtain ⟨j', g1, g2, g3, g4, g5⟩ := ih (k + 1) (by omega) ⟨j, by omega, h2, h3⟩
      refine ⟨j', by omega, g2, ?_, g4, fun q h4 h5 => ?_⟩
      · have e : wrap64 ((k : Int) + 1 + 1) = ((k + 1 : Nat) : Int) + 1 := by unfold wrap64; omega
        rw [e]; exact g3
      · by_cases hq : q = k
        · rw [hq, hf]; intro z; cases z
        · exact g5 q (by omega) h5
theorem find_first (p : Nat → Bool) : ∀ (n k j : Nat), k ≤ j → j < k + n → p j = true → (∀ q, k ≤ q → q < j → p q = false) → (List.range' k n).find? p = some j := by
  intro n
  induction n with
  | zero => intro k j h1 h2; omega
  | succ n ih =>
    intro k j h1 h2 h3 h4
    rw [List.range'_succ, List.find?_cons]
    by_cases e : k = j
    · rw [e, h3]
    · rw [h4 k (Nat.le_refl _) (by omega)]
      exact ih (k + 1) j (by omega) (by omega) h3 (fun q h5 h6 => h4 q (by omega) h6)
theorem fresh_abs (xs : List Row) (hN : (xs.map Row.h).Nodup) (hs : xs.length < 256) : freshF 257 1 xs = some (freshA (absR xs)) ∧ findR (freshA (absR xs)) xs = none ∧ 1 ≤ freshA (absR xs) ∧ freshA (absR xs) ≤ 256 := by
  have hex : ∃ j : Nat, 0 ≤ j ∧ j < 256 ∧ findR ((j : Int) + 1) xs = none := by
    apply Classical.byContradiction
    intro H
    have hall : ∀ j : Nat, j < 256 → ((j : Int) + 1) ∈ xs.map Row.h := fun j hj => by
      rw [← Classical.not_not (a := ((j : Int) + 1 ∈ xs.map Row.h)), ← findR_none]
      exact fun h => H ⟨j, Nat.zero_le _, hj, h⟩
    have := nodup_sub_len ((List.range 256).map fun k : Nat => (k : Int) + 1) (xs.map Row.h) (by
      rw [List.nodup_iff_pairwise_ne, List.pairwise_map]
      exact (List.nodup_iff_pairwise_ne.1 List.nodup_range).imp (fun h z => h (by omega))) (fun x hx => by
      obtain ⟨k, hk, rfl⟩ := List.mem_map.1 hx
      exact hall k (List.mem_range.1 hk))
    rw [List.length_map, List.length_map, List.length_range] at this
    omega
  obtain ⟨j, h1, h2, h3, h4, h5⟩ := fresh_from xs 256 0 rfl hex
  have hA : freshA (absR xs) = (j : Int) + 1 := by
    unfold freshA
    rw [List.range_eq_range', find_first _ 256 0 j (Nat.zero_le _) (by omega) (by simp [absR, h4]) (fun q h6 h7 => by
      have := h5 q h6 h7
      unfold absR
      cases hf : findR ((q : Int) + 1) xs with
      | none => exact absurd hf this
      | some x => rfl)]
  rw [hA]
  exact ⟨h3, h4, by omega, by omega⟩
/-- A table with one handle more. -/
def updA (f : Int → Option E) (h : Int) (e : Option E) : Int → Option E := fun k => if k = h then e else f k
theorem absR_put (xs : List Row) (x : Row) (hnf : findR x.h xs = none) : absR (xs ++ [x]) = updA (absR xs) x.h (some x.e) := by
  funext k
  unfold absR updA findR
  rw [List.find?_append]
  by_cases hk : k = x.h
  · subst hk
    rw [if_pos rfl, show xs.find? (fun y => y.h == x.h) = none from hnf]
    simp
  · rw [if_neg hk]
    have : (x.h == k) = false := by simpa using fun z : x.h = k => hk z.symm
    simp [List.find?_cons, this]
def AT.put (T : AT) (i : Nat) (e : E) : Int × Int × AT := if 256 ≤ cntA (T.tabs.getD i fun _ => none) then (0, 5, T) else (freshA (T.tabs.getD i fun _ => none), 0, { T with tabs := T.tabs.set i (updA (T.tabs.getD i fun _ => none) (freshA (T.tabs.getD i fun _ => none)) (some e)) })
theorem tabs_at {S : Tb} {i : Nat} {xs : List Row} (h : S.rows[i]? = some xs) : S.abs.tabs.getD i (fun _ => none) = absR xs := by
  simp [Tb.abs, List.getD, h]
theorem map_set {α β : Type} (f : α → β) (l : List α) (i : Nat) (x : α) : (l.set i x).map f = (l.map f).set i (f x) := by simp
set_option maxRecDepth 100000 in
theorem put_calls {w : World} {g : Nat} {S : Tb} {D : Nat → Prop} (hT : HT w g S D) (i : Int) (e : E) (h0 : 0 ≤ i) (h1 : i < (S.mbs.length : Int)) :
    Calls Try.prog 52 #[.pointer (some ⟨g, 0, none⟩), .int .i64 i, .agg e.cells] w fun z w' => z = .returned (.tuple #[.int .i64 (S.abs.put i.toNat e).1, .int .i64 (S.abs.put i.toNat e).2.1]) ∧
      ∃ S', HT w' g S' (Dn D w.heap.size) ∧ S'.abs = (S.abs.put i.toNat e).2.2 ∧ S'.mbs = S.mbs ∧ Fr w w' D := by
  obtain ⟨b, cap, mb, xs, c, f1, f2, f3, f4, f5, f6, f7⟩ := hT.table h0 h1
  have hmem := List.mem_of_getElem? f4
  have hN := hT.keysN xs hmem
  have hR := hT.keysR xs hmem
  have hc := cnt_abs xs hN hR
  unfold AT.put
  rw [tabs_at f4, hc]
  by_cases hs : 256 ≤ xs.length
  · rw [if_pos hs]
    refine (put_full hT i e.cells h0 h1 (by rw [f6]; exact hs)).mono ?_
    rintro z w' ⟨rfl, m, rfl⟩
    exact ⟨rfl, S, ((hT.alloc _).drewN m).imp (fun b h => .inl h), rfl, rfl, by show _ ≤ (Array.push _ _).size; simp, fun b hb _ => heap_alloc_old w _ hb, ⟨rfl, rfl, rfl⟩⟩
  · rw [if_neg hs]
    obtain ⟨g1, g2, g3⟩ := fresh_abs xs hN (by omega)
    refine (put_walk hT i e.cells 257 (freshA (absR xs)) h0 h1 (by rw [f6]; omega) (by rw [f6]; exact g1) (by rw [f6]; exact g2)).mono ?_
    rintro z w' ⟨rfl, mb', xs', c', m, k1, k2, k3, rfl⟩
    obtain rfl : mb = mb' := Option.some.inj (f3.symm.trans k1)
    obtain rfl : xs = xs' := Option.some.inj (f4.symm.trans k2)
    obtain rfl : c = c' := Option.some.inj (f5.symm.trans k3)
    obtain ⟨q1, q2⟩ := put_HT (m := m) hT (freshA (absR xs)) e f3 f4 f5 g2 g3
    refine ⟨rfl, _, q1, ?_, rfl, q2⟩
    have hxs : S.rows.getD i.toNat [] = xs := f6
    unfold Tb.put Tb.abs
    simp only [hxs, map_set]
    rw [absR_put xs _ g2]
/-- The tables behind a deed are T; nothing old but theirs has turned. -/
def Aft (w : World) (g : Nat) (D : Nat → Prop) (T : AT) (w' : World) : Prop := ∃ S', HT w' g S' (Dn D w.heap.size) ∧ S'.abs = T ∧ Fr w w' D
theorem HT.aft {w : World} {g : Nat} {S : Tb} {D : Nat → Prop} (h : HT w g S D) : Aft w g D S.abs w := ⟨S, h.imp fun b hb => .inl hb, rfl, Fr.refl w D⟩
theorem Aft.drawn {w w1 w2 : World} {g : Nat} {D : Nat → Prop} {T : AT} (h : Aft w g D T w1) (k : Drawn0 w1 w2) : Aft w g D T w2 := by
  obtain ⟨S', h1, h2, h3⟩ := h
  have hd := h3.drawn k
  obtain ⟨m, rfl⟩ := k
  exact ⟨S', h1.drewN m, h2, hd⟩
theorem Aft.from {w w1 w2 : World} {g : Nat} {D : Nat → Prop} {T : AT} (h : Aft w1 g D T w2) (k : Drawn0 w w1) : Aft w g D T w2 := by
  obtain ⟨m, rfl⟩ := k
  obtain ⟨S', h1, h2, h3⟩ := h
  exact ⟨S', h1, h2, h3.1, h3.2.1, ⟨h3.2.2.os, h3.2.2.tape, h3.2.2.output⟩⟩
def AT.is (T : AT) (i r : Int) : Bool := isB i r T.tabs.length T.mkr.length
def AT.mak (T : AT) (r : Int) : Int := T.mkr.getD r.toNat 0
def AT.get (T : AT) (i r h : Int) : Option E := if T.is i r = true then ((T.tabs.getD i.toNat fun _ => none) h).bind fun e => if e.r = r then some e else none else none
def AT.make (T : AT) (i r n : Int) : Int × Int × AT := if T.is i r = true then if T.mak r = i then if wholeB n = true then T.put i.toNat ⟨r, n, true, 0, 0⟩ else (0, 17, T) else (0, 17, T) else (0, 17, T)
theorem abs_is {w : World} {g : Nat} {S : Tb} {D : Nat → Prop} (hT : HT w g S D) (i r : Int) : S.abs.is i r = isB i r S.mbs.length S.mkr.length := by
  unfold AT.is Tb.abs
  simp only [List.length_map, hT.len1]
theorem maker_cell {w : World} {g : Nat} {S : Tb} {D : Nat → Prop} (hT : HT w g S D) {r : Int} (h0 : 0 ≤ r) (h1 : r < (S.mkr.length : Int)) : ∃ b cap, S.mv = .slice (some ⟨b, 0, none⟩) S.mkr.length cap ∧ w.cell? ⟨b, r.toNat, none⟩ = some (.int .i64 (S.abs.mak r)) := by
  obtain ⟨b, cap, e1, _, _, e3⟩ := own_cells hT.mkr (by omega)
  refine ⟨b, cap, e1, e3 r.toNat _ ?_⟩
  have hr : r.toNat < S.mkr.length := by omega
  rw [List.getElem?_map, List.getElem?_eq_getElem hr]
  simp [AT.mak, Tb.abs, List.getD, List.getElem?_eq_getElem hr]
set_option maxHeartbeats 8000000 in
set_option maxRecDepth 100000 in
theorem make_calls {w : World} {g : Nat} {S : Tb} {D : Nat → Prop} (hT : HT w g S D) (i r n : Int) :
    Calls Try.prog 24 #[.pointer (some ⟨g, 0, none⟩), .int .i64 i, .int .i64 r, .int .i64 n] w fun z w' => z = .returned (.tuple #[.int .i64 (S.abs.make i r n).1, .int .i64 (S.abs.make i r n).2.1]) ∧ Aft w g D (S.abs.make i r n).2.2 w' := by
  obtain ⟨Am, cm, At, ct, Ac, cc, e1, e2, e3, hS⟩ := hT.ts
  have his := is_calls i r hS
  have hwh := fun W => whole_calls n W
  unfold AT.make
  rw [abs_is hT]
  cases hb : isB i r S.mbs.length S.mkr.length with
  | false =>
    rw [if_neg (by decide)]
    rw [hb] at his
    have fin := hT.aft
    go_enter Try.func24, Try.ntmps24
    go_wp2_with (first | (go_at_call 50; refine his.mono ?_; rintro e w' ⟨rfl, rfl⟩))
    go_ret2
    exact ⟨rfl, fin⟩
  | true =>
    rw [if_pos rfl]
    rw [hb] at his
    obtain ⟨i0, i1, r0, r1⟩ := isB_true hb
    obtain ⟨b, cap, f1, f2⟩ := maker_cell hT r0 r1
    rw [f1] at e1
    injection e1 with e1 _ e4
    subst e1; subst e4
    have c0 : w.cell? ⟨g, 0, none⟩ = some (.slice (some ⟨b, 0, none⟩) S.mkr.length cap) := (blk_cell hS 0).trans rfl
    have p0 : (0 ≤ r) = True := eq_true r0
    have p1 : (r < (S.mkr.length : Int)) = True := eq_true r1
    have hput := put_calls hT i ⟨r, n, true, 0, 0⟩ i0 i1
    unfold E.cells at hput
    dsimp only at hput
    generalize S.abs.mak r = mr at f2 ⊢
    by_cases hm : mr = i
    · rw [if_pos hm]
      have hm' : (mr == i) = true := by simpa using hm
      have hm'' : (mr != i) = false := by simpa using hm
      clear hm
      cases hw : wholeB n with
      | false =>
        rw [if_neg (by decide)]
        have fin := hT.aft
        go_enter Try.func24, Try.ntmps24
        go_wp2_with (first | (go_at_call 50; refine his.mono ?_; rintro e w' ⟨rfl, rfl⟩) | (go_at_call 51; refine (hwh _).mono ?_; rw [hw]; rintro e w' ⟨rfl, rfl⟩))
        go_ret2
        exact ⟨rfl, fin⟩
      | true =>
        rw [if_pos rfl]
        go_enter Try.func24, Try.ntmps24
        go_wp2_with (first | (go_at_call 50; refine his.mono ?_; rintro e w' ⟨rfl, rfl⟩) | (go_at_call 51; refine (hwh _).mono ?_; rw [hw]; rintro e w' ⟨rfl, rfl⟩) | (go_at_call 52; refine hput.mono ?_; rintro z w' ⟨rfl, S', q1, q2, q3, q4⟩))
        go_ret2
        exact ⟨rfl, S', q1, q2, q4⟩
    · rw [if_neg hm]
      have hm' : (mr == i) = false := by simpa using hm
      have hm'' : (mr != i) = true := by simpa using hm
      clear hm
      have fin := hT.aft
      go_enter Try.func24, Try.ntmps24
      go_wp2_with (first | (go_at_call 50; refine his.mono ?_; rintro e w' ⟨rfl, rfl⟩))
      go_ret2
      exact ⟨rfl, fin⟩
def AT.putN (T : AT) (i r n : Int) : Int × Int × AT := if T.is i r = true then if wholeB n = true then T.put i.toNat ⟨r, n, true, 0, 0⟩ else (0, 17, T) else (0, 17, T)
set_option maxHeartbeats 8000000 in
set_option maxRecDepth 100000 in
theorem putN_calls {w : World} {g : Nat} {S : Tb} {D : Nat → Prop} (hT : HT w g S D) (i r n : Int) :
    Calls Try.prog 32 #[.pointer (some ⟨g, 0, none⟩), .int .i64 i, .int .i64 r, .int .i64 n] w fun z w' => z = .returned (.tuple #[.int .i64 (S.abs.putN i r n).1, .int .i64 (S.abs.putN i r n).2.1]) ∧ Aft w g D (S.abs.putN i r n).2.2 w' := by
  obtain ⟨Am, cm, At, ct, Ac, cc, e1, e2, e3, hS⟩ := hT.ts
  have his := is_calls i r hS
  have hwh := fun W => whole_calls n W
  unfold AT.putN
  rw [abs_is hT]
  cases hb : isB i r S.mbs.length S.mkr.length with
  | false =>
    rw [if_neg (by decide)]
    rw [hb] at his
    have fin := hT.aft
    go_enter Try.func32, Try.ntmps32
    go_wp2_with (first | (go_at_call 50; refine his.mono ?_; rintro e w' ⟨rfl, rfl⟩))
    go_ret2
    exact ⟨rfl, fin⟩
  | true =>
    rw [if_pos rfl]
    rw [hb] at his
    obtain ⟨i0, i1, r0, r1⟩ := isB_true hb
    have hput := put_calls hT i ⟨r, n, true, 0, 0⟩ i0 i1
    unfold E.cells at hput
    dsimp only at hput
    cases hw : wholeB n with
    | false =>
      rw [if_neg (by decide)]
      have fin := hT.aft
      go_enter Try.func32, Try.ntmps32
      go_wp2_with (first | (go_at_call 50; refine his.mono ?_; rintro e w' ⟨rfl, rfl⟩) | (go_at_call 51; refine (hwh _).mono ?_; rw [hw]; rintro e w' ⟨rfl, rfl⟩))
      go_ret2
      exact ⟨rfl, fin⟩
    | true =>
      rw [if_pos rfl]
      go_enter Try.func32, Try.ntmps32
      go_wp2_with (first | (go_at_call 50; refine his.mono ?_; rintro e w' ⟨rfl, rfl⟩) | (go_at_call 51; refine (hwh _).mono ?_; rw [hw]; rintro e w' ⟨rfl, rfl⟩) | (go_at_call 52; refine hput.mono ?_; rintro z w' ⟨rfl, S', q1, q2, q3, q4⟩))
      go_ret2
      exact ⟨rfl, S', q1, q2, q4⟩
theorem get_some {w : World} {g : Nat} {S : Tb} {D : Nat → Prop} (hT : HT w g S D) {i r h : Int} {x : Row} (hg : S.get i r h = some x) :
    isB i r S.mbs.length S.mkr.length = true ∧ findR h (S.rows.getD i.toNat []) = some x ∧ x.e.r = r ∧ S.abs.get i r h = some x.e ∧ w.heap[x.eb]? = some (.cells x.e.cells 69 (0, 0)) := by
  unfold Tb.get at hg
  split at hg
  · rename_i hb
    obtain ⟨i0, i1, r0, r1⟩ := isB_true hb
    obtain ⟨b, cap, mb, xs, c, f1, f2, f3, f4, f5, f6, f7⟩ := hT.table i0 i1
    cases hf : findR h (S.rows.getD i.toNat []) with
    | none => rw [hf] at hg; cases hg
    | some y =>
      rw [hf, Option.bind_some] at hg
      split at hg
      · rename_i hr
        injection hg with hg
        subst hg
        refine ⟨hb, rfl, hr, ?_, hT.ents xs (List.mem_of_getElem? f4) y ?_⟩
        · unfold AT.get
          rw [abs_is hT, if_pos hb, tabs_at f4]
          rw [f6] at hf
          simp [absR, hf, hr]
        · rw [f6] at hf; exact (findR_mem hf).1
      · cases hg
  · cases hg
theorem get_none {w : World} {g : Nat} {S : Tb} {D : Nat → Prop} (hT : HT w g S D) {i r h : Int} (hg : S.get i r h = none) : S.abs.get i r h = none := by
  unfold AT.get
  rw [abs_is hT]
  unfold Tb.get at hg
  split at hg
  · rename_i hb
    rw [if_pos hb]
    obtain ⟨i0, i1, r0, r1⟩ := isB_true hb
    obtain ⟨b, cap, mb, xs, c, f1, f2, f3, f4, f5, f6, f7⟩ := hT.table i0 i1
    rw [tabs_at f4]
    rw [f6] at hg
    cases hf : findR h xs with
    | none => simp [absR, hf]
    | some y =>
      rw [hf, Option.bind_some] at hg
      split at hg
      · cases hg
      · rename_i hr; simp [absR, hf, hr]
  · rename_i hb
    rw [if_neg hb]
def AT.rep (T : AT) (i r h : Int) : Int × Int := match T.get i r h with | none => (0, 17) | some e => if T.mak r = i then (e.rep, 0) else (0, 17)
set_option maxHeartbeats 8000000 in
set_option maxRecDepth 100000 in
theorem rep_calls {w : World} {g : Nat} {S : Tb} {D : Nat → Prop} (hT : HT w g S D) (i r h : Int) :
    Calls Try.prog 11 #[.pointer (some ⟨g, 0, none⟩), .int .i64 i, .int .i64 r, .int .i64 h] w fun z w' => z = .returned (.tuple #[.int .i64 (S.abs.rep i r h).1, .int .i64 (S.abs.rep i r h).2]) ∧ Drawn0 w w' := by
  have hget := get_calls hT i r h
  obtain ⟨Am, cm, At, ct, Ac, cc, e1, e2, e3, hS⟩ := hT.ts
  unfold AT.rep
  cases hg : S.get i r h with
  | none =>
    rw [get_none hT hg]
    rw [hg] at hget
    simp only [ptr] at hget
    go_enter Try.func11, Try.ntmps11
    go_wp2_with (first | (go_at_call 33; refine hget.mono ?_; rintro e w' ⟨rfl, m, rfl⟩))
    go_ret2
    exact ⟨rfl, ⟨_, rfl⟩⟩
  | some x =>
    obtain ⟨hb, hf, hr, ha, hE⟩ := get_some hT hg
    rw [ha]
    rw [hg] at hget
    simp only [ptr] at hget
    obtain ⟨i0, i1, r0, r1⟩ := isB_true hb
    obtain ⟨b, cap, f1, f2⟩ := maker_cell hT r0 r1
    rw [f1] at e1
    injection e1 with e1 _ e4
    subst e1; subst e4
    have c0 : w.cell? ⟨g, 0, none⟩ = some (.slice (some ⟨b, 0, none⟩) S.mkr.length cap) := (blk_cell hS 0).trans rfl
    have p0 : (0 ≤ r) = True := eq_true r0
    have p1 : (r < (S.mkr.length : Int)) = True := eq_true r1
    have k1 : w.cell? ⟨x.eb, 1, none⟩ = some (.int .i64 x.e.rep) := (blk_cell hE 1).trans rfl
    clear hE
    generalize S.abs.mak r = mr at f2 ⊢
    by_cases hm : mr = i
    · simp only [if_pos hm]
      have hm' : (mr == i) = true := by simpa using hm
      have hm'' : (mr != i) = false := by simpa using hm
      clear hm
      go_enter Try.func11, Try.ntmps11
      go_wp2_with (first | (go_at_call 33; refine hget.mono ?_; rintro e w' ⟨rfl, m, rfl⟩))
      go_ret2
      exact ⟨rfl, by repeat (first | exact Drawn0.refl _ | apply Drawn0.step)⟩
    · simp only [if_neg hm]
      have hm' : (mr == i) = false := by simpa using hm
      have hm'' : (mr != i) = true := by simpa using hm
      clear hm
      go_enter Try.func11, Try.ntmps11
      go_wp2_with (first | (go_at_call 33; refine hget.mono ?_; rintro e w' ⟨rfl, m, rfl⟩))
      go_ret2
      exact ⟨rfl, by repeat (first | exact Drawn0.refl _ | apply Drawn0.step)⟩
theorem keys_inj {xs : List Row} (hN : (xs.map Row.h).Nodup) {x y : Row} (hx : x ∈ xs) (hy : y ∈ xs) (h : x.h = y.h) : x = y := by
  induction xs with
  | nil => cases hx
  | cons a xs ih =>
    rw [List.map_cons, List.nodup_cons] at hN
    rcases List.mem_cons.1 hx with hx1 | hx1
    · rcases List.mem_cons.1 hy with hy1 | hy1
      · rw [hx1, hy1]
      · exfalso
        apply hN.1
        rw [← hx1, h]
        exact List.mem_map_of_mem hy1
    · rcases List.mem_cons.1 hy with hy1 | hy1
      · exfalso
        apply hN.1
        rw [← hy1, ← h]
        exact List.mem_map_of_mem hx1
      · exact ih hN.2 hx1 hy1
theorem findR_iff {xs : List Row} (hN : (xs.map Row.h).Nodup) (k : Int) (y : Row) : findR k xs = some y ↔ y ∈ xs ∧ y.h = k := by
  constructor
  · exact findR_mem
  · rintro ⟨h1, h2⟩
    cases hf : findR k xs with
    | none => exact absurd (h2 ▸ List.mem_map_of_mem h1) (findR_none.1 hf)
    | some z =>
      obtain ⟨h3, h4⟩ := findR_mem hf
      rw [keys_inj hN h3 h1 (h4.trans h2.symm)]
theorem absR_del (xs : List Row) (j : Nat) (x : Row) (hj : xs[j]? = some x) (hN : (xs.map Row.h).Nodup) : absR (xs.eraseIdx j) = updA (absR xs) x.h none := by
  have hsub : (xs.eraseIdx j).Sublist xs := List.eraseIdx_sublist _ _
  have hN' : ((xs.eraseIdx j).map Row.h).Nodup := hN.sublist (hsub.map _)
  have hx : x ∈ xs := List.mem_of_getElem? hj
  have hxn : x.h ∉ (xs.eraseIdx j).map Row.h := by
    intro hm
    obtain ⟨y, hy, e⟩ := List.mem_map.1 hm
    obtain ⟨i, hi, hiy⟩ := List.mem_eraseIdx_iff_getElem?.1 hy
    have hil := (List.getElem?_eq_some_iff.1 hiy).1
    have hjl := (List.getElem?_eq_some_iff.1 hj).1
    have : i = j := (List.getElem?_inj (l := xs.map Row.h) (by simpa using hil) hN).1 (by rw [List.getElem?_map, List.getElem?_map, hiy, hj]; simp [e])
    exact hi this
  funext k
  unfold absR updA
  by_cases hk : k = x.h
  · rw [if_pos hk, hk, findR_none.2 hxn]; rfl
  · rw [if_neg hk]
    congr 1
    apply Option.ext
    intro y
    rw [findR_iff hN', findR_iff hN]
    constructor
    · rintro ⟨h1, h2⟩; exact ⟨hsub.subset h1, h2⟩
    · rintro ⟨h1, h2⟩
      refine ⟨?_, h2⟩
      obtain ⟨i, hi⟩ := List.getElem?_of_mem h1
      refine List.mem_eraseIdx_iff_getElem?.2 ⟨i, ?_, hi⟩
      rintro rfl
      rw [hi] at hj
      injection hj with hj
      subst hj
      exact hk h2.symm
def Tb.del (S : Tb) (i j : Nat) : Tb := { S with rows := S.rows.set i ((S.rows.getD i []).eraseIdx j) }
theorem flatten_set_sub {α : Type} (l : List (List α)) (i : Nat) (xs ys : List α) (h : l[i]? = some xs) (hs : ys.Sublist xs) : (l.set i ys).flatten.Sublist l.flatten := by
  induction l generalizing i with
  | nil => cases h
  | cons a l ih =>
    cases i with
    | zero =>
      injection h with h
      subst h
      rw [List.set_cons_zero, List.flatten_cons, List.flatten_cons]
      exact hs.append (List.Sublist.refl _)
    | succ i =>
      rw [List.set_cons_succ, List.flatten_cons, List.flatten_cons]
      exact (List.Sublist.refl _).append (ih i h)
theorem del_HT {w : World} {g : Nat} {S : Tb} {D : Nat → Prop} (hT : HT w g S D) {i mb c j : Nat} {xs : List Row} (f3 : S.mbs[i]? = some mb) (f4 : S.rows[i]? = some xs) (f5 : S.cks[i]? = some c) :
    HT (w.putObj mb (mobj ((xs.map Row.enc).eraseIdx j) c)) g (S.del i j) D ∧ Fr w (w.putObj mb (mobj ((xs.map Row.enc).eraseIdx j) c)) D := by
  generalize hW : w.putObj mb (mobj ((xs.map Row.enc).eraseIdx j) c) = w'
  have hmb := hT.maps i mb xs c f3 f4 f5
  have hlt : mb < w.heap.size := (Array.getElem?_eq_some_iff.1 hmb).1
  have hold : ∀ b, b ≠ mb → w'.heap[b]? = w.heap[b]? := fun b hne => by rw [← hW, putObj_other _ _ _ _ hne]
  have hmb' : w'.heap[mb]? = some (mobj ((xs.map Row.enc).eraseIdx j) c) := by rw [← hW]; exact putObj_same _ _ _ hlt
  have keepc : ∀ (b : Nat) (cur : Array Value) (t : TypeId) (f : Nat × Nat), w.heap[b]? = some (Obj.cells cur t f) → w'.heap[b]? = some (Obj.cells cur t f) := fun b cur t f h => (hold b (fun z => by rw [z, hmb] at h; injection h with h; cases h)).trans h
  have keepo : ∀ {base e size n : Nat} {v : Value} {ys : List Value}, w.ownsRow base e size v n ys → w'.ownsRow base e size v n ys := fun h => own_same h fun k hk => by
    obtain ⟨_, cur, hc⟩ := own_lt h hk
    rw [hc]; exact keepc k cur _ _ hc
  have hxs : S.rows.getD i [] = xs := by simp [List.getD, f4]
  have hmemr : xs ∈ S.rows := List.mem_of_getElem? f4
  have hsub : (xs.eraseIdx j).Sublist xs := List.eraseIdx_sublist _ _
  have hmem : ∀ ys ∈ (S.del i j).rows, ∃ zs ∈ S.rows, ys.Sublist zs := by
    intro ys hy
    obtain ⟨k, hk⟩ := List.getElem?_of_mem hy
    rcases set_get _ _ _ _ _ hk with ⟨_, h2, _⟩ | ⟨_, h2⟩
    · exact ⟨xs, hmemr, by rw [h2, hxs]; exact hsub⟩
    · exact ⟨ys, List.mem_of_getElem? h2, List.Sublist.refl _⟩
  refine ⟨{ top := keepc _ _ _ _ hT.top, topD := hT.topD, mkr := keepo hT.mkr, mkD := hT.mkD, tab := keepo hT.tab, tabD := hT.tabD, len1 := (by simp [Tb.del, hT.len1]), len2 := hT.len2, mapsD := hT.mapsD, mapsN := hT.mapsN, cal := keepo hT.cal, calD := hT.calD, lent := fun c hc => keepo (hT.lent c hc), lentD := hT.lentD, lentN := hT.lentN, maps := ?_, ents := ?_, entsD := ?_, entsN := ?_, keysN := ?_, keysR := ?_, born := ?_ }, ?_⟩
  · intro k b ys c' h1 h2 h3
    rcases set_get _ _ _ _ _ h2 with ⟨rfl, h4, _⟩ | ⟨hne, h4⟩
    · have : b = mb := Option.some.inj (h1.symm.trans f3)
      subst this
      have : c' = c := Option.some.inj (h3.symm.trans f5)
      subst this
      rw [h4, hxs, ChangeMaps.map_eraseIdx]
      exact hmb'
    · have h6 := hT.maps k b ys c' h1 h4 h3
      have hbne : b ≠ mb := by
        intro z
        subst z
        exact hne ((List.getElem?_inj (List.getElem?_eq_some_iff.1 h1).1 hT.mapsN).1 (h1.trans f3.symm))
      exact (hold b hbne).trans h6
  · intro ys hy x hx
    obtain ⟨zs, h1, h2⟩ := hmem ys hy
    exact keepc _ _ _ _ (hT.ents zs h1 x (h2.subset hx))
  · intro ys hy x hx
    obtain ⟨zs, h1, h2⟩ := hmem ys hy
    exact hT.entsD zs h1 x (h2.subset hx)
  · refine hT.entsN.sublist (List.Sublist.map _ ?_)
    exact flatten_set_sub _ _ _ _ f4 (by rw [hxs]; exact hsub)
  · intro ys hy
    obtain ⟨zs, h1, h2⟩ := hmem ys hy
    exact (hT.keysN zs h1).sublist (h2.map _)
  · intro ys hy x hx
    obtain ⟨zs, h1, h2⟩ := hmem ys hy
    exact hT.keysR zs h1 x (h2.subset hx)
  · intro k ys c' h2 h3
    rcases set_get _ _ _ _ _ h2 with ⟨rfl, h4, _⟩ | ⟨hne, h4⟩
    · obtain ⟨b1, b2⟩ := hT.born _ xs c' f4 h3
      rw [h4, hxs]
      exact ⟨b1.sublist (hsub.map _), fun x hx => b2 x (hsub.subset hx)⟩
    · exact hT.born k ys c' h4 h3
  · refine ⟨?_, fun b hb hD => hold b (fun z => hD (z ▸ hT.mapsD mb (List.mem_of_getElem? f3))), by rw [← hW]; exact ⟨rfl, rfl, rfl⟩⟩
    rw [← hW]
    show _ ≤ (Array.setIfInBounds _ _ _).size
    rw [Array.size_setIfInBounds]; exact Nat.le_refl _
theorem del_abs {S : Tb} {i j : Nat} {xs : List Row} {x : Row} (f4 : S.rows[i]? = some xs) (hj : xs[j]? = some x) (hN : (xs.map Row.h).Nodup) : (S.del i j).abs = { S.abs with tabs := S.abs.tabs.set i (updA (S.abs.tabs.getD i fun _ => none) x.h none) } := by
  rw [tabs_at f4, ← absR_del xs j x hj hN]
  have hxs : S.rows.getD i [] = xs := by simp [List.getD, f4]
  unfold Tb.del Tb.abs
  simp only [hxs, map_set]
def AT.del (T : AT) (i : Nat) (h : Int) : AT := { T with tabs := T.tabs.set i (updA (T.tabs.getD i fun _ => none) h none) }
def AT.take (T : AT) (i r h : Int) : Int × Int × AT := match T.get i r h with | none => (0, 17, T) | some e => if e.own = true then if 0 < e.lends then (0, 18, T) else (e.rep, 0, T.del i.toNat h) else (0, 17, T)
/-- What 'delete' does to a table in which the handle is. -/
theorem del_run {w : World} {g : Nat} {S : Tb} {D : Nat → Prop} (hT : HT w g S D) {i : Int} {h : Int} {x : Row} (h0 : 0 ≤ i) (h1 : i < (S.mbs.length : Int)) (hf : findR h (S.rows.getD i.toNat []) = some x) :
    ∃ b cap mb o, S.tv = .slice (some ⟨b, 0, none⟩) S.mbs.length cap ∧ w.cell? ⟨b, i.toNat, none⟩ = some (.map (some mb)) ∧ (∀ m ty, (Builtin.delete_ #[74, 3] ty #[.map (some mb), .int .i64 h]).run Try.prog (w.drewN m) = .ok (.tuple #[]) ((w.drewN m).putObj mb o)) ∧
      (∀ m (b' k : Nat) v, w.cell? ⟨b', k, none⟩ = some v → ((w.drewN m).putObj mb o).cell? ⟨b', k, none⟩ = some v) ∧ (∀ m, ∃ S', HT ((w.drewN m).putObj mb o) g S' D ∧ S'.abs = S.abs.del i.toNat h ∧ Fr w ((w.drewN m).putObj mb o) D) := by
  obtain ⟨b, cap, mb, xs, c, f1, f2, f3, f4, f5, f6, f7⟩ := hT.table h0 h1
  rw [f6] at hf
  obtain ⟨j, g1, g2⟩ := findR_idx hf
  obtain ⟨g3, g4⟩ := findR_mem hf
  have hlk : lookI h (xs.map Row.enc) 0 = some (j, .pointer (some ⟨x.eb, 0, none⟩)) := by rw [look_find, hf]; simp [g1]
  have hjl : j < (xs.map Row.enc).length := by rw [List.length_map]; exact (List.getElem?_eq_some_iff.1 g2).1
  refine ⟨b, cap, mb, _, f1, f2, fun m ty => run_delete_i (w := w.drewN m) Try.underlying74 Try.underlying3 f7 h j _ hlk hjl #[74, 3] ty rfl, fun m b' k v hv => ?_, fun m => ?_⟩
  · have hne : b' ≠ mb := by
      rintro rfl
      unfold World.cell? at hv
      simp only [f7, mobj] at hv
      cases hv
    have : ((w.drewN m).putObj mb (mobj ((xs.map Row.enc).eraseIdx j) c)).heap[b']? = w.heap[b']? := putObj_other _ _ _ _ hne
    unfold World.cell? at hv ⊢
    rw [this]; exact hv
  · obtain ⟨q1, q2⟩ := del_HT (j := j) (hT.drewN m) f3 f4 f5
    refine ⟨_, q1, ?_, q2.from ⟨m, rfl⟩⟩
    rw [del_abs f4 g2 (hT.keysN xs (List.mem_of_getElem? f4)), g4]; rfl
set_option maxHeartbeats 8000000 in
set_option maxRecDepth 100000 in
theorem take_calls {w : World} {g : Nat} {S : Tb} {D : Nat → Prop} (hT : HT w g S D) (i r h : Int) :
    Calls Try.prog 28 #[.pointer (some ⟨g, 0, none⟩), .int .i64 i, .int .i64 r, .int .i64 h] w fun z w' => z = .returned (.tuple #[.int .i64 (S.abs.take i r h).1, .int .i64 (S.abs.take i r h).2.1]) ∧ Aft w g D (S.abs.take i r h).2.2 w' := by
  have hget := get_calls hT i r h
  obtain ⟨Am, cm, At, ct, Ac, cc, e1, e2, e3, hS⟩ := hT.ts
  have fin := fun m => hT.aft.drawn (w2 := w.drewN m) ⟨m, rfl⟩
  unfold AT.take
  cases hg : S.get i r h with
  | none =>
    rw [get_none hT hg]
    rw [hg] at hget
    simp only [ptr] at hget
    go_enter Try.func28, Try.ntmps28
    go_wp2_with (first | (go_at_call 33; refine hget.mono ?_; rintro e w' ⟨rfl, m, rfl⟩))
    all_goals (go_ret2; exact ⟨rfl, fin _⟩)
  | some x =>
    obtain ⟨hb, hf, hr, ha, hE⟩ := get_some hT hg
    rw [ha]
    rw [hg] at hget
    simp only [ptr] at hget
    obtain ⟨i0, i1, r0, r1⟩ := isB_true hb
    have k1 : w.cell? ⟨x.eb, 1, none⟩ = some (.int .i64 x.e.rep) := (blk_cell hE 1).trans rfl
    have k2 : w.cell? ⟨x.eb, 2, none⟩ = some (.bool x.e.own) := (blk_cell hE 2).trans rfl
    have k3 : w.cell? ⟨x.eb, 3, none⟩ = some (.int .i64 x.e.lends) := (blk_cell hE 3).trans rfl
    clear hE
    cases ho : x.e.own with
    | false =>
      rw [ho] at k2
      simp only [Bool.false_eq_true, if_false]
      go_enter Try.func28, Try.ntmps28
      go_wp2_with (first | (go_at_call 33; refine hget.mono ?_; rintro e w' ⟨rfl, m, rfl⟩))
      all_goals (go_ret2; exact ⟨rfl, fin _⟩)
    | true =>
      rw [ho] at k2
      simp only [if_true]
      by_cases hl : 0 < x.e.lends
      · rw [if_pos hl]
        have hl' : decide (0 < x.e.lends) = true := decide_eq_true hl
        clear hl
        go_enter Try.func28, Try.ntmps28
        go_wp2_with (first | (go_at_call 33; refine hget.mono ?_; rintro e w' ⟨rfl, m, rfl⟩))
        all_goals (go_ret2; exact ⟨rfl, fin _⟩)
      · rw [if_neg hl]
        have hl' : decide (0 < x.e.lends) = false := decide_eq_false hl
        clear hl
        obtain ⟨b, cap, mb, o, f1, f2, f3, f4, f5⟩ := del_run hT i0 i1 hf
        rw [f1] at e2
        injection e2 with e2 _ e4
        subst e2; subst e4
        have c1 : w.cell? ⟨g, 1, none⟩ = some (.slice (some ⟨b, 0, none⟩) S.mbs.length cap) := (blk_cell hS 1).trans rfl
        have p0 : (0 ≤ i) = True := eq_true i0
        have p1 : (i < (S.mbs.length : Int)) = True := eq_true i1
        have n1 := fun m => f4 m _ _ _ k1
        clear i0 i1 r0 r1 f4
        have F5 := Aside0.mk f5
        clear f5
        go_enter Try.func28, Try.ntmps28
        go_wp2_with (first | (go_at_call 33; refine hget.mono ?_; rintro e w' ⟨rfl, m, rfl⟩))
        all_goals (go_ret2; obtain ⟨S', q1, q2, q3⟩ := F5.out _; exact ⟨rfl, S', q1.imp (fun b h => .inl h), q2, q3⟩)
theorem keep_cells {w w' : World} {b : Nat} {cur : Array Value} {T : TypeId} (hb : w.heap[b]? = some (Obj.cells cur T (0, 0))) (hold : ∀ k, k < w.heap.size → k ≠ b → w'.heap[k]? = w.heap[k]?) {k : Nat} {cs : Array Value} {t : TypeId} (ht : t ≠ T) (h : w.heap[k]? = some (Obj.cells cs t (0, 0))) : w'.heap[k]? = some (Obj.cells cs t (0, 0)) :=
  (hold k (blk_lt h) (blk_ne h hb ht)).trans h
theorem keep_own {w w' : World} {b : Nat} {cur : Array Value} {T : TypeId} (hb : w.heap[b]? = some (Obj.cells cur T (0, 0))) (hold : ∀ k, k < w.heap.size → k ≠ b → w'.heap[k]? = w.heap[k]?) {base e size n : Nat} {v : Value} {xs : List Value} (ht : e ≠ T) (h : w.ownsRow base e size v n xs) : w'.ownsRow base e size v n xs :=
  own_same h fun k hk => by
    obtain ⟨_, c, hc⟩ := own_lt h hk
    rw [hc]; exact keep_cells hb hold ht hc
theorem keep_map {w w' : World} {b : Nat} {cur : Array Value} {T : TypeId} (hb : w.heap[b]? = some (Obj.cells cur T (0, 0))) (hold : ∀ k, k < w.heap.size → k ≠ b → w'.heap[k]? = w.heap[k]?) {k : Nat} {xs : List (Int × Value × Nat)} {c : Nat} (h : w.heap[k]? = some (mobj xs c)) : w'.heap[k]? = some (mobj xs c) :=
  (hold k (blk_lt h) (fun z => by rw [z, hb] at h; injection h with h; cases h)).trans h
theorem own_set {w : World} {base e size n b j : Nat} {v u : Value} {xs : List Value} (h : w.ownsRow base e size v n xs) (hb : v.ownBlock = some b) (hj : j < xs.length) : (w.setCell ⟨b, j, none⟩ u).ownsRow base e size v n (xs.set j u) := by
  obtain ⟨h1, h2⟩ := h
  refine ⟨by rw [List.length_set]; exact h1, ?_⟩
  rcases h2 with ⟨rfl, _⟩ | ⟨g, cap, cur, rfl, hg, hh, hc, hm, hs, ht⟩
  · cases hb
  · injection hb with hb
    subst hb
    refine .inr ⟨g, cap, _, rfl, hg, blk_set hh j u, hc, hm, by rw [Array.size_setIfInBounds]; exact hs, ?_⟩
    rw [Array.toList_setIfInBounds, List.take_set, ht]
theorem own_max {w : World} {base e size n : Nat} {v : Value} {xs : List Value} (h : w.ownsRow base e size v n xs) : n ≤ 9223372036854775807 := q_max (q_of_own h)
theorem cells_set (cs : List CL) (k : Nat) (c : CL) (v : Int) (h : cs[k]? = some c) : (cs.flatMap CL.cells).set (k * 3 + 1) (.int .i64 v) = (cs.set k { c with bor := v }).flatMap CL.cells := by
  induction cs generalizing k with
  | nil => cases h
  | cons a cs ih =>
    cases k with
    | zero =>
      injection h with h
      subst h
      rfl
    | succ k =>
      rw [List.flatMap_cons, List.set_cons_succ, List.flatMap_cons, ← ih k h]
      have : (k + 1) * 3 + 1 = (k * 3 + 1) + 3 := by omega
      rw [this, List.set_append, if_neg (by show ¬ _ < 3; omega)]
      congr 1
theorem cells_len (cs : List CL) : (cs.flatMap CL.cells).length = cs.length * 3 := by
  induction cs with
  | nil => rfl
  | cons a cs ih => rw [List.flatMap_cons, List.length_append, ih, List.length_cons]; show 3 + _ = _; omega
theorem cells_get (cs : List CL) (k j : Nat) (c : CL) (h : cs[k]? = some c) (hj : j < 3) : (cs.flatMap CL.cells)[k * 3 + j]? = c.cells[j]? := by
  induction cs generalizing k with
  | nil => cases h
  | cons a cs ih =>
    cases k with
    | zero =>
      injection h with h
      subst h
      rw [List.flatMap_cons, List.getElem?_append_left (by show _ < 3; omega)]
      congr 1; omega
    | succ k =>
      rw [List.flatMap_cons, List.getElem?_append_right (by show 3 ≤ _; omega), ← ih k h]
      congr 1
      show (k + 1) * 3 + j - 3 = _
      omega
def Tb.setBor (S : Tb) (k : Nat) (v : Int) : Tb := match S.calls[k]? with | some c => { S with calls := S.calls.set k { c with bor := v } } | none => S
theorem bor_HT {w : World} {g : Nat} {S : Tb} {D : Nat → Prop} (hT : HT w g S D) {k b : Nat} {c : CL} (v : Int) (hc : S.calls[k]? = some c) (hb : S.cv.ownBlock = some b) :
    HT (w.setCell ⟨b, k * 3 + 1, none⟩ (.int .i64 v)) g { S with calls := S.calls.set k { c with bor := v } } D ∧ Fr w (w.setCell ⟨b, k * 3 + 1, none⟩ (.int .i64 v)) D := by
  obtain ⟨hlt, cur, hcur⟩ := own_lt hT.cal hb
  have hold : ∀ j, j < w.heap.size → j ≠ b → (w.setCell ⟨b, k * 3 + 1, none⟩ (.int .i64 v)).heap[j]? = w.heap[j]? := fun j _ hne => Below.heap_setCell w _ _ j hne
  have hkl : k < S.calls.length := (List.getElem?_eq_some_iff.1 hc).1
  have hmem : ∀ c' ∈ S.calls.set k { c with bor := v }, ∃ c0 ∈ S.calls, c'.lv = c0.lv ∧ c'.lent = c0.lent := by
    intro c' h'
    rcases List.mem_or_eq_of_mem_set h' with h | h
    · exact ⟨c', h, rfl, rfl⟩
    · exact ⟨c, List.mem_of_getElem? hc, by rw [h], by rw [h]⟩
  refine ⟨{ top := keep_cells hcur hold (by decide) hT.top, topD := hT.topD, mkr := keep_own hcur hold (by decide) hT.mkr, mkD := hT.mkD, tab := keep_own hcur hold (by decide) hT.tab, tabD := hT.tabD, len1 := hT.len1, len2 := hT.len2, mapsD := hT.mapsD, mapsN := hT.mapsN, maps := fun k b xs c h1 h2 h3 => keep_map hcur hold (hT.maps k b xs c h1 h2 h3), ents := fun xs h1 x h2 => keep_cells hcur hold (by decide) (hT.ents xs h1 x h2), entsD := hT.entsD, entsN := hT.entsN, keysN := hT.keysN, keysR := hT.keysR, born := hT.born, cal := ?_, calD := hT.calD, lent := ?_, lentD := ?_, lentN := ?_ }, ?_⟩
  · have := own_set (u := .int .i64 v) (j := k * 3 + 1) hT.cal hb (by rw [cells_len]; omega)
    rw [cells_set _ _ _ _ hc] at this
    show World.ownsRow _ 0 94 3 S.cv (S.calls.set k { c with bor := v }).length _
    rw [List.length_set]; exact this
  · intro c' h'
    obtain ⟨c0, h0, e1, e2⟩ := hmem c' h'
    rw [e1, e2]
    exact keep_own hcur hold (by decide) (hT.lent c0 h0)
  · intro c' h' j hj
    obtain ⟨c0, h0, e1, e2⟩ := hmem c' h'
    rw [e1] at hj
    exact hT.lentD c0 h0 j hj
  · have hidx : ∀ (p : Nat) (d : CL), (S.calls.set k { c with bor := v })[p]? = some d → ∃ d0, S.calls[p]? = some d0 ∧ d.lv = d0.lv := by
      intro p d hd
      rcases set_get _ _ _ _ _ hd with ⟨h1, h2, _⟩ | ⟨_, h2⟩
      · exact ⟨c, by rw [h1]; exact hc, by rw [h2]⟩
      · exact ⟨d, h2, rfl⟩
    intro p q d e h1 h2 hne b' hb'
    obtain ⟨d0, g1, g2⟩ := hidx p d h1
    obtain ⟨e0, g3, g4⟩ := hidx q e h2
    rw [g2] at hb'
    rw [g4]
    exact hT.lentN p q d0 e0 g1 g3 hne b' hb'
  · refine ⟨by simp [World.setCell], fun j hj hD => hold j hj (fun z => hD (z ▸ hT.calD b hb)), ⟨rfl, rfl, rfl⟩⟩
def AT.setBor (T : AT) (k : Nat) (v : Int) : AT := { T with calls := T.calls.set k { (T.calls.getD k ⟨0, 0, []⟩) with bor := v } }
def AT.bor (T : AT) (k : Nat) : Int := (T.calls.getD k ⟨0, 0, []⟩).bor
theorem bor_abs {S : Tb} {k : Nat} {c : CL} (v : Int) (hc : S.calls[k]? = some c) : ({ S with calls := S.calls.set k { c with bor := v } } : Tb).abs = S.abs.setBor k v ∧ S.abs.bor k = c.bor := by
  have : S.abs.calls.getD k ⟨0, 0, []⟩ = c.abs := by simp [Tb.abs, List.getD, hc]
  refine ⟨?_, by unfold AT.bor; rw [this]; rfl⟩
  unfold AT.setBor
  rw [this]
  unfold Tb.abs
  simp only [map_set]
  rfl
def AT.drop (T : AT) (i r h : Int) : Int × Bool × Int × AT := match T.get i r h with
  | none => (0, false, 17, T)
  | some e => if 0 < e.lends then (0, false, 18, T) else (e.rep, e.own, 0, (if e.own = true then T else T.setBor (e.call - 1).toNat (wrap64 (T.bor (e.call - 1).toNat - 1))).del i.toNat h)
/-- The same, at whatever world holds the tables. -/
theorem del_at {w : World} {g : Nat} {S : Tb} {D : Nat → Prop} (hT : HT w g S D) {i : Int} {h : Int} {x : Row} (h0 : 0 ≤ i) (h1 : i < (S.mbs.length : Int)) (hf : findR h (S.rows.getD i.toNat []) = some x) :
    ∃ b cap mb o, S.tv = .slice (some ⟨b, 0, none⟩) S.mbs.length cap ∧ ∀ (w1 : World) (g1 : Nat) (D1 : Nat → Prop), HT w1 g1 S D1 → w1.cell? ⟨b, i.toNat, none⟩ = some (.map (some mb)) ∧ (∀ ty, (Builtin.delete_ #[74, 3] ty #[.map (some mb), .int .i64 h]).run Try.prog w1 = .ok (.tuple #[]) (w1.putObj mb o)) ∧
      (∀ (b' k : Nat) v, w1.cell? ⟨b', k, none⟩ = some v → (w1.putObj mb o).cell? ⟨b', k, none⟩ = some v) ∧ (∃ S', HT (w1.putObj mb o) g1 S' D1 ∧ S'.abs = S.abs.del i.toNat h ∧ Fr w1 (w1.putObj mb o) D1) := by
  obtain ⟨b, cap, mb, xs, c, f1, f2, f3, f4, f5, f6, f7⟩ := hT.table h0 h1
  rw [f6] at hf
  obtain ⟨j, g1, g2⟩ := findR_idx hf
  obtain ⟨g3, g4⟩ := findR_mem hf
  have hlk : lookI h (xs.map Row.enc) 0 = some (j, .pointer (some ⟨x.eb, 0, none⟩)) := by rw [look_find, hf]; simp [g1]
  have hjl : j < (xs.map Row.enc).length := by rw [List.length_map]; exact (List.getElem?_eq_some_iff.1 g2).1
  refine ⟨b, cap, mb, mobj ((xs.map Row.enc).eraseIdx j) c, f1, fun w1 gg D1 hT1 => ?_⟩
  obtain ⟨b', cap', mb', xs', c', k1, k2, k3, k4, k5, k6, k7⟩ := hT1.table h0 h1
  obtain rfl : mb = mb' := Option.some.inj (f3.symm.trans k3)
  obtain rfl : xs = xs' := Option.some.inj (f4.symm.trans k4)
  obtain rfl : c = c' := Option.some.inj (f5.symm.trans k5)
  rw [f1] at k1
  injection k1 with k1 _ _
  injection k1 with k1
  injection k1 with k1
  subst k1
  refine ⟨k2, fun ty => run_delete_i Try.underlying74 Try.underlying3 k7 h j _ hlk hjl #[74, 3] ty rfl, fun b' k v hv => ?_, ?_⟩
  · have hne : b' ≠ mb := by
      rintro rfl
      unfold World.cell? at hv
      simp only [k7, mobj] at hv
      cases hv
    have : (w1.putObj mb (mobj ((xs.map Row.enc).eraseIdx j) c)).heap[b']? = w1.heap[b']? := putObj_other _ _ _ _ hne
    unfold World.cell? at hv ⊢
    rw [this]; exact hv
  · obtain ⟨q1, q2⟩ := del_HT (j := j) hT1 f3 f4 f5
    refine ⟨_, q1, ?_, q2⟩
    rw [del_abs f4 g2 (hT1.keysN xs (List.mem_of_getElem? f4)), g4]; rfl
set_option maxHeartbeats 16000000 in
set_option maxRecDepth 100000 in
theorem drop_calls {w : World} {g : Nat} {S : Tb} {D : Nat → Prop} (hT : HT w g S D) (i r h : Int) (hcall : ∀ e, S.abs.get i r h = some e → e.own = false → 1 ≤ e.call ∧ e.call ≤ (S.calls.length : Int)) :
    Calls Try.prog 27 #[.pointer (some ⟨g, 0, none⟩), .int .i64 i, .int .i64 r, .int .i64 h] w fun z w' => z = .returned (.tuple #[.int .i64 (S.abs.drop i r h).1, .bool (S.abs.drop i r h).2.1, .int .i64 (S.abs.drop i r h).2.2.1]) ∧ Aft w g D (S.abs.drop i r h).2.2.2 w' := by
  have hget := get_calls hT i r h
  obtain ⟨Am, cm, At, ct, Ac, cc, e1, e2, e3, hS⟩ := hT.ts
  have fin := fun m => hT.aft.drawn (w2 := w.drewN m) ⟨m, rfl⟩
  unfold AT.drop
  cases hg : S.get i r h with
  | none =>
    rw [get_none hT hg]
    rw [hg] at hget
    simp only [ptr] at hget
    go_enter Try.func27, Try.ntmps27
    go_wp2_with (first | (go_at_call 33; refine hget.mono ?_; rintro e w' ⟨rfl, m, rfl⟩))
    all_goals (refine bodyPost_ret (results_list (rs := [.tmp 8, .tmp 9, .tmp 10]) rfl (by simp) (.tmp (.tmp (.tmp .nil)))) rfl ?_; exact ⟨rfl, fin _⟩)
  | some x =>
    obtain ⟨hb, hf, hr, ha, hE⟩ := get_some hT hg
    have hcall := hcall _ ha
    rw [ha]
    rw [hg] at hget
    simp only [ptr] at hget
    obtain ⟨i0, i1, r0, r1⟩ := isB_true hb
    have k1 : w.cell? ⟨x.eb, 1, none⟩ = some (.int .i64 x.e.rep) := (blk_cell hE 1).trans rfl
    have k2 : w.cell? ⟨x.eb, 2, none⟩ = some (.bool x.e.own) := (blk_cell hE 2).trans rfl
    have k3 : w.cell? ⟨x.eb, 3, none⟩ = some (.int .i64 x.e.lends) := (blk_cell hE 3).trans rfl
    have k4 : w.cell? ⟨x.eb, 4, none⟩ = some (.int .i64 x.e.call) := (blk_cell hE 4).trans rfl
    by_cases hl : 0 < x.e.lends
    · simp only [if_pos hl]
      have hl' : decide (0 < x.e.lends) = true := decide_eq_true hl
      clear hl
      go_enter Try.func27, Try.ntmps27
      go_wp2_with (first | (go_at_call 33; refine hget.mono ?_; rintro e w' ⟨rfl, m, rfl⟩))
      all_goals (refine bodyPost_ret (results_list (rs := [.tmp 8, .tmp 9, .tmp 10]) rfl (by simp) (.tmp (.tmp (.tmp .nil)))) rfl ?_; exact ⟨rfl, fin _⟩)
    · simp only [if_neg hl]
      have hl' : decide (0 < x.e.lends) = false := decide_eq_false hl
      clear hl
      have c2 : w.cell? ⟨g, 2, none⟩ = some (.slice Ac S.calls.length cc) := (blk_cell hS 2).trans rfl
      have p0 : (0 ≤ i) = True := eq_true i0
      have p1 : (i < (S.mbs.length : Int)) = True := eq_true i1
      cases ho : x.e.own with
      | true =>
        rw [ho] at k2
        simp only [if_true]
        obtain ⟨b, cap, mb, o, f1, f2, f3, f4, f5⟩ := del_run hT i0 i1 hf
        rw [f1] at e2
        injection e2 with e2 _ e4
        subst e2; subst e4
        have c1 : w.cell? ⟨g, 1, none⟩ = some (.slice (some ⟨b, 0, none⟩) S.mbs.length cap) := (blk_cell hS 1).trans rfl
        have n1 := fun m => f4 m _ _ _ k1
        have n2 := fun m => f4 m _ _ _ k2
        clear i0 i1 r0 r1 f4
        have F5 := Aside0.mk f5
        clear f5 hE
        go_enter Try.func27, Try.ntmps27
        go_wp2_with (first | (go_at_call 33; refine hget.mono ?_; rintro e w' ⟨rfl, m, rfl⟩))
        repeat (go_quiet (fail); try go_wp2)
        all_goals (refine bodyPost_ret (results_list (rs := [.tmp 8, .tmp 9, .tmp 10]) rfl (by simp) (.tmp (.tmp (.tmp .nil)))) rfl ?_; obtain ⟨S', q1, q2, q3⟩ := F5.out _; exact ⟨rfl, Aft.drawn ⟨S', q1.imp (fun b h => .inl h), q2, q3⟩ (by repeat (first | exact Drawn0.refl _ | apply Drawn0.step))⟩)
      | false =>
        rw [ho] at k2
        simp only [Bool.false_eq_true, if_false]
        obtain ⟨a1, a2⟩ := hcall ho
        obtain ⟨k, hk⟩ : ∃ k : Nat, x.e.call = (k : Int) + 1 := ⟨(x.e.call - 1).toNat, by omega⟩
        have hkl : k < S.calls.length := by omega
        have hkt : (x.e.call - 1).toNat = k := by omega
        have hmx : S.calls.length ≤ 9223372036854775807 := own_max hT.cal
        have hw : wrap64 (x.e.call - 1) = (k : Int) := by rw [hk]; unfold wrap64; omega
        obtain ⟨bc, ccap, d1, d2, d3, d4⟩ := own_cells hT.cal (by omega)
        obtain ⟨cl, hcl⟩ : ∃ cl, S.calls[k]? = some cl := ⟨_, List.getElem?_eq_getElem hkl⟩
        have hbor : w.cell? ⟨bc, k * 3 + 1, none⟩ = some (.int .i64 cl.bor) := d4 _ _ (by rw [cells_get _ _ 1 _ hcl (by omega)]; rfl)
        obtain ⟨_, cur, hcur⟩ := own_lt hT.cal d3
        have hfr : w.frozen? ⟨bc, k * 3 + 1, none⟩ = false := blk_frozen hcur _
        rw [d1] at e3
        injection e3 with e3 _ e5
        subst e3; subst e5
        rw [hkt, (bor_abs (wrap64 (cl.bor - 1)) hcl).2]
        obtain ⟨b, cap, mb, o, f1, f5⟩ := del_at (bor_HT hT (wrap64 (cl.bor - 1)) hcl d3).1 i0 i1 hf
        have f1' : S.tv = .slice (some ⟨b, 0, none⟩) S.mbs.length cap := f1
        rw [f1'] at e2
        injection e2 with e2 _ e4
        subst e2; subst e4
        have hgb : g ≠ bc := blk_ne hT.top hcur (by decide)
        have heb : x.eb ≠ bc := blk_ne hE hcur (by decide)
        have p2 : (0 ≤ (k : Int)) = True := eq_true (Int.natCast_nonneg k)
        have p3 : ((k : Int) < (S.calls.length : Int)) = True := eq_true (by omega)
        have AB := (bor_abs (wrap64 (cl.bor - 1)) hcl).1
        rw [← AB]
        have far : ∀ m (b' j : Nat) v, b' ≠ bc → w.cell? ⟨b', j, none⟩ = some v → ((w.drewN m).setCell ⟨bc, k * 3 + 1, none⟩ (.int .i64 (wrap64 (cl.bor - 1)))).cell? ⟨b', j, none⟩ = some v := fun m b' j v hne hv => by
          unfold World.cell? at hv ⊢
          rw [show ((w.drewN m).setCell ⟨bc, k * 3 + 1, none⟩ (.int .i64 (wrap64 (cl.bor - 1)))).heap[b']? = w.heap[b']? from Below.heap_setCell _ _ _ _ hne]
          exact hv
        clear i0 i1 r0 r1 hcall hmx hkl hkt a1 a2 hk
        go_enter Try.func27, Try.ntmps27
        go_wp2_with (first | (go_at_call 33; refine hget.mono ?_; rintro e w' ⟨rfl, m, rfl⟩))
        go_region
        have HB := bor_HT (hT.drewN (m + 1)) (wrap64 (cl.bor - 1)) hcl d3
        obtain ⟨f2, f3, f4, f6⟩ := f5 _ g D HB.1
        have FB := Aside0.mk HB.2
        have F6 := Aside0.mk f6
        have c1 := far (m + 1) _ _ _ hgb ((blk_cell hS 1).trans rfl)
        have n1 := f4 _ _ _ (far (m + 1) _ _ _ heb k1)
        have n2 := f4 _ _ _ (far (m + 1) _ _ _ heb k2)
        clear HB f6 f4 f5 far hE
        go_wp2
        repeat (go_quiet (fail); try go_wp2)
        all_goals (refine bodyPost_ret (results_list (rs := [.tmp 8, .tmp 9, .tmp 10]) rfl (by simp) (.tmp (.tmp (.tmp .nil)))) rfl ?_; obtain ⟨S', q1, q2, q3⟩ := F6.out; exact ⟨rfl, Aft.drawn ⟨S', q1.imp (fun b h => .inl h), q2, Fr.from ((FB.out).trans q3 (fun _ _ h => h)) ⟨_, rfl⟩⟩ (by repeat (first | exact Drawn0.refl _ | apply Drawn0.step))⟩)
theorem map_inj_mem {α β : Type} {f : α → β} {l : List α} (hN : (l.map f).Nodup) {x y : α} (hx : x ∈ l) (hy : y ∈ l) (h : f x = f y) : x = y := by
  induction l with
  | nil => cases hx
  | cons a l ih =>
    rw [List.map_cons, List.nodup_cons] at hN
    rcases List.mem_cons.1 hx with hx1 | hx1
    · rcases List.mem_cons.1 hy with hy1 | hy1
      · rw [hx1, hy1]
      · exfalso
        apply hN.1
        rw [← hx1, h]
        exact List.mem_map_of_mem hy1
    · rcases List.mem_cons.1 hy with hy1 | hy1
      · exfalso
        apply hN.1
        rw [← hy1, ← h]
        exact List.mem_map_of_mem hx1
      · exact ih hN.2 hx1 hy1
theorem set_same {α : Type} (l : List α) (i : Nat) (a : α) (h : l[i]? = some a) : l.set i a = l := by
  apply List.ext_getElem?
  intro k
  rw [List.getElem?_set]
  split
  · rename_i e
    subst e
    have := (List.getElem?_eq_some_iff.1 h).1
    rw [if_pos this, h]
  · rfl
def Row.with (x : Row) (e : E) : Row := ⟨x.h, x.eb, x.born, e⟩
def Tb.setE (S : Tb) (i j : Nat) (x : Row) : Tb := { S with rows := S.rows.set i ((S.rows.getD i []).set j x) }
theorem ent_HT {w w' : World} {g : Nat} {S : Tb} {D : Nat → Prop} (hT : HT w g S D) {i j : Nat} {xs : List Row} {x : Row} (e : E) (f4 : S.rows[i]? = some xs) (hj : xs[j]? = some x) (hE : w'.heap[x.eb]? = some (.cells e.cells 69 (0, 0))) (hsz : w.heap.size ≤ w'.heap.size) (hold : ∀ k, k < w.heap.size → k ≠ x.eb → w'.heap[k]? = w.heap[k]?) (hio : Io w w') :
    HT w' g (S.setE i j (x.with e)) D ∧ Fr w w' D ∧ (S.setE i j (x.with e)).abs = { S.abs with tabs := S.abs.tabs.set i (updA (S.abs.tabs.getD i fun _ => none) x.h (some e)) } := by
  have hx : x ∈ xs := List.mem_of_getElem? hj
  have hxsm : xs ∈ S.rows := List.mem_of_getElem? f4
  have hcur := hT.ents xs hxsm x hx
  have hxs : S.rows.getD i [] = xs := by simp [List.getD, f4]
  have hmapS : ∀ {β : Type} (f : Row → β), f (x.with e) = f x → (xs.set j (x.with e)).map f = xs.map f := fun f hf => by
    rw [map_set, hf]; exact set_same _ _ _ (by rw [List.getElem?_map, hj]; rfl)
  have hflat : ((S.setE i j (x.with e)).rows.flatten).map Row.eb = (S.rows.flatten).map Row.eb := by
    unfold Tb.setE
    simp only [hxs]
    rw [List.map_flatten, List.map_flatten, map_set, hmapS Row.eb rfl, set_same _ _ _ (by rw [List.getElem?_map, f4]; rfl)]
  have hrows : ∀ ys ∈ (S.setE i j (x.with e)).rows, ys = xs.set j (x.with e) ∨ ys ∈ S.rows := by
    intro ys hy
    rcases List.mem_or_eq_of_mem_set hy with h | h
    · exact .inr h
    · exact .inl (by rw [h, hxs])
  have hnew : ∀ ys ∈ (S.setE i j (x.with e)).rows, ∀ z ∈ ys, z = x.with e ∨ ∃ zs ∈ S.rows, z ∈ zs := by
    intro ys hy z hz
    rcases hrows ys hy with rfl | h
    · rcases List.mem_or_eq_of_mem_set hz with h | h
      · exact .inr ⟨xs, hxsm, h⟩
      · exact .inl h
    · exact .inr ⟨ys, h, hz⟩
  have hxin : x.with e ∈ (S.setE i j (x.with e)).rows.flatten := by
    refine List.mem_flatten.2 ⟨xs.set j (x.with e), ?_, ?_⟩
    · unfold Tb.setE
      simp only [hxs]
      exact List.mem_of_getElem? (i := i) (by rw [List.getElem?_set_self]; exact (List.getElem?_eq_some_iff.1 f4).1)
    · exact List.mem_of_getElem? (i := j) (by rw [List.getElem?_set_self]; exact (List.getElem?_eq_some_iff.1 hj).1)
  have hN' : ((S.setE i j (x.with e)).rows.flatten.map Row.eb).Nodup := by rw [hflat]; exact hT.entsN
  refine ⟨{ top := keep_cells hcur hold (by decide) hT.top, topD := hT.topD, mkr := keep_own hcur hold (by decide) hT.mkr, mkD := hT.mkD, tab := keep_own hcur hold (by decide) hT.tab, tabD := hT.tabD, len1 := (by simp [Tb.setE, hT.len1]), len2 := hT.len2, mapsD := hT.mapsD, mapsN := hT.mapsN, cal := keep_own hcur hold (by decide) hT.cal, calD := hT.calD, lent := fun c hc => keep_own hcur hold (by decide) (hT.lent c hc), lentD := hT.lentD, lentN := hT.lentN, entsN := hN', maps := ?_, ents := ?_, entsD := ?_, keysN := ?_, keysR := ?_, born := ?_ }, ⟨hsz, fun k hk hD => hold k hk (fun z => hD (z ▸ hT.entsD xs hxsm x hx)), hio⟩, ?_⟩
  · intro k b ys c h1 h2 h3
    rcases set_get _ _ _ _ _ h2 with ⟨rfl, h4, _⟩ | ⟨hne, h4⟩
    · rw [h4, hxs, hmapS Row.enc rfl]
      exact keep_map hcur hold (hT.maps _ b xs c h1 f4 h3)
    · exact keep_map hcur hold (hT.maps k b ys c h1 h4 h3)
  · intro ys hy z hz
    by_cases hzb : z.eb = x.eb
    · have : z = x.with e := map_inj_mem hN' (List.mem_flatten.2 ⟨ys, hy, hz⟩) hxin hzb
      rw [this]; exact hE
    · rcases hnew ys hy z hz with rfl | ⟨zs, h1, h2⟩
      · exact absurd rfl hzb
      · have := hT.ents zs h1 z h2
        exact (hold _ (blk_lt this) hzb).trans this
  · intro ys hy z hz
    rcases hnew ys hy z hz with rfl | ⟨zs, h1, h2⟩
    · exact hT.entsD xs hxsm x hx
    · exact hT.entsD zs h1 z h2
  · intro ys hy
    rcases hrows ys hy with rfl | h
    · rw [hmapS Row.h rfl]; exact hT.keysN xs hxsm
    · exact hT.keysN ys h
  · intro ys hy z hz
    rcases hnew ys hy z hz with rfl | ⟨zs, h1, h2⟩
    · exact hT.keysR xs hxsm x hx
    · exact hT.keysR zs h1 z h2
  · intro k ys c h2 h3
    rcases set_get _ _ _ _ _ h2 with ⟨rfl, h4, _⟩ | ⟨hne, h4⟩
    · obtain ⟨b1, b2⟩ := hT.born _ xs c f4 h3
      rw [h4, hxs]
      refine ⟨by rw [hmapS Row.born rfl]; exact b1, fun z hz => ?_⟩
      rcases List.mem_or_eq_of_mem_set hz with h | h
      · exact b2 z h
      · rw [h]; exact b2 x hx
    · exact hT.born k ys c h4 h3
  · rw [tabs_at f4]
    have hN := hT.keysN xs hxsm
    have hu : absR (xs.set j (x.with e)) = updA (absR xs) x.h (some e) := by
      have hN2 : ((xs.set j (x.with e)).map Row.h).Nodup := by rw [hmapS Row.h rfl]; exact hN
      have hin : x.with e ∈ xs.set j (x.with e) := List.mem_of_getElem? (i := j) (by rw [List.getElem?_set_self]; exact (List.getElem?_eq_some_iff.1 hj).1)
      funext k
      unfold absR updA
      by_cases hk : k = x.h
      · rw [if_pos hk, hk, (findR_iff hN2 x.h (x.with e)).2 ⟨hin, rfl⟩]; rfl
      · rw [if_neg hk]
        congr 1
        apply Option.ext
        intro y
        rw [findR_iff hN2, findR_iff hN]
        constructor
        · rintro ⟨h1, h2⟩
          refine ⟨?_, h2⟩
          rcases List.mem_or_eq_of_mem_set h1 with h | h
          · exact h
          · exact absurd (by rw [← h2, h]; rfl) hk
        · rintro ⟨h1, h2⟩
          refine ⟨?_, h2⟩
          obtain ⟨n, hn⟩ := List.getElem?_of_mem h1
          have : n ≠ j := by
            rintro rfl
            rw [hn] at hj
            injection hj with hj
            exact hk (by rw [← h2, hj])
          exact List.mem_of_getElem? (i := n) (by rw [List.getElem?_set_ne (Ne.symm this)]; exact hn)
    unfold Tb.setE Tb.abs
    simp only [hxs, map_set, hu]
theorem cells_setL (cs : List CL) (k : Nat) (c : CL) (v : Value) (l : List (Int × Int)) (h : cs[k]? = some c) : (cs.flatMap CL.cells).set (k * 3 + 2) v = (cs.set k ⟨c.i, c.bor, v, l⟩).flatMap CL.cells := by
  induction cs generalizing k with
  | nil => cases h
  | cons a cs ih =>
    cases k with
    | zero =>
      injection h with h
      subst h
      rfl
    | succ k =>
      rw [List.flatMap_cons, List.set_cons_succ, List.flatMap_cons, ← ih k h]
      have : (k + 1) * 3 + 2 = (k * 3 + 2) + 3 := by omega
      rw [this, List.set_append, if_neg (by show ¬ _ < 3; omega)]
      congr 1
def lentVals (l : List (Int × Int)) : List Value := l.flatMap fun p => [Value.int .i64 p.1, Value.int .i64 p.2]
theorem lent_HT {w w1 : World} {g : Nat} {S : Tb} {D : Nat → Prop} (hT : HT w g S D) {k b : Nat} {c : CL} {lv' : Value} {l' : List (Int × Int)} (hc : S.calls[k]? = some c) (hb : S.cv.ownBlock = some b)
    (hg : w.grownBy w1 c.lv.ownBlock) (hown : w1.ownsRow 0 96 2 lv' l'.length (lentVals l')) (hat : lv'.ownBlock = c.lv.ownBlock ∨ ∃ m, lv'.ownBlock = some m ∧ w.heap.size ≤ m) :
    HT (w1.setCell ⟨b, k * 3 + 2, none⟩ lv') g { S with calls := S.calls.set k ⟨c.i, c.bor, lv', l'⟩ } (Dn D w.heap.size) ∧ Fr w (w1.setCell ⟨b, k * 3 + 2, none⟩ lv') D := by
  obtain ⟨hlt, cur, hcur⟩ := own_lt hT.cal hb
  have hcm : c ∈ S.calls := List.mem_of_getElem? hc
  have hkl : k < S.calls.length := (List.getElem?_eq_some_iff.1 hc).1
  -- a block of the old world that is neither the calls' nor this call's
  have hold : ∀ j, j < w.heap.size → j ≠ b → (∀ q, c.lv.ownBlock = some q → j ≠ q) → (w1.setCell ⟨b, k * 3 + 2, none⟩ lv').heap[j]? = w.heap[j]? := fun j hj hne hq =>
    (Below.heap_setCell w1 _ _ j hne).trans (hg.block j hj (fun z => hq j z.symm rfl))
  have hlb : ∀ q, c.lv.ownBlock = some q → ∃ cu, w.heap[q]? = some (Obj.cells cu 96 (0, 0)) := fun q hq => (own_lt (hT.lent c hcm) hq).2
  have kc : ∀ {j : Nat} {cs : Array Value} {t : TypeId}, t ≠ 94 → t ≠ 96 → w.heap[j]? = some (Obj.cells cs t (0, 0)) → (w1.setCell ⟨b, k * 3 + 2, none⟩ lv').heap[j]? = some (Obj.cells cs t (0, 0)) := fun {j cs t} h1 h2 h =>
    (hold j (blk_lt h) (blk_ne h hcur h1) (fun q hq => by obtain ⟨cu, hcu⟩ := hlb q hq; exact blk_ne h hcu h2)).trans h
  have ko : ∀ {base e size n : Nat} {v : Value} {xs : List Value}, e ≠ 94 → e ≠ 96 → w.ownsRow base e size v n xs → (w1.setCell ⟨b, k * 3 + 2, none⟩ lv').ownsRow base e size v n xs := fun h1 h2 h => own_same h fun q hq => by
    obtain ⟨_, cu, hcu⟩ := own_lt h hq
    rw [hcu]; exact kc h1 h2 hcu
  have hbb : ∀ q, c.lv.ownBlock = some q → b ≠ q := fun q hq => by obtain ⟨cu, hcu⟩ := hlb q hq; exact blk_ne hcur hcu (by decide)
  have hb1 : w1.heap[b]? = w.heap[b]? := hg.block b hlt (fun z => hbb b z.symm rfl)
  have hlv : ∀ q, lv'.ownBlock = some q → q ≠ b := by
    intro q hq z
    subst z
    rcases hat with h | ⟨m, h1, h2⟩
    · exact hbb q (h ▸ hq) rfl
    · rw [h1] at hq
      injection hq with hq
      omega
  refine ⟨{ top := kc (by decide) (by decide) hT.top, topD := .inl hT.topD, mkr := ko (by decide) (by decide) hT.mkr, mkD := fun q h => .inl (hT.mkD q h), tab := ko (by decide) (by decide) hT.tab, tabD := fun q h => .inl (hT.tabD q h), len1 := hT.len1, len2 := hT.len2, mapsD := fun q h => .inl (hT.mapsD q h), mapsN := hT.mapsN, ents := fun xs h1 x h2 => kc (by decide) (by decide) (hT.ents xs h1 x h2), entsD := fun xs h1 x h2 => .inl (hT.entsD xs h1 x h2), entsN := hT.entsN, keysN := hT.keysN, keysR := hT.keysR, born := hT.born, calD := fun q h => .inl (hT.calD q h), maps := ?_, cal := ?_, lent := ?_, lentD := ?_, lentN := ?_ }, ?_⟩
  · intro j q xs ck h1 h2 h3
    have h := hT.maps j q xs ck h1 h2 h3
    exact (hold q (blk_lt h) (fun z => by rw [z, hcur] at h; injection h with h; cases h) (fun q' hq' => by obtain ⟨cu, hcu⟩ := hlb q' hq'; rintro rfl; rw [hcu] at h; injection h with h; cases h)).trans h
  · have h1 : w1.ownsRow 0 94 3 S.cv S.calls.length (S.calls.flatMap CL.cells) := own_same hT.cal fun q hq => by
      rw [hb] at hq
      injection hq with hq
      subst hq
      exact hb1
    have h2 := own_set (u := lv') (j := k * 3 + 2) h1 hb (by rw [cells_len]; omega)
    rw [cells_setL _ _ _ _ l' hc] at h2
    show World.ownsRow _ 0 94 3 S.cv (S.calls.set k ⟨c.i, c.bor, lv', l'⟩).length _
    rw [List.length_set]; exact h2
  · intro d hd
    obtain ⟨p, hp⟩ := List.getElem?_of_mem hd
    rcases set_get _ _ _ _ _ hp with ⟨_, h2, _⟩ | ⟨hne, h2⟩
    · rw [h2]
      exact own_same hown fun q hq => Below.heap_setCell w1 _ _ q (hlv q hq)
    · refine own_same (hT.lent d (List.mem_of_getElem? h2)) fun q hq => ?_
      obtain ⟨hq1, cu, hcu⟩ := own_lt (hT.lent d (List.mem_of_getElem? h2)) hq
      exact hold q hq1 (blk_ne hcu hcur (by decide)) (fun q' hq' z => hT.lentN p k d c h2 hc hne q hq (z ▸ hq'))
  · intro d hd q hq
    obtain ⟨p, hp⟩ := List.getElem?_of_mem hd
    rcases set_get _ _ _ _ _ hp with ⟨_, h2, _⟩ | ⟨hne, h2⟩
    · rw [h2] at hq
      rcases hat with h | ⟨m, h1, h3⟩
      · exact .inl (hT.lentD c hcm q (h ▸ hq))
      · replace hq : lv'.ownBlock = some q := hq
        rw [h1] at hq
        injection hq with hq
        exact .inr (by omega)
    · exact .inl (hT.lentD d (List.mem_of_getElem? h2) q hq)
  · intro p q d e hp hq hne b' hb'
    have hlt' : ∀ (p' : Nat) (d' : CL), S.calls[p']? = some d' → ∀ x, d'.lv.ownBlock = some x → x < w.heap.size := fun p' d' h x hx => (own_lt (hT.lent d' (List.mem_of_getElem? h)) hx).1
    rcases set_get _ _ _ _ _ hp with ⟨h1, h2, _⟩ | ⟨h1, h2⟩
    · rcases set_get _ _ _ _ _ hq with ⟨h3, h4, _⟩ | ⟨h3, h4⟩
      · exact absurd (h1.trans h3.symm) hne
      · rw [h2] at hb'
        replace hb' : lv'.ownBlock = some b' := hb'
        rcases hat with h | ⟨m, h5, h6⟩
        · exact hT.lentN k q c e hc h4 (fun z => h3 z.symm) b' (h ▸ hb')
        · rw [h5] at hb'
          injection hb' with hb'
          intro z
          have := hlt' q e h4 b' z
          omega
    · rcases set_get _ _ _ _ _ hq with ⟨h3, h4, _⟩ | ⟨h3, h4⟩
      · rw [h4]
        show lv'.ownBlock ≠ some b'
        rcases hat with h | ⟨m, h5, h6⟩
        · rw [h]; exact hT.lentN p k d c h2 hc h1 b' hb'
        · rw [h5]
          intro z
          injection z with z
          have := hlt' p d h2 b' hb'
          omega
      · exact hT.lentN p q d e h2 h4 hne b' hb'
  · refine ⟨by have := hg.size; simpa [World.setCell] using this, fun j hj hD => hold j hj (fun z => hD (z ▸ hT.calD b hb)) (fun q hq z => hD (z ▸ hT.lentD c hcm q hq)), ⟨hg.os, hg.tape, hg.output⟩⟩
/-- 'append' by its run's equation. -/
theorem wpList_append_eq {P : Program} {ops : Array Oper} {rest : List Oper} {o : Oper} {a : Act} {w w' : World} {Q : Exit → Act → World → Prop} (hgd : o.guard = none) (s x : Operand) (t : TypeId)
    (ho : o.op = .call { callee := .builtin .append, args := #[s, x], argTypes := #[t, t] }) {v sv v' : Value} (hs : a.eval s = v) (hx : a.eval x = sv)
    (hr : (Builtin.append_ #[t, t] o.type #[v, sv]).run P w = .ok v' w') (h : wpList P ops Q rest (a.put o.dst v') w') : wpList P ops Q (o :: rest) a w := by
  refine wpList_plain hgd fun K hK => ?_
  unfold Oper.wp execOp
  simp only [ho, resolve, invoke, builtin, Sem.run_bind, Sem.run_pure, Result.andThen_ok, List.map_toArray, List.map_cons, List.map_nil, hs, hx, hr]
  exact hK _ _ h
theorem info96 : (Try.prog.info? 96).map (fun i => (i.zero, i.size, i.bytes)) = some (some (.agg #[.int .i64 0, .int .i64 0]), 2, 16) := by kernel_rfl
theorem two_new (w : World) (x y : Value) (t : TypeId) : ∀ j u, [x, y][j]? = some u → (w.alloc (.cells #[x, y] t)).cell? ((⟨w.heap.size, 0, none⟩ : Addr).add j) = some u := by
  intro j u hj
  rw [add_at, Nat.zero_add, cell_of_row _ _ j #[x, y] t (0, 0) (heap_alloc_new w _)]
  rw [← Array.getElem?_toList]; exact hj
theorem lent_append {w : World} {v : Value} {l : List (Int × Int)} (hown : w.ownsRow 0 96 2 v l.length (lentVals l)) (i h : Int) (hl : l.length < 1000000) (ty : TypeId) :
    ∃ v' w', (Builtin.append_ #[92, 92] ty #[v, .slice (some ⟨w.heap.size, 0, none⟩) 1 1]).run Try.prog (w.alloc (.cells #[.int .i64 i, .int .i64 h] 96)) = .ok v' w' ∧ w'.ownsRow 0 96 2 v' (l ++ [(i, h)]).length (lentVals (l ++ [(i, h)])) ∧ w.grownBy w' v.ownBlock ∧ (v'.ownBlock = v.ownBlock ∨ ∃ m, v'.ownBlock = some m ∧ w.heap.size ≤ m) ∧ ∃ A c, v' = .slice A (l.length + 1) c := by
  obtain ⟨i0, hi, hz0, hz1, hz2⟩ := info_parts info96
  obtain ⟨v', w', h1, h2, h3, h4, h5⟩ := run_append_own_at (P := Try.prog) (w := w.alloc (.cells #[.int .i64 i, .int .i64 h] 96)) 0 92 ty 96 i0 _ 2 16 Try.underlying92 hi hz0 hz1 hz2 rfl (by decide) v l.length (lentVals l)
    (own_same hown fun k hk => heap_alloc_old w _ (own_lt hown hk).1) ⟨w.heap.size, 0, none⟩ 1 1 [.int .i64 i, .int .i64 h] rfl (two_new w _ _ _) (by simp [Value.oneCell']) (by simp only [maxLen]; omega) (by omega) (Nat.zero_le _)
  have he : lentVals (l ++ [(i, h)]) = lentVals l ++ [.int .i64 i, .int .i64 h] := by simp [lentVals]
  refine ⟨v', w', h1, by rw [he, List.length_append]; exact h2, (World.grownBy_alloc w _ _).trans h3, ?_, own_slice h2⟩
  rcases h5 with h | h
  · exact .inl h
  · refine .inr ⟨_, h, ?_⟩
    show w.heap.size ≤ (w.heap.push _).size
    simp
def AT.lastC (T : AT) : AC := T.calls.getD (T.calls.length - 1) ⟨0, 0, []⟩
def AT.lent (T : AT) (i h : Int) (e : E) : AT := { T with
  tabs := T.tabs.set i.toNat (updA (T.tabs.getD i.toNat fun _ => none) h (some { e with lends := wrap64 (e.lends + 1) })),
  calls := T.calls.set (T.calls.length - 1) { T.lastC with lent := T.lastC.lent ++ [(i, h)] } }
def AT.lend (T : AT) (i r h : Int) : Int × Int × AT := match T.get i r h with
  | none => (0, 17, T)
  | some e => if T.calls.length = 0 then (0, 17, T) else (e.rep, 0, T.lent i h e)
set_option maxHeartbeats 16000000 in
set_option maxRecDepth 100000 in
theorem lend_calls {w : World} {g : Nat} {S : Tb} {D : Nat → Prop} (hT : HT w g S D) (i r h : Int) (hlen : ∀ c ∈ S.calls, c.lent.length < 1000000) :
    Calls Try.prog 26 #[.pointer (some ⟨g, 0, none⟩), .int .i64 i, .int .i64 r, .int .i64 h] w fun z w' => z = .returned (.tuple #[.int .i64 (S.abs.lend i r h).1, .int .i64 (S.abs.lend i r h).2.1]) ∧ Aft w g D (S.abs.lend i r h).2.2 w' := by
  have hget := get_calls hT i r h
  obtain ⟨Am, cm, At, ct, Ac, cc, e1, e2, e3, hS⟩ := hT.ts
  have fin := fun m => hT.aft.drawn (w2 := w.drewN m) ⟨m, rfl⟩
  have hcl : S.abs.calls.length = S.calls.length := by simp [Tb.abs]
  unfold AT.lend
  rw [hcl]
  cases hg : S.get i r h with
  | none =>
    rw [get_none hT hg]
    rw [hg] at hget
    simp only [ptr] at hget
    go_enter Try.func26, Try.ntmps26
    go_wp2_with (first | (go_at_call 33; refine hget.mono ?_; rintro e w' ⟨rfl, m, rfl⟩))
    all_goals (go_ret2; exact ⟨rfl, fin _⟩)
  | some x =>
    obtain ⟨hb, hf, hr, ha, hE⟩ := get_some hT hg
    rw [ha]
    rw [hg] at hget
    simp only [ptr] at hget
    obtain ⟨i0, i1, r0, r1⟩ := isB_true hb
    have c2 : w.cell? ⟨g, 2, none⟩ = some (.slice Ac S.calls.length cc) := (blk_cell hS 2).trans rfl
    by_cases hn : S.calls.length = 0
    · simp only [if_pos hn]
      have hn' : ((S.calls.length : Int) == 0) = true := by simp [hn]
      clear hn
      go_enter Try.func26, Try.ntmps26
      go_wp2_with (first | (go_at_call 33; refine hget.mono ?_; rintro e w' ⟨rfl, m, rfl⟩))
      all_goals (go_ret2; exact ⟨rfl, fin _⟩)
    · simp only [if_neg hn]
      have hn' : ((S.calls.length : Int) == 0) = false := by simpa using hn
      have k3 : w.cell? ⟨x.eb, 3, none⟩ = some (.int .i64 x.e.lends) := (blk_cell hE 3).trans rfl
      have k3f : w.frozen? ⟨x.eb, 3, none⟩ = false := blk_frozen hE 3
      go_enter Try.func26, Try.ntmps26
      go_upto_region 5 with (first | (go_at_call 33; refine hget.mono ?_; rintro e w' ⟨rfl, m, rfl⟩))
      obtain ⟨tb, tcap, mb, xs, c, f1, f2, f3, f4, f5, f6, f7⟩ := hT.table i0 i1
      rw [f6] at hf
      obtain ⟨j, g1, g2⟩ := findR_idx hf
      obtain ⟨g3, g4⟩ := findR_mem hf
      have HE := ent_HT (w' := (w.drewN m).setCell ⟨x.eb, 3, none⟩ (.int .i64 (wrap64 (x.e.lends + 1)))) (hT.drewN m) { x.e with lends := wrap64 (x.e.lends + 1) } f4 g2 (blk_put (w := w.drewN m) hE 3 _ rfl) (by simp [World.setCell]) (fun q _ hne => Below.heap_setCell _ _ _ q hne) ⟨rfl, rfl, rfl⟩
      generalize hw2 : (w.drewN m).setCell ⟨x.eb, 3, none⟩ (.int .i64 (wrap64 (x.e.lends + 1))) = w2 at HE ⊢
      obtain ⟨HE1, HE2, HE3⟩ := HE
      obtain ⟨k, hk⟩ : ∃ k, S.calls.length = k + 1 := ⟨S.calls.length - 1, by omega⟩
      have hmx : S.calls.length ≤ 9223372036854775807 := own_max hT.cal
      have hw : wrap64 ((S.calls.length : Int) - 1) = (k : Int) := by rw [hk]; unfold wrap64; omega
      have hkl : k < S.calls.length := by omega
      obtain ⟨bc, ccap, d1, d2, d3, d4⟩ := own_cells HE1.cal (show 0 < S.calls.length by omega)
      replace d1 : S.cv = .slice (some ⟨bc, 0, none⟩) S.calls.length ccap := d1
      replace d3 : S.cv.ownBlock = some bc := d3
      obtain ⟨cl, hcl'⟩ : ∃ cl, S.calls[k]? = some cl := ⟨_, List.getElem?_eq_getElem hkl⟩
      have q2 : w2.cell? ⟨g, 2, none⟩ = some (.slice (some ⟨bc, 0, none⟩) S.calls.length ccap) := by rw [← d1]; exact (blk_cell HE1.top 2).trans rfl
      have q3 : w2.cell? ⟨bc, k * 3 + 2, none⟩ = some cl.lv := d4 _ _ (by show (S.calls.flatMap CL.cells)[k * 3 + 2]? = _; rw [cells_get _ _ 2 _ hcl' (by omega)]; rfl)
      have q4 : w2.cell? ⟨x.eb, 1, none⟩ = some (.int .i64 x.e.rep) := by rw [← hw2]; exact (blk_cell (blk_put (w := w.drewN m) hE 3 (.int .i64 (wrap64 (x.e.lends + 1))) rfl) 1).trans rfl
      have p2 : (0 ≤ (k : Int)) = True := eq_true (Int.natCast_nonneg k)
      have p3 : ((k : Int) < (S.calls.length : Int)) = True := eq_true (by omega)
      clear hget c2 k3 k3f
      go_quiet (fail)
      have HT3 := HE1.drewN nq
      have r3 : (w2.drewN nq).cell? ⟨bc, k * 3 + 2, none⟩ = some cl.lv := q3
      have r4 : (w2.drewN nq).cell? ⟨x.eb, 1, none⟩ = some (.int .i64 x.e.rep) := q4
      have hFr : Fr w (w2.drewN nq) D := (Fr.drawn HE2 ⟨nq, rfl⟩).from ⟨m, rfl⟩
      have hEb : ∃ cu, (w2.drewN nq).heap[x.eb]? = some (Obj.cells cu 69 (0, 0)) := ⟨_, by rw [← hw2]; exact blk_put (w := w.drewN m) hE 3 (.int .i64 (wrap64 (x.e.lends + 1))) rfl⟩
      generalize w2.drewN nq = w3 at HT3 r3 r4 hFr hEb ⊢
      have hcm : cl ∈ S.calls := List.mem_of_getElem? hcl'
      obtain ⟨v', w4, a1, a2, a3, a4, A', c', rfl⟩ := lent_append (HT3.lent cl hcm) i h (hlen cl hcm) 92
      obtain ⟨hlt, cur, hcur⟩ := own_lt HT3.cal (show S.cv.ownBlock = some bc from d3)
      have hnl : ∀ q, cl.lv.ownBlock = some q → ∃ cu, w3.heap[q]? = some (Obj.cells cu 96 (0, 0)) := fun q hq => (own_lt (HT3.lent cl hcm) hq).2
      have hb4 : w4.heap[bc]? = some (Obj.cells cur 94 (0, 0)) := (a3.block bc hlt (fun z => by obtain ⟨cu, hcu⟩ := hnl bc z.symm; rw [hcur] at hcu; cases hcu)).trans hcur
      obtain ⟨cu, hcu⟩ := hEb
      have hx4 : w4.heap[x.eb]? = w3.heap[x.eb]? := a3.block x.eb (blk_lt hcu) (fun z => by obtain ⟨cu', hcu'⟩ := hnl x.eb z.symm; rw [hcu] at hcu'; cases hcu')
      have s3 : w4.cell? ⟨bc, k * 3 + 2, none⟩ = some cl.lv := by
        rw [blk_cell hb4, ← blk_cell hcur]; exact r3
      have s3f : w4.frozen? ⟨bc, k * 3 + 2, none⟩ = false := blk_frozen hb4 _
      have s4 : (w4.setCell ⟨bc, k * 3 + 2, none⟩ (.slice A' (cl.lent.length + 1) c')).cell? ⟨x.eb, 1, none⟩ = some (.int .i64 x.e.rep) := by
        unfold World.cell? at r4 ⊢
        rw [show (w4.setCell ⟨bc, k * 3 + 2, none⟩ (.slice A' (cl.lent.length + 1) c')).heap[x.eb]? = w3.heap[x.eb]? from (Below.heap_setCell _ _ _ _ (blk_ne hcu hcur (by decide))).trans hx4]
        exact r4
      have HL := lent_HT (l' := cl.lent ++ [(i, h)]) HT3 hcl' d3 a3 a2 a4
      have H5 := Aside0.mk HL
      clear HL hcu hx4 hb4 hcur hnl HT3 hE
      have A1 := Aside0.mk a1
      clear a1
      go_wp2_with (first | (at_builtin; refine wpList_append_eq rfl _ _ 92 rfl rfl rfl A1.out ?_))
      go_ret2
      obtain ⟨q1, q2⟩ := H5.out
      refine ⟨rfl, _, q1.imp (fun b hb => hb.imp id (fun z => Nat.le_trans hFr.1 z)), ?_, hFr.trans q2 (fun _ _ h => h)⟩
      have hlast : S.abs.lastC = cl.abs := by
        unfold AT.lastC
        rw [hcl, hk]
        simp [Tb.abs, List.getD, hcl']
      unfold AT.lent
      rw [hlast, hcl, hk]
      have h1 : (S.setE i.toNat j (x.with { x.e with lends := wrap64 (x.e.lends + 1) })).abs.tabs = S.abs.tabs.set i.toNat (updA (S.abs.tabs.getD i.toNat fun _ => none) x.h (some { x.e with lends := wrap64 (x.e.lends + 1) })) := by rw [HE3]
      rw [← g4, ← h1]
      unfold Tb.abs
      simp only [map_set, Nat.add_sub_cancel]
      rfl
def AT.lend1 (T : AT) (p : Int × Int × AT) : Int × Int × AT := if p.2.1 = 0 then (p.1, p.2.1, p.2.2.setBor (T.calls.length - 1) (wrap64 (p.2.2.bor (T.calls.length - 1) + 1))) else p
def AT.borrow (T : AT) (i r n : Int) : Int × Int × AT := if T.is i r = true then if T.calls.length = 0 then (0, 17, T) else if wholeB n = true then if T.mak r = i then (n, 0, T) else T.lend1 (T.put i.toNat ⟨r, n, false, 0, (T.calls.length : Int)⟩) else (0, 17, T) else (0, 17, T)
theorem put_calls_same (T : AT) (i : Nat) (e : E) : (T.put i e).2.2.calls = T.calls := by unfold AT.put; split <;> rfl
set_option maxHeartbeats 16000000 in
set_option maxRecDepth 100000 in
theorem borrow_calls {w : World} {g : Nat} {S : Tb} {D : Nat → Prop} (hT : HT w g S D) (i r n : Int) :
    Calls Try.prog 29 #[.pointer (some ⟨g, 0, none⟩), .int .i64 i, .int .i64 r, .int .i64 n] w fun z w' => z = .returned (.tuple #[.int .i64 (S.abs.borrow i r n).1, .int .i64 (S.abs.borrow i r n).2.1]) ∧ Aft w g D (S.abs.borrow i r n).2.2 w' := by
  obtain ⟨Am, cm, At, ct, Ac, cc, e1, e2, e3, hS⟩ := hT.ts
  have his := is_calls i r hS
  have hwh := fun W => whole_calls n W
  have fin := hT.aft
  have hcl : S.abs.calls.length = S.calls.length := by simp [Tb.abs]
  have c2 : w.cell? ⟨g, 2, none⟩ = some (.slice Ac S.calls.length cc) := (blk_cell hS 2).trans rfl
  unfold AT.borrow
  rw [abs_is hT, hcl]
  cases hb : isB i r S.mbs.length S.mkr.length with
  | false =>
    rw [if_neg (by decide)]
    rw [hb] at his
    go_enter Try.func29, Try.ntmps29
    go_wp2_with (first | (go_at_call 50; refine his.mono ?_; rintro e w' ⟨rfl, rfl⟩))
    go_ret2
    exact ⟨rfl, fin⟩
  | true =>
    rw [if_pos rfl]
    rw [hb] at his
    obtain ⟨i0, i1, r0, r1⟩ := isB_true hb
    by_cases hn : S.calls.length = 0
    · rw [if_pos hn]
      have hn' : ((S.calls.length : Int) == 0) = true := by simp [hn]
      clear hn
      go_enter Try.func29, Try.ntmps29
      go_wp2_with (first | (go_at_call 50; refine his.mono ?_; rintro e w' ⟨rfl, rfl⟩))
      go_ret2
      exact ⟨rfl, fin⟩
    · rw [if_neg hn]
      have hn' : ((S.calls.length : Int) == 0) = false := by simpa using hn
      cases hw : wholeB n with
      | false =>
        rw [if_neg (by decide)]
        go_enter Try.func29, Try.ntmps29
        go_wp2_with (first | (go_at_call 50; refine his.mono ?_; rintro e w' ⟨rfl, rfl⟩) | (go_at_call 51; refine (hwh _).mono ?_; rw [hw]; rintro e w' ⟨rfl, rfl⟩))
        go_ret2
        exact ⟨rfl, fin⟩
      | true =>
        rw [if_pos rfl]
        obtain ⟨b, cap, f1, f2⟩ := maker_cell hT r0 r1
        rw [f1] at e1
        injection e1 with e1 _ e4
        subst e1; subst e4
        have c0 : w.cell? ⟨g, 0, none⟩ = some (.slice (some ⟨b, 0, none⟩) S.mkr.length cap) := (blk_cell hS 0).trans rfl
        have p0 : (0 ≤ r) = True := eq_true r0
        have p1 : (r < (S.mkr.length : Int)) = True := eq_true r1
        generalize S.abs.mak r = mr at f2 ⊢
        by_cases hm : mr = i
        · rw [if_pos hm]
          have hm' : (mr == i) = true := by simpa using hm
          clear hm
          go_enter Try.func29, Try.ntmps29
          go_wp2_with (first | (go_at_call 50; refine his.mono ?_; rintro e w' ⟨rfl, rfl⟩) | (go_at_call 51; refine (hwh _).mono ?_; rw [hw]; rintro e w' ⟨rfl, rfl⟩))
          go_ret2
          exact ⟨rfl, fin⟩
        · rw [if_neg hm]
          have hm' : (mr == i) = false := by simpa using hm
          clear hm
          have hput := put_calls hT i ⟨r, n, false, 0, (S.calls.length : Int)⟩ i0 i1
          have hsame := put_calls_same S.abs i.toNat ⟨r, n, false, 0, (S.calls.length : Int)⟩
          unfold E.cells at hput
          dsimp only at hput
          generalize hp : S.abs.put i.toNat ⟨r, n, false, 0, (S.calls.length : Int)⟩ = p at hput hsame ⊢
          unfold AT.lend1
          rw [hcl]
          by_cases hz : p.2.1 = 0
          · rw [if_pos hz]
            have hz' : (p.2.1 == 0) = true := by simpa using hz
            go_enter Try.func29, Try.ntmps29
            go_upto_region 7 with (first | (go_at_call 50; refine his.mono ?_; rintro e w' ⟨rfl, rfl⟩) | (go_at_call 51; refine (hwh _).mono ?_; rw [hw]; rintro e w' ⟨rfl, rfl⟩) | (go_at_call 52; refine hput.mono ?_; rintro z w2 ⟨rfl, S', q1, q2, q3, q4⟩))
            have hlen : S'.calls.length = S.calls.length := by
              have := congrArg List.length (congrArg AT.calls q2)
              rw [hsame, hcl] at this
              simpa [Tb.abs] using this
            obtain ⟨k, hk⟩ : ∃ k, S'.calls.length = k + 1 := ⟨S'.calls.length - 1, by omega⟩
            have hmx : S'.calls.length ≤ 9223372036854775807 := own_max q1.cal
            have hwr : wrap64 ((S'.calls.length : Int) - 1) = (k : Int) := by rw [hk]; unfold wrap64; omega
            have hkl : k < S'.calls.length := by omega
            have hk1 : S.calls.length - 1 = k := by omega
            obtain ⟨bc, ccap, d1, d2, d3, d4⟩ := own_cells q1.cal (show 0 < S'.calls.length by omega)
            obtain ⟨cl, hcl'⟩ : ∃ cl, S'.calls[k]? = some cl := ⟨_, List.getElem?_eq_getElem hkl⟩
            have u2 : w2.cell? ⟨g, 2, none⟩ = some (.slice (some ⟨bc, 0, none⟩) S'.calls.length ccap) := by rw [← d1]; exact (blk_cell q1.top 2).trans rfl
            have u3 : w2.cell? ⟨bc, k * 3 + 1, none⟩ = some (.int .i64 cl.bor) := d4 _ _ (by rw [cells_get _ _ 1 _ hcl' (by omega)]; rfl)
            obtain ⟨_, cur, hcur⟩ := own_lt q1.cal d3
            have u3f : w2.frozen? ⟨bc, k * 3 + 1, none⟩ = false := blk_frozen hcur _
            have p2 : (0 ≤ (k : Int)) = True := eq_true (Int.natCast_nonneg k)
            have p3 : ((k : Int) < (S'.calls.length : Int)) = True := eq_true (by omega)
            have hB1 := (bor_abs (wrap64 (cl.bor + 1)) hcl').1
            have hB2 := (bor_abs (wrap64 (cl.bor + 1)) hcl').2
            rw [q2] at hB1 hB2
            clear hput his hwh c2 hcur
            go_region
            have HB := bor_HT (q1.drewN 1) (wrap64 (cl.bor + 1)) hcl' d3
            go_wp2
            go_ret2
            refine ⟨by simp [hz], _, HB.1, ?_, q4.trans (Fr.from HB.2 ⟨1, rfl⟩) (fun b hb h => h.elim id (fun z => absurd z (by omega)))⟩
            simp only [hk1]
            rw [hB1, hB2]
          · rw [if_neg hz]
            have hz' : (p.2.1 == 0) = false := by simpa using hz
            go_enter Try.func29, Try.ntmps29
            go_wp2_with (first | (go_at_call 50; refine his.mono ?_; rintro e w' ⟨rfl, rfl⟩) | (go_at_call 51; refine (hwh _).mono ?_; rw [hw]; rintro e w' ⟨rfl, rfl⟩) | (go_at_call 52; refine hput.mono ?_; rintro z w' ⟨rfl, S', q1, q2, q3, q4⟩))
            go_ret2
            exact ⟨rfl, S', q1, q2, q4⟩
open Go.RowKit Go.Proofs Go.Proofs.YtdjkjdlbckcplaaW.PrintWords Go.Proofs.YtdjkjdlbckcplaaW.PrintLast Go.Proofs.YtdjkjdlbckcplaaW.PrintMore Go.Proofs.Ytdjkjdlbckcplaa.MapI
set_option maxHeartbeats 4000000 in
set_option maxRecDepth 100000 in
theorem under_calls (W : World) (B : Nat) (i : Int) (hB : W.cell? ⟨B, 0, none⟩ = some (.int .i64 i)) (hlt : B < W.heap.size) (c : CL) (lA : Option Addr) (ln lc : Nat) (hlv : c.lv = .slice lA ln lc) :
    Calls Try.prog 53 (#[.agg #[.int .i64 c.i, .int .i64 c.bor, c.lv]] ++ #[.pointer (some ⟨B, 0, none⟩)]) W fun e w' => e = .returned (.bool (c.i == i)) ∧ Below W.heap.size W w' := by
  have hb2 : (W.alloc (.cells #[.int .i64 c.i, .int .i64 c.bor, c.lv] 94)).cell? ⟨B, 0, none⟩ = some (.int .i64 i) := by
    unfold World.cell? at hB ⊢
    rw [heap_alloc_old W _ hlt]; exact hB
  rw [hlv] at hb2 ⊢
  go_enter Try.func53, Try.ntmps53
  go_wp2
  repeat (go_quiet (fail); try go_wp2)
  go_ret
  exact ⟨rfl, by repeat (first | exact Below.refl _ _ | apply below_drew1 | apply pw_below_drewN | (apply below_alloc))⟩
/-- Is a call of an instance among the first k? -/
def hasC (cs : List CL) (i : Int) : Bool := cs.any fun c => c.i == i
theorem call_cells {W : World} {cs : List CL} {cv : Value} (h : W.ownsRow 0 94 3 cv cs.length (cs.flatMap CL.cells)) {kk : Nat} (hk : kk < cs.length) : ∃ b cap c, cv = .slice (some ⟨b, 0, none⟩) cs.length cap ∧ cs[kk]? = some c ∧ W.cell? ⟨b, kk * 3, none⟩ = some (.int .i64 c.i) ∧ W.cell? ⟨b, kk * 3 + 1, none⟩ = some (.int .i64 c.bor) ∧ W.cell? ⟨b, kk * 3 + 2, none⟩ = some c.lv := by
  obtain ⟨b, cap, e1, _, _, e3⟩ := own_cells h (by omega)
  have hc : cs[kk]? = some cs[kk] := List.getElem?_eq_getElem hk
  refine ⟨b, cap, cs[kk], e1, hc, e3 _ _ ?_, e3 _ _ ?_, e3 _ _ ?_⟩
  · have := cells_get cs kk 0 _ hc (by omega); rw [Nat.add_zero] at this; rw [this]; rfl
  · rw [cells_get cs kk 1 _ hc (by omega)]; rfl
  · rw [cells_get cs kk 2 _ hc (by omega)]; rfl
set_option maxHeartbeats 8000000 in
set_option maxRecDepth 100000 in
theorem index_calls (w : World) (cs : List CL) (A : Option Addr) (cc : Nat) (h : w.ownsRow 0 94 3 (.slice A cs.length cc) cs.length (cs.flatMap CL.cells)) (hl : ∀ c ∈ cs, ∃ lA ln lc, c.lv = .slice lA ln lc) (B : Nat) (i : Int) (hB : w.cell? ⟨B, 0, none⟩ = some (.int .i64 i)) (hlt : B < w.heap.size) :
    Calls Try.prog 65 #[.slice A cs.length cc, .func (.func 53) #[] #[.pointer (some ⟨B, 0, none⟩)]] w fun e w' => ∃ r : Int, e = .returned (.int .i64 r) ∧ decide (0 ≤ r) = hasC cs i ∧ Below w.heap.size w w' := by
  have hmx : cs.length ≤ 9223372036854775807 := own_max h
  have eg := enters_of Try.func53 (by kernel_rfl) rfl
  have HH := Aside0.mk h
  have HB := Aside0.mk hB
  have HLs := Aside0.mk hl
  clear h hB hl
  go_enter Try.func65, Try.ntmps65
  go_wp2
  go_loopg [5, 8] cs.length (fun gg _ s8 wr => ∃ kk : Nat, kk ≤ cs.length ∧ cs.length - kk ≤ gg ∧ s8 = .int .i64 kk ∧ Aside0 (Below w.heap.size w wr) ∧ Aside0 (∀ c ∈ cs.take kk, (c.i == i) = false))
  case atStart => exact ⟨0, Nat.zero_le _, by omega, rfl, ⟨Below.refl _ w⟩, ⟨fun c hc => by simp at hc⟩⟩
  case round =>
    obtain ⟨kk, hkk, hg, rfl, BW, AA⟩ := hrel
    by_cases hlt' : kk < cs.length
    · have hown : wr.ownsRow 0 94 3 (.slice A cs.length cc) cs.length (cs.flatMap CL.cells) := own_same HH.out fun k hk => BW.out.block k (own_lt HH.out hk).1
      obtain ⟨b, cap, c, e1, e2, e3, e4, e5⟩ := call_cells hown hlt'
      injection e1 with e1 _ e6
      subst e1; subst e6
      obtain ⟨lA, ln, lc, hlv⟩ := HLs.out c (List.mem_of_getElem? e2)
      have hBr : wr.cell? ⟨B, 0, none⟩ = some (.int .i64 i) := (BW.out.cell (p := ⟨B, 0, none⟩) hlt).trans HB.out
      have hcall := under_calls wr B i hBr (Nat.lt_of_lt_of_le hlt BW.out.size) c lA ln lc hlv
      rw [hlv] at e5 hcall
      have p0 : (0 ≤ (kk : Int)) = True := eq_true (Int.natCast_nonneg kk)
      have p1 : ((kk : Int) < (cs.length : Int)) = True := eq_true (by omega)
      have p2 : decide ((kk : Int) < (cs.length : Int)) = true := decide_eq_true (by omega)
      cases hq : (c.i == i) with
      | true =>
        rw [hq] at hcall
        go_wp2_with (go_at_call 53; refine hcall.mono ?_; rintro e w' ⟨rfl, hb'⟩)
        go_ret
        refine ⟨_, rfl, ?_, BW.out.trans (hb'.mono BW.out.size)⟩
        rw [decide_eq_true (Int.natCast_nonneg kk)]
        exact (List.any_eq_true.2 ⟨c, List.mem_of_getElem? e2, hq⟩).symm
      | false =>
        rw [hq] at hcall
        go_wp2_with (go_at_call 53; refine hcall.mono ?_; rintro e w' ⟨rfl, hb'⟩)
        go_roundg (cs.length - (kk + 1))
        case measure => omega
        case rel =>
          refine ⟨kk + 1, by omega, by omega, ?_, ⟨BW.out.trans (hb'.mono BW.out.size)⟩, ⟨fun d hd => ?_⟩⟩
          · first | rfl | (congr 1; done) | (congr 1; unfold wrap64; omega)
          · rw [List.take_add_one, e2] at hd
            rcases List.mem_append.1 hd with h | h
            · exact AA.out d h
            · simp at h; rw [h]; exact hq
    · have p2 : decide ((kk : Int) < (cs.length : Int)) = false := decide_eq_false (by omega)
      have hke : kk = cs.length := by omega
      go_wp2
      go_ret
      refine ⟨_, rfl, ?_, BW.out⟩
      rw [decide_eq_false (by omega)]
      have hA := AA.out
      rw [hke, List.take_length] at hA
      exact (List.any_eq_false.2 (fun d hd => by rw [hA d hd]; decide)).symm
set_option maxHeartbeats 4000000 in
set_option maxRecDepth 100000 in
theorem contains_calls (w : World) (cs : List CL) (A : Option Addr) (cc : Nat) (h : w.ownsRow 0 94 3 (.slice A cs.length cc) cs.length (cs.flatMap CL.cells)) (hl : ∀ c ∈ cs, ∃ lA ln lc, c.lv = .slice lA ln lc) (B : Nat) (i : Int) (hB : w.cell? ⟨B, 0, none⟩ = some (.int .i64 i)) (hlt : B < w.heap.size) :
    Calls Try.prog 54 #[.slice A cs.length cc, .func (.func 53) #[] #[.pointer (some ⟨B, 0, none⟩)]] w fun e w' => e = .returned (.bool (hasC cs i)) ∧ Below w.heap.size w w' := by
  have hc := index_calls w cs A cc h hl B i hB hlt
  clear h hl hB
  go_enter Try.func54, Try.ntmps54
  go_wp2_with (first | (go_at_call 65; refine hc.mono ?_; rintro e w' ⟨r, rfl, hr, hb'⟩))
  go_ret
  exact ⟨by simp [hr], hb'⟩
end Go.Proofs.Ytdjkjdlbckcplaa.Hd
