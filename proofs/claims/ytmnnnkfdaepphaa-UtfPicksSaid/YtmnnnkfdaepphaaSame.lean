/- Two lists of numbers that are one are told as the same. -/
import Derived.Test.YtmnnnkfdaepphaaPAx
import Derived.Test.YtmnnnkfdaepphaaStr
namespace Go.Proofs.Ytmnnnkfdaepphaa.Same
set_option linter.unusedVariables false
set_option linter.unusedSimpArgs false
open Go.RowKit Go.Proofs.Ytmnnnkfdaepphaa.PA Go.Proofs.YtmnnnkfdaepphaaW.PrintWords Go.Proofs.YtmnnnkfdaepphaaW.PrintLast Go.Proofs.YtmnnnkfdaepphaaW.PrintMore
open Go.Proofs.Ytmnnnkfdaepphaa.Str

theorem Same_l0 (l : List Int) (hn : l.length ≤ 4611686018427387904) : ∀ (m i k : Nat), i + m = l.length → m + 1 ≤ k → scarfref01_Same.l0 k l l (i : Int) = some true := by
  intro m
  induction m with
  | zero =>
    intro i k hi hk
    obtain ⟨k, rfl⟩ : ∃ m, k = m + 1 := ⟨k - 1, by omega⟩
    rw [scarfref01_Same.l0, if_neg (by omega)]
  | succ m ih =>
    intro i k hi hk
    obtain ⟨k, rfl⟩ : ∃ m, k = m + 1 := ⟨k - 1, by omega⟩
    have hi1 : wrap64 ((i : Int) + 1) = ((i + 1 : Nat) : Int) := by rw [wrap64_id (by omega) (by omega)]; omega
    rw [scarfref01_Same.l0, if_pos (by omega), if_pos (by omega), if_pos (by omega), if_pos rfl, hi1, ih (i + 1) k (by omega) (by omega)]

theorem Same_eq (l : List Int) (hn : l.length ≤ 4611686018427387904) (k : Nat) (hk : l.length + 1 ≤ k) : scarfref01_Same.f k l l = some true := by
  unfold scarfref01_Same.f
  rw [if_pos rfl]
  have := Same_l0 l hn l.length 0 k (by omega) (by omega)
  rwa [show ((0 : Nat) : Int) = 0 from rfl] at this
end Go.Proofs.Ytmnnnkfdaepphaa.Same
