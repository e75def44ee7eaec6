/- The program's FoldNumber and the reference's tell the same number, for every number; there is no condition. -/
import Derived.Test.YtohbbdklddinoaaPFnExactFoldNumberx1
import Derived.Test.YtohbbdklddinoaaMath
import Derived.Test.YtohbbdklddinoaaMath2
set_option linter.unusedVariables false
set_option linter.unusedSimpArgs false
namespace Go.Proofs.Ytohbbdklddinoaa.Pure
open Go.RowKit Go.Proofs.Ytohbbdklddinoaa.PFnExactFoldNumber Go.Proofs.YtohbbdklddinoaaW.PrintWords Go.Proofs.YtohbbdklddinoaaW.PrintLast Go.Proofs.YtohbbdklddinoaaW.PrintMore Go.Proofs.Ytohbbdklddinoaa.M

theorem l6In_eq (a b c : Int) : spec_l6In.f a b c = some (decide (b ≤ a ∧ a ≤ c)) := by
  unfold spec_l6In.f
  by_cases h : a ≥ b
  · rw [if_pos h]; congr 1; simp only [decide_eq_decide]; omega
  · rw [if_neg h]; congr 1; symm; simp only [decide_eq_false_iff_not]; omega

theorem l1Fold_eq {n : Int} (h0 : -1000000 ≤ n) (h1 : n ≤ 1000000) : spec_l1Fold.f n = some (fold n) := by
  unfold spec_l1Fold.f fold
  rw [if_neg (by omega : ¬ (n < -1000000 ∨ 1000000 < n))]
  split
  · rw [w64 (x := -2 * n) (by omega) (by omega), w64 (by omega) (by omega)]
  · rw [w64 (by omega) (by omega)]

theorem sFold_eq (n : Int) : spec_FoldNumber.f n = some (fold n) := by
  unfold spec_FoldNumber.f
  simp only [l6In_eq, Option.bind_some]
  by_cases h : -1000000 ≤ n ∧ n ≤ 1000000
  · rw [if_pos (by simpa using h), l1Fold_eq h.1 h.2]; rfl
  · rw [if_neg (by simpa using h)]; unfold fold; rw [if_pos (by omega)]

theorem iFold_eq (k : Nat) (n : Int) : impl_FoldNumber.f (k + 1) n = some (fold n) := by
  unfold impl_FoldNumber.f
  simp only [impl_FoldNumber.j0]
  unfold fold
  by_cases h1 : n < -1000000
  · simp [h1]
  · by_cases h2 : n > 1000000
    · simp [h1, h2]
    · by_cases h3 : n < 0
      · rw [if_neg h1, if_neg (by simpa using h2), if_pos h3, if_neg (by omega), if_pos h3, w64 (x := -2 * n) (by omega) (by omega), w64 (by omega) (by omega)]
      · rw [if_neg h1, if_neg (by simpa using h2), if_neg h3, if_neg (by omega), if_neg h3, w64 (by omega) (by omega)]
theorem iFold_ev (n : Int) : EvV (fun k => impl_FoldNumber.f k n) (fold n) := EvV.of_succ fun k => iFold_eq k n

theorem FnExactFoldNumber : laws_FnExactFoldNumber.Pure := by
  intro n _
  refine EvP.done ?_
  unfold laws_FnExactFoldNumber.f
  simp only [sFold_eq, Option.bind_some]
  exact EvV.bind (iFold_ev n) (EvP.pos (by simp) (EvP.ret rfl))

end Go.Proofs.Ytohbbdklddinoaa.Pure
