/- The program's UnfoldNumber and the reference's tell the same number, for every number; there is no condition. -/
import Derived.Test.YtohbbdklddinoaaPFnExactUnfoldNumberx1
import Derived.Test.YtohbbdklddinoaaMath
import Derived.Test.YtohbbdklddinoaaMath2
set_option linter.unusedVariables false
set_option linter.unusedSimpArgs false
namespace Go.Proofs.Ytohbbdklddinoaa.Pure
open Go.RowKit Go.Proofs.Ytohbbdklddinoaa.PFnExactUnfoldNumber Go.Proofs.YtohbbdklddinoaaW.PrintWords Go.Proofs.YtohbbdklddinoaaW.PrintLast Go.Proofs.YtohbbdklddinoaaW.PrintMore Go.Proofs.Ytohbbdklddinoaa.M

theorem l6In_eq (a b c : Int) : spec_l6In.f a b c = some (decide (b ≤ a ∧ a ≤ c)) := by
  unfold spec_l6In.f
  by_cases h : a ≥ b
  · rw [if_pos h]; congr 1; simp only [decide_eq_decide]; omega
  · rw [if_neg h]; congr 1; symm; simp only [decide_eq_false_iff_not]; omega

theorem l1Unfold_eq {n : Int} (h0 : 0 ≤ n) (h1 : n ≤ 2000000) : spec_l1Unfold.f n = some (unf n) := by
  unfold spec_l1Unfold.f unf
  rw [tmod_pos h0]
  split
  · rw [w64 (x := n + 1) (by omega) (by omega), w64 (x := -(n + 1)) (by omega) (by omega)]
    have e : Int.tdiv (-(n + 1)) 2 = -((n + 1) / 2) := by rw [Int.neg_tdiv, tdiv_pos (by omega)]
    rw [e, w64 (by omega) (by omega)]; congr 1; omega
  · rw [tdiv_pos h0, w64 (by omega) (by omega)]

theorem sUnfold_eq (n : Int) : spec_UnfoldNumber.f n = some (unfC n) := by
  unfold spec_UnfoldNumber.f unfC
  simp only [l6In_eq, Option.bind_some]
  by_cases h : 0 ≤ n ∧ n ≤ 2000000
  · rw [if_pos (by simpa using h), l1Unfold_eq h.1 h.2, if_neg (by omega)]; rfl
  · rw [if_neg (by simpa using h), if_pos (by omega)]

theorem iUnfold_eq (k : Nat) (n : Int) : impl_UnfoldNumber.f (k + 1) n = some (unfC n) := by
  unfold impl_UnfoldNumber.f
  simp only [impl_UnfoldNumber.j0]
  unfold unfC
  by_cases h1 : n < 0
  · simp [h1]
  · by_cases h2 : n > 2000000
    · simp [h1, h2]
    · rw [if_neg h1, if_neg (by simpa using h2), if_neg (show ¬ (n < 0 ∨ 2000000 < n) by omega), and1 (by omega) (by omega)]
      unfold unf
      split
      · rw [w64 (x := -(n / 2)) (by omega) (by omega), w64 (by omega) (by omega)]
      · rfl
theorem iUnfold_ev (n : Int) : EvV (fun k => impl_UnfoldNumber.f k n) (unfC n) := EvV.of_succ fun k => iUnfold_eq k n

theorem FnExactUnfoldNumber : laws_FnExactUnfoldNumber.Pure := by
  intro n _
  refine EvP.done ?_
  unfold laws_FnExactUnfoldNumber.f
  simp only [sUnfold_eq, Option.bind_some]
  exact EvV.bind (iUnfold_ev n) (EvP.pos (by simp) (EvP.ret rfl))

end Go.Proofs.Ytohbbdklddinoaa.Pure
