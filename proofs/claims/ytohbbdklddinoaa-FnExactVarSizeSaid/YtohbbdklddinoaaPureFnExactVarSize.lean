/- The program's VarSize and the reference's tell the same size, for every number; there is no condition. -/
import Derived.Test.YtohbbdklddinoaaPFnExactVarSizex1
import Derived.Test.YtohbbdklddinoaaMath
import Derived.Test.YtohbbdklddinoaaMath2
set_option linter.unusedVariables false
set_option linter.unusedSimpArgs false
namespace Go.Proofs.Ytohbbdklddinoaa.Pure
open Go.RowKit Go.Proofs.Ytohbbdklddinoaa.PFnExactVarSize Go.Proofs.YtohbbdklddinoaaW.PrintWords Go.Proofs.YtohbbdklddinoaaW.PrintLast Go.Proofs.YtohbbdklddinoaaW.PrintMore Go.Proofs.Ytohbbdklddinoaa.M

theorem l6In_eq (a b c : Int) : spec_l6In.f a b c = some (decide (b ≤ a ∧ a ≤ c)) := by
  unfold spec_l6In.f
  by_cases h : a ≥ b
  · rw [if_pos h]; congr 1; simp only [decide_eq_decide]; omega
  · rw [if_neg h]; congr 1; symm; simp only [decide_eq_false_iff_not]; omega

theorem l1Fold_eq {n : Int} (h0 : -1000000 ≤ n) (h1 : n ≤ 1000000) : spec_l1Fold.f n = some (fold n) := by
  unfold spec_l1Fold.f fold
  rw [if_neg (by omega : ¬ (n < -1000000 ∨ 1000000 < n))]
  split
  · rw [w64 (x := -2 * n) (by omega) (by omega), w64 (by omega) (by omega)]
  · rw [w64 (by omega) (by omega)]

theorem iFold_eq (k : Nat) (n : Int) : impl_FoldNumber.f (k + 1) n = some (fold n) := by
  unfold impl_FoldNumber.f
  simp only [impl_FoldNumber.j0]
  unfold fold
  by_cases h1 : n < -1000000
  · simp [h1]
  · by_cases h2 : n > 1000000
    · simp [h1, h2]
    · by_cases h3 : n < 0
      · rw [if_neg h1, if_neg (by simpa using h2), if_pos h3, if_neg (by omega), if_pos h3, w64 (x := -2 * n) (by omega) (by omega), w64 (by omega) (by omega)]
      · rw [if_neg h1, if_neg (by simpa using h2), if_neg h3, if_neg (by omega), if_neg h3, w64 (by omega) (by omega)]
theorem iFold_ev (n : Int) : EvV (fun k => impl_FoldNumber.f k n) (fold n) := EvV.of_succ fun k => iFold_eq k n

theorem l1Bytes_ev {n : Int} (h0 : -1000000 ≤ n) (h1 : n ≤ 1000000) : EvV (fun k => spec_l1Bytes.f k n) (varL (fold n)) := by
  obtain ⟨f0, f1⟩ := fold_rng h0 h1
  refine EvV.of_add 3 fun k => ?_
  unfold spec_l1Bytes.f
  rw [l1Fold_eq h0 h1]
  simp only [Option.bind_some]
  generalize fold n = f at f0 f1 ⊢
  unfold varL
  by_cases a : f < 128
  · simp only [spec_l1Bytes.l0]; rw [if_neg (by omega), if_pos (by simp), if_pos a]; rfl
  · rw [if_neg a]
    have e1 : wrap64 (Int.tdiv f 128) = f / 128 := by rw [tdiv_pos f0, w64 (by omega) (by omega)]
    have e2 : wrap64 (128 + Int.tmod f 128) = f % 128 + 128 := by rw [tmod_pos f0, w64 (by omega) (by omega)]; omega
    by_cases b : f < 16384
    · simp only [spec_l1Bytes.l0]; rw [if_pos (by omega), if_pos (by simp), e1, e2, if_neg (by omega), if_pos (by simp), if_pos b]; rfl
    · have e3 : wrap64 (Int.tdiv (f / 128) 128) = f / 16384 := by rw [tdiv_pos (by omega), w64 (by omega) (by omega)]; omega
      have e4 : wrap64 (128 + Int.tmod (f / 128) 128) = f / 128 % 128 + 128 := by rw [tmod_pos (by omega), w64 (by omega) (by omega)]; omega
      simp only [spec_l1Bytes.l0]
      rw [if_pos (by omega), if_pos (by simp), e1, e2, if_pos (by omega), if_pos (by simp), e3, e4, if_neg (by omega), if_pos (by simp), if_neg b]; rfl

theorem sVarSize_ev (n : Int) : EvV (fun k => spec_VarSize.f k n) (if fold n < 0 then -1 else ((varL (fold n)).length : Int)) := by
  unfold spec_VarSize.f
  simp only [l6In_eq, Option.bind_some]
  by_cases h : -1000000 ≤ n ∧ n ≤ 1000000
  · have := fold_rng h.1 h.2
    refine EvP.pos (by simpa using h) (EvV.bind (l1Bytes_ev h.1 h.2) (EvP.ret ?_))
    rw [if_neg (by omega)]
  · refine EvP.neg (by simpa using h) (EvP.ret ?_)
    rw [if_pos (by unfold fold; rw [if_pos (by omega)]; decide)]

theorem varOf_ev {n : Int} (h0 : -1000000 ≤ n) (h1 : n ≤ 1000000) : EvV (fun k => impl_varOf.f k n) (varL (fold n)) := by
  obtain ⟨f0, f1⟩ := fold_rng h0 h1
  unfold impl_varOf.f
  refine EvV.bind (iFold_ev n) ?_
  refine EvV.of_add 3 fun k => ?_
  generalize fold n = f at f0 f1 ⊢
  unfold varL
  have orr : ∀ y : Int, 0 ≤ y → y < 128 → Go.bits .or .i64 y 128 = y + 128 := fun y a b => by
    rw [bits_swap, or_join 7 128 y (by omega) (by decide) (by omega) a (by omega) (by omega)]; omega
  by_cases a : f < 128
  · simp only [impl_varOf.l0]; rw [if_pos a, if_pos (by simp), if_pos a]; rfl
  · rw [if_neg a]
    have e2 : Go.bits .or .i64 (Go.bits .and .i64 f 127) 128 = f % 128 + 128 := by rw [and127 f0 (by omega), orr _ (by omega) (by omega)]
    by_cases b : f < 16384
    · simp only [impl_varOf.l0]; rw [if_neg a, if_pos (by simp), e2, if_pos (by omega), if_pos (by simp), if_pos b]; rfl
    · have e3 : f / 128 / 128 = f / 16384 := by omega
      have e4 : Go.bits .or .i64 (Go.bits .and .i64 (f / 128) 127) 128 = f / 128 % 128 + 128 := by rw [and127 (by omega) (by omega), orr _ (by omega) (by omega)]
      simp only [impl_varOf.l0]
      rw [if_neg a, if_pos (by simp), e2, if_neg (by omega), if_pos (by simp), e3, e4, if_pos (by omega), if_pos (by simp), if_neg b]; rfl

theorem iVarSize_ev (n : Int) : EvV (fun k => impl_VarSize.f k n) (if fold n < 0 then -1 else ((varL (fold n)).length : Int)) := by
  unfold impl_VarSize.f
  refine EvV.bind (iFold_ev n) ?_
  refine EvP.ite (fun h => EvP.ret ?_) (fun h => ?_)
  · rw [if_pos h]
  · have h' : -1000000 ≤ n ∧ n ≤ 1000000 := by unfold fold at h; split at h <;> omega
    refine EvV.bind (varOf_ev h'.1 h'.2) (EvP.ret ?_)
    rw [if_neg h]

theorem FnExactVarSize : laws_FnExactVarSize.Pure := by
  intro n _
  refine EvP.done ?_
  unfold laws_FnExactVarSize.f
  exact EvV.bind (sVarSize_ev n) (EvV.bind (iVarSize_ev n) (EvP.pos (by simp) (EvP.ret rfl)))

end Go.Proofs.Ytohbbdklddinoaa.Pure
