/- The program's SumOf and the reference's tell the same sum and leave the numbers as they are, for every list; there is no condition. -/
import Derived.Test.YtohbbdklddinoaaPFnExactSumOfx2
import Derived.Test.YtohbbdklddinoaaMath
import Derived.Test.YtohbbdklddinoaaMath2
set_option linter.unusedVariables false
set_option linter.unusedSimpArgs false
namespace Go.Proofs.Ytohbbdklddinoaa.Pure
open Go.RowKit Go.Proofs.Ytohbbdklddinoaa.PFnExactSumOf Go.Proofs.YtohbbdklddinoaaW.PrintWords Go.Proofs.YtohbbdklddinoaaW.PrintLast Go.Proofs.YtohbbdklddinoaaW.PrintMore Go.Proofs.Ytohbbdklddinoaa.M

theorem l6In_eq (a b c : Int) : spec_l6In.f a b c = some (decide (b ≤ a ∧ a ≤ c)) := by
  unfold spec_l6In.f
  by_cases h : a ≥ b
  · rw [if_pos h]; congr 1; simp only [decide_eq_decide]; omega
  · rw [if_neg h]; congr 1; symm; simp only [decide_eq_false_iff_not]; omega

theorem l1Ok_l0 (xs : List Int) (hl : xs.length ≤ 1000000000000000000) (d : Nat) : ∀ j : Nat, j ≤ xs.length → xs.length - j = d → EvV (fun k => spec_l1Ok.l0 k xs (j : Int)) (allB (xs.drop j)) := by
  induction d with
  | zero =>
    intro j hj hd
    refine EvP.succ ?_
    simp only [spec_l1Ok.l0]
    rw [drop_end xs j (by omega)]
    exact EvP.neg (by omega) (EvP.ret rfl)
  | succ d ih =>
    intro j hj hd
    have hlt : j < xs.length := by omega
    refine EvP.succ ?_
    simp only [spec_l1Ok.l0, l6In_eq, Option.bind_some, rd_nat xs j hlt, w64_succ hlt hl]
    refine EvP.pos (by omega) (EvP.pos (by omega) ?_)
    rw [drop_cons xs j hlt]
    refine EvP.ite (fun h => ?_) (fun h => EvP.ret ?_)
    · have hb : isB xs[j] = true := h
      exact (ih (j + 1) (by omega) (by omega)).to (allB_cons_t hb)
    · have hb : isB xs[j] = false := by simpa [isB] using h
      exact allB_cons_f hb
theorem l1Ok_ev (xs : List Int) (hl : xs.length ≤ 1000000000000000000) : EvV (fun k => spec_l1Ok.f k xs) (allB xs) := by
  unfold spec_l1Ok.f; exact l1Ok_l0 xs hl xs.length 0 (by omega) (by omega)

theorem isByte_eq (x : Int) : impl_isByte.f x = some (isB x) := by
  unfold impl_isByte.f isB
  by_cases h : x ≥ 0
  · rw [if_pos h]; congr 1; simp only [decide_eq_decide]; omega
  · rw [if_neg h]; congr 1; symm; simp only [decide_eq_false_iff_not]; omega

theorem allBytes_l0 (xs : List Int) (hl : xs.length ≤ 1000000000000000000) (d : Nat) : ∀ j : Nat, j ≤ xs.length → xs.length - j = d → EvV (fun k => impl_allBytes.l0 k xs (xs.length : Int) (j : Int)) (allB (xs.drop j)) := by
  induction d with
  | zero =>
    intro j hj hd
    refine EvP.succ ?_
    simp only [impl_allBytes.l0]
    rw [drop_end xs j (by omega)]
    exact EvP.neg (by omega) (EvP.ret rfl)
  | succ d ih =>
    intro j hj hd
    have hlt : j < xs.length := by omega
    refine EvP.succ ?_
    simp only [impl_allBytes.l0, isByte_eq, Option.bind_some, rd_nat xs j hlt, w64_succ hlt hl]
    refine EvP.pos (by omega) (EvP.pos (by omega) (EvP.pos (by omega) ?_))
    rw [drop_cons xs j hlt]
    refine EvP.ite (fun h => ?_) (fun h => EvP.ret ?_)
    · exact (ih (j + 1) (by omega) (by omega)).to (allB_cons_t h)
    · exact allB_cons_f (by simpa using h)
theorem allBytes_ev (xs : List Int) (hl : xs.length ≤ 1000000000000000000) : EvV (fun k => impl_allBytes.f k xs) (allB xs) := by
  unfold impl_allBytes.f; exact allBytes_l0 xs hl xs.length 0 (by omega) (by omega)

theorem l2Sum_l0 (xs : List Int) (hl : xs.length ≤ 1000000000000000000) (hb : allB xs = true) (d : Nat) : ∀ (j : Nat) (s : Int), j ≤ xs.length → xs.length - j = d → 0 ≤ s → s < 65521 → EvV (fun k => spec_l2Sum.l0 k xs s (j : Int)) ((xs.drop j).foldl sumStep s) := by
  induction d with
  | zero =>
    intro j s hj hd _ _
    refine EvP.succ ?_
    simp only [spec_l2Sum.l0]
    rw [drop_end xs j (by omega)]
    exact EvP.neg (by omega) (EvP.ret rfl)
  | succ d ih =>
    intro j s hj hd h0 h1
    have hlt : j < xs.length := by omega
    have hx := allB_get hb j hlt
    have e : Int.tmod (wrap64 (wrap64 (257 * s) + xs[j])) 65521 = sumStep s xs[j] := by
      rw [w64 (x := 257 * s) (by omega) (by omega), w64 (by omega) (by omega), tmod_pos (by omega)]; rfl
    refine EvP.succ ?_
    simp only [spec_l2Sum.l0, rd_nat xs j hlt, w64_succ hlt hl, e]
    refine EvP.pos (by omega) (EvP.pos (by omega) ?_)
    rw [drop_cons xs j hlt]
    exact ih (j + 1) _ (by omega) (by omega) (sumStep_rng _ _).1 (sumStep_rng _ _).2
theorem l2Sum_ev (xs : List Int) (hl : xs.length ≤ 1000000000000000000) (hb : allB xs = true) : EvV (fun k => spec_l2Sum.f k xs) (sumL xs) := by
  unfold spec_l2Sum.f; exact l2Sum_l0 xs hl hb xs.length 0 1 (by omega) (by omega) (by decide) (by decide)

theorem sSumOf_ev (xs : List Int) (hl : xs.length ≤ 1000000000000000000) : EvV (fun k => spec_SumOf.f k xs) (if allB xs = true then sumL xs else -1) := by
  unfold spec_SumOf.f
  refine EvV.bind (l1Ok_ev xs hl) (EvP.ite (fun h => ?_) (fun h => EvP.ret ?_))
  · rw [if_pos h]; exact EvV.bind (l2Sum_ev xs hl h) (EvP.ret rfl)
  · rw [if_neg h]

theorem with_eq {s b : Int} (h0 : 0 ≤ s) (h1 : s < 65521) (hb : 0 ≤ b ∧ b ≤ 255) : impl_sum_with.f s b = some (sumStep s b) := by
  unfold impl_sum_with.f
  rw [w64 (x := 257 * s) (by omega) (by omega), w64 (by omega) (by omega), tmod_pos (by omega)]; rfl

theorem over_l0 (xs : List Int) (hl : xs.length ≤ 1000000000000000000) (hb : allB xs = true) (d : Nat) : ∀ (j : Nat) (s : Int), j ≤ xs.length → xs.length - j = d → 0 ≤ s → s < 65521 → EvV (fun k => impl_sum_over.l0 k s xs (xs.length : Int) (j : Int)) ((xs.drop j).foldl sumStep s) := by
  induction d with
  | zero =>
    intro j s hj hd _ _
    refine EvP.succ ?_
    simp only [impl_sum_over.l0]
    rw [drop_end xs j (by omega)]
    exact EvP.neg (by omega) (EvP.ret rfl)
  | succ d ih =>
    intro j s hj hd h0 h1
    have hlt : j < xs.length := by omega
    refine EvP.succ ?_
    simp only [impl_sum_over.l0, rd_nat xs j hlt, w64_succ hlt hl, with_eq h0 h1 (allB_get hb j hlt), Option.bind_some]
    refine EvP.pos (by omega) (EvP.pos (by omega) (EvP.pos (by omega) ?_))
    rw [drop_cons xs j hlt]
    exact ih (j + 1) _ (by omega) (by omega) (sumStep_rng _ _).1 (sumStep_rng _ _).2
theorem over_ev (xs : List Int) (hl : xs.length ≤ 1000000000000000000) (hb : allB xs = true) : EvV (fun k => impl_sum_over.f k 1 xs) (sumL xs) := by
  unfold impl_sum_over.f; exact over_l0 xs hl hb xs.length 0 1 (by omega) (by omega) (by decide) (by decide)

theorem iSumOf_ev (xs : List Int) (hl : xs.length ≤ 1000000000000000000) : EvV (fun k => impl_SumOf.f k xs) (if allB xs = true then sumL xs else -1) := by
  unfold impl_SumOf.f
  refine EvV.bind (allBytes_ev xs hl) (EvP.ite (fun h => ?_) (fun h => EvP.ret ?_))
  · rw [if_pos h]; exact EvV.bind (over_ev xs hl h) (EvP.ret rfl)
  · rw [if_neg h]

theorem eqIntS_l0 (xs ys : List Int) (he : xs.length = ys.length) (hl : xs.length ≤ 1000000000000000000) (d : Nat) : ∀ j : Nat, j ≤ xs.length → xs.length - j = d → EvV (fun k => laws_eqIntS.l0 k xs ys (j : Int)) (decide (xs.drop j = ys.drop j)) := by
  induction d with
  | zero =>
    intro j hj hd
    refine EvP.succ ?_
    simp only [laws_eqIntS.l0]
    rw [drop_end xs j (by omega), drop_end ys j (by omega)]
    exact EvP.neg (by omega) (EvP.ret (by simp))
  | succ d ih =>
    intro j hj hd
    have hlt : j < xs.length := by omega
    have hlt2 : j < ys.length := by omega
    refine EvP.succ ?_
    simp only [laws_eqIntS.l0, rd_nat xs j hlt, rd_nat ys j hlt2, w64_succ hlt hl]
    refine EvP.pos (by omega) (EvP.pos (by omega) (EvP.pos (by omega) ?_))
    rw [drop_cons xs j hlt, drop_cons ys j hlt2]
    refine EvP.ite (fun h => ?_) (fun h => EvP.ret ?_)
    · exact (ih (j + 1) (by omega) (by omega)).to (dec_cons_t h)
    · exact dec_cons_f h
theorem eqIntS_ev (xs ys : List Int) (hl : xs.length ≤ 1000000000000000000) : EvV (fun k => laws_eqIntS.f k xs ys) (decide (xs = ys)) := by
  unfold laws_eqIntS.f
  refine EvP.ite (fun h => ?_) (fun h => EvP.ret ?_)
  · exact eqIntS_l0 xs ys (by omega) hl xs.length 0 (by omega) (by omega)
  · have : ¬ xs = ys := by rintro rfl; exact h rfl
    simp [this]

theorem toIntS_ev (xs : List Int) (hl : xs.length ≤ 1000000000000) : EvV (fun k => laws_toIntS.f k xs) xs := by
  have key : ∀ (d j : Nat) (ys : List Int), j + d = xs.length → ys.length = xs.length → ys.take j = xs.take j → EvV (fun k => laws_toIntS.l0 k xs ys (j : Int)) xs := by
    intro d
    induction d with
    | zero =>
      intro j ys hj hy ht
      refine EvP.succ ?_
      simp only [laws_toIntS.l0]
      refine EvP.neg (by omega) (EvP.ret ?_)
      rw [List.take_of_length_le (by omega), List.take_of_length_le (by omega)] at ht
      exact ht.symm
    | succ d ih =>
      intro j ys hj hy ht
      have hlt : j < xs.length := by omega
      refine EvP.succ ?_
      simp only [laws_toIntS.l0, rd_nat xs j hlt, w64_succ hlt (by omega : xs.length ≤ 1000000000000000000)]
      refine EvP.pos (by omega) (EvP.pos (by omega) (EvP.pos (by omega) ?_))
      have e : ((j : Int)).toNat = j := by omega
      rw [e]
      refine ih (j + 1) _ (by omega) (by simpa using hy) ?_
      rw [List.take_add_one, List.take_add_one, List.take_set_of_le (Nat.le_refl _), ht]
      simp [hlt, hy]
  unfold laws_toIntS.f
  refine EvP.pos (by omega) (EvP.pos (by omega) ?_)
  exact key xs.length 0 _ (by omega) (by simp) (by simp)

theorem FnExactSumOf : laws_FnExactSumOf.Pure := by
  intro l _ _ _
  refine EvP.done ?_
  unfold laws_FnExactSumOf.f
  refine EvP.ite (fun _ => EvP.ret rfl) (fun h => ?_)
  have t := toIntS_ev l (by omega)
  have q := (eqIntS_ev l l (by omega)).to (w := true) (by simp)
  exact EvV.bind t (EvV.bind (sSumOf_ev l (by omega)) (EvV.bind t (EvV.bind (iSumOf_ev l (by omega)) (EvP.pos rfl (EvV.bind t (EvV.bind q (EvP.pos rfl (EvP.ret rfl))))))))

end Go.Proofs.Ytohbbdklddinoaa.Pure
