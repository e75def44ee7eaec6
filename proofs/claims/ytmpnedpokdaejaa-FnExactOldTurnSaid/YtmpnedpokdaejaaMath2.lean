/- Plain words for the laws of this seat, second part: sums, numbers of bytes, marks. No program stands here. -/
import Derived.Test.YtmpnedpokdaejaaMath
set_option linter.unusedVariables false
set_option linter.unusedSimpArgs false
namespace Go.Proofs.Ytmpnedpokdaejaa.M
open Go.RowKit Go.Proofs.YtmpnedpokdaejaaW.PrintWords

/-! ### Sums -/
def sumStep (s b : Int) : Int := (257 * s + b) % 65521
def sumL (xs : List Int) : Int := xs.foldl sumStep 1
theorem sumStep_rng (s b : Int) : 0 ≤ sumStep s b ∧ sumStep s b < 65521 := by unfold sumStep; omega
theorem sumL_from_rng (xs : List Int) : ∀ s : Int, 0 ≤ s → s < 65521 → 0 ≤ xs.foldl sumStep s ∧ xs.foldl sumStep s < 65521 := by
  induction xs with
  | nil => intro s h0 h1; exact ⟨h0, h1⟩
  | cons x xs ih => intro s _ _; exact ih _ (sumStep_rng s x).1 (sumStep_rng s x).2
theorem sumL_rng (xs : List Int) : 0 ≤ sumL xs ∧ sumL xs < 65521 := sumL_from_rng xs 1 (by decide) (by decide)
theorem sumL_same {xs : List Int} : ∀ {s t : Int}, 0 ≤ s → s < 65521 → 0 ≤ t → t < 65521 → xs.foldl sumStep s = xs.foldl sumStep t → s = t := by
  induction xs with
  | nil => intro s t _ _ _ _ h; exact h
  | cons x xs ih =>
    intro s t a b c d h
    have e := ih (sumStep_rng s x).1 (sumStep_rng s x).2 (sumStep_rng t x).1 (sumStep_rng t x).2 h
    unfold sumStep at e
    omega
theorem sumL_append (xs ys : List Int) : sumL (xs ++ ys) = ys.foldl sumStep (sumL xs) := by unfold sumL; rw [List.foldl_append]

/-! ### Numbers of so many bytes -/
def intB (n m : Int) : List Int := if m = 1 then [n % 256] else if m = 2 then [n / 256 % 256, n % 256] else [n / 65536 % 256, n / 256 % 256, n % 256]
def pow256 (m : Int) : Int := if m = 1 then 256 else if m = 2 then 65536 else 16777216
def intBC (n m : Int) : List Int × Bool := if 1 ≤ m ∧ m ≤ 3 ∧ 0 ≤ n ∧ n < pow256 m then (intB n m, true) else ([], false)
def joinB (xs : List Int) : Int := xs.foldl (fun n b => 256 * n + b) 0
def intFC (xs : List Int) (at_ m : Int) : Int × Bool := if 1 ≤ m ∧ m ≤ 3 ∧ allB xs = true ∧ 0 ≤ at_ ∧ at_ ≤ xs.length - m then (joinB ((xs.take (at_ + m).toNat).drop at_.toNat), true) else (0, false)
theorem m123 {m : Int} (h0 : 1 ≤ m) (h1 : m ≤ 3) : m = 1 ∨ m = 2 ∨ m = 3 := by omega
theorem pow256_pos (m : Int) : 256 ≤ pow256 m ∧ pow256 m ≤ 16777216 := by unfold pow256; repeat' split <;> omega
theorem intB_length {m : Int} (n : Int) (h0 : 1 ≤ m) (h1 : m ≤ 3) : ((intB n m).length : Int) = m := by
  rcases m123 h0 h1 with rfl | rfl | rfl <;> rfl
theorem intB_len3 (n m : Int) : (intB n m).length ≤ 3 := by
  unfold intB
  split
  · simp
  · split <;> simp
theorem intBC_len (n m : Int) : (intBC n m).1.length ≤ 3 := by
  unfold intBC
  split
  · exact intB_len3 n m
  · simp
theorem intB_bytes (n m : Int) : allB (intB n m) = true := by
  rw [allB_iff]; unfold intB
  intro x hx
  repeat' split at hx
  all_goals
    simp at hx
    omega
theorem intB_join {n m : Int} (h0 : 1 ≤ m) (h1 : m ≤ 3) (hn : 0 ≤ n) (hn1 : n < pow256 m) : joinB (intB n m) = n := by
  rcases m123 h0 h1 with rfl | rfl | rfl <;> simp [pow256, intB, joinB] at hn1 ⊢ <;> omega

/-! ### Marks -/
def Marked (ys : List Int) (s : Int) : Prop := ∀ j (h : j < ys.length), ys[j] = s + j
theorem marked_rd {ys : List Int} {s : Int} (h : Marked ys s) (j : Nat) (hj : j < ys.length) : rd ys (j : Int) = s + j := by rw [rd_nat ys j hj]; exact h j hj
end Go.Proofs.Ytmpnedpokdaejaa.M
