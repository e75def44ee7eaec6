/- Plain words for the laws of this seat, third part: what changes a sum; numbers of variable length in bytes; records' parts. No program stands here. -/
import Derived.Test.YtmpnedpokdaejaaMath2
set_option linter.unusedVariables false
set_option linter.unusedSimpArgs false
namespace Go.Proofs.Ytmpnedpokdaejaa.M
open Go.RowKit Go.Proofs.YtmpnedpokdaejaaW.PrintWords

theorem intBC_pos {n m : Int} (h0 : 1 ≤ m) (h1 : m ≤ 3) (h2 : 0 ≤ n) (h3 : n < pow256 m) : intBC n m = (intB n m, true) := by unfold intBC; rw [if_pos ⟨h0, h1, h2, h3⟩]
theorem intBC_neg {n m : Int} (h : ¬ (1 ≤ m ∧ m ≤ 3 ∧ 0 ≤ n ∧ n < pow256 m)) : intBC n m = ([], false) := by unfold intBC; rw [if_neg h]
theorem allB_set {xs : List Int} (h : allB xs = true) (j : Nat) {v : Int} (h0 : 0 ≤ v) (h1 : v ≤ 255) : allB (xs.set j v) = true := by
  rw [allB_iff]
  intro x hx
  rcases List.mem_or_eq_of_mem_set hx with hm | rfl
  · exact allB_iff.1 h x hm
  · exact ⟨h0, h1⟩
theorem allB_append {xs ys : List Int} : allB (xs ++ ys) = (allB xs && allB ys) := by simp [allB]
theorem sumL_set_ne {xs : List Int} (hb : allB xs = true) (j : Nat) (hj : j < xs.length) {v : Int} (h0 : 0 ≤ v) (h1 : v ≤ 255) (hv : v ≠ xs[j]) : sumL (xs.set j v) ≠ sumL xs := by
  have hx := allB_get hb j hj
  have e1 : xs.set j v = xs.take j ++ v :: xs.drop (j + 1) := by rw [List.set_eq_take_append_cons_drop, if_pos hj]
  have e2 : xs = xs.take j ++ xs[j] :: xs.drop (j + 1) := by rw [← drop_cons xs j hj, List.take_append_drop]
  intro h
  rw [e1, sumL_append] at h
  conv at h => rhs; rw [e2, sumL_append]
  have hs := sumL_rng (xs.take j)
  generalize sumL (xs.take j) = s at h hs
  have e := sumL_same (s := sumStep s v) (t := sumStep s xs[j]) (sumStep_rng _ _).1 (sumStep_rng _ _).2 (sumStep_rng _ _).1 (sumStep_rng _ _).2 h
  unfold sumStep at e
  omega
theorem swap_split {xs : List Int} (j : Nat) (hj : j + 1 < xs.length) : xs = xs.take j ++ xs[j] :: xs[j + 1] :: xs.drop (j + 2) ∧ (xs.set j xs[j + 1]).set (j + 1) xs[j] = xs.take j ++ xs[j + 1] :: xs[j] :: xs.drop (j + 2) := by
  have e2 : xs = xs.take j ++ xs[j] :: xs[j + 1] :: xs.drop (j + 2) := by rw [← drop_cons xs (j + 1) hj, ← drop_cons xs j (by omega), List.take_append_drop]
  refine ⟨e2, ?_⟩
  generalize xs[j] = a at e2 ⊢
  generalize xs[j + 1] = b at e2 ⊢
  have hp : (xs.take j).length = j := by simp; omega
  generalize xs.take j = p at e2 hp ⊢
  generalize xs.drop (j + 2) = t at e2 ⊢
  subst e2
  subst hp
  rw [List.set_append_right _ _ (Nat.le_refl _), List.set_append_right _ _ (by omega)]
  simp
theorem sumL_swap_ne {xs : List Int} (hb : allB xs = true) (j : Nat) (hj : j + 1 < xs.length) (hv : xs[j] ≠ xs[j + 1]) : sumL ((xs.set j xs[j + 1]).set (j + 1) xs[j]) ≠ sumL xs := by
  have hx := allB_get hb j (by omega)
  have hy := allB_get hb (j + 1) hj
  obtain ⟨e2, e1⟩ := swap_split j hj
  intro h
  rw [e1, sumL_append] at h
  conv at h => rhs; rw [e2, sumL_append]
  have hs := sumL_rng (xs.take j)
  generalize sumL (xs.take j) = s at h hs
  have e := sumL_same (s := sumStep (sumStep s xs[j + 1]) xs[j]) (t := sumStep (sumStep s xs[j]) xs[j + 1]) (sumStep_rng _ _).1 (sumStep_rng _ _).2 (sumStep_rng _ _).1 (sumStep_rng _ _).2 h
  unfold sumStep at e
  omega
theorem allB_swap {xs : List Int} (hb : allB xs = true) (j : Nat) (hj : j + 1 < xs.length) : allB ((xs.set j xs[j + 1]).set (j + 1) xs[j]) = true :=
  allB_set (allB_set hb j (allB_get hb (j + 1) hj).1 (allB_get hb (j + 1) hj).2) (j + 1) (allB_get hb j (by omega)).1 (allB_get hb j (by omega)).2

theorem varL_length (f : Int) : (varL f).length = if f < 128 then 1 else if f < 16384 then 2 else 3 := by
  unfold varL
  split
  · rfl
  · split <;> rfl

/-! ### A number of variable length at a place of bytes -/
def okV (n next : Int) : Int × Int × Bool := if 2000000 < n then (0, 0, false) else (unf n, next, true)
/-- What stands at a place: its first byte's digit, its second's, its third's. -/
def vAt (xs : List Int) (a : Int) : Int × Int × Bool :=
  if a < 0 then (0, 0, false) else
  if xs.length ≤ a then (0, 0, false) else
  if rd xs a < 128 then (unf (rd xs a), a + 1, true) else
  if xs.length ≤ a + 1 then (0, 0, false) else
  if rd xs (a + 1) < 128 then (if rd xs (a + 1) = 0 then (0, 0, false) else (unf (rd xs a - 128 + 128 * rd xs (a + 1)), a + 2, true)) else
  if xs.length ≤ a + 2 then (0, 0, false) else
  if rd xs (a + 2) < 128 then (if rd xs (a + 2) = 0 then (0, 0, false) else okV (rd xs a - 128 + 128 * (rd xs (a + 1) - 128) + 16384 * rd xs (a + 2)) (a + 3)) else (0, 0, false)
def vFrom (xs : List Int) (a : Int) : Int × Int × Bool := if allB xs = true then vAt xs a else (0, 0, false)
theorem rd_byte {xs : List Int} (h : allB xs = true) (i : Int) : 0 ≤ rd xs i ∧ rd xs i ≤ 255 := rd_rng (allB_iff.1 h) i
/-- A number that is written is read again, whatever follows. -/
theorem vAt_varL {f : Int} (h0 : 0 ≤ f) (h1 : f ≤ 2000000) (ys : List Int) : vAt (varL f ++ ys) 0 = (unf f, ((varL f).length : Int), true) := by
  unfold varL
  by_cases a : f < 128
  · rw [if_pos a]
    unfold vAt
    have l : ¬ ((([f] ++ ys).length : Int) ≤ 0) := by simp only [List.length_append, List.length_cons, List.length_nil]; omega
    have r : rd ([f] ++ ys) 0 = f := rfl
    rw [if_neg (by decide), if_neg l, r, if_pos a]; rfl
  · rw [if_neg a]
    by_cases b : f < 16384
    · rw [if_pos b]
      unfold vAt
      have l : ¬ ((([f % 128 + 128, f / 128] ++ ys).length : Int) ≤ 0) := by simp only [List.length_append, List.length_cons, List.length_nil]; omega
      have l2 : ¬ ((([f % 128 + 128, f / 128] ++ ys).length : Int) ≤ 0 + 1) := by simp only [List.length_append, List.length_cons, List.length_nil]; omega
      have r : rd ([f % 128 + 128, f / 128] ++ ys) 0 = f % 128 + 128 := rfl
      have r2 : rd ([f % 128 + 128, f / 128] ++ ys) (0 + 1) = f / 128 := rfl
      have e : f % 128 + 128 - 128 + 128 * (f / 128) = f := by omega
      rw [if_neg (by decide), if_neg l, r, if_neg (by omega), if_neg l2, r2, if_pos (by omega), if_neg (by omega), e]; rfl
    · rw [if_neg b]
      unfold vAt
      have l : ¬ ((([f % 128 + 128, f / 128 % 128 + 128, f / 16384] ++ ys).length : Int) ≤ 0) := by simp only [List.length_append, List.length_cons, List.length_nil]; omega
      have l2 : ¬ ((([f % 128 + 128, f / 128 % 128 + 128, f / 16384] ++ ys).length : Int) ≤ 0 + 1) := by simp only [List.length_append, List.length_cons, List.length_nil]; omega
      have l3 : ¬ ((([f % 128 + 128, f / 128 % 128 + 128, f / 16384] ++ ys).length : Int) ≤ 0 + 2) := by simp only [List.length_append, List.length_cons, List.length_nil]; omega
      have r : rd ([f % 128 + 128, f / 128 % 128 + 128, f / 16384] ++ ys) 0 = f % 128 + 128 := rfl
      have r2 : rd ([f % 128 + 128, f / 128 % 128 + 128, f / 16384] ++ ys) (0 + 1) = f / 128 % 128 + 128 := rfl
      have r3 : rd ([f % 128 + 128, f / 128 % 128 + 128, f / 16384] ++ ys) (0 + 2) = f / 16384 := rfl
      have e : f % 128 + 128 - 128 + 128 * (f / 128 % 128 + 128 - 128) + 16384 * (f / 16384) = f := by omega
      rw [if_neg (by decide), if_neg l, r, if_neg (by omega), if_neg l2, r2, if_neg (by omega), if_neg l3, r3, if_pos (by omega), if_neg (by omega), e]
      unfold okV
      rw [if_neg (by omega)]; rfl
theorem varL_bytes {f : Int} (h0 : 0 ≤ f) (h1 : f ≤ 2000000) : allB (varL f) = true := by
  rw [allB_iff]
  intro x hx
  unfold varL at hx
  repeat' split at hx
  all_goals
    simp at hx
    omega
theorem vFrom_varL {f : Int} (h0 : 0 ≤ f) (h1 : f ≤ 2000000) : vFrom (varL f) 0 = (unf f, ((varL f).length : Int), true) := by
  unfold vFrom
  rw [if_pos (varL_bytes h0 h1)]
  have := vAt_varL h0 h1 []
  rwa [List.append_nil] at this

/-! ### Parts of records -/
def partOk (has : Bool) (xs : List Int) : Bool := if has = true then decide ((xs.length : Int) ≤ 12) && allB xs else decide ((xs.length : Int) = 0)
def recOk (o t : Int) (hk : Bool) (ks : List Int) (hv : Bool) (vs : List Int) : Bool := decide (0 ≤ o ∧ o ≤ 99999) && (decide (0 ≤ t ∧ t ≤ 99999) && (partOk hk ks && partOk hv vs))
def baseO (o t : Int) : Bool := decide (0 ≤ o ∧ o ≤ 99999) && decide (0 ≤ t ∧ t ≤ 99999)
end Go.Proofs.Ytmpnedpokdaejaa.M
