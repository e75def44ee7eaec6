/- Plain words for the laws of this seat, sixth part: packing, and what is unpacked behind other bytes. No program stands here. -/
import Derived.Test.YtjbgbnngfbhmjaaMath4
set_option linter.unusedVariables false
set_option linter.unusedSimpArgs false
namespace Go.Proofs.Ytjbgbnngfbhmjaa.M
open Go.RowKit Go.Proofs.YtjbgbnngfbhmjaaW.PrintWords

/-- How many bytes at a place are as those some places back, at most so many more. -/
def longF (xs : List Int) (a b : Nat) : Nat → Nat → Nat
  | 0, n => n
  | f + 1, n => if a + n < xs.length ∧ rd xs ((a + n : Nat) : Int) = rd xs (((a + n : Nat) : Int) - (b : Int)) then longF xs a b f (n + 1) else n
def long (xs : List Int) (a b : Nat) : Nat := longF xs a b 66 0
theorem longF_rng (xs : List Int) (a b f : Nat) : ∀ n, n ≤ longF xs a b f n ∧ longF xs a b f n ≤ n + f ∧ (a + n ≤ xs.length → a + longF xs a b f n ≤ xs.length) := by
  induction f with
  | zero => intro n; exact ⟨Nat.le_refl _, by simp [longF], fun h => h⟩
  | succ f ih =>
    intro n
    simp only [longF]
    split
    · rename_i h
      have := ih (n + 1)
      exact ⟨by omega, by omega, fun _ => this.2.2 (by omega)⟩
    · exact ⟨Nat.le_refl _, by omega, fun h => h⟩
theorem long_rng {xs : List Int} {a b : Nat} (h : a ≤ xs.length) : long xs a b ≤ 66 ∧ a + long xs a b ≤ xs.length := by
  have := longF_rng xs a b 66 0
  exact ⟨by unfold long; omega, this.2.2 (by omega)⟩
theorem longF_match (xs : List Int) (a b f : Nat) : ∀ n i, n ≤ i → i < longF xs a b f n → rd xs ((a + i : Nat) : Int) = rd xs (((a + i : Nat) : Int) - (b : Int)) := by
  induction f with
  | zero => intro n i h1 h2; simp only [longF] at h2; omega
  | succ f ih =>
    intro n i h1 h2
    simp only [longF] at h2
    split at h2
    · rename_i h
      by_cases e : i = n
      · subst e; exact h.2
      · exact ih (n + 1) i (by omega) h2
    · omega
def bestF (xs : List Int) (a : Nat) : Nat → Nat → Nat → Nat → Nat × Nat
  | 0, _, lg, bs => (lg, bs)
  | f + 1, b, lg, bs => if lg < long xs a b then bestF xs a f (b + 1) (long xs a b) b else bestF xs a f (b + 1) lg bs
/-- The longest match at a place, the nearest of several. -/
def best (xs : List Int) (a : Nat) : Nat × Nat := bestF xs a (min a 200) 1 0 0
/-- What is told as it is. -/
def plainF : Nat → List Int → List Int
  | 0, _ => []
  | f + 1, xs => if xs = [] then [] else (((xs.take 64).length : Int) - 1) :: (xs.take 64 ++ plainF f (xs.drop 64))
def plainL (xs : List Int) : List Int := plainF xs.length xs
def packF (xs : List Int) : Nat → List Int → List Int → Nat → List Int
  | 0, out, plain, _ => out ++ plainL plain
  | f + 1, out, plain, a => if a < xs.length then
      (if (best xs a).1 < 3 then packF xs f out (plain ++ [rd xs (a : Int)]) (a + 1) else packF xs f (out ++ plainL plain ++ [61 + ((best xs a).1 : Int), ((best xs a).2 : Int)]) [] (a + (best xs a).1))
    else out ++ plainL plain
def packL (xs : List Int) : List Int := packF xs xs.length [] [] 0
def packR (xs : List Int) : List Int × Bool := if allB xs = true ∧ xs.length ≤ 200 then (packL xs, true) else ([], false)

theorem plainF_fuel (d : Nat) : ∀ (e : Nat) (xs : List Int), xs.length ≤ d → xs.length ≤ e → plainF d xs = plainF e xs := by
  induction d with
  | zero =>
    intro e xs hd _
    have : xs = [] := List.eq_nil_of_length_eq_zero (by omega)
    subst this
    cases e <;> simp [plainF]
  | succ d ih =>
    intro e xs hd he
    cases e with
    | zero =>
      have : xs = [] := List.eq_nil_of_length_eq_zero (by omega)
      subst this
      simp [plainF]
    | succ e =>
      simp only [plainF]
      by_cases h : xs = []
      · rw [if_pos h, if_pos h]
      · rw [if_neg h, if_neg h]
        have : 0 < xs.length := List.length_pos_iff.2 h
        rw [ih e (xs.drop 64) (by simp; omega) (by simp; omega)]
theorem plainL_nil : plainL [] = [] := rfl
theorem plainL_step {xs : List Int} (h : xs ≠ []) : plainL xs = (((xs.take 64).length : Int) - 1) :: (xs.take 64 ++ plainL (xs.drop 64)) := by
  have hp : 0 < xs.length := List.length_pos_iff.2 h
  unfold plainL
  obtain ⟨n, hn⟩ : ∃ n, xs.length = n + 1 := ⟨xs.length - 1, by omega⟩
  rw [hn]
  simp only [plainF]
  rw [if_neg h, plainF_fuel n (xs.drop 64).length (xs.drop 64) (by simp; omega) (Nat.le_refl _)]
/-- How long plain bytes are: one more for each 64. -/
theorem plainL_len (n : Nat) : ∀ xs : List Int, xs.length = n → (plainL xs).length = n + (n + 63) / 64 := by
  induction n using Nat.strongRecOn with
  | ind n ih =>
    intro xs hn
    by_cases h : xs = []
    · subst h; simp at hn; subst hn; rfl
    · have hp : 0 < xs.length := List.length_pos_iff.2 h
      rw [plainL_step h]
      have := ih (n - 64) (by omega) (xs.drop 64) (by simp; omega)
      simp only [List.length_cons, List.length_append, this, List.length_take]
      omega
theorem packF_len (xs : List Int) (f : Nat) : ∀ (out plain : List Int) (a : Nat), out.length + 2 * plain.length ≤ 2 * a → a ≤ xs.length → (packF xs f out plain a).length ≤ 2 * xs.length := by
  induction f with
  | zero =>
    intro out plain a h ha
    simp only [packF, List.length_append, plainL_len _ plain rfl]
    omega
  | succ f ih =>
    intro out plain a h ha
    simp only [packF]
    split
    · rename_i hlt
      split
      · exact ih _ _ _ (by simp; omega) (by omega)
      · rename_i h3
        by_cases hb : a + (best xs a).1 ≤ xs.length
        · refine ih _ _ _ ?_ hb
          simp only [List.length_append, plainL_len _ plain rfl, List.length_cons, List.length_nil]
          omega
        · have hbig : (packF xs f (out ++ plainL plain ++ [61 + ((best xs a).1 : Int), ((best xs a).2 : Int)]) [] (a + (best xs a).1)) = out ++ plainL plain ++ [61 + ((best xs a).1 : Int), ((best xs a).2 : Int)] ++ plainL [] := by
            cases f with
            | zero => rfl
            | succ f => simp only [packF]; rw [if_neg (by omega)]
          rw [hbig]
          simp only [List.length_append, plainL_len _ plain rfl, List.length_cons, List.length_nil, plainL_nil]
          omega
    · simp only [List.length_append, plainL_len _ plain rfl]
      omega
theorem packL_len (xs : List Int) : (packL xs).length ≤ 2 * xs.length := packF_len xs _ [] [] 0 (by simp) (by omega)
theorem packR_len (xs : List Int) : (packR xs).1.length ≤ 400 := by
  unfold packR
  split
  · rename_i h
    have := packL_len xs
    show (packL xs).length ≤ 400
    omega
  · simp
theorem bestF_rng (xs : List Int) (a : Nat) (ha : a ≤ xs.length) (f : Nat) : ∀ b lg bs, 1 ≤ b → bs < b → lg ≤ 66 → a + lg ≤ xs.length → (lg = 0 ∨ 1 ≤ bs ∧ lg = long xs a bs) →
    (bestF xs a f b lg bs).1 ≤ 66 ∧ a + (bestF xs a f b lg bs).1 ≤ xs.length ∧ (bestF xs a f b lg bs).2 < b + f ∧ ((bestF xs a f b lg bs).1 = 0 ∨ 1 ≤ (bestF xs a f b lg bs).2 ∧ (bestF xs a f b lg bs).1 = long xs a (bestF xs a f b lg bs).2) := by
  induction f with
  | zero => intro b lg bs h1 h2 h3 h4 h5; exact ⟨h3, h4, by simpa [bestF] using h2, h5⟩
  | succ f ih =>
    intro b lg bs h1 h2 h3 h4 h5
    have lr := long_rng (xs := xs) (a := a) (b := b) ha
    simp only [bestF]
    split
    · have := ih (b + 1) (long xs a b) b (by omega) (by omega) lr.1 lr.2 (.inr ⟨h1, rfl⟩)
      exact ⟨this.1, this.2.1, by omega, this.2.2.2⟩
    · have := ih (b + 1) lg bs (by omega) (by omega) h3 h4 h5
      exact ⟨this.1, this.2.1, by omega, this.2.2.2⟩
theorem best_rng {xs : List Int} {a : Nat} (ha : a ≤ xs.length) : (best xs a).1 ≤ 66 ∧ a + (best xs a).1 ≤ xs.length ∧ (best xs a).2 ≤ min a 200 ∧ ((best xs a).1 = 0 ∨ 1 ≤ (best xs a).2 ∧ (best xs a).1 = long xs a (best xs a).2) := by
  have := bestF_rng xs a ha (min a 200) 1 0 0 (by omega) (by omega) (by omega) (by omega) (.inl rfl)
  exact ⟨this.1, this.2.1, by unfold best; omega, this.2.2.2⟩

/-! ### Unpacking behind other bytes -/
theorem rd_append_right (p o : List Int) (b : Nat) (h1 : 1 ≤ b) (h2 : b ≤ o.length) : rd (p ++ o) (((p ++ o).length : Int) - b) = rd o ((o.length : Int) - b) := by
  unfold rd
  rw [List.getD_eq_getElem?_getD, List.getD_eq_getElem?_getD]
  have e1 : (((p ++ o).length : Int) - b).toNat = p.length + (o.length - b) := by simp; omega
  have e2 : ((o.length : Int) - b).toNat = o.length - b := by omega
  rw [e1, e2, List.getElem?_append_right (by omega)]
  congr 2
  omega
theorem rept_behind (n b : Nat) (h1 : 1 ≤ b) : ∀ (p o : List Int), b ≤ o.length → rept n b (p ++ o) = p ++ rept n b o := by
  induction n with
  | zero => intro p o _; rfl
  | succ n ih =>
    intro p o h
    show rept n b (p ++ o ++ [rd (p ++ o) (((p ++ o).length : Int) - b)]) = p ++ rept n b (o ++ [rd o ((o.length : Int) - b)])
    rw [rd_append_right p o b h1 h, List.append_assoc, ih p _ (by simp; omega)]
theorem unp_grows (d : Nat) : ∀ (xs o r : List Int), unp d xs o = (r, true) → o.length ≤ r.length := by
  induction d with
  | zero => intro xs o r h; simp only [unp, Prod.mk.injEq, and_true] at h; subst h; exact Nat.le_refl _
  | succ d ih =>
    intro xs o r h
    cases xs with
    | nil => simp only [unp, Prod.mk.injEq, and_true] at h; subst h; exact Nat.le_refl _
    | cons n t =>
      simp only [unp] at h
      split at h
      · split at h
        · simp at h
        · split at h
          · simp at h
          · have := ih _ _ _ h
            simp only [List.length_append] at this
            omega
      · split at h
        · split at h
          · simp at h
          · split at h
            · simp at h
            · split at h
              · simp at h
              · have := ih _ _ _ h
                rw [rept_length] at this
                omega
        · simp at h
theorem unp_behind (d : Nat) : ∀ (xs p o r : List Int), unp d xs o = (r, true) → p.length + r.length ≤ 200 → unp d xs (p ++ o) = (p ++ r, true) := by
  induction d with
  | zero => intro xs p o r h _; simp only [unp, Prod.mk.injEq, and_true] at h ⊢; rw [h]
  | succ d ih =>
    intro xs p o r h hl
    cases xs with
    | nil => simp only [unp, Prod.mk.injEq, and_true] at h ⊢; rw [h]
    | cons n t =>
      simp only [unp] at h ⊢
      split at h
      · rename_i c1
        rw [if_pos c1]
        split at h
        · simp at h
        · rename_i c2
          rw [if_neg c2]
          split at h
          · simp at h
          · rename_i c3
            have g := unp_grows d _ _ _ h
            rw [List.append_assoc, if_neg (by simp only [List.length_append] at g ⊢; omega)]
            exact ih _ p _ r h hl
      · rename_i c1
        rw [if_neg c1]
        split at h
        · rename_i c2
          rw [if_pos c2]
          split at h
          · simp at h
          · rename_i c3
            rw [if_neg c3]
            split at h
            · simp at h
            · rename_i c4
              have hb : 1 ≤ (t.headD 0).toNat ∧ (t.headD 0).toNat ≤ o.length := by omega
              have g0 := unp_grows d
              rw [if_neg (by simp only [List.length_append]; omega), rept_behind _ _ hb.1 p o hb.2]
              split at h
              · simp at h
              · rename_i c5
                have g := unp_grows d _ _ _ h
                rw [if_neg (by simp only [List.length_append]; omega)]
                exact ih _ p _ r h hl
        · simp at h
theorem unp_append (d : Nat) : ∀ (e : Nat) (xs ys o r : List Int), xs.length ≤ d → ys.length ≤ e → unp d xs o = (r, true) → unp (d + e) (xs ++ ys) o = unp e ys r := by
  induction d with
  | zero =>
    intro e xs ys o r hd he h
    have : xs = [] := List.eq_nil_of_length_eq_zero (by omega)
    subst this
    simp only [unp, Prod.mk.injEq, and_true] at h
    subst h
    simp
  | succ d ih =>
    intro e xs ys o r hd he h
    cases xs with
    | nil =>
      simp only [unp, Prod.mk.injEq, and_true] at h
      subst h
      rw [List.nil_append]
      exact unp_fuel _ _ _ _ (by omega) he
    | cons n t =>
      have e1 : d + 1 + e = (d + e) + 1 := by omega
      rw [e1, List.cons_append]
      simp only [List.length_cons] at hd
      simp only [unp] at h ⊢
      split at h
      · rename_i c1
        rw [if_pos c1]
        split at h
        · simp at h
        · rename_i c2
          have ht : (n + 1).toNat ≤ t.length ∨ n < 0 := by omega
          rw [if_neg (by simp only [List.length_append]; omega)]
          have hm : (n + 1).toNat ≤ t.length := by omega
          rw [List.take_append_of_le_length hm, List.drop_append_of_le_length hm]
          split at h
          · simp at h
          · rename_i c3
            rw [if_neg c3]
            exact ih e _ ys _ r (by simp; omega) he h
      · rename_i c1
        rw [if_neg c1]
        split at h
        · rename_i c2
          rw [if_pos c2]
          split at h
          · simp at h
          · rename_i c3
            cases t with
            | nil => exact absurd rfl c3
            | cons b t2 =>
              rw [if_neg (by simp)]
              rw [show (b :: t2 ++ ys).headD 0 = (b :: t2).headD 0 from rfl, show (b :: t2 ++ ys).drop 1 = t2 ++ ys from rfl]
              rw [show (b :: t2).drop 1 = t2 from rfl] at h
              generalize (b :: t2).headD 0 = z at h ⊢
              by_cases c4 : z < 1 ∨ z > (o.length : Int)
              · rw [if_pos c4] at h; simp at h
              · rw [if_neg c4] at h ⊢
                by_cases c5 : ((rept (n - 61).toNat z.toNat o).length : Int) > 200
                · rw [if_pos c5] at h; simp at h
                · rw [if_neg c5] at h ⊢
                  simp only [List.length_cons] at hd
                  exact ih e t2 ys _ r (by omega) he h
        · simp at h
theorem unpack_twice {xs out : List Int} (h : unpackL xs = (out, true)) (hl : 2 * out.length ≤ 200) : unpackL (xs ++ xs) = (out ++ out, true) := by
  unfold unpackL at h ⊢
  split at h
  · rename_i hb
    rw [if_pos (by rw [allB_append, hb]; rfl), List.length_append]
    rw [unp_append xs.length xs.length xs xs [] out (Nat.le_refl _) (Nat.le_refl _) h]
    have := unp_behind xs.length xs out [] out h (by omega)
    rwa [List.append_nil] at this
  · simp at h
end Go.Proofs.Ytjbgbnngfbhmjaa.M
