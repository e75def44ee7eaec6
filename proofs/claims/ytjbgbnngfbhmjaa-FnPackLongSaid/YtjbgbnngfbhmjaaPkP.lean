import Derived.Test.YtjbgbnngfbhmjaaPkK
import Derived.Test.YtjbgbnngfbhmjaaMath6
set_option linter.unusedVariables false
set_option linter.unusedSimpArgs false
namespace Go.Proofs.Ytjbgbnngfbhmjaa.Pk
open Go.RowKit Go.Proofs.YtjbgbnngfbhmjaaW.PrintWords
/-! What the walk of packing computes is what the plain words say: no program stands here. -/
theorem mlen_long (xs : List Int) (a b : Nat) (f : Nat) : ∀ n, n + f = 66 → mlenF xs (a : Int) ((a : Int) - (b : Int)) (f + 1) (n : Int) = ((M.longF xs a b f n : Nat) : Int) := by
  induction f with
  | zero =>
    intro n hn
    simp only [mlenF, M.longF]
    rw [if_neg (fun h => by have := h.1; omega)]
  | succ f ih =>
    intro n hn
    have e1 : (a : Int) - (b : Int) + (n : Int) = ((a + n : Nat) : Int) - (b : Int) := by omega
    have e2 : (a : Int) + (n : Int) = ((a + n : Nat) : Int) := by omega
    have e3 : (n : Int) + 1 = ((n + 1 : Nat) : Int) := by omega
    rw [mlenF, M.longF, e1, e2, e3]
    by_cases h : a + n < xs.length ∧ rd xs ((a + n : Nat) : Int) = rd xs (((a + n : Nat) : Int) - (b : Int))
    · rw [if_pos h, if_pos ⟨by omega, by omega, h.2.symm⟩]
      exact ih (n + 1) (by omega)
    · rw [if_neg h, if_neg (fun q => h ⟨by omega, q.2.2.symm⟩)]
theorem mlen_eq (xs : List Int) (a b : Nat) : mlen xs (a : Int) ((a : Int) - (b : Int)) = ((M.long xs a b : Nat) : Int) := mlen_long xs a b 66 0 rfl
theorem longF_step (xs : List Int) (a b f n : Nat) (h : a + n < xs.length ∧ rd xs ((a + n : Nat) : Int) = rd xs (((a + n : Nat) : Int) - (b : Int))) : M.longF xs a b (f + 1) n = M.longF xs a b f (n + 1) := by
  rw [M.longF, if_pos h]
/-- Three bytes are alike: just then the match has three at least. -/
theorem long_three (xs : List Int) (a b : Nat) (h3 : a + 3 ≤ xs.length) : 3 ≤ M.long xs a b ↔ keyAt xs ((a : Int) - (b : Int)) = keyAt xs (a : Int) := by
  constructor
  · intro h
    have m := fun i (hi : i < 3) => M.longF_match xs a b 66 0 i (Nat.zero_le _) (Nat.lt_of_lt_of_le hi h)
    have m0 := m 0 (by omega)
    have m1 := m 1 (by omega)
    have m2 := m 2 (by omega)
    unfold keyAt
    rw [show (a : Int) - (b : Int) = ((a + 0 : Nat) : Int) - (b : Int) by omega, show ((a + 0 : Nat) : Int) - (b : Int) + 1 = ((a + 1 : Nat) : Int) - (b : Int) by omega, show ((a + 0 : Nat) : Int) - (b : Int) + 2 = ((a + 2 : Nat) : Int) - (b : Int) by omega, ← m0, ← m1, ← m2]
    rw [show ((a + 0 : Nat) : Int) = (a : Int) by omega, show ((a + 1 : Nat) : Int) = (a : Int) + 1 by omega, show ((a + 2 : Nat) : Int) = (a : Int) + 2 by omega]
  · intro h
    unfold keyAt at h
    simp only [Prod.mk.injEq] at h
    obtain ⟨h0, h1, h2⟩ := h
    have e0 : rd xs ((a + 0 : Nat) : Int) = rd xs (((a + 0 : Nat) : Int) - (b : Int)) := by
      rw [show ((a + 0 : Nat) : Int) = (a : Int) by omega]; exact h0.symm
    have e1 : rd xs ((a + 1 : Nat) : Int) = rd xs (((a + 1 : Nat) : Int) - (b : Int)) := by
      rw [show ((a + 1 : Nat) : Int) - (b : Int) = (a : Int) - (b : Int) + 1 by omega, show ((a + 1 : Nat) : Int) = (a : Int) + 1 by omega]; exact h1.symm
    have e2 : rd xs ((a + 2 : Nat) : Int) = rd xs (((a + 2 : Nat) : Int) - (b : Int)) := by
      rw [show ((a + 2 : Nat) : Int) - (b : Int) = (a : Int) - (b : Int) + 2 by omega, show ((a + 2 : Nat) : Int) = (a : Int) + 2 by omega]; exact h2.symm
    unfold M.long
    rw [longF_step xs a b 65 0 ⟨by omega, e0⟩, longF_step xs a b 64 1 ⟨by omega, e1⟩, longF_step xs a b 63 2 ⟨by omega, e2⟩]
    exact (M.longF_rng xs a b 63 3).1
/-- Both have looked at the same places: they hold the same, or nothing that counts. -/
def Alike (r : Int × Int) (s : Nat × Nat) : Prop := (r = ((s.1 : Int), (s.2 : Int)) ∧ 3 ≤ s.1) ∨ (r = (0, 0) ∧ s.1 < 3)
theorem matchP_far {xs : List Int} {a : Int} {fs : List Int} {r : Int × Int} (h : ∀ p ∈ fs, a - p > 200) : matchP xs a fs r = r := by
  cases fs with
  | nil => rfl
  | cons p fs => rw [matchP, if_pos (h p (List.mem_cons_self ..))]
theorem match_alike (xs : List Int) (a : Nat) (h3 : a + 3 ≤ xs.length) (n : Nat) : ∀ (r : Int × Int) (lg bs : Nat), n ≤ a → Alike r (lg, bs) →
    Alike (matchP xs (a : Int) (seenF xs n (keyAt xs (a : Int))).reverse r) (M.bestF xs a (min a 200 - (a - n)) (a - n + 1) lg bs) := by
  induction n with
  | zero =>
    intro r lg bs hn hr
    rw [show min a 200 - (a - 0) = 0 by omega]
    exact hr
  | succ n ih =>
    intro r lg bs hn hr
    by_cases hf : a - n > 200
    · rw [show min a 200 - (a - (n + 1)) = 0 by omega]
      rw [matchP_far (fun p hp => by
        have := seenF_rng xs (n + 1) _ p (List.mem_reverse.1 hp)
        omega)]
      exact hr
    · obtain ⟨f, hf2⟩ : ∃ f, min a 200 - (a - (n + 1)) = f + 1 := ⟨min a 200 - (a - n), by omega⟩
      have hf3 : f = min a 200 - (a - n) := by omega
      rw [hf2, show a - (n + 1) + 1 = a - n by omega, M.bestF]
      have hL := long_three xs a (a - n) h3
      have hM := mlen_eq xs a (a - n)
      have en : (a : Int) - ((a - n : Nat) : Int) = (n : Int) := by omega
      rw [en] at hL hM
      have hs : seenF xs (n + 1) (keyAt xs (a : Int)) = if keyAt xs (a : Int) = keyAt xs (n : Int) then seenF xs n (keyAt xs (a : Int)) ++ [(n : Int)] else seenF xs n (keyAt xs (a : Int)) := by
        show seeF xs (n : Int) (seenF xs n) _ = _
        unfold seeF
        rw [if_pos (by omega)]
      rw [hs]
      have hstep : a - n + 1 = a - n + 1 := rfl
      by_cases hk : keyAt xs (n : Int) = keyAt xs (a : Int)
      · have hl3 := hL.2 hk
        rw [if_pos hk.symm, List.reverse_append, List.reverse_singleton, List.singleton_append, matchP, if_neg (by omega), hM]
        rcases hr with ⟨rfl, hr⟩ | ⟨rfl, hr⟩
        · dsimp only
          by_cases c : lg < M.long xs a (a - n)
          · rw [if_pos (show ((M.long xs a (a - n) : Nat) : Int) > (lg : Int) by omega), if_pos c]
            have := ih ((M.long xs a (a - n) : Int), (a : Int) - (n : Int)) (M.long xs a (a - n)) (a - n) (by omega) (.inl ⟨by rw [show (a : Int) - (n : Int) = ((a - n : Nat) : Int) by omega], hl3⟩)
            rw [hf3]
            exact this
          · rw [if_neg (show ¬ ((M.long xs a (a - n) : Nat) : Int) > (lg : Int) by omega), if_neg c, hf3]
            exact ih _ lg bs (by omega) (.inl ⟨rfl, hr⟩)
        · dsimp only
          dsimp only at hr
          rw [if_pos (show ((M.long xs a (a - n) : Nat) : Int) > 0 by omega), if_pos (by omega)]
          have := ih ((M.long xs a (a - n) : Int), (a : Int) - (n : Int)) (M.long xs a (a - n)) (a - n) (by omega) (.inl ⟨by rw [show (a : Int) - (n : Int) = ((a - n : Nat) : Int) by omega], hl3⟩)
          rw [hf3]
          exact this
      · have hl3 : ¬ 3 ≤ M.long xs a (a - n) := fun h => hk (hL.1 h)
        rw [if_neg (fun e => hk e.symm)]
        rcases hr with ⟨rfl, hr⟩ | ⟨rfl, hr⟩
        · dsimp only at hr
          rw [if_neg (by omega), hf3]
          exact ih _ lg bs (by omega) (.inl ⟨rfl, hr⟩)
        · dsimp only at hr
          by_cases c : lg < M.long xs a (a - n)
          · rw [if_pos c, hf3]
            exact ih _ _ _ (by omega) (.inr ⟨rfl, by dsimp only; omega⟩)
          · rw [if_neg c, hf3]
            exact ih _ _ _ (by omega) (.inr ⟨rfl, hr⟩)
theorem best2_alike (xs : List Int) (a : Nat) (ha : a ≤ xs.length) : Alike (best2 xs (a : Int) (seenF xs a (keyAt xs (a : Int)))) (M.best xs a) := by
  unfold best2
  by_cases h : a + 3 ≤ xs.length
  · rw [if_pos (by omega)]
    have := match_alike xs a h a (0, 0) 0 0 (Nat.le_refl _) (.inr ⟨rfl, by decide⟩)
    rw [show a - a = 0 by omega] at this
    exact this
  · rw [if_neg (by omega)]
    have := M.best_rng (xs := xs) (a := a) ha
    exact .inr ⟨rfl, by omega⟩
theorem pieceO_zero (xs : List Int) : pieceO xs 0 = (((xs.take 64).length : Int) - 1) :: xs.take 64 := by
  unfold pieceO
  have e : xs.take (64 * 0 + min 64 (xs.length - 64 * 0)) = xs.take 64 := by
    by_cases h : 64 ≤ xs.length
    · rw [show 64 * 0 + min 64 (xs.length - 64 * 0) = 64 by omega]
    · rw [List.take_of_length_le (by omega), List.take_of_length_le (by omega)]
  rw [e]
  simp
theorem pieceO_drop (xs : List Int) (k : Nat) : pieceO xs (k + 1) = pieceO (xs.drop 64) k := by
  unfold pieceO
  have e : (xs.drop 64).length = xs.length - 64 := by simp
  rw [e, show xs.length - 64 * (k + 1) = xs.length - 64 - 64 * k by omega, List.take_drop, List.drop_drop]
  congr 2
  · omega
  · congr 1
    omega
theorem outP_plain (n : Nat) : ∀ xs : List Int, xs.length = n → outP xs = M.plainL xs := by
  induction n using Nat.strongRecOn with
  | ind n ih =>
    intro xs hn
    by_cases h : xs = []
    · subst h
      rfl
    · have hp : 0 < xs.length := List.length_pos_iff.2 h
      have hd : (xs.drop 64).length = xs.length - 64 := by simp
      rw [M.plainL_step h, ← ih (n - 64) (by omega) (xs.drop 64) (by omega)]
      unfold outP
      obtain ⟨m, hm⟩ : ∃ m, (xs.length + 63) / 64 = m + 1 := ⟨(xs.length + 63) / 64 - 1, by omega⟩
      rw [hm, show ((xs.drop 64).length + 63) / 64 = m by omega]
      unfold piecesO upto
      rw [List.range_succ_eq_map]
      simp only [List.map_cons, List.map_map, List.flatten_cons, id]
      rw [pieceO_zero, List.cons_append]
      congr 3
      exact List.map_congr_left (fun k _ => pieceO_drop xs k)
theorem packG_plain (xs : List Int) (d : Nat) : ∀ (out plain : List Int) (a : Nat), xs.length - a ≤ d → a ≤ xs.length → packG xs (d + 1) out plain a = some (M.packF xs d out plain a) := by
  induction d with
  | zero =>
    intro out plain a hd ha
    rw [packG, M.packF, if_neg (by omega), outP_plain _ plain rfl]
  | succ d ih =>
    intro out plain a hd ha
    rw [packG, M.packF]
    by_cases c : a < xs.length
    · rw [if_pos c, if_pos c]
      have hb := best2_alike xs a ha
      have br := M.best_rng (xs := xs) (a := a) ha
      rcases hb with ⟨e, h3⟩ | ⟨e, h3⟩
      · rw [e, if_neg (by dsimp only; omega), if_neg (by omega), outP_plain _ plain rfl]
        dsimp only
        rw [Int.toNat_natCast, Int.add_comm]
        exact ih _ _ _ (by omega) (by omega)
      · rw [e, if_pos (by decide), if_pos h3]
        exact ih _ _ _ (by omega) (by omega)
    · rw [if_neg c, if_neg c, outP_plain _ plain rfl]
theorem packG_eq (xs : List Int) : packG xs (xs.length + 1) [] [] 0 = some (M.packL xs) := packG_plain xs xs.length [] [] 0 (by omega) (by omega)
theorem best2_rng {xs : List Int} {a : Nat} (ha : a ≤ xs.length) {lg bk : Int} (h : (lg, bk) = best2 xs (a : Int) (seenF xs a (keyAt xs (a : Int)))) : 0 ≤ lg ∧ lg ≤ 66 ∧ (a : Int) + lg ≤ xs.length ∧ 0 ≤ bk ∧ bk ≤ 200 := by
  have hb := best2_alike xs a ha
  rw [← h] at hb
  have br := M.best_rng (xs := xs) (a := a) ha
  rcases hb with ⟨e, h3⟩ | ⟨e, h3⟩
  · injection e with e1 e2
    omega
  · injection e with e1 e2
    omega
theorem outP_len (xs : List Int) : (outP xs).length ≤ 2 * xs.length := by
  rw [outP_plain _ xs rfl, M.plainL_len _ xs rfl]
  omega
end Go.Proofs.Ytjbgbnngfbhmjaa.Pk
