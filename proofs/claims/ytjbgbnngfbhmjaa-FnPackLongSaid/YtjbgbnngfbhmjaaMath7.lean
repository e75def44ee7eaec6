/- Plain words for the laws of this seat, seventh part: how long packed bytes are, and that they are unpacked to what they were. No program stands here. -/
import Derived.Test.YtjbgbnngfbhmjaaMath6
set_option linter.unusedVariables false
set_option linter.unusedSimpArgs false
namespace Go.Proofs.Ytjbgbnngfbhmjaa.M
open Go.RowKit Go.Proofs.YtjbgbnngfbhmjaaW.PrintWords

/-! ### How long -/
theorem packF_long (xs : List Int) (f : Nat) : ∀ (out plain : List Int) (a s m : Nat), s + 3 * m + plain.length ≤ a → a ≤ xs.length → (m = 0 ∧ s = 0 ∧ out.length = 0 ∨ 1 ≤ m ∧ out.length + 1 ≤ s + 3 * m + (s + 63) / 64) →
    (packF xs f out plain a).length ≤ xs.length + (xs.length + 63) / 64 := by
  have fin : ∀ (out plain : List Int) (a s m : Nat), s + 3 * m + plain.length ≤ a → a ≤ xs.length → (m = 0 ∧ s = 0 ∧ out.length = 0 ∨ 1 ≤ m ∧ out.length + 1 ≤ s + 3 * m + (s + 63) / 64) → (out ++ plainL plain).length ≤ xs.length + (xs.length + 63) / 64 := by
    intro out plain a s m h1 h2 h3
    rw [List.length_append, plainL_len _ plain rfl]
    omega
  induction f with
  | zero => exact fun out plain a s m h1 h2 h3 => fin out plain a s m h1 h2 h3
  | succ f ih =>
    intro out plain a s m h1 h2 h3
    rw [packF]
    by_cases c : a < xs.length
    · rw [if_pos c]
      have br := best_rng (xs := xs) (a := a) h2
      by_cases g : (best xs a).1 < 3
      · rw [if_pos g]
        exact ih _ _ _ s m (by simp; omega) (by omega) h3
      · rw [if_neg g]
        refine ih _ _ _ (s + plain.length) (m + 1) (by simp; omega) (by omega) (.inr ⟨by omega, ?_⟩)
        rw [List.length_append, List.length_append, plainL_len _ plain rfl]
        simp only [List.length_cons, List.length_nil]
        omega
    · rw [if_neg c]
      exact fin out plain a s m h1 h2 h3
theorem packL_long (xs : List Int) : (packL xs).length ≤ xs.length + (xs.length + 63) / 64 := packF_long xs _ [] [] 0 0 0 (by simp) (by omega) (.inl ⟨rfl, rfl, rfl⟩)

/-! ### A match that does not end ahead of the bytes -/
theorem longF_full (xs : List Int) (a b : Nat) (h : ∀ i, a + i < xs.length → rd xs ((a + i : Nat) : Int) = rd xs (((a + i : Nat) : Int) - (b : Int))) (f : Nat) : ∀ n, a + n ≤ xs.length → longF xs a b f n = min (n + f) (xs.length - a) := by
  induction f with
  | zero => intro n hn; simp only [longF]; omega
  | succ f ih =>
    intro n hn
    rw [longF]
    by_cases c : a + n < xs.length
    · rw [if_pos ⟨c, h n c⟩, ih (n + 1) (by omega)]
      omega
    · rw [if_neg (fun q => c q.1)]
      omega
theorem long_full {xs : List Int} {a b : Nat} (h : ∀ i, a + i < xs.length → rd xs ((a + i : Nat) : Int) = rd xs (((a + i : Nat) : Int) - (b : Int))) (ha : a ≤ xs.length) : long xs a b = min 66 (xs.length - a) := by
  have := longF_full xs a b h 66 0 (by omega)
  unfold long
  rw [this]
theorem bestF_ge (xs : List Int) (a : Nat) (f : Nat) : ∀ b lg bs, lg ≤ (bestF xs a f b lg bs).1 ∧ ∀ c, b ≤ c → c < b + f → long xs a c ≤ (bestF xs a f b lg bs).1 := by
  induction f with
  | zero => intro b lg bs; exact ⟨Nat.le_refl _, fun c h1 h2 => by omega⟩
  | succ f ih =>
    intro b lg bs
    rw [bestF]
    by_cases g : lg < long xs a b
    · rw [if_pos g]
      have := ih (b + 1) (long xs a b) b
      refine ⟨by omega, fun c h1 h2 => ?_⟩
      by_cases e : c = b
      · subst e; exact this.1
      · exact this.2 c (by omega) (by omega)
    · rw [if_neg g]
      have := ih (b + 1) lg bs
      refine ⟨this.1, fun c h1 h2 => ?_⟩
      by_cases e : c = b
      · subst e; omega
      · exact this.2 c (by omega) (by omega)
theorem best_ge {xs : List Int} {a c : Nat} (h1 : 1 ≤ c) (h2 : c ≤ min a 200) : long xs a c ≤ (best xs a).1 := (bestF_ge xs a (min a 200) 1 0 0).2 c h1 (by omega)

/-! ### Bytes that are all alike -/
theorem rd_replicate {n : Nat} {x i : Int} (h0 : 0 ≤ i) (h1 : i < n) : rd (List.replicate n x) i = x := by
  obtain ⟨j, rfl⟩ := Int.eq_ofNat_of_zero_le h0
  rw [rd_nat _ _ (by simp; omega)]
  simp
theorem packL_same (x : Int) : (packL (List.replicate 60 x)).length = 4 := by
  obtain ⟨xs, hx⟩ : ∃ xs, xs = List.replicate 60 x := ⟨_, rfl⟩
  have hl : xs.length = 60 := by rw [hx]; simp
  have hL : long xs 1 1 = 59 := by
    rw [long_full (fun i hi => ?_) (by omega), hl]
    · rfl
    · rw [hx, rd_replicate (by omega) (by omega), rd_replicate (by omega) (by omega)]
  have hb0 : best xs 0 = (0, 0) := rfl
  have hb1 : best xs 1 = (59, 1) := by
    unfold best
    rw [show min 1 200 = 0 + 1 from rfl, bestF, hL, if_pos (by decide), bestF]
  rw [← hx]
  unfold packL
  rw [hl, packF, hl, if_pos (by decide), hb0, if_pos (by decide), packF, hl, if_pos (by decide), hb1, if_neg (by decide), packF, hl, if_neg (by decide)]
  rw [List.length_append, List.length_append, List.length_append, plainL_len _ _ rfl, plainL_len _ _ rfl]
  simp only [List.length_append, List.length_cons, List.length_nil]

/-! ### What comes twice -/
theorem packF_tail (ys : List Int) (f : Nat) : ∀ (out plain : List Int) (p : Nat), ys.length - p < 3 → ys.length - p ≤ f → p ≤ ys.length → (packF ys f out plain p).length = out.length + (plain.length + (ys.length - p) + (plain.length + (ys.length - p) + 63) / 64) := by
  induction f with
  | zero =>
    intro out plain p h1 h2 h3
    rw [packF, List.length_append, plainL_len _ plain rfl, show ys.length - p = 0 by omega]
    rfl
  | succ f ih =>
    intro out plain p h1 h2 h3
    rw [packF]
    by_cases c : p < ys.length
    · have br := best_rng (xs := ys) (a := p) h3
      rw [if_pos c, if_pos (by omega), ih _ _ _ (by omega) (by omega) (by omega)]
      simp only [List.length_append, List.length_cons, List.length_nil]
      rw [show plain.length + (0 + 1) + (ys.length - (p + 1)) = plain.length + (ys.length - p) by omega]
    · rw [if_neg c, List.length_append, plainL_len _ plain rfl, show ys.length - p = 0 by omega]
      rfl
theorem rd_left {xs ys : List Int} {i : Int} (h0 : 0 ≤ i) (h1 : i < xs.length) : rd (xs ++ ys) i = rd xs i := by
  obtain ⟨j, rfl⟩ := Int.eq_ofNat_of_zero_le h0
  rw [rd_nat _ _ (by simp; omega), rd_nat _ _ (by omega)]
  exact List.getElem_append_left (by omega)
theorem rd_right {xs ys : List Int} {i : Int} (h0 : xs.length ≤ i) (h1 : i < (xs ++ ys).length) : rd (xs ++ ys) i = rd ys (i - xs.length) := by
  obtain ⟨j, rfl⟩ := Int.eq_ofNat_of_zero_le (show 0 ≤ i by omega)
  have e : (j : Int) - (xs.length : Int) = ((j - xs.length : Nat) : Int) := by omega
  rw [List.length_append] at h1
  rw [e, rd_nat _ _ (by simp; omega), rd_nat _ _ (by omega)]
  exact List.getElem_append_right (by omega)
theorem twice_long {xs : List Int} {p : Nat} (h0 : xs.length ≤ p) (h1 : p ≤ (xs ++ xs).length) (hn : xs.length ≤ 66) (h3 : 1 ≤ xs.length) : long (xs ++ xs) p xs.length = (xs ++ xs).length - p := by
  rw [long_full (fun i hi => ?_) h1]
  · simp only [List.length_append] at h1 ⊢
    omega
  · have hi' := hi
    rw [List.length_append] at hi'
    rw [rd_right (by omega) (by omega), rd_left (by omega) (by omega)]
theorem twice_tail {xs : List Int} (hn : xs.length ≤ 66) (h3 : 1 ≤ xs.length) {f p : Nat} (out plain : List Int) (h0 : xs.length ≤ p) (h1 : p ≤ (xs ++ xs).length) (hf : (xs ++ xs).length - p ≤ f) :
    (packF (xs ++ xs) f out plain p).length ≤ out.length + (plain.length + (plain.length + 63) / 64) + 3 := by
  by_cases c : (xs ++ xs).length - p < 3
  · rw [packF_tail _ f out plain p c hf h1]
    omega
  · have hL := twice_long h0 h1 hn h3
    have hge := best_ge (xs := xs ++ xs) (a := p) (c := xs.length) h3 (by omega)
    have br := best_rng (xs := xs ++ xs) (a := p) h1
    obtain ⟨f, rfl⟩ : ∃ g, f = g + 1 := ⟨f - 1, by omega⟩
    rw [packF, if_pos (by omega), if_neg (by omega)]
    rw [packF_tail _ f _ [] _ (by omega) (by omega) (by omega)]
    rw [List.length_append, List.length_append, plainL_len _ plain rfl]
    simp only [List.length_cons, List.length_nil]
    omega
/-- A match in the first half, cut where that ends. -/
theorem longF_cut (xs ys : List Int) (a b : Nat) (hb : b ≤ a) (f : Nat) : ∀ n, a + n ≤ xs.length → longF xs a b f n = min (longF (xs ++ ys) a b f n) (xs.length - a) := by
  induction f with
  | zero => intro n hn; simp only [longF]; omega
  | succ f ih =>
    intro n hn
    rw [longF, longF]
    by_cases c : a + n < xs.length
    · rw [rd_left (xs := xs) (ys := ys) (i := ((a + n : Nat) : Int)) (by omega) (by omega), rd_left (xs := xs) (ys := ys) (i := ((a + n : Nat) : Int) - (b : Int)) (by omega) (by omega)]
      by_cases g : rd xs ((a + n : Nat) : Int) = rd xs (((a + n : Nat) : Int) - (b : Int))
      · rw [if_pos ⟨c, g⟩, if_pos ⟨by simp; omega, g⟩]
        exact ih (n + 1) (by omega)
      · rw [if_neg (fun q => g q.2), if_neg (fun q => g q.2)]
        omega
    · rw [if_neg (fun q => c q.1)]
      split
      · have := (longF_rng (xs ++ ys) a b f (n + 1)).1
        omega
      · omega
theorem long_cut {xs ys : List Int} {a b : Nat} (hb : b ≤ a) (ha : a ≤ xs.length) : long xs a b = min (long (xs ++ ys) a b) (xs.length - a) := longF_cut xs ys a b hb 66 0 (by omega)
theorem bestF_congr (xs ys : List Int) (a : Nat) (f : Nat) : ∀ b lg bs, (∀ c, b ≤ c → c < b + f → long xs a c = long ys a c) → bestF xs a f b lg bs = bestF ys a f b lg bs := by
  induction f with
  | zero => intro b lg bs _; rfl
  | succ f ih =>
    intro b lg bs h
    rw [bestF, bestF, h b (Nat.le_refl _) (by omega), ih _ _ _ (fun c h1 h2 => h c (by omega) (by omega)), ih _ _ _ (fun c h1 h2 => h c (by omega) (by omega))]
theorem packF_over (xs : List Int) (d : Nat) (out plain : List Int) (a : Nat) (ha : xs.length ≤ a) : packF xs d out plain a = out ++ plainL plain := by
  cases d with
  | zero => rfl
  | succ d => rw [packF, if_neg (by omega)]
theorem twice_main {xs : List Int} (hn : xs.length ≤ 66) (h3 : 1 ≤ xs.length) (d : Nat) : ∀ (D : Nat) (out plain : List Int) (a : Nat), a ≤ xs.length → xs.length - a ≤ d → (xs ++ xs).length - a ≤ D → (packF (xs ++ xs) D out plain a).length ≤ (packF xs d out plain a).length + 6 := by
  have hll : (xs ++ xs).length = xs.length + xs.length := List.length_append
  have over : ∀ (d D : Nat) (out plain : List Int) (a : Nat), a = xs.length → (xs ++ xs).length - a ≤ D → (packF (xs ++ xs) D out plain a).length ≤ (packF xs d out plain a).length + 6 := by
    intro d D out plain a ha hD
    have t := twice_tail hn h3 (f := D) (p := a) out plain (by omega) (by omega) hD
    rw [packF_over xs d out plain a (by omega), List.length_append, plainL_len _ plain rfl]
    omega
  induction d with
  | zero =>
    intro D out plain a ha hd hD
    exact over 0 D out plain a (by omega) hD
  | succ d ih =>
    intro D out plain a ha hd hD
    by_cases c : a < xs.length
    · obtain ⟨D, rfl⟩ : ∃ g, D = g + 1 := ⟨D - 1, by omega⟩
      have br := best_rng (xs := xs) (a := a) ha
      have br' := best_rng (xs := xs ++ xs) (a := a) (by omega)
      have hrd : rd (xs ++ xs) (a : Int) = rd xs (a : Int) := rd_left (by omega) (by omega)
      by_cases e : a + (best (xs ++ xs) a).1 ≤ xs.length
      · have hb : best xs a = best (xs ++ xs) a := by
          unfold best
          refine bestF_congr xs (xs ++ xs) a (min a 200) 1 0 0 (fun k h1 h2 => ?_)
          have := best_ge (xs := xs ++ xs) (a := a) (c := k) h1 (by omega)
          rw [long_cut (xs := xs) (ys := xs) (by omega) ha]
          omega
        rw [packF, packF, if_pos (by omega), if_pos c, hb, hrd]
        by_cases g : (best (xs ++ xs) a).1 < 3
        · rw [if_pos g, if_pos g]
          exact ih D _ _ _ (by omega) (by omega) (by omega)
        · rw [if_neg g, if_neg g]
          exact ih D _ _ _ (by omega) (by omega) (by omega)
      · have hb : (best xs a).1 = xs.length - a := by
          rcases br'.2.2.2 with z | ⟨z1, z2⟩
          · omega
          · have h5 := best_ge (xs := xs) (a := a) (c := (best (xs ++ xs) a).2) z1 br'.2.2.1
            rw [long_cut (xs := xs) (ys := xs) (by omega) ha] at h5
            omega
        by_cases g : xs.length - a < 3
        · have ex := packF_tail xs (d + 1) out plain a g (by omega) ha
          by_cases g' : (best (xs ++ xs) a).1 < 3
          · rw [packF, packF, if_pos (by omega), if_pos c, if_pos g', if_pos (by omega), hrd]
            exact ih D _ _ _ (by omega) (by omega) (by omega)
          · rw [ex, packF, if_pos (by omega), if_neg g']
            have t := twice_tail hn h3 (f := D) (p := a + (best (xs ++ xs) a).1) (out ++ plainL plain ++ [61 + ((best (xs ++ xs) a).1 : Int), ((best (xs ++ xs) a).2 : Int)]) [] (by omega) (by omega) (by omega)
            rw [List.length_append, List.length_append, plainL_len _ plain rfl] at t
            simp only [List.length_cons, List.length_nil] at t
            omega
        · rw [packF, packF, if_pos (by omega), if_pos c, if_neg (by omega), if_neg (by omega), packF_over xs d _ _ _ (by omega)]
          have t := twice_tail hn h3 (f := D) (p := a + (best (xs ++ xs) a).1) (out ++ plainL plain ++ [61 + ((best (xs ++ xs) a).1 : Int), ((best (xs ++ xs) a).2 : Int)]) [] (by omega) (by omega) (by omega)
          rw [List.length_append, List.length_append, plainL_len _ plain rfl] at t
          simp only [List.length_append, List.length_cons, List.length_nil, plainL_len _ plain rfl, plainL_nil] at t ⊢
          omega
    · exact over _ D out plain a (by omega) hD
theorem packL_twice {xs : List Int} (hn : xs.length ≤ 66) (h3 : 1 ≤ xs.length) : (packL (xs ++ xs)).length ≤ (packL xs).length + 6 := by
  unfold packL
  exact twice_main hn h3 xs.length _ [] [] 0 (by omega) (by omega) (by omega)

/-! ### What was packed is unpacked -/
def Un (xs o r : List Int) : Prop := unp xs.length xs o = (r, true)
theorem Un.nil (o : List Int) : Un [] o o := rfl
theorem Un.append {xs ys o r s : List Int} (h : Un xs o r) (k : Un ys r s) : Un (xs ++ ys) o s := by
  unfold Un at h k ⊢
  rw [List.length_append, unp_append xs.length ys.length xs ys o r (Nat.le_refl _) (Nat.le_refl _) h]
  exact k
theorem un_piece {xs o : List Int} (h0 : xs ≠ []) (h1 : xs.length ≤ 64) (h2 : (o ++ xs).length ≤ 200) : Un (((xs.length : Int) - 1) :: xs) o (o ++ xs) := by
  have hp : 0 < xs.length := List.length_pos_iff.2 h0
  unfold Un
  rw [List.length_cons, unp, if_pos (by omega), if_neg (by omega)]
  have e : ((xs.length : Int) - 1 + 1).toNat = xs.length := by omega
  rw [e, List.take_of_length_le (Nat.le_refl _), if_neg (by omega), List.drop_eq_nil_of_le (Nat.le_refl _), unp_nil]
theorem un_plain (n : Nat) : ∀ (xs o : List Int), xs.length = n → (o ++ xs).length ≤ 200 → Un (plainL xs) o (o ++ xs) := by
  induction n using Nat.strongRecOn with
  | ind n ih =>
    intro xs o hn h2
    by_cases h : xs = []
    · subst h
      rw [List.append_nil]
      exact Un.nil o
    · have hp : 0 < xs.length := List.length_pos_iff.2 h
      rw [List.length_append] at h2
      have h64 : (xs.take 64).length = min 64 xs.length := List.length_take
      have hd : (xs.drop 64).length = xs.length - 64 := List.length_drop
      have p1 := un_piece (xs := xs.take 64) (o := o) (by intro q; have := congrArg List.length q; rw [h64, List.length_nil] at this; omega) (by omega) (by rw [List.length_append]; omega)
      have p2 := ih (xs.length - 64) (by omega) (xs.drop 64) (o ++ xs.take 64) hd (by simp only [List.length_append, h64, hd]; omega)
      rw [List.append_assoc, List.take_append_drop] at p2
      rw [plainL_step h, ← List.cons_append]
      exact p1.append p2
theorem rept_take {xs : List Int} {b : Nat} (n : Nat) : ∀ a, b ≤ a → 1 ≤ b → a + n ≤ xs.length → (∀ i, i < n → rd xs ((a + i : Nat) : Int) = rd xs (((a + i : Nat) : Int) - (b : Int))) → rept n b (xs.take a) = xs.take (a + n) := by
  induction n with
  | zero => intro a _ _ _ _; rfl
  | succ n ih =>
    intro a hb h1 hl h
    have hla : (xs.take a).length = a := by rw [List.length_take]; omega
    have e0 := h 0 (by omega)
    rw [Nat.add_zero] at e0
    have e1 : rd (xs.take a) (((xs.take a).length : Int) - (b : Int)) = rd xs (a : Int) := by
      rw [hla, e0]
      have : (a : Int) - (b : Int) = ((a - b : Nat) : Int) := by omega
      rw [this, rd_nat _ _ (by rw [hla]; omega), rd_nat _ _ (by omega), List.getElem_take]
    rw [rept, e1, rd_nat _ _ (by omega), ← List.take_succ_eq_append_getElem (by omega), ih (a + 1) (by omega) h1 (by omega) (fun i hi => ?_), show a + 1 + n = a + (n + 1) by omega]
    have := h (i + 1) (by omega)
    rw [show a + 1 + i = a + (i + 1) by omega]
    exact this
theorem un_match {o : List Int} {lg b : Nat} (h3 : 3 ≤ lg) (h66 : lg ≤ 66) (h1 : 1 ≤ b) (hb : b ≤ o.length) (hl : o.length + lg ≤ 200) : Un [61 + (lg : Int), (b : Int)] o (rept lg b o) := by
  unfold Un
  rw [List.length_cons, unp, if_neg (by omega), if_pos (by omega), if_neg (by simp)]
  have e : (61 + (lg : Int) - 61).toNat = lg := by omega
  have e2 : ([(b : Int)].headD 0) = (b : Int) := rfl
  rw [e, e2, if_neg (by omega), Int.toNat_natCast, if_neg (by rw [rept_length]; omega)]
  rfl
theorem packF_un {xs : List Int} (hl : xs.length ≤ 200) (f : Nat) : ∀ (out plain p : List Int) (a : Nat), xs.length - a ≤ f → a ≤ xs.length → Un out [] p → p ++ plain = xs.take a → Un (packF xs f out plain a) [] xs := by
  have flush : ∀ (out plain p : List Int) (a : Nat), a ≤ xs.length → Un out [] p → p ++ plain = xs.take a → Un (out ++ plainL plain) [] (xs.take a) := by
    intro out plain p a ha h1 h2
    refine h1.append ?_
    rw [← h2]
    refine un_plain _ plain p rfl ?_
    rw [h2, List.length_take]
    omega
  have fin : ∀ (out plain p : List Int) (a : Nat), a = xs.length → Un out [] p → p ++ plain = xs.take a → Un (out ++ plainL plain) [] xs := by
    intro out plain p a ha h1 h2
    have := flush out plain p a (by omega) h1 h2
    rwa [ha, List.take_of_length_le (Nat.le_refl _)] at this
  induction f with
  | zero => exact fun out plain p a h1 h2 h3 h4 => fin out plain p a (by omega) h3 h4
  | succ f ih =>
    intro out plain p a h1 h2 h3 h4
    rw [packF]
    by_cases c : a < xs.length
    · have br := best_rng (xs := xs) (a := a) h2
      rw [if_pos c]
      by_cases g : (best xs a).1 < 3
      · rw [if_pos g]
        refine ih _ _ p _ (by omega) (by omega) h3 ?_
        rw [← List.append_assoc, h4, rd_nat _ _ c, ← List.take_succ_eq_append_getElem c]
      · rw [if_neg g]
        rcases br.2.2.2 with z | ⟨z1, z2⟩
        · omega
        have hla : (xs.take a).length = a := by rw [List.length_take]; omega
        have k1 := flush out plain p a h2 h3 h4
        have k2 := un_match (o := xs.take a) (lg := (best xs a).1) (b := (best xs a).2) (by omega) br.1 z1 (by omega) (by omega)
        rw [rept_take _ a (by omega) z1 (by omega) (fun i hi => longF_match xs a _ 66 0 i (Nat.zero_le _) (by have : (best xs a).1 = longF xs a (best xs a).2 66 0 := z2; omega))] at k2
        exact ih _ _ (xs.take (a + (best xs a).1)) _ (by omega) (by omega) (k1.append k2) (List.append_nil _)
    · rw [if_neg c]
      exact fin out plain p a (by omega) h3 h4
theorem allB_app {xs ys : List Int} : allB (xs ++ ys) = true ↔ allB xs = true ∧ allB ys = true := by simp [allB, List.all_append]
theorem plainL_allB (n : Nat) : ∀ xs : List Int, xs.length = n → allB xs = true → allB (plainL xs) = true := by
  induction n using Nat.strongRecOn with
  | ind n ih =>
    intro xs hn h
    by_cases e : xs = []
    · subst e; rfl
    · have hp : 0 < xs.length := List.length_pos_iff.2 e
      have hs : allB (xs.take 64 ++ xs.drop 64) = true := by rw [List.take_append_drop]; exact h
      rw [allB_app] at hs
      rw [plainL_step e, ← List.cons_append, allB_app]
      refine ⟨?_, ih (xs.length - 64) (by omega) _ (by simp) hs.2⟩
      have h64 : (xs.take 64).length = min 64 xs.length := List.length_take
      rw [← allB_cons_t (isB_iff.2 (by omega))]
      exact hs.1
theorem packF_allB {xs : List Int} (hx : allB xs = true) (f : Nat) : ∀ (out plain : List Int) (a : Nat), a ≤ xs.length → allB out = true → allB plain = true → allB (packF xs f out plain a) = true := by
  have fin : ∀ (out plain : List Int), allB out = true → allB plain = true → allB (out ++ plainL plain) = true := fun out plain h1 h2 => allB_app.2 ⟨h1, plainL_allB _ plain rfl h2⟩
  induction f with
  | zero => exact fun out plain a _ h1 h2 => fin out plain h1 h2
  | succ f ih =>
    intro out plain a ha h1 h2
    rw [packF]
    by_cases c : a < xs.length
    · have br := best_rng (xs := xs) (a := a) ha
      rw [if_pos c]
      by_cases g : (best xs a).1 < 3
      · rw [if_pos g]
        refine ih _ _ _ (by omega) h1 (allB_app.2 ⟨h2, ?_⟩)
        rw [rd_nat _ _ c]
        have := allB_get hx a c
        rw [← allB_cons_t (isB_iff.2 this)]
        rfl
      · rw [if_neg g]
        refine ih _ _ _ (by omega) (allB_app.2 ⟨fin out plain h1 h2, ?_⟩) rfl
        rw [← allB_cons_t (isB_iff.2 (by omega)), ← allB_cons_t (isB_iff.2 (by omega))]
        rfl
    · rw [if_neg c]
      exact fin out plain h1 h2
theorem packL_allB {xs : List Int} (hx : allB xs = true) : allB (packL xs) = true := packF_allB hx _ [] [] 0 (by omega) rfl rfl
theorem unpack_pack {xs : List Int} (hx : allB xs = true) (hl : xs.length ≤ 200) : unpackL (packL xs) = (xs, true) := by
  unfold unpackL
  rw [if_pos (packL_allB hx)]
  exact packF_un hl _ [] [] [] 0 (by omega) (by omega) (Un.nil []) rfl
theorem rept_allB (n b : Nat) (h1 : 1 ≤ b) : ∀ o : List Int, b ≤ o.length → allB o = true → allB (rept n b o) = true := by
  induction n with
  | zero => intro o _ h; exact h
  | succ n ih =>
    intro o hb h
    refine ih _ (by simp; omega) (allB_app.2 ⟨h, ?_⟩)
    have e : (o.length : Int) - (b : Int) = ((o.length - b : Nat) : Int) := by omega
    rw [e, rd_nat _ _ (by omega), ← allB_cons_t (isB_iff.2 (allB_get h _ _))]
    rfl
theorem allB_part {xs : List Int} (h : allB xs = true) (n : Nat) : allB (xs.take n) = true ∧ allB (xs.drop n) = true := by
  rw [← allB_app, List.take_append_drop]
  exact h
theorem unp_allB (d : Nat) : ∀ (xs o : List Int), allB xs = true → allB o = true → allB (unp d xs o).1 = true := by
  induction d with
  | zero => intro xs o _ h; exact h
  | succ d ih =>
    intro xs o hx ho
    cases xs with
    | nil => exact ho
    | cons n t =>
      have ht : allB t = true := by
        have := allB_part hx 1
        exact this.2
      simp only [unp]
      split
      · split
        · rfl
        · split
          · rfl
          · exact ih _ _ (allB_part ht _).2 (allB_app.2 ⟨ho, (allB_part ht _).1⟩)
      · split
        · split
          · rfl
          · split
            · rfl
            · rename_i c4
              split
              · rfl
              · exact ih _ _ (allB_part ht _).2 (rept_allB _ _ (by omega) o (by omega) ho)
        · rfl
theorem unpackL_allB (xs : List Int) : allB (unpackL xs).1 = true := by
  unfold unpackL
  split
  · rename_i h
    exact unp_allB _ _ _ h rfl
  · rfl
end Go.Proofs.Ytjbgbnngfbhmjaa.M
