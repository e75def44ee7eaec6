/- Plain words for the laws of this seat, fourth part: what is read was written; records as bytes; unpacking. No program stands here. -/
import Derived.Test.YtmpnedpokdaejaaMath3
set_option linter.unusedVariables false
set_option linter.unusedSimpArgs false
namespace Go.Proofs.Ytmpnedpokdaejaa.M
open Go.RowKit Go.Proofs.YtmpnedpokdaejaaW.PrintWords

/-! ### A number that is read was written so -/
theorem rd_int (xs : List Int) (i : Int) (h0 : 0 ≤ i) (h1 : i < xs.length) : rd xs i = xs[i.toNat]'(by omega) := by
  unfold rd; rw [List.getD_eq_getElem?_getD, List.getElem?_eq_getElem (by omega), Option.getD_some]
theorem seg_one (xs : List Int) (i n : Nat) (h : i < n) (hn : n ≤ xs.length) : (xs.take n).drop i = xs[i] :: (xs.take n).drop (i + 1) := by
  rw [drop_cons (xs.take n) i (by simp; omega)]; simp
theorem seg_none (xs : List Int) (n : Nat) : (xs.take n).drop n = [] := List.drop_eq_nil_of_le (by simp; omega)
theorem rd_take (xs : List Int) (n : Nat) (i : Int) (h0 : 0 ≤ i) (h : i < n) : rd (xs.take n) i = rd xs i := by
  unfold rd
  rw [List.getD_eq_getElem?_getD, List.getD_eq_getElem?_getD, List.getElem?_take_of_lt (by omega)]
/-- What a read tells: the number's range, the place, the bytes, and that a part of them is none. -/
def Told (xs : List Int) (a v nx : Int) : Prop :=
  0 ≤ a ∧ a < nx ∧ nx ≤ xs.length ∧ -1000000 ≤ v ∧ v ≤ 1000000 ∧ varL (fold v) = (xs.take nx.toNat).drop a.toNat ∧ (vAt (xs.take (nx - 1).toNat) a).2.2 = false
theorem vAt_told {xs : List Int} {a v nx : Int} (hb : allB xs = true) (h : vAt xs a = (v, nx, true)) : Told xs a v nx := by
  have unf_rng : ∀ f : Int, 0 ≤ f → f ≤ 2000000 → -1000000 ≤ unf f ∧ unf f ≤ 1000000 := fun f f0 f1 => by unfold unf; split <;> omega
  have hx : ∀ i, 0 ≤ rd xs i ∧ rd xs i ≤ 255 := rd_byte hb
  unfold vAt at h
  split at h
  · simp at h
  rename_i ha
  split at h
  · simp at h
  rename_i c0
  obtain ⟨j, rfl⟩ := Int.eq_ofNat_of_zero_le (by omega : 0 ≤ a)
  have x0 := hx j
  have r0 : rd xs (j : Int) = xs[j]'(by omega) := rd_nat xs j (by omega)
  split at h
  · rename_i d0
    simp only [Prod.mk.injEq, and_true] at h
    obtain ⟨rfl, rfl⟩ := h
    have u := unf_rng (rd xs j) x0.1 (by omega)
    refine ⟨by omega, by omega, by omega, u.1, u.2, ?_, ?_⟩
    · have e1 : ((j : Int) + 1).toNat = j + 1 := by omega
      have e2 : ((j : Int)).toNat = j := by omega
      rw [fold_unf x0.1 (by omega), e1, e2, seg_one xs j (j + 1) (by omega) (by omega), seg_none, ← r0]
      unfold varL; rw [if_pos d0]
    · have e1 : ((j : Int) + 1 - 1).toNat = j := by omega
      rw [e1]; unfold vAt
      rw [if_neg ha, if_pos (by simp; omega)]
  rename_i d0
  split at h
  · simp at h
  rename_i c1
  have x1 := hx (j + 1)
  have r1 : rd xs ((j : Int) + 1) = xs[j + 1]'(by omega) := by have := rd_nat xs (j + 1) (by omega); rwa [Int.natCast_add] at this
  split at h
  · rename_i d1
    split at h
    · simp at h
    rename_i z1
    simp only [Prod.mk.injEq, and_true] at h
    obtain ⟨rfl, rfl⟩ := h
    have u := unf_rng (rd xs j - 128 + 128 * rd xs (j + 1)) (by omega) (by omega)
    refine ⟨by omega, by omega, by omega, u.1, u.2, ?_, ?_⟩
    · have e1 : ((j : Int) + 2).toNat = j + 2 := by omega
      have e2 : ((j : Int)).toNat = j := by omega
      rw [fold_unf (by omega) (by omega), e1, e2, seg_one xs j (j + 2) (by omega) (by omega), seg_one xs (j + 1) (j + 2) (by omega) (by omega), seg_none, ← r0, ← r1]
      unfold varL; rw [if_neg (by omega), if_pos (by omega)]
      have f1 : (rd xs j - 128 + 128 * rd xs (j + 1)) % 128 + 128 = rd xs j := by omega
      have f2 : (rd xs j - 128 + 128 * rd xs (j + 1)) / 128 = rd xs (j + 1) := by omega
      rw [f1, f2]
    · have e1 : ((j : Int) + 2 - 1).toNat = j + 1 := by omega
      rw [e1]; unfold vAt
      rw [if_neg ha, if_neg (by simp; omega), rd_take xs (j + 1) j (by omega) (by omega), if_neg d0, if_pos (by simp; omega)]
  rename_i d1
  split at h
  · simp at h
  rename_i c2
  have x2 := hx (j + 2)
  have r2 : rd xs ((j : Int) + 2) = xs[j + 2]'(by omega) := by have := rd_nat xs (j + 2) (by omega); rwa [Int.natCast_add] at this
  split at h
  · rename_i d2
    split at h
    · simp at h
    rename_i z2
    unfold okV at h
    split at h
    · simp at h
    rename_i big
    simp only [Prod.mk.injEq, and_true] at h
    obtain ⟨rfl, rfl⟩ := h
    have u := unf_rng (rd xs j - 128 + 128 * (rd xs (j + 1) - 128) + 16384 * rd xs (j + 2)) (by omega) (by omega)
    refine ⟨by omega, by omega, by omega, u.1, u.2, ?_, ?_⟩
    · have e1 : ((j : Int) + 3).toNat = j + 3 := by omega
      have e2 : ((j : Int)).toNat = j := by omega
      rw [fold_unf (by omega) (by omega), e1, e2, seg_one xs j (j + 3) (by omega) (by omega), seg_one xs (j + 1) (j + 3) (by omega) (by omega), seg_one xs (j + 2) (j + 3) (by omega) (by omega), seg_none, ← r0, ← r1, ← r2]
      generalize rd xs ↑j = b0 at *
      generalize rd xs (↑j + 1) = b1 at *
      generalize rd xs (↑j + 2) = b2 at *
      have f1 : (b0 - 128 + 128 * (b1 - 128) + 16384 * b2) % 128 + 128 = b0 := by omega
      have f2 : (b0 - 128 + 128 * (b1 - 128) + 16384 * b2) / 128 % 128 + 128 = b1 := by omega
      have f3 : (b0 - 128 + 128 * (b1 - 128) + 16384 * b2) / 16384 = b2 := by omega
      unfold varL; rw [if_neg (by omega), if_neg (by omega), f1, f2, f3]
    · have e1 : ((j : Int) + 3 - 1).toNat = j + 2 := by omega
      rw [e1]; unfold vAt
      rw [if_neg ha, if_neg (by simp; omega), rd_take xs (j + 2) j (by omega) (by omega), if_neg d0, if_neg (by simp; omega), rd_take xs (j + 2) (j + 1) (by omega) (by omega), if_neg d1, if_pos (by simp; omega)]
  · simp at h
theorem allB_take {xs : List Int} (h : allB xs = true) (n : Nat) : allB (xs.take n) = true := allB_iff.2 fun x hx => allB_iff.1 h x (List.mem_of_mem_take hx)
theorem vFrom_told {xs : List Int} {a v nx : Int} (h : vFrom xs a = (v, nx, true)) : Told xs a v nx ∧ (vFrom (xs.take (nx - 1).toNat) a).2.2 = false := by
  unfold vFrom at h
  split at h
  · rename_i hb
    have t := vAt_told hb h
    refine ⟨t, ?_⟩
    unfold vFrom
    rw [if_pos (allB_take hb _)]
    exact t.2.2.2.2.2.2
  · simp at h

/-! ### Records as bytes -/
def partB (has : Bool) (xs : List Int) : List Int := if has = true then varL (fold xs.length) ++ xs else varL (fold (-1))
def bodyB (o t : Int) (hk : Bool) (ks : List Int) (hv : Bool) (vs : List Int) (bo bt : Int) : List Int := varL (fold (t - bt)) ++ varL (fold (o - bo)) ++ partB hk ks ++ partB hv vs
def recB (o t : Int) (hk : Bool) (ks : List Int) (hv : Bool) (vs : List Int) (bo bt : Int) : List Int := varL (fold (bodyB o t hk ks hv vs bo bt).length) ++ bodyB o t hk ks hv vs bo bt
def recR (o t : Int) (hk : Bool) (ks : List Int) (hv : Bool) (vs : List Int) (bo bt : Int) : List Int × Bool := if recOk o t hk ks hv vs = true ∧ baseO bo bt = true then (recB o t hk ks hv vs bo bt, true) else ([], false)
theorem partOk_iff {has : Bool} {xs : List Int} : partOk has xs = true ↔ (has = true → xs.length ≤ 12 ∧ allB xs = true) ∧ (has = false → xs = []) := by
  unfold partOk
  cases has <;> simp <;> omega
theorem recOk_iff {o t : Int} {hk : Bool} {ks : List Int} {hv : Bool} {vs : List Int} : recOk o t hk ks hv vs = true ↔ (0 ≤ o ∧ o ≤ 99999) ∧ (0 ≤ t ∧ t ≤ 99999) ∧ partOk hk ks = true ∧ partOk hv vs = true := by
  unfold recOk; simp [Bool.and_eq_true]
theorem baseO_iff {o t : Int} : baseO o t = true ↔ (0 ≤ o ∧ o ≤ 99999) ∧ (0 ≤ t ∧ t ≤ 99999) := by unfold baseO; simp
theorem partB_len {has : Bool} {xs : List Int} (h : partOk has xs = true) : (partB has xs).length ≤ 13 ∧ xs.length ≤ 12 := by
  obtain ⟨h1, h2⟩ := partOk_iff.1 h
  cases has with
  | true =>
    have := (h1 rfl).1
    unfold partB
    rw [if_pos rfl]
    have f : fold (xs.length : Int) = 2 * xs.length := by unfold fold; rw [if_neg (by omega), if_neg (by omega)]
    rw [List.length_append, varL_length, f, if_pos (by omega)]
    omega
  | false =>
    have := h2 rfl
    subst this
    exact ⟨by decide, by decide⟩
theorem bodyB_len {o t : Int} {hk : Bool} {ks : List Int} {hv : Bool} {vs : List Int} {bo bt : Int} (h : recOk o t hk ks hv vs = true) : (bodyB o t hk ks hv vs bo bt).length ≤ 32 := by
  obtain ⟨_, _, h3, h4⟩ := recOk_iff.1 h
  have a := partB_len h3
  have b := partB_len h4
  have c := varL_len (fold (t - bt))
  have d := varL_len (fold (o - bo))
  unfold bodyB
  simp only [List.length_append]
  omega
theorem recB_head {o t : Int} {hk : Bool} {ks : List Int} {hv : Bool} {vs : List Int} {bo bt : Int} (h : recOk o t hk ks hv vs = true) :
    recB o t hk ks hv vs bo bt = (2 * (bodyB o t hk ks hv vs bo bt).length : Int) :: bodyB o t hk ks hv vs bo bt := by
  have l := bodyB_len (bo := bo) (bt := bt) h
  unfold recB
  generalize bodyB o t hk ks hv vs bo bt = b at l ⊢
  have f : fold (b.length : Int) = 2 * b.length := by unfold fold; rw [if_neg (by omega), if_neg (by omega)]
  unfold varL
  rw [f, if_pos (by omega)]; rfl
theorem recB_len {o t : Int} {hk : Bool} {ks : List Int} {hv : Bool} {vs : List Int} {bo bt : Int} (h : recOk o t hk ks hv vs = true) : (recB o t hk ks hv vs bo bt).length ≤ 33 := by
  rw [recB_head h]
  have := bodyB_len (bo := bo) (bt := bt) h
  simp; omega
theorem recR_len (o t : Int) (hk : Bool) (ks : List Int) (hv : Bool) (vs : List Int) (bo bt : Int) : (recR o t hk ks hv vs bo bt).1.length ≤ 33 := by
  unfold recR
  split
  · rename_i h; exact recB_len h.1
  · simp
theorem partB_bytes {has : Bool} {xs : List Int} (h : partOk has xs = true) : allB (partB has xs) = true := by
  obtain ⟨h1, h2⟩ := partOk_iff.1 h
  cases has with
  | true =>
    obtain ⟨a, b⟩ := h1 rfl
    have f := fold_rng (n := (xs.length : Int)) (by omega) (by omega)
    unfold partB
    rw [if_pos rfl, allB_append, b, varL_bytes f.1 f.2]; rfl
  | false => exact (by decide : allB (varL (fold (-1))) = true)
theorem bodyB_bytes {o t : Int} {hk : Bool} {ks : List Int} {hv : Bool} {vs : List Int} {bo bt : Int} (h : recOk o t hk ks hv vs = true) (hb : baseO bo bt = true) : allB (bodyB o t hk ks hv vs bo bt) = true := by
  obtain ⟨h1, h2, h3, h4⟩ := recOk_iff.1 h
  obtain ⟨b1, b2⟩ := baseO_iff.1 hb
  have f := fold_rng (n := t - bt) (by omega) (by omega)
  have g := fold_rng (n := o - bo) (by omega) (by omega)
  unfold bodyB
  rw [allB_append, allB_append, allB_append, varL_bytes f.1 f.2, varL_bytes g.1 g.2, partB_bytes h3, partB_bytes h4]; rfl
theorem recB_bytes {o t : Int} {hk : Bool} {ks : List Int} {hv : Bool} {vs : List Int} {bo bt : Int} (h : recOk o t hk ks hv vs = true) (hb : baseO bo bt = true) : allB (recB o t hk ks hv vs bo bt) = true := by
  have l := bodyB_len (bo := bo) (bt := bt) h
  have f := fold_rng (n := ((bodyB o t hk ks hv vs bo bt).length : Int)) (by omega) (by omega)
  unfold recB
  rw [allB_append, varL_bytes f.1 f.2, bodyB_bytes h hb]; rfl
theorem recB_first {o t : Int} {hk : Bool} {ks : List Int} {hv : Bool} {vs : List Int} {bo bt : Int} (h : recOk o t hk ks hv vs = true) (hb : baseO bo bt = true) :
    vFrom (recB o t hk ks hv vs bo bt) 0 = (((recB o t hk ks hv vs bo bt).length : Int) - 1, 1, true) := by
  have l := bodyB_len (bo := bo) (bt := bt) h
  have f := fold_rng (n := ((bodyB o t hk ks hv vs bo bt).length : Int)) (by omega) (by omega)
  have hd : (recB o t hk ks hv vs bo bt).length = (bodyB o t hk ks hv vs bo bt).length + 1 := by rw [recB_head h]; rfl
  have e : (varL (fold ((bodyB o t hk ks hv vs bo bt).length : Int))).length = 1 := by
    have := congrArg List.length (recB_head (bo := bo) (bt := bt) h)
    unfold recB at this
    simp only [List.length_append, List.length_cons] at this
    omega
  have v := vAt_varL f.1 f.2 (bodyB o t hk ks hv vs bo bt)
  unfold vFrom
  rw [if_pos (recB_bytes h hb), hd]
  unfold recB
  rw [v, unf_fold (by omega) (by omega), e]
  simp only [Prod.mk.injEq, and_true]
  constructor <;> omega

/-! ### Unpacking -/
def rept : Nat → Nat → List Int → List Int
  | 0, _, out => out
  | n + 1, b, out => rept n b (out ++ [rd out ((out.length : Int) - b)])
theorem rept_length (n b : Nat) : ∀ out : List Int, (rept n b out).length = out.length + n := by
  induction n with
  | zero => intro out; rfl
  | succ n ih => intro out; show (rept n b _).length = _; rw [ih]; simp; omega
def unp : Nat → List Int → List Int → List Int × Bool
  | 0, _, out => (out, true)
  | _ + 1, [], out => (out, true)
  | d + 1, n :: r, out =>
    if n < 64 then (if (r.length : Int) < n + 1 then ([], false) else
      (if ((out ++ r.take (n + 1).toNat).length : Int) > 200 then ([], false) else unp d (r.drop (n + 1).toNat) (out ++ r.take (n + 1).toNat)))
    else if n < 128 then
      (if r = [] then ([], false) else if r.headD 0 < 1 ∨ r.headD 0 > out.length then ([], false) else
        (if ((rept (n - 61).toNat (r.headD 0).toNat out).length : Int) > 200 then ([], false) else unp d (r.drop 1) (rept (n - 61).toNat (r.headD 0).toNat out)))
    else ([], false)
def unpackL (xs : List Int) : List Int × Bool := if allB xs = true then unp xs.length xs [] else ([], false)
theorem unp_nil (d : Nat) (out : List Int) : unp d [] out = (out, true) := by cases d <;> rfl
theorem unp_fuel (d : Nat) : ∀ (e : Nat) (xs out : List Int), xs.length ≤ d → xs.length ≤ e → unp d xs out = unp e xs out := by
  induction d with
  | zero =>
    intro e xs out hd _
    have : xs = [] := List.eq_nil_of_length_eq_zero (by omega)
    subst this
    rw [unp_nil, unp_nil]
  | succ d ih =>
    intro e xs out hd he
    cases xs with
    | nil => rw [unp_nil, unp_nil]
    | cons n r =>
      cases e with
      | zero => simp at he
      | succ e =>
        simp only [List.length_cons] at hd he
        simp only [unp]
        rw [ih e (r.drop (n + 1).toNat) _ (by simp; omega) (by simp; omega), ih e (r.drop 1) _ (by simp; omega) (by simp; omega)]
theorem unp_len (d : Nat) : ∀ (xs out : List Int), out.length ≤ 200 → (unp d xs out).1.length ≤ 200 := by
  induction d with
  | zero => intro xs out h; exact h
  | succ d ih =>
    intro xs out h
    cases xs with
    | nil => exact h
    | cons n r =>
      simp only [unp]
      split
      · split
        · simp
        · split
          · simp
          · rename_i g; exact ih _ _ (by omega)
      · split
        · split
          · simp
          · split
            · simp
            · split
              · simp
              · rename_i g; exact ih _ _ (by omega)
        · simp
theorem unpackL_len (xs : List Int) : (unpackL xs).1.length ≤ 200 := by
  unfold unpackL
  split
  · exact unp_len _ _ _ (by simp)
  · simp
end Go.Proofs.Ytmpnedpokdaejaa.M
