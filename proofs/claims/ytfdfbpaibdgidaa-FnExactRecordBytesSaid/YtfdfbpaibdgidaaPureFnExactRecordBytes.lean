/- The program's RecordBytes and the reference's tell the same bytes, which share no memory with the record or another call's, for all arguments; there is no condition. -/
import Derived.Test.YtfdfbpaibdgidaaPFnExactRecordBytesx5
import Derived.Test.YtfdfbpaibdgidaaMath
import Derived.Test.YtfdfbpaibdgidaaMath2
import Derived.Test.YtfdfbpaibdgidaaMath3
import Derived.Test.YtfdfbpaibdgidaaMath4
set_option linter.unusedVariables false
set_option linter.unusedSimpArgs false
namespace Go.Proofs.Ytfdfbpaibdgidaa.Pure
open Go.RowKit Go.Proofs.Ytfdfbpaibdgidaa.PFnExactRecordBytes Go.Proofs.YtfdfbpaibdgidaaW.PrintWords Go.Proofs.YtfdfbpaibdgidaaW.PrintLast Go.Proofs.YtfdfbpaibdgidaaW.PrintMore Go.Proofs.Ytfdfbpaibdgidaa.M

theorem l6In_eq (a b c : Int) : spec_l6In.f a b c = some (decide (b ≤ a ∧ a ≤ c)) := by
  unfold spec_l6In.f
  by_cases h : a ≥ b
  · rw [if_pos h]; congr 1; simp only [decide_eq_decide]; omega
  · rw [if_neg h]; congr 1; symm; simp only [decide_eq_false_iff_not]; omega

theorem l1Fold_eq {n : Int} (h0 : -1000000 ≤ n) (h1 : n ≤ 1000000) : spec_l1Fold.f n = some (fold n) := by
  unfold spec_l1Fold.f fold
  rw [if_neg (by omega : ¬ (n < -1000000 ∨ 1000000 < n))]
  split
  · rw [w64 (x := -2 * n) (by omega) (by omega), w64 (by omega) (by omega)]
  · rw [w64 (by omega) (by omega)]

theorem iFold_eq (k : Nat) (n : Int) : impl_FoldNumber.f (k + 1) n = some (fold n) := by
  unfold impl_FoldNumber.f
  simp only [impl_FoldNumber.j0]
  unfold fold
  by_cases h1 : n < -1000000
  · simp [h1]
  · by_cases h2 : n > 1000000
    · simp [h1, h2]
    · by_cases h3 : n < 0
      · rw [if_neg h1, if_neg (by simpa using h2), if_pos h3, if_neg (by omega), if_pos h3, w64 (x := -2 * n) (by omega) (by omega), w64 (by omega) (by omega)]
      · rw [if_neg h1, if_neg (by simpa using h2), if_neg h3, if_neg (by omega), if_neg h3, w64 (by omega) (by omega)]
theorem iFold_ev (n : Int) : EvV (fun k => impl_FoldNumber.f k n) (fold n) := EvV.of_succ fun k => iFold_eq k n

theorem l1Bytes_ev {n : Int} (h0 : -1000000 ≤ n) (h1 : n ≤ 1000000) : EvV (fun k => spec_l1Bytes.f k n) (varL (fold n)) := by
  obtain ⟨f0, f1⟩ := fold_rng h0 h1
  refine EvV.of_add 3 fun k => ?_
  unfold spec_l1Bytes.f
  rw [l1Fold_eq h0 h1]
  simp only [Option.bind_some]
  generalize fold n = f at f0 f1 ⊢
  unfold varL
  by_cases a : f < 128
  · simp only [spec_l1Bytes.l0]; rw [if_neg (by omega), if_pos (by simp), if_pos a]; rfl
  · rw [if_neg a]
    have e1 : wrap64 (Int.tdiv f 128) = f / 128 := by rw [tdiv_pos f0, w64 (by omega) (by omega)]
    have e2 : wrap64 (128 + Int.tmod f 128) = f % 128 + 128 := by rw [tmod_pos f0, w64 (by omega) (by omega)]; omega
    by_cases b : f < 16384
    · simp only [spec_l1Bytes.l0]; rw [if_pos (by omega), if_pos (by simp), e1, e2, if_neg (by omega), if_pos (by simp), if_pos b]; rfl
    · have e3 : wrap64 (Int.tdiv (f / 128) 128) = f / 16384 := by rw [tdiv_pos (by omega), w64 (by omega) (by omega)]; omega
      have e4 : wrap64 (128 + Int.tmod (f / 128) 128) = f / 128 % 128 + 128 := by rw [tmod_pos (by omega), w64 (by omega) (by omega)]; omega
      simp only [spec_l1Bytes.l0]
      rw [if_pos (by omega), if_pos (by simp), e1, e2, if_pos (by omega), if_pos (by simp), e3, e4, if_neg (by omega), if_pos (by simp), if_neg b]; rfl

theorem varOf_ev {n : Int} (h0 : -1000000 ≤ n) (h1 : n ≤ 1000000) : EvV (fun k => impl_varOf.f k n) (varL (fold n)) := by
  obtain ⟨f0, f1⟩ := fold_rng h0 h1
  unfold impl_varOf.f
  refine EvV.bind (iFold_ev n) ?_
  refine EvV.of_add 3 fun k => ?_
  generalize fold n = f at f0 f1 ⊢
  unfold varL
  have orr : ∀ y : Int, 0 ≤ y → y < 128 → Go.bits .or .i64 y 128 = y + 128 := fun y a b => by
    rw [bits_swap, or_join 7 128 y (by omega) (by decide) (by omega) a (by omega) (by omega)]; omega
  by_cases a : f < 128
  · simp only [impl_varOf.l0]; rw [if_pos a, if_pos (by simp), if_pos a]; rfl
  · rw [if_neg a]
    have e2 : Go.bits .or .i64 (Go.bits .and .i64 f 127) 128 = f % 128 + 128 := by rw [and127 f0 (by omega), orr _ (by omega) (by omega)]
    by_cases b : f < 16384
    · simp only [impl_varOf.l0]; rw [if_neg a, if_pos (by simp), e2, if_pos (by omega), if_pos (by simp), if_pos b]; rfl
    · have e3 : f / 128 / 128 = f / 16384 := by omega
      have e4 : Go.bits .or .i64 (Go.bits .and .i64 (f / 128) 127) 128 = f / 128 % 128 + 128 := by rw [and127 (by omega) (by omega), orr _ (by omega) (by omega)]
      simp only [impl_varOf.l0]
      rw [if_neg a, if_pos (by simp), e2, if_neg (by omega), if_pos (by simp), e3, e4, if_pos (by omega), if_pos (by simp), if_neg b]; rfl

theorem l1Ok_l0 (xs : List Int) (hl : xs.length ≤ 1000000000000000000) (d : Nat) : ∀ j : Nat, j ≤ xs.length → xs.length - j = d → EvV (fun k => spec_l1Ok.l0 k xs (j : Int)) (allB (xs.drop j)) := by
  induction d with
  | zero =>
    intro j hj hd
    refine EvP.succ ?_
    simp only [spec_l1Ok.l0]
    rw [drop_end xs j (by omega)]
    exact EvP.neg (by omega) (EvP.ret rfl)
  | succ d ih =>
    intro j hj hd
    have hlt : j < xs.length := by omega
    refine EvP.succ ?_
    simp only [spec_l1Ok.l0, l6In_eq, Option.bind_some, rd_nat xs j hlt, w64_succ hlt hl]
    refine EvP.pos (by omega) (EvP.pos (by omega) ?_)
    rw [drop_cons xs j hlt]
    refine EvP.ite (fun h => ?_) (fun h => EvP.ret ?_)
    · have hb : isB xs[j] = true := h
      exact (ih (j + 1) (by omega) (by omega)).to (allB_cons_t hb)
    · have hb : isB xs[j] = false := by simpa [isB] using h
      exact allB_cons_f hb
theorem l1Ok_ev (xs : List Int) (hl : xs.length ≤ 1000000000000000000) : EvV (fun k => spec_l1Ok.f k xs) (allB xs) := by
  unfold spec_l1Ok.f; exact l1Ok_l0 xs hl xs.length 0 (by omega) (by omega)

theorem isByte_eq (x : Int) : impl_isByte.f x = some (isB x) := by
  unfold impl_isByte.f isB
  by_cases h : x ≥ 0
  · rw [if_pos h]; congr 1; simp only [decide_eq_decide]; omega
  · rw [if_neg h]; congr 1; symm; simp only [decide_eq_false_iff_not]; omega

theorem allBytes_l0 (xs : List Int) (hl : xs.length ≤ 1000000000000000000) (d : Nat) : ∀ j : Nat, j ≤ xs.length → xs.length - j = d → EvV (fun k => impl_allBytes.l0 k xs (xs.length : Int) (j : Int)) (allB (xs.drop j)) := by
  induction d with
  | zero =>
    intro j hj hd
    refine EvP.succ ?_
    simp only [impl_allBytes.l0]
    rw [drop_end xs j (by omega)]
    exact EvP.neg (by omega) (EvP.ret rfl)
  | succ d ih =>
    intro j hj hd
    have hlt : j < xs.length := by omega
    refine EvP.succ ?_
    simp only [impl_allBytes.l0, isByte_eq, Option.bind_some, rd_nat xs j hlt, w64_succ hlt hl]
    refine EvP.pos (by omega) (EvP.pos (by omega) (EvP.pos (by omega) ?_))
    rw [drop_cons xs j hlt]
    refine EvP.ite (fun h => ?_) (fun h => EvP.ret ?_)
    · exact (ih (j + 1) (by omega) (by omega)).to (allB_cons_t h)
    · exact allB_cons_f (by simpa using h)
theorem allBytes_ev (xs : List Int) (hl : xs.length ≤ 1000000000000000000) : EvV (fun k => impl_allBytes.f k xs) (allB xs) := by
  unfold impl_allBytes.f; exact allBytes_l0 xs hl xs.length 0 (by omega) (by omega)

theorem eqIntS_l0 (xs ys : List Int) (he : xs.length = ys.length) (hl : xs.length ≤ 1000000000000000000) (d : Nat) : ∀ j : Nat, j ≤ xs.length → xs.length - j = d → EvV (fun k => laws_eqIntS.l0 k xs ys (j : Int)) (decide (xs.drop j = ys.drop j)) := by
  induction d with
  | zero =>
    intro j hj hd
    refine EvP.succ ?_
    simp only [laws_eqIntS.l0]
    rw [drop_end xs j (by omega), drop_end ys j (by omega)]
    exact EvP.neg (by omega) (EvP.ret (by simp))
  | succ d ih =>
    intro j hj hd
    have hlt : j < xs.length := by omega
    have hlt2 : j < ys.length := by omega
    refine EvP.succ ?_
    simp only [laws_eqIntS.l0, rd_nat xs j hlt, rd_nat ys j hlt2, w64_succ hlt hl]
    refine EvP.pos (by omega) (EvP.pos (by omega) (EvP.pos (by omega) ?_))
    rw [drop_cons xs j hlt, drop_cons ys j hlt2]
    refine EvP.ite (fun h => ?_) (fun h => EvP.ret ?_)
    · exact (ih (j + 1) (by omega) (by omega)).to (dec_cons_t h)
    · exact dec_cons_f h
theorem eqIntS_ev (xs ys : List Int) (hl : xs.length ≤ 1000000000000000000) : EvV (fun k => laws_eqIntS.f k xs ys) (decide (xs = ys)) := by
  unfold laws_eqIntS.f
  refine EvP.ite (fun h => ?_) (fun h => EvP.ret ?_)
  · exact eqIntS_l0 xs ys (by omega) hl xs.length 0 (by omega) (by omega)
  · have : ¬ xs = ys := by rintro rfl; exact h rfl
    simp [this]

theorem toIntS_ev (xs : List Int) (hl : xs.length ≤ 1000000000000) : EvV (fun k => laws_toIntS.f k xs) xs := by
  have key : ∀ (d j : Nat) (ys : List Int), j + d = xs.length → ys.length = xs.length → ys.take j = xs.take j → EvV (fun k => laws_toIntS.l0 k xs ys (j : Int)) xs := by
    intro d
    induction d with
    | zero =>
      intro j ys hj hy ht
      refine EvP.succ ?_
      simp only [laws_toIntS.l0]
      refine EvP.neg (by omega) (EvP.ret ?_)
      rw [List.take_of_length_le (by omega), List.take_of_length_le (by omega)] at ht
      exact ht.symm
    | succ d ih =>
      intro j ys hj hy ht
      have hlt : j < xs.length := by omega
      refine EvP.succ ?_
      simp only [laws_toIntS.l0, rd_nat xs j hlt, w64_succ hlt (by omega : xs.length ≤ 1000000000000000000)]
      refine EvP.pos (by omega) (EvP.pos (by omega) (EvP.pos (by omega) ?_))
      have e : ((j : Int)).toNat = j := by omega
      rw [e]
      refine ih (j + 1) _ (by omega) (by simpa using hy) ?_
      rw [List.take_add_one, List.take_add_one, List.take_set_of_le (Nat.le_refl _), ht]
      simp [hlt, hy]
  unfold laws_toIntS.f
  refine EvP.pos (by omega) (EvP.pos (by omega) ?_)
  exact key xs.length 0 _ (by omega) (by simp) (by simp)

theorem markIntS_ev (xs : List Int) (s : Int) (hs0 : 0 ≤ s) (hs1 : s ≤ 1000000000000000) (hl : xs.length ≤ 1000000000000000) :
    EvP (fun k => laws_markIntS.f k xs s) (fun r => r.1 = s + xs.length ∧ r.2.length = xs.length ∧ Marked r.2 s) := by
  have key : ∀ (d j : Nat) (ys : List Int), j + d = xs.length → ys.length = xs.length → (∀ i (h : i < ys.length), i < j → ys[i] = s + i) → EvP (fun k => laws_markIntS.l0 k ys (s + j) (j : Int)) (fun r => r.1 = s + xs.length ∧ r.2.length = xs.length ∧ Marked r.2 s) := by
    intro d
    induction d with
    | zero =>
      intro j ys hj hy ht
      refine EvP.succ ?_
      simp only [laws_markIntS.l0]
      refine EvP.neg (by omega) (EvP.ret ⟨?_, hy, ?_⟩)
      · dsimp only; omega
      · intro i hi; exact ht i hi (by dsimp only at hi; omega)
    | succ d ih =>
      intro j ys hj hy ht
      have hlt : j < ys.length := by omega
      have e : ((j : Int)).toNat = j := by omega
      have e2 : wrap64 (s + (j : Int) + 1) = s + ((j + 1 : Nat) : Int) := by rw [w64 (by omega) (by omega)]; omega
      refine EvP.succ ?_
      simp only [laws_markIntS.l0, w64_succ hlt (by omega : ys.length ≤ 1000000000000000000), e, e2]
      refine EvP.pos (by omega) (EvP.pos (by omega) ?_)
      refine ih (j + 1) _ (by omega) (by simpa using hy) ?_
      intro i hi hij
      rw [List.getElem_set]
      split
      · rename_i h; omega
      · rename_i h; exact ht i (by simpa using hi) (by omega)
  unfold laws_markIntS.f
  have := key xs.length 0 xs (by omega) rfl (by intro i _ h; omega)
  simpa using this

theorem heldIntS_ev (ys : List Int) (s : Int) (hs0 : 0 ≤ s) (hs1 : s ≤ 1000000000000000) (hl : ys.length ≤ 1000000000000000) (hm : Marked ys s) :
    EvV (fun k => laws_heldIntS.f k ys s) (s + ys.length) := by
  have key : ∀ (d j : Nat), j + d = ys.length → EvV (fun k => laws_heldIntS.l0 k ys (s + j) (j : Int)) (s + ys.length) := by
    intro d
    induction d with
    | zero =>
      intro j hj
      refine EvP.succ ?_
      simp only [laws_heldIntS.l0]
      exact EvP.neg (by omega) (EvP.ret (by omega))
    | succ d ih =>
      intro j hj
      have hlt : j < ys.length := by omega
      have e2 : wrap64 (s + (j : Int) + 1) = s + ((j + 1 : Nat) : Int) := by rw [w64 (by omega) (by omega)]; omega
      refine EvP.succ ?_
      simp only [laws_heldIntS.l0, w64_succ hlt (by omega : ys.length ≤ 1000000000000000000), e2, marked_rd hm j hlt]
      refine EvP.pos (by omega) (EvP.pos (by omega) (EvP.pos (by simp) ?_))
      exact ih (j + 1) (by omega)
  unfold laws_heldIntS.f
  have := key ys.length 0 (by omega)
  simpa using this

theorem within_eq (a b c : Int) : impl_within.f a b c = some (decide (b ≤ a ∧ a ≤ c)) := by
  unfold impl_within.f
  by_cases h : a ≥ b
  · rw [if_pos h]; congr 1; simp only [decide_eq_decide]; omega
  · rw [if_neg h]; congr 1; symm; simp only [decide_eq_false_iff_not]; omega

theorem baseValid_eq (o t : Int) : impl_baseValid.f o t = some (baseO o t) := by
  unfold impl_baseValid.f baseO
  simp only [within_eq, Option.bind_some]
  by_cases h : 0 ≤ o ∧ o ≤ 99999
  · rw [if_pos (by simpa using h)]; simp [h]
  · rw [if_neg (by simpa using h)]; simp [h]

theorem partValid_ev (has : Bool) (xs : List Int) (hl : xs.length ≤ 1000000000000000000) : EvV (fun k => impl_partValid.f k has xs) (partOk has xs) := by
  unfold impl_partValid.f partOk
  refine EvP.ite (fun h => ?_) (fun h => EvP.ret ?_)
  · rw [if_pos h]
    refine EvP.ite (fun g => EvV.bind (allBytes_ev xs hl) (EvP.ret ?_)) (fun g => EvP.ret ?_)
    · simp [g]
    · simp [g]
  · rw [if_neg h, Bool.eq_iff_iff]
    simp only [decide_eq_true_eq, beq_iff_eq]

theorem iRecordValid_ev (o t : Int) (hk : Bool) (ks : List Int) (hv : Bool) (vs : List Int) (h1 : ks.length ≤ 1000000000000000000) (h2 : vs.length ≤ 1000000000000000000) : EvV (fun k => impl_RecordValid.f k o t hk ks hv vs) (recOk o t hk ks hv vs) := by
  unfold impl_RecordValid.f recOk
  simp only [baseValid_eq, baseO, Option.bind_some]
  refine EvP.ite (fun a => ?_) (fun a => EvP.ret ?_)
  · have a' := a
    simp only [Bool.and_eq_true, decide_eq_true_eq] at a'
    refine EvV.bind (partValid_ev hk ks h1) (EvP.ite (fun b => EvV.bind (partValid_ev hv vs h2) (EvP.ret ?_)) (fun b => EvP.ret ?_))
    · simp [a', b]
    · simp [a', b]
  · revert a
    cases decide (0 ≤ o ∧ o ≤ 99999) <;> cases decide (0 ≤ t ∧ t ≤ 99999) <;> simp

theorem l3Part_ev (has : Bool) (xs : List Int) (hl : xs.length ≤ 1000000000000000000) : EvV (fun k => spec_l3Part.f k has xs) (partOk has xs) := by
  unfold spec_l3Part.f partOk
  refine EvP.ite (fun h => ?_) (fun h => ?_)
  · rw [if_pos h]
    refine EvV.bind (l1Ok_ev xs hl) (EvP.ite (fun g => EvP.ret ?_) (fun g => EvP.ret ?_))
    · simp [g]
    · simp [g]
  · rw [if_neg h]
    refine EvP.ite (fun c => EvV.bind (l1Ok_ev xs hl) (EvP.ite (fun g => EvP.ret ?_) (fun g => EvP.ret ?_))) (fun c => EvP.ret ?_)
    · have : xs = [] := List.eq_nil_of_length_eq_zero (by omega)
      subst this; rfl
    · have : xs = [] := List.eq_nil_of_length_eq_zero (by omega)
      subst this; exact absurd rfl g
    · rw [decide_eq_false c]

theorem sRecordValid_ev (o t : Int) (hk : Bool) (ks : List Int) (hv : Bool) (vs : List Int) (h1 : ks.length ≤ 1000000000000000000) (h2 : vs.length ≤ 1000000000000000000) : EvV (fun k => spec_RecordValid.f k o t hk ks hv vs) (recOk o t hk ks hv vs) := by
  unfold spec_RecordValid.f recOk
  simp only [l6In_eq, Option.bind_some]
  refine EvP.ite (fun a => ?_) (fun a => EvP.ret (by simp [a]))
  refine EvP.ite (fun c => ?_) (fun c => EvP.ret (by simp [a, c]))
  refine EvV.bind (l3Part_ev hk ks h1) (EvP.ite (fun b => EvV.bind (l3Part_ev hv vs h2) (EvP.ret ?_)) (fun b => EvP.ret ?_))
  · rw [a, c, b]; rfl
  · have b' : partOk hk ks = false := by simpa using b
    rw [a, c, b']; rfl

theorem partBytes_ev (has : Bool) (xs : List Int) (hl : xs.length ≤ 1000) : EvV (fun k => impl_partBytes.f k has xs) (partB has xs) := by
  unfold impl_partBytes.f partB
  have L := varL_len (fold (xs.length : Int))
  refine EvP.ite (fun h => ?_) (fun h => ?_)
  · rw [if_pos h]
    exact EvV.bind (varOf_ev (by omega) (by omega)) (EvP.pos (by omega) (EvP.ret rfl))
  · rw [if_neg h]
    exact EvV.bind (varOf_ev (by decide) (by decide)) (EvP.ret rfl)

theorem bytesFor_ev {o t : Int} {hk : Bool} {ks : List Int} {hv : Bool} {vs : List Int} {bo bt : Int} (h : recOk o t hk ks hv vs = true) (hb : baseO bo bt = true) : EvV (fun k => impl_Record_bytesFor.f k o t hk ks hv vs bo bt) (recB o t hk ks hv vs bo bt) := by
  obtain ⟨h1, h2, h3, h4⟩ := recOk_iff.1 h
  obtain ⟨b1, b2⟩ := baseO_iff.1 hb
  have c1 := varL_len (fold (t - bt))
  have c2 := varL_len (fold (o - bo))
  have p1 := partB_len h3
  have p2 := partB_len h4
  have lb := bodyB_len (bo := bo) (bt := bt) h
  have lv := varL_len (fold ((bodyB o t hk ks hv vs bo bt).length : Int))
  unfold impl_Record_bytesFor.f recB
  rw [w64 (x := t - bt) (by omega) (by omega), w64 (x := o - bo) (by omega) (by omega)]
  refine EvV.bind (varOf_ev (by omega) (by omega)) (EvV.bind (varOf_ev (by omega) (by omega)) (EvP.pos (by omega) ?_))
  simp only [Option.bind_some]
  refine EvV.bind (partBytes_ev hk ks (by omega)) (EvP.pos (by simp only [List.length_append]; omega) (EvV.bind (partBytes_ev hv vs (by omega)) (EvP.pos (by simp only [List.length_append]; omega) ?_)))
  exact EvV.bind (varOf_ev (n := ((bodyB o t hk ks hv vs bo bt).length : Int)) (by omega) (by omega)) (EvP.pos (Nat.lt_of_le_of_lt (Nat.add_le_add lv.1 lb) (by decide)) (EvP.ret rfl))

theorem iRecordBytes_ev (o t : Int) (hk : Bool) (ks : List Int) (hv : Bool) (vs : List Int) (bo bt : Int) (h1 : ks.length ≤ 1000000000000000000) (h2 : vs.length ≤ 1000000000000000000) : EvV (fun k => impl_RecordBytes.f k o t hk ks hv vs bo bt) (recR o t hk ks hv vs bo bt) := by
  unfold impl_RecordBytes.f recR
  refine EvV.bind (iRecordValid_ev o t hk ks hv vs h1 h2) ?_
  simp only [baseValid_eq, Option.bind_some]
  refine EvP.ite (fun a => EvP.ite (fun b => ?_) (fun b => EvP.ret ?_)) (fun a => EvP.ret ?_)
  · rw [if_pos ⟨a, b⟩]; exact EvV.bind (bytesFor_ev a b) (EvP.ret rfl)
  · rw [if_neg (fun x => b x.2)]
  · rw [if_neg (fun x => a x.1)]

theorem l3Base_eq (o t : Int) : spec_l3Base.f o t = some (baseO o t) := by
  unfold spec_l3Base.f baseO
  simp only [l6In_eq, Option.bind_some]
  by_cases h : 0 ≤ o ∧ o ≤ 99999
  · rw [if_pos (by simpa using h)]; simp [h]
  · rw [if_neg (by simpa using h)]; simp [h]

theorem l3Put_ev (has : Bool) (xs : List Int) (hl : xs.length ≤ 1000) : EvV (fun k => spec_l3Put.f k has xs) (partB has xs) := by
  unfold spec_l3Put.f partB
  have L := varL_len (fold (xs.length : Int))
  refine EvP.ite (fun h => ?_) (fun h => ?_)
  · rw [if_pos h]
    exact EvV.bind (l1Bytes_ev (by omega) (by omega)) (EvP.pos (by omega) (EvP.ret rfl))
  · rw [if_neg h]
    exact EvV.bind (l1Bytes_ev (by decide) (by decide)) (EvP.ret rfl)

theorem l3Bytes_ev {o t : Int} {hk : Bool} {ks : List Int} {hv : Bool} {vs : List Int} {bo bt : Int} (h : recOk o t hk ks hv vs = true) (hb : baseO bo bt = true) : EvV (fun k => spec_l3Bytes.f k o t hk ks hv vs bo bt) (recB o t hk ks hv vs bo bt) := by
  obtain ⟨h1, h2, h3, h4⟩ := recOk_iff.1 h
  obtain ⟨b1, b2⟩ := baseO_iff.1 hb
  have c1 := varL_len (fold (t - bt))
  have c2 := varL_len (fold (o - bo))
  have p1 := partB_len h3
  have p2 := partB_len h4
  have lb := bodyB_len (bo := bo) (bt := bt) h
  have lv := varL_len (fold ((bodyB o t hk ks hv vs bo bt).length : Int))
  unfold spec_l3Bytes.f recB
  rw [w64 (x := t - bt) (by omega) (by omega), w64 (x := o - bo) (by omega) (by omega)]
  refine EvV.bind (l1Bytes_ev (by omega) (by omega)) (EvV.bind (l1Bytes_ev (by omega) (by omega)) (EvP.pos (by omega) ?_))
  simp only [Option.bind_some]
  refine EvV.bind (l3Put_ev hk ks (by omega)) (EvP.pos (by simp only [List.length_append]; omega) (EvV.bind (l3Put_ev hv vs (by omega)) (EvP.pos (by simp only [List.length_append]; omega) ?_)))
  exact EvV.bind (l1Bytes_ev (n := ((bodyB o t hk ks hv vs bo bt).length : Int)) (by omega) (by omega)) (EvP.pos (Nat.lt_of_le_of_lt (Nat.add_le_add lv.1 lb) (by decide)) (EvP.ret rfl))

theorem sRecordBytes_ev (o t : Int) (hk : Bool) (ks : List Int) (hv : Bool) (vs : List Int) (bo bt : Int) (h1 : ks.length ≤ 1000000000000000000) (h2 : vs.length ≤ 1000000000000000000) : EvV (fun k => spec_RecordBytes.f k o t hk ks hv vs bo bt) (recR o t hk ks hv vs bo bt) := by
  unfold spec_RecordBytes.f recR
  refine EvV.bind (sRecordValid_ev o t hk ks hv vs h1 h2) ?_
  simp only [l3Base_eq, Option.bind_some]
  refine EvP.ite (fun a => EvP.ite (fun b => ?_) (fun b => EvP.ret ?_)) (fun a => EvP.ret ?_)
  · rw [if_pos ⟨a, b⟩]; exact EvV.bind (l3Bytes_ev a b) (EvP.ret rfl)
  · rw [if_neg (fun x => b x.2)]
  · rw [if_neg (fun x => a x.1)]

theorem szIntS_eq (l : List Int) (a : Int) (ha0 : 0 ≤ a) (ha1 : a ≤ 1048576) (hl : l.length ≤ maxLen) : laws_szIntS.f l a = some (if a - (l.length : Int) < 0 then -1 else a - (l.length : Int)) := by
  unfold maxLen at hl
  unfold laws_szIntS.f
  rw [w64 (x := a - (l.length : Int)) (by omega) (by omega)]
  split <;> rfl

theorem szRecord_eq (o t : Int) (hk : Bool) (ks : List Int) (hv : Bool) (vs : List Int) (a : Int) (ha0 : 0 ≤ a) (ha1 : a ≤ 1048576) (h1 : ks.length ≤ maxLen) (h2 : vs.length ≤ maxLen) :
    ∃ v, laws_szRecord.f o t hk ks hv vs a = some v ∧ (v < 0 ∨ (0 ≤ v ∧ v ≤ a ∧ (ks.length : Int) + vs.length ≤ 1048576)) := by
  unfold laws_szRecord.f
  rw [szIntS_eq ks a ha0 ha1 h1]
  simp only [Option.bind_some]
  by_cases c : a - (ks.length : Int) < 0
  · rw [if_pos c]; exact ⟨-1, rfl, .inl (by decide)⟩
  · rw [if_neg c, if_neg c, szIntS_eq vs _ (by omega) (by omega) h2]
    simp only [Option.bind_some]
    by_cases d : a - (ks.length : Int) - (vs.length : Int) < 0
    · rw [if_pos d]; exact ⟨-1, rfl, .inl (by decide)⟩
    · rw [if_neg d, if_neg d]; exact ⟨_, rfl, .inr ⟨by omega, by omega, by omega⟩⟩

theorem toRecord_ev (o t : Int) (hk : Bool) (ks : List Int) (hv : Bool) (vs : List Int) (h1 : ks.length ≤ 1000000000000) (h2 : vs.length ≤ 1000000000000) : EvV (fun k => laws_toRecord.f k o t hk ks hv vs) (o, t, hk, ks, hv, vs) := by
  unfold laws_toRecord.f
  exact EvV.bind (toIntS_ev ks h1) (EvV.bind (toIntS_ev vs h2) (EvP.ret rfl))

theorem eqRecord_same (o t : Int) (hk : Bool) (ks : List Int) (hv : Bool) (vs : List Int) (h1 : ks.length ≤ 1000000000000) (h2 : vs.length ≤ 1000000000000) : EvV (fun k => laws_eqRecord.f k o t hk ks hv vs o t hk ks hv vs) true := by
  unfold laws_eqRecord.f
  exact EvP.pos rfl (EvP.pos rfl (EvP.neg (by simp) (EvV.bind ((eqIntS_ev ks ks (by omega)).to (w := true) (by simp)) (EvP.pos rfl (EvP.neg (by simp) (EvV.bind ((eqIntS_ev vs vs (by omega)).to (w := true) (by simp)) (EvP.pos rfl (EvP.ret rfl))))))))

theorem markRecord_ev (o t : Int) (hk : Bool) (ks : List Int) (hv : Bool) (vs : List Int) (h1 : ks.length ≤ 1048576) (h2 : vs.length ≤ 1048576) : EvP (fun k => laws_markRecord.f k o t hk ks hv vs 1) (fun r => 0 ≤ r.1) := by
  unfold laws_markRecord.f
  refine EvP.bind (markIntS_ev ks 1 (by decide) (by decide) (by omega)) ?_
  rintro ⟨m, ys⟩ ⟨hm, _, _⟩
  dsimp only at hm ⊢
  refine EvP.bind (markIntS_ev vs m (by omega) (by omega) (by omega)) ?_
  rintro ⟨m2, ys2⟩ ⟨hm2, _, _⟩
  dsimp only at hm2 ⊢
  exact EvP.ret (by dsimp only; omega)

theorem FnExactRecordBytes (o t : Int) (hk : Bool) (ks : List Int) (hv : Bool) (vs : List Int) (bo bt : Int) (h1 : ks.length ≤ maxLen) (h2 : vs.length ≤ maxLen) (_ : (Lit.int .i64 bo).wf = true) (_ : (Lit.int .i64 bt).wf = true) : ∃ k, laws_FnExactRecordBytes.f k o t hk ks hv vs bo bt = some true := by
  refine EvP.done ?_
  unfold laws_FnExactRecordBytes.f
  obtain ⟨v, hv', hc⟩ := szRecord_eq o t hk ks hv vs 1048576 (by decide) (by decide) h1 h2
  rw [hv']
  simp only [Option.bind_some]
  refine EvP.ite (fun _ => EvP.ret rfl) (fun g => ?_)
  have hc' : (ks.length : Int) + vs.length ≤ 1048576 := by
    rcases hc with hc | hc
    · exact absurd hc g
    · exact hc.2.2
  have t' := toRecord_ev o t hk ks hv vs (by omega) (by omega)
  have s := sRecordBytes_ev o t hk ks hv vs bo bt (by omega) (by omega)
  have i := iRecordBytes_ev o t hk ks hv vs bo bt (by omega) (by omega)
  have hl := recR_len o t hk ks hv vs bo bt
  generalize recR o t hk ks hv vs bo bt = r at s i hl
  obtain ⟨xs, b⟩ := r
  dsimp only at hl
  have q := (eqIntS_ev xs xs (by omega)).to (w := true) (by simp)
  refine EvV.bind t' (EvV.bind s (EvV.bind t' (EvV.bind i (EvV.bind q (EvP.pos rfl (EvP.succ ?_))))))
  simp only [laws_FnExactRecordBytes.j0]
  refine EvP.neg (by simp) (EvV.bind t' (EvV.bind (eqRecord_same o t hk ks hv vs (by omega) (by omega)) (EvP.pos rfl (EvP.bind (markRecord_ev o t hk ks hv vs (by omega) (by omega)) ?_))))
  rintro ⟨m0, y0⟩ hm0
  dsimp only at hm0 ⊢
  refine EvP.neg (by omega) (EvV.bind q (EvP.pos rfl (EvP.succ ?_)))
  simp only [laws_FnExactRecordBytes.j1]
  refine EvP.neg (by simp) (EvP.bind (markIntS_ev xs 1 (by decide) (by decide) (by omega)) ?_)
  rintro ⟨m, ys⟩ ⟨hm, hy, hM⟩
  dsimp only at hm hy hM ⊢
  have hh := heldIntS_ev ys 1 (by decide) (by decide) (by omega) hM
  refine EvV.bind hh (EvP.neg (by omega) (EvP.pos (by omega) (EvV.bind t' (EvV.bind i (EvV.bind q (EvP.pos rfl (EvP.succ ?_)))))))
  simp only [laws_FnExactRecordBytes.j2]
  exact EvP.neg (by simp) (EvV.bind hh (EvP.neg (by omega) (EvP.pos (by omega) (EvP.ret rfl))))

end Go.Proofs.Ytfdfbpaibdgidaa.Pure
