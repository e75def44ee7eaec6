/- The program's OldBytes and the reference's tell the same bytes, which share no memory with the message or another call's, for all arguments; there is no condition. -/
import Derived.Test.YtmpnedpokdaejaaQFnExactOldBytesx6
import Derived.Test.YtmpnedpokdaejaaMath
import Derived.Test.YtmpnedpokdaejaaMath2
import Derived.Test.YtmpnedpokdaejaaMath3
import Derived.Test.YtmpnedpokdaejaaMath4
set_option linter.unusedVariables false
set_option linter.unusedSimpArgs false
namespace Go.Proofs.Ytmpnedpokdaejaa.Pure
open Go.RowKit Go.Proofs.Ytmpnedpokdaejaa.QFnExactOldBytes Go.Proofs.YtmpnedpokdaejaaW.PrintWords Go.Proofs.YtmpnedpokdaejaaW.PrintLast Go.Proofs.YtmpnedpokdaejaaW.PrintMore Go.Proofs.Ytmpnedpokdaejaa.M

theorem l6In_eq (a b c : Int) : spec_l6In.f a b c = some (decide (b ≤ a ∧ a ≤ c)) := by
  unfold spec_l6In.f
  by_cases h : a ≥ b
  · rw [if_pos h]; congr 1; simp only [decide_eq_decide]; omega
  · rw [if_neg h]; congr 1; symm; simp only [decide_eq_false_iff_not]; omega

theorem l1Ok_l0 (xs : List Int) (hl : xs.length ≤ 1000000000000000000) (d : Nat) : ∀ j : Nat, j ≤ xs.length → xs.length - j = d → EvV (fun k => spec_l1Ok.l0 k xs (j : Int)) (allB (xs.drop j)) := by
  induction d with
  | zero =>
    intro j hj hd
    refine EvP.succ ?_
    simp only [spec_l1Ok.l0]
    rw [drop_end xs j (by omega)]
    exact EvP.neg (by omega) (EvP.ret rfl)
  | succ d ih =>
    intro j hj hd
    have hlt : j < xs.length := by omega
    refine EvP.succ ?_
    simp only [spec_l1Ok.l0, l6In_eq, Option.bind_some, rd_nat xs j hlt, w64_succ hlt hl]
    refine EvP.pos (by omega) (EvP.pos (by omega) ?_)
    rw [drop_cons xs j hlt]
    refine EvP.ite (fun h => ?_) (fun h => EvP.ret ?_)
    · have hb : isB xs[j] = true := h
      exact (ih (j + 1) (by omega) (by omega)).to (allB_cons_t hb)
    · have hb : isB xs[j] = false := by simpa [isB] using h
      exact allB_cons_f hb
theorem l1Ok_ev (xs : List Int) (hl : xs.length ≤ 1000000000000000000) : EvV (fun k => spec_l1Ok.f k xs) (allB xs) := by
  unfold spec_l1Ok.f; exact l1Ok_l0 xs hl xs.length 0 (by omega) (by omega)

theorem isByte_eq (x : Int) : impl_isByte.f x = some (isB x) := by
  unfold impl_isByte.f isB
  by_cases h : x ≥ 0
  · rw [if_pos h]; congr 1; simp only [decide_eq_decide]; omega
  · rw [if_neg h]; congr 1; symm; simp only [decide_eq_false_iff_not]; omega

theorem allBytes_l0 (xs : List Int) (hl : xs.length ≤ 1000000000000000000) (d : Nat) : ∀ j : Nat, j ≤ xs.length → xs.length - j = d → EvV (fun k => impl_allBytes.l0 k xs (xs.length : Int) (j : Int)) (allB (xs.drop j)) := by
  induction d with
  | zero =>
    intro j hj hd
    refine EvP.succ ?_
    simp only [impl_allBytes.l0]
    rw [drop_end xs j (by omega)]
    exact EvP.neg (by omega) (EvP.ret rfl)
  | succ d ih =>
    intro j hj hd
    have hlt : j < xs.length := by omega
    refine EvP.succ ?_
    simp only [impl_allBytes.l0, isByte_eq, Option.bind_some, rd_nat xs j hlt, w64_succ hlt hl]
    refine EvP.pos (by omega) (EvP.pos (by omega) (EvP.pos (by omega) ?_))
    rw [drop_cons xs j hlt]
    refine EvP.ite (fun h => ?_) (fun h => EvP.ret ?_)
    · exact (ih (j + 1) (by omega) (by omega)).to (allB_cons_t h)
    · exact allB_cons_f (by simpa using h)
theorem allBytes_ev (xs : List Int) (hl : xs.length ≤ 1000000000000000000) : EvV (fun k => impl_allBytes.f k xs) (allB xs) := by
  unfold impl_allBytes.f; exact allBytes_l0 xs hl xs.length 0 (by omega) (by omega)

theorem l2Sum_l0 (xs : List Int) (hl : xs.length ≤ 1000000000000000000) (hb : allB xs = true) (d : Nat) : ∀ (j : Nat) (s : Int), j ≤ xs.length → xs.length - j = d → 0 ≤ s → s < 65521 → EvV (fun k => spec_l2Sum.l0 k xs s (j : Int)) ((xs.drop j).foldl sumStep s) := by
  induction d with
  | zero =>
    intro j s hj hd _ _
    refine EvP.succ ?_
    simp only [spec_l2Sum.l0]
    rw [drop_end xs j (by omega)]
    exact EvP.neg (by omega) (EvP.ret rfl)
  | succ d ih =>
    intro j s hj hd h0 h1
    have hlt : j < xs.length := by omega
    have hx := allB_get hb j hlt
    have e : Int.tmod (wrap64 (wrap64 (257 * s) + xs[j])) 65521 = sumStep s xs[j] := by
      rw [w64 (x := 257 * s) (by omega) (by omega), w64 (by omega) (by omega), tmod_pos (by omega)]; rfl
    refine EvP.succ ?_
    simp only [spec_l2Sum.l0, rd_nat xs j hlt, w64_succ hlt hl, e]
    refine EvP.pos (by omega) (EvP.pos (by omega) ?_)
    rw [drop_cons xs j hlt]
    exact ih (j + 1) _ (by omega) (by omega) (sumStep_rng _ _).1 (sumStep_rng _ _).2
theorem l2Sum_ev (xs : List Int) (hl : xs.length ≤ 1000000000000000000) (hb : allB xs = true) : EvV (fun k => spec_l2Sum.f k xs) (sumL xs) := by
  unfold spec_l2Sum.f; exact l2Sum_l0 xs hl hb xs.length 0 1 (by omega) (by omega) (by decide) (by decide)

theorem with_eq {s b : Int} (h0 : 0 ≤ s) (h1 : s < 65521) (hb : 0 ≤ b ∧ b ≤ 255) : impl_sum_with.f s b = some (sumStep s b) := by
  unfold impl_sum_with.f
  rw [w64 (x := 257 * s) (by omega) (by omega), w64 (by omega) (by omega), tmod_pos (by omega)]; rfl

theorem over_l0 (xs : List Int) (hl : xs.length ≤ 1000000000000000000) (hb : allB xs = true) (d : Nat) : ∀ (j : Nat) (s : Int), j ≤ xs.length → xs.length - j = d → 0 ≤ s → s < 65521 → EvV (fun k => impl_sum_over.l0 k s xs (xs.length : Int) (j : Int)) ((xs.drop j).foldl sumStep s) := by
  induction d with
  | zero =>
    intro j s hj hd _ _
    refine EvP.succ ?_
    simp only [impl_sum_over.l0]
    rw [drop_end xs j (by omega)]
    exact EvP.neg (by omega) (EvP.ret rfl)
  | succ d ih =>
    intro j s hj hd h0 h1
    have hlt : j < xs.length := by omega
    refine EvP.succ ?_
    simp only [impl_sum_over.l0, rd_nat xs j hlt, w64_succ hlt hl, with_eq h0 h1 (allB_get hb j hlt), Option.bind_some]
    refine EvP.pos (by omega) (EvP.pos (by omega) (EvP.pos (by omega) ?_))
    rw [drop_cons xs j hlt]
    exact ih (j + 1) _ (by omega) (by omega) (sumStep_rng _ _).1 (sumStep_rng _ _).2
theorem over_ev (xs : List Int) (hl : xs.length ≤ 1000000000000000000) (hb : allB xs = true) : EvV (fun k => impl_sum_over.f k 1 xs) (sumL xs) := by
  unfold impl_sum_over.f; exact over_l0 xs hl hb xs.length 0 1 (by omega) (by omega) (by decide) (by decide)

theorem l2Int_ev {n m : Int} (h0 : 1 ≤ m) (h1 : m ≤ 3) (hn : 0 ≤ n) (hn1 : n < 4611686018427387904) : EvV (fun k => spec_l2Int.f k n m) (intB n m) := by
  have d1 : wrap64 (Int.tdiv n 256) = n / 256 := by rw [tdiv_pos hn, w64 (by omega) (by omega)]
  have d2 : wrap64 (Int.tdiv (n / 256) 256) = n / 65536 := by rw [tdiv_pos (by omega), w64 (by omega) (by omega)]; omega
  have r0 : Int.tmod n 256 = n % 256 := tmod_pos hn
  have r1 : Int.tmod (n / 256) 256 = n / 256 % 256 := tmod_pos (by omega)
  have r2 : Int.tmod (n / 65536) 256 = n / 65536 % 256 := tmod_pos (by omega)
  have w0 : wrap64 (1 - 1) = 0 := w64 (by decide) (by decide)
  have w1 : wrap64 (2 - 1) = 1 := w64 (by decide) (by decide)
  have w2 : wrap64 (3 - 1) = 2 := w64 (by decide) (by decide)
  have w3 : wrap64 (0 - 1) = -1 := w64 (by decide) (by decide)
  refine EvV.of_add 4 fun k => ?_
  rcases m123 h0 h1 with rfl | rfl | rfl <;> simp [spec_l2Int.f, spec_l2Int.l0, w64, intB, d1, d2, r0, r1, r2, List.replicate, List.set]

theorem intOf_ev {n m : Int} (h0 : 1 ≤ m) (h1 : m ≤ 3) (hn : 0 ≤ n) (hn1 : n < 4611686018427387904) : EvV (fun k => impl_intOf.f k n m) (intB n m) := by
  have s0 : shr .i64 n 0 = n := by unfold shr; simp
  have s1 : shr .i64 n 8 = n / 256 := by unfold shr; rfl
  have s2 : shr .i64 n 16 = n / 65536 := by unfold shr; rfl
  have r0 : Go.bits .and .i64 n 255 = n % 256 := and255 hn (by omega)
  have r1 : Go.bits .and .i64 (n / 256) 255 = n / 256 % 256 := and255 (by omega) (by omega)
  have r2 : Go.bits .and .i64 (n / 65536) 255 = n / 65536 % 256 := and255 (by omega) (by omega)
  refine EvV.of_add 4 fun k => ?_
  rcases m123 h0 h1 with rfl | rfl | rfl <;> simp [impl_intOf.f, impl_intOf.l0, w64, intB, s0, s1, s2, r0, r1, r2, List.replicate, List.set]

theorem eqIntS_l0 (xs ys : List Int) (he : xs.length = ys.length) (hl : xs.length ≤ 1000000000000000000) (d : Nat) : ∀ j : Nat, j ≤ xs.length → xs.length - j = d → EvV (fun k => laws_eqIntS.l0 k xs ys (j : Int)) (decide (xs.drop j = ys.drop j)) := by
  induction d with
  | zero =>
    intro j hj hd
    refine EvP.succ ?_
    simp only [laws_eqIntS.l0]
    rw [drop_end xs j (by omega), drop_end ys j (by omega)]
    exact EvP.neg (by omega) (EvP.ret (by simp))
  | succ d ih =>
    intro j hj hd
    have hlt : j < xs.length := by omega
    have hlt2 : j < ys.length := by omega
    refine EvP.succ ?_
    simp only [laws_eqIntS.l0, rd_nat xs j hlt, rd_nat ys j hlt2, w64_succ hlt hl]
    refine EvP.pos (by omega) (EvP.pos (by omega) (EvP.pos (by omega) ?_))
    rw [drop_cons xs j hlt, drop_cons ys j hlt2]
    refine EvP.ite (fun h => ?_) (fun h => EvP.ret ?_)
    · exact (ih (j + 1) (by omega) (by omega)).to (dec_cons_t h)
    · exact dec_cons_f h
theorem eqIntS_ev (xs ys : List Int) (hl : xs.length ≤ 1000000000000000000) : EvV (fun k => laws_eqIntS.f k xs ys) (decide (xs = ys)) := by
  unfold laws_eqIntS.f
  refine EvP.ite (fun h => ?_) (fun h => EvP.ret ?_)
  · exact eqIntS_l0 xs ys (by omega) hl xs.length 0 (by omega) (by omega)
  · have : ¬ xs = ys := by rintro rfl; exact h rfl
    simp [this]

theorem toIntS_ev (xs : List Int) (hl : xs.length ≤ 1000000000000) : EvV (fun k => laws_toIntS.f k xs) xs := by
  have key : ∀ (d j : Nat) (ys : List Int), j + d = xs.length → ys.length = xs.length → ys.take j = xs.take j → EvV (fun k => laws_toIntS.l0 k xs ys (j : Int)) xs := by
    intro d
    induction d with
    | zero =>
      intro j ys hj hy ht
      refine EvP.succ ?_
      simp only [laws_toIntS.l0]
      refine EvP.neg (by omega) (EvP.ret ?_)
      rw [List.take_of_length_le (by omega), List.take_of_length_le (by omega)] at ht
      exact ht.symm
    | succ d ih =>
      intro j ys hj hy ht
      have hlt : j < xs.length := by omega
      refine EvP.succ ?_
      simp only [laws_toIntS.l0, rd_nat xs j hlt, w64_succ hlt (by omega : xs.length ≤ 1000000000000000000)]
      refine EvP.pos (by omega) (EvP.pos (by omega) (EvP.pos (by omega) ?_))
      have e : ((j : Int)).toNat = j := by omega
      rw [e]
      refine ih (j + 1) _ (by omega) (by simpa using hy) ?_
      rw [List.take_add_one, List.take_add_one, List.take_set_of_le (Nat.le_refl _), ht]
      simp [hlt, hy]
  unfold laws_toIntS.f
  refine EvP.pos (by omega) (EvP.pos (by omega) ?_)
  exact key xs.length 0 _ (by omega) (by simp) (by simp)

theorem markIntS_ev (xs : List Int) (s : Int) (hs0 : 0 ≤ s) (hs1 : s ≤ 1000000000000000) (hl : xs.length ≤ 1000000000000000) :
    EvP (fun k => laws_markIntS.f k xs s) (fun r => r.1 = s + xs.length ∧ r.2.length = xs.length ∧ Marked r.2 s) := by
  have key : ∀ (d j : Nat) (ys : List Int), j + d = xs.length → ys.length = xs.length → (∀ i (h : i < ys.length), i < j → ys[i] = s + i) → EvP (fun k => laws_markIntS.l0 k ys (s + j) (j : Int)) (fun r => r.1 = s + xs.length ∧ r.2.length = xs.length ∧ Marked r.2 s) := by
    intro d
    induction d with
    | zero =>
      intro j ys hj hy ht
      refine EvP.succ ?_
      simp only [laws_markIntS.l0]
      refine EvP.neg (by omega) (EvP.ret ⟨?_, hy, ?_⟩)
      · dsimp only; omega
      · intro i hi; exact ht i hi (by dsimp only at hi; omega)
    | succ d ih =>
      intro j ys hj hy ht
      have hlt : j < ys.length := by omega
      have e : ((j : Int)).toNat = j := by omega
      have e2 : wrap64 (s + (j : Int) + 1) = s + ((j + 1 : Nat) : Int) := by rw [w64 (by omega) (by omega)]; omega
      refine EvP.succ ?_
      simp only [laws_markIntS.l0, w64_succ hlt (by omega : ys.length ≤ 1000000000000000000), e, e2]
      refine EvP.pos (by omega) (EvP.pos (by omega) ?_)
      refine ih (j + 1) _ (by omega) (by simpa using hy) ?_
      intro i hi hij
      rw [List.getElem_set]
      split
      · rename_i h; omega
      · rename_i h; exact ht i (by simpa using hi) (by omega)
  unfold laws_markIntS.f
  have := key xs.length 0 xs (by omega) rfl (by intro i _ h; omega)
  simpa using this

theorem heldIntS_ev (ys : List Int) (s : Int) (hs0 : 0 ≤ s) (hs1 : s ≤ 1000000000000000) (hl : ys.length ≤ 1000000000000000) (hm : Marked ys s) :
    EvV (fun k => laws_heldIntS.f k ys s) (s + ys.length) := by
  have key : ∀ (d j : Nat), j + d = ys.length → EvV (fun k => laws_heldIntS.l0 k ys (s + j) (j : Int)) (s + ys.length) := by
    intro d
    induction d with
    | zero =>
      intro j hj
      refine EvP.succ ?_
      simp only [laws_heldIntS.l0]
      exact EvP.neg (by omega) (EvP.ret (by omega))
    | succ d ih =>
      intro j hj
      have hlt : j < ys.length := by omega
      have e2 : wrap64 (s + (j : Int) + 1) = s + ((j + 1 : Nat) : Int) := by rw [w64 (by omega) (by omega)]; omega
      refine EvP.succ ?_
      simp only [laws_heldIntS.l0, w64_succ hlt (by omega : ys.length ≤ 1000000000000000000), e2, marked_rd hm j hlt]
      refine EvP.pos (by omega) (EvP.pos (by omega) (EvP.pos (by simp) ?_))
      exact ih (j + 1) (by omega)
  unfold laws_heldIntS.f
  have := key ys.length 0 (by omega)
  simpa using this

theorem within_eq (a b c : Int) : impl_within.f a b c = some (decide (b ≤ a ∧ a ≤ c)) := by
  unfold impl_within.f
  by_cases h : a ≥ b
  · rw [if_pos h]; congr 1; simp only [decide_eq_decide]; omega
  · rw [if_neg h]; congr 1; symm; simp only [decide_eq_false_iff_not]; omega

theorem baseValid_eq (o t : Int) : impl_baseValid.f o t = some (baseO o t) := by
  unfold impl_baseValid.f baseO
  simp only [within_eq, Option.bind_some]
  by_cases h : 0 ≤ o ∧ o ≤ 99999
  · rw [if_pos (by simpa using h)]; simp [h]
  · rw [if_neg (by simpa using h)]; simp [h]

theorem partValid_ev (has : Bool) (xs : List Int) (hl : xs.length ≤ 1000000000000000000) : EvV (fun k => impl_partValid.f k has xs) (partOk has xs) := by
  unfold impl_partValid.f partOk
  refine EvP.ite (fun h => ?_) (fun h => EvP.ret ?_)
  · rw [if_pos h]
    refine EvP.ite (fun g => EvV.bind (allBytes_ev xs hl) (EvP.ret ?_)) (fun g => EvP.ret ?_)
    · simp [g]
    · simp [g]
  · rw [if_neg h, Bool.eq_iff_iff]
    simp only [decide_eq_true_eq, beq_iff_eq]

theorem iRecordValid_ev (o t : Int) (hk : Bool) (ks : List Int) (hv : Bool) (vs : List Int) (h1 : ks.length ≤ 1000000000000000000) (h2 : vs.length ≤ 1000000000000000000) : EvV (fun k => impl_RecordValid.f k o t hk ks hv vs) (recOk o t hk ks hv vs) := by
  unfold impl_RecordValid.f recOk
  simp only [baseValid_eq, baseO, Option.bind_some]
  refine EvP.ite (fun a => ?_) (fun a => EvP.ret ?_)
  · have a' := a
    simp only [Bool.and_eq_true, decide_eq_true_eq] at a'
    refine EvV.bind (partValid_ev hk ks h1) (EvP.ite (fun b => EvV.bind (partValid_ev hv vs h2) (EvP.ret ?_)) (fun b => EvP.ret ?_))
    · simp [a', b]
    · simp [a', b]
  · revert a
    cases decide (0 ≤ o ∧ o ≤ 99999) <;> cases decide (0 ≤ t ∧ t ≤ 99999) <;> simp

theorem l3Part_ev (has : Bool) (xs : List Int) (hl : xs.length ≤ 1000000000000000000) : EvV (fun k => spec_l3Part.f k has xs) (partOk has xs) := by
  unfold spec_l3Part.f partOk
  refine EvP.ite (fun h => ?_) (fun h => ?_)
  · rw [if_pos h]
    refine EvV.bind (l1Ok_ev xs hl) (EvP.ite (fun g => EvP.ret ?_) (fun g => EvP.ret ?_))
    · simp [g]
    · simp [g]
  · rw [if_neg h]
    refine EvP.ite (fun c => EvV.bind (l1Ok_ev xs hl) (EvP.ite (fun g => EvP.ret ?_) (fun g => EvP.ret ?_))) (fun c => EvP.ret ?_)
    · have : xs = [] := List.eq_nil_of_length_eq_zero (by omega)
      subst this; rfl
    · have : xs = [] := List.eq_nil_of_length_eq_zero (by omega)
      subst this; exact absurd rfl g
    · rw [decide_eq_false c]

theorem sRecordValid_ev (o t : Int) (hk : Bool) (ks : List Int) (hv : Bool) (vs : List Int) (h1 : ks.length ≤ 1000000000000000000) (h2 : vs.length ≤ 1000000000000000000) : EvV (fun k => spec_RecordValid.f k o t hk ks hv vs) (recOk o t hk ks hv vs) := by
  unfold spec_RecordValid.f recOk
  simp only [l6In_eq, Option.bind_some]
  refine EvP.ite (fun a => ?_) (fun a => EvP.ret (by simp [a]))
  refine EvP.ite (fun c => ?_) (fun c => EvP.ret (by simp [a, c]))
  refine EvV.bind (l3Part_ev hk ks h1) (EvP.ite (fun b => EvV.bind (l3Part_ev hv vs h2) (EvP.ret ?_)) (fun b => EvP.ret ?_))
  · rw [a, c, b]; rfl
  · have b' : partOk hk ks = false := by simpa using b
    rw [a, c, b']; rfl

theorem szIntS_eq (l : List Int) (a : Int) (ha0 : 0 ≤ a) (ha1 : a ≤ 1048576) (hl : l.length ≤ maxLen) : laws_szIntS.f l a = some (if a - (l.length : Int) < 0 then -1 else a - (l.length : Int)) := by
  unfold maxLen at hl
  unfold laws_szIntS.f
  rw [w64 (x := a - (l.length : Int)) (by omega) (by omega)]
  split <;> rfl

/-- A valid message. -/
def oldOk (o : Int) (timed : Bool) (t : Int) (ks vs : List Int) (hk miss : Bool) : Bool := recOk o t hk ks (!miss) vs && (timed || decide (t = 0))
theorem iKept_eq (o : Int) (timed : Bool) (t : Int) (ks vs : List Int) (hk miss : Bool) (h1 : ks.length ≤ 1000000000000) (h2 : vs.length ≤ 1000000000000) : impl_Old_kept.f o timed t ks vs hk miss = some (o, t, hk, ks, !miss, vs) := by
  unfold impl_Old_kept.f slices_Clone_int_int.f
  rw [if_pos (by omega), if_pos (by omega)]
  rfl
theorem iOldValid_ev (o : Int) (timed : Bool) (t : Int) (ks vs : List Int) (hk miss : Bool) (h1 : ks.length ≤ 1000000000000) (h2 : vs.length ≤ 1000000000000) : EvV (fun k => impl_OldValid.f k o timed t ks vs hk miss) (oldOk o timed t ks vs hk miss) := by
  unfold impl_OldValid.f oldOk
  rw [iKept_eq o timed t ks vs hk miss h1 h2]
  simp only [Option.bind_some]
  exact EvV.bind (iRecordValid_ev o t hk ks (!miss) vs (by omega) (by omega)) (EvP.ret rfl)

theorem sKept_eq (o : Int) (timed : Bool) (t : Int) (ks vs : List Int) (hk miss : Bool) (h1 : ks.length ≤ 1000000000000) (h2 : vs.length ≤ 1000000000000) : spec_l11Record.f o timed t ks vs hk miss = some (o, t, hk, ks, !miss, vs) := by
  unfold spec_l11Record.f
  simp only [Option.bind_some, List.nil_append, List.length_nil, Nat.zero_add]
  rw [if_pos (by omega), if_pos (by omega)]
theorem sOldValid_ev (o : Int) (timed : Bool) (t : Int) (ks vs : List Int) (hk miss : Bool) (h1 : ks.length ≤ 1000000000000) (h2 : vs.length ≤ 1000000000000) : EvV (fun k => spec_OldValid.f k o timed t ks vs hk miss) (oldOk o timed t ks vs hk miss) := by
  unfold spec_OldValid.f oldOk
  rw [sKept_eq o timed t ks vs hk miss h1 h2]
  simp only [Option.bind_some]
  refine EvV.bind (sRecordValid_ev o t hk ks (!miss) vs (by omega) (by omega)) (EvP.ite (fun a => ?_) (fun a => EvP.ret ?_))
  · rw [a]
    refine EvP.ite (fun b => EvP.ret (by rw [b]; rfl)) (fun b => EvP.ret ?_)
    rw [Bool.eq_false_iff.2 b]
    rw [Bool.eq_iff_iff]; simp
  · rw [Bool.eq_false_iff.2 a]; rfl

theorem szOld_eq (o : Int) (timed : Bool) (t : Int) (ks vs : List Int) (hk miss : Bool) (a : Int) (ha0 : 0 ≤ a) (ha1 : a ≤ 1048576) (h1 : ks.length ≤ maxLen) (h2 : vs.length ≤ maxLen) :
    ∃ v, laws_szOld.f o timed t ks vs hk miss a = some v ∧ (v < 0 ∨ (0 ≤ v ∧ v ≤ a ∧ (ks.length : Int) + vs.length ≤ 1048576)) := by
  unfold laws_szOld.f
  rw [szIntS_eq ks a ha0 ha1 h1]
  simp only [Option.bind_some]
  by_cases c : a - (ks.length : Int) < 0
  · rw [if_pos c]; exact ⟨-1, rfl, .inl (by decide)⟩
  · rw [if_neg c, if_neg c, szIntS_eq vs _ (by omega) (by omega) h2]
    simp only [Option.bind_some]
    by_cases d : a - (ks.length : Int) - (vs.length : Int) < 0
    · rw [if_pos d]; exact ⟨-1, rfl, .inl (by decide)⟩
    · rw [if_neg d, if_neg d]; exact ⟨_, rfl, .inr ⟨by omega, by omega, by omega⟩⟩

theorem toOld_ev (o : Int) (timed : Bool) (t : Int) (ks vs : List Int) (hk miss : Bool) (h1 : ks.length ≤ 1000000000000) (h2 : vs.length ≤ 1000000000000) : EvV (fun k => laws_toOld.f k o timed t ks vs hk miss) (o, timed, t, ks, vs, hk, miss) := by
  unfold laws_toOld.f
  exact EvV.bind (toIntS_ev ks h1) (EvV.bind (toIntS_ev vs h2) (EvP.ret rfl))

theorem eqOld_same (o : Int) (timed : Bool) (t : Int) (ks vs : List Int) (hk miss : Bool) (h1 : ks.length ≤ 1000000000000) (h2 : vs.length ≤ 1000000000000) : EvV (fun k => laws_eqOld.f k o timed t ks vs hk miss o timed t ks vs hk miss) true := by
  unfold laws_eqOld.f
  exact EvP.pos rfl (EvP.neg (by simp) (EvP.pos rfl (EvV.bind ((eqIntS_ev ks ks (by omega)).to (w := true) (by simp)) (EvP.pos rfl (EvV.bind ((eqIntS_ev vs vs (by omega)).to (w := true) (by simp)) (EvP.pos rfl (EvP.neg (by simp) (EvP.neg (by simp) (EvP.ret rfl)))))))))

def oldPB (has : Bool) (xs : List Int) : List Int := if has = true then (xs.length : Int) :: xs else [255]
theorem oldPB_len (has : Bool) (xs : List Int) : (oldPB has xs).length ≤ xs.length + 1 := by unfold oldPB; split <;> simp
theorem oldPB_bytes {has : Bool} {xs : List Int} (h : partOk has xs = true) : allB (oldPB has xs) = true := by
  unfold oldPB
  obtain ⟨h1, h2⟩ := partOk_iff.1 h
  by_cases hh : has = true
  · rw [if_pos hh]
    obtain ⟨a, b⟩ := h1 hh
    refine allB_iff.2 ?_
    intro x hx
    rcases List.mem_cons.1 hx with rfl | hx
    · omega
    · exact allB_iff.1 b x hx
  · rw [if_neg hh]; rfl
def headO (timed : Bool) (t : Int) : List Int := if timed = true then 1 :: intB t 3 else [0]
theorem headO_len (timed : Bool) (t : Int) : (headO timed t).length ≤ 4 := by
  have := intB_len3 t 3
  unfold headO; split <;> simp
  omega
theorem headO_bytes (timed : Bool) (t : Int) : allB (headO timed t) = true := by
  unfold headO
  split
  · refine allB_iff.2 ?_
    intro x hx
    rcases List.mem_cons.1 hx with rfl | hx
    · omega
    · exact allB_iff.1 (intB_bytes t 3) x hx
  · rfl
def bodyO (timed : Bool) (t : Int) (ks vs : List Int) (hk miss : Bool) : List Int := headO timed t ++ oldPB hk ks ++ oldPB (!miss) vs
/-- A message's bytes. -/
def oldB (o : Int) (timed : Bool) (t : Int) (ks vs : List Int) (hk miss : Bool) : List Int := intB o 3 ++ (intB (sumL (bodyO timed t ks vs hk miss)) 2 ++ bodyO timed t ks vs hk miss)
def oldR (o : Int) (timed : Bool) (t : Int) (ks vs : List Int) (hk miss : Bool) : List Int × Bool := if oldOk o timed t ks vs hk miss = true then (oldB o timed t ks vs hk miss, true) else ([], false)
theorem oldOk_iff {o : Int} {timed : Bool} {t : Int} {ks vs : List Int} {hk miss : Bool} : oldOk o timed t ks vs hk miss = true ↔ recOk o t hk ks (!miss) vs = true ∧ (timed = true ∨ t = 0) := by unfold oldOk; simp
theorem oldR_len (o : Int) (timed : Bool) (t : Int) (ks vs : List Int) (hk miss : Bool) : (oldR o timed t ks vs hk miss).1.length ≤ ks.length + vs.length + 20 := by
  unfold oldR
  split
  · have a1 := intB_len3 o 3
    have a2 := intB_len3 (sumL (bodyO timed t ks vs hk miss)) 2
    have a3 := headO_len timed t
    have a4 := oldPB_len hk ks
    have a5 := oldPB_len (!miss) vs
    unfold oldB
    simp only [List.length_append]
    unfold bodyO at a2 ⊢
    simp only [List.length_append]
    omega
  · simp

theorem iOldPart_eq (has : Bool) (xs : List Int) (hl : xs.length ≤ 1000000000000) : impl_oldPart.f has xs = some (oldPB has xs) := by
  unfold impl_oldPart.f oldPB
  by_cases h : has = true
  · rw [if_pos h, if_pos h]
    simp only [Option.bind_some, List.length_cons, List.length_nil]
    rw [if_pos (by omega)]
    rfl
  · rw [if_neg h, if_neg h]

theorem sOldPart_eq (has : Bool) (xs : List Int) (hl : xs.length ≤ 1000000000000) : spec_l11Part.f has xs = some (oldPB has xs) := by
  unfold spec_l11Part.f oldPB
  by_cases h : has = true
  · rw [if_pos h, if_pos h]
    simp only [Option.bind_some, List.length_cons, List.length_nil]
    rw [if_pos (by omega)]
    rfl
  · rw [if_neg h, if_neg h]

theorem iBytesOf_ev {o : Int} {timed : Bool} {t : Int} {ks vs : List Int} {hk miss : Bool} (h : oldOk o timed t ks vs hk miss = true) : EvV (fun k => impl_Old_bytesOf.f k o timed t ks vs hk miss) (oldB o timed t ks vs hk miss) := by
  obtain ⟨⟨⟨o0, o1⟩, ⟨t0, t1⟩, pk, pv⟩, _⟩ := (show ((0 ≤ o ∧ o ≤ 99999) ∧ (0 ≤ t ∧ t ≤ 99999) ∧ partOk hk ks = true ∧ partOk (!miss) vs = true) ∧ (timed = true ∨ t = 0) from ⟨recOk_iff.1 (oldOk_iff.1 h).1, (oldOk_iff.1 h).2⟩)
  have lk := (partB_len pk).2
  have lv := (partB_len pv).2
  have a4 := oldPB_len hk ks
  have a5 := oldPB_len (!miss) vs
  have j0 : ∀ hd : List Int, hd = headO timed t → EvV (fun k => impl_Old_bytesOf.j0 k hd o timed t ks vs hk miss) (oldB o timed t ks vs hk miss) := by
    intro hd e
    have hl := headO_len timed t
    have hb := headO_bytes timed t
    have eb : hd ++ oldPB hk ks ++ oldPB (!miss) vs = bodyO timed t ks vs hk miss := by rw [e]; rfl
    have bb : allB (bodyO timed t ks vs hk miss) = true := by unfold bodyO; rw [allB_append, allB_append, hb, oldPB_bytes pk, oldPB_bytes pv]; rfl
    have bl : (bodyO timed t ks vs hk miss).length ≤ 100 := by unfold bodyO; simp only [List.length_append]; omega
    rw [← e] at hl
    refine EvP.succ ?_
    simp only [impl_Old_bytesOf.j0, iOldPart_eq hk ks (by omega), iOldPart_eq (!miss) vs (by omega), Option.bind_some]
    refine EvP.pos (by omega) (EvP.pos (by simp only [List.length_append]; omega) ?_)
    rw [eb]
    have sr := sumL_rng (bodyO timed t ks vs hk miss)
    refine EvV.bind (intOf_ev (by decide) (by decide) o0 (by omega)) (EvV.bind (over_ev _ (by omega) bb) (EvV.bind (intOf_ev (by decide) (by decide) sr.1 (by omega)) ?_))
    have c1 := intB_len3 o 3
    have c2 := intB_len3 (sumL (bodyO timed t ks vs hk miss)) 2
    unfold slices_Concat_int_int.f oldB
    rw [if_pos (by simp only [List.flatten_cons, List.flatten_nil, List.length_append, List.length_nil]; omega)]
    simp only [Option.bind_some, List.flatten_cons, List.flatten_nil, List.append_nil]
    exact EvP.ret rfl
  unfold impl_Old_bytesOf.f
  refine EvP.ite (fun c => ?_) (fun c => j0 [0] (by unfold headO; rw [if_neg c]))
  simp only [Option.bind_some]
  have c1 := intB_len3 t 3
  refine EvV.bind (intOf_ev (by decide) (by decide) t0 (by omega)) (EvP.pos (by simp only [List.length_cons, List.length_nil]; omega) (j0 _ ?_))
  unfold headO; rw [if_pos c]; rfl

theorem iOldBytes_ev (o : Int) (timed : Bool) (t : Int) (ks vs : List Int) (hk miss : Bool) (h1 : ks.length ≤ 1000000000000) (h2 : vs.length ≤ 1000000000000) : EvV (fun k => impl_OldBytes.f k o timed t ks vs hk miss) (oldR o timed t ks vs hk miss) := by
  unfold impl_OldBytes.f oldR
  refine EvV.bind (iOldValid_ev o timed t ks vs hk miss h1 h2) (EvP.ite (fun a => ?_) (fun a => EvP.ret (by rw [if_neg a])))
  rw [if_pos a]
  exact EvV.bind (iBytesOf_ev a) (EvP.ret rfl)

theorem sBytesOf_ev {o : Int} {timed : Bool} {t : Int} {ks vs : List Int} {hk miss : Bool} (h : oldOk o timed t ks vs hk miss = true) : EvV (fun k => spec_l11Bytes.f k o timed t ks vs hk miss) (oldB o timed t ks vs hk miss) := by
  obtain ⟨⟨⟨o0, o1⟩, ⟨t0, t1⟩, pk, pv⟩, _⟩ := (show ((0 ≤ o ∧ o ≤ 99999) ∧ (0 ≤ t ∧ t ≤ 99999) ∧ partOk hk ks = true ∧ partOk (!miss) vs = true) ∧ (timed = true ∨ t = 0) from ⟨recOk_iff.1 (oldOk_iff.1 h).1, (oldOk_iff.1 h).2⟩)
  have lk := (partB_len pk).2
  have lv := (partB_len pv).2
  have a4 := oldPB_len hk ks
  have a5 := oldPB_len (!miss) vs
  have j0 : ∀ hd : List Int, hd = headO timed t → EvV (fun k => spec_l11Bytes.j0 k hd o timed t ks vs hk miss) (oldB o timed t ks vs hk miss) := by
    intro hd e
    have hl := headO_len timed t
    have hb := headO_bytes timed t
    have eb : hd ++ oldPB hk ks ++ oldPB (!miss) vs = bodyO timed t ks vs hk miss := by rw [e]; rfl
    have bb : allB (bodyO timed t ks vs hk miss) = true := by unfold bodyO; rw [allB_append, allB_append, hb, oldPB_bytes pk, oldPB_bytes pv]; rfl
    have bl : (bodyO timed t ks vs hk miss).length ≤ 100 := by unfold bodyO; simp only [List.length_append]; omega
    rw [← e] at hl
    refine EvP.succ ?_
    simp only [spec_l11Bytes.j0, sOldPart_eq hk ks (by omega), sOldPart_eq (!miss) vs (by omega), Option.bind_some]
    refine EvP.pos (by omega) (EvP.pos (by simp only [List.length_append]; omega) ?_)
    rw [eb]
    have sr := sumL_rng (bodyO timed t ks vs hk miss)
    have c1 := intB_len3 o 3
    have c2 := intB_len3 (sumL (bodyO timed t ks vs hk miss)) 2
    refine EvV.bind (l2Int_ev (by decide) (by decide) o0 (by omega)) (EvV.bind (l2Sum_ev _ (by omega) bb) (EvV.bind (l2Int_ev (by decide) (by decide) sr.1 (by omega)) (EvP.pos (by omega) ?_)))
    exact EvP.pos (by simp only [List.length_append]; omega) (EvP.ret (by unfold oldB; rw [List.append_assoc]))
  unfold spec_l11Bytes.f
  refine EvP.ite (fun c => ?_) (fun c => j0 [0] (by unfold headO; rw [if_neg c]))
  simp only [Option.bind_some]
  have c1 := intB_len3 t 3
  refine EvV.bind (l2Int_ev (by decide) (by decide) t0 (by omega)) (EvP.pos (by simp only [List.length_cons, List.length_nil]; omega) (j0 _ ?_))
  unfold headO; rw [if_pos c]; rfl

theorem sOldBytes_ev (o : Int) (timed : Bool) (t : Int) (ks vs : List Int) (hk miss : Bool) (h1 : ks.length ≤ 1000000000000) (h2 : vs.length ≤ 1000000000000) : EvV (fun k => spec_OldBytes.f k o timed t ks vs hk miss) (oldR o timed t ks vs hk miss) := by
  unfold spec_OldBytes.f oldR
  refine EvV.bind (sOldValid_ev o timed t ks vs hk miss h1 h2) (EvP.ite (fun a => ?_) (fun a => EvP.ret (by rw [if_neg a])))
  rw [if_pos a]
  exact EvV.bind (sBytesOf_ev a) (EvP.ret rfl)

theorem markOld_ev (o : Int) (timed : Bool) (t : Int) (ks vs : List Int) (hk miss : Bool) (h1 : ks.length ≤ 1048576) (h2 : vs.length ≤ 1048576) : EvP (fun k => laws_markOld.f k o timed t ks vs hk miss 1) (fun r => 0 ≤ r.1) := by
  unfold laws_markOld.f
  refine EvP.bind (markIntS_ev ks 1 (by decide) (by decide) (by omega)) ?_
  rintro ⟨m, ys⟩ ⟨hm, _, _⟩
  dsimp only at hm ⊢
  refine EvP.bind (markIntS_ev vs m (by omega) (by omega) (by omega)) ?_
  rintro ⟨m2, ys2⟩ ⟨hm2, _, _⟩
  dsimp only at hm2 ⊢
  exact EvP.ret (by dsimp only; omega)

theorem FnExactOldBytes (o : Int) (timed : Bool) (t : Int) (ks vs : List Int) (hk miss : Bool) (h1 : ks.length ≤ maxLen) (h2 : vs.length ≤ maxLen) : ∃ k, laws_FnExactOldBytes.f k o timed t ks vs hk miss = some true := by
  refine EvP.done ?_
  unfold laws_FnExactOldBytes.f
  obtain ⟨v, hv', hc⟩ := szOld_eq o timed t ks vs hk miss 1048576 (by decide) (by decide) h1 h2
  rw [hv']
  simp only [Option.bind_some]
  refine EvP.ite (fun _ => EvP.ret rfl) (fun g => ?_)
  have hc' : (ks.length : Int) + vs.length ≤ 1048576 := by
    rcases hc with hc | hc
    · exact absurd hc g
    · exact hc.2.2
  have t' := toOld_ev o timed t ks vs hk miss (by omega) (by omega)
  have s := sOldBytes_ev o timed t ks vs hk miss (by omega) (by omega)
  have i := iOldBytes_ev o timed t ks vs hk miss (by omega) (by omega)
  have hl := oldR_len o timed t ks vs hk miss
  generalize oldR o timed t ks vs hk miss = r at s i hl
  obtain ⟨xs, b⟩ := r
  dsimp only at hl
  have q := (eqIntS_ev xs xs (by omega)).to (w := true) (by simp)
  refine EvV.bind t' (EvV.bind s (EvV.bind t' (EvV.bind i (EvV.bind q (EvP.pos rfl (EvP.succ ?_))))))
  simp only [laws_FnExactOldBytes.j0]
  refine EvP.neg (by simp) (EvV.bind t' (EvV.bind (eqOld_same o timed t ks vs hk miss (by omega) (by omega)) (EvP.pos rfl (EvP.bind (markOld_ev o timed t ks vs hk miss (by omega) (by omega)) ?_))))
  rintro ⟨m0, y0⟩ hm0
  dsimp only at hm0 ⊢
  refine EvP.neg (by omega) (EvV.bind q (EvP.pos rfl (EvP.succ ?_)))
  simp only [laws_FnExactOldBytes.j1]
  refine EvP.neg (by simp) (EvP.bind (markIntS_ev xs 1 (by decide) (by decide) (by omega)) ?_)
  rintro ⟨m, ys⟩ ⟨hm, hy, hM⟩
  dsimp only at hm hy hM ⊢
  have hh := heldIntS_ev ys 1 (by decide) (by decide) (by omega) hM
  refine EvV.bind hh (EvP.neg (by omega) (EvP.pos (by omega) (EvV.bind t' (EvV.bind i (EvV.bind q (EvP.pos rfl (EvP.succ ?_)))))))
  simp only [laws_FnExactOldBytes.j2]
  exact EvP.neg (by simp) (EvV.bind hh (EvP.neg (by omega) (EvP.pos (by omega) (EvP.ret rfl))))

end Go.Proofs.Ytmpnedpokdaejaa.Pure
