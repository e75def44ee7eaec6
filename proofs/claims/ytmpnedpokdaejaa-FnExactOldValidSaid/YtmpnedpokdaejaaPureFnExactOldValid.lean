/- The program's OldValid and the reference's tell the same and leave the message as it is, for all arguments; there is no condition. -/
import Derived.Test.YtmpnedpokdaejaaQFnExactOldValidx4
import Derived.Test.YtmpnedpokdaejaaMath
import Derived.Test.YtmpnedpokdaejaaMath3
set_option linter.unusedVariables false
set_option linter.unusedSimpArgs false
namespace Go.Proofs.Ytmpnedpokdaejaa.Pure
open Go.RowKit Go.Proofs.Ytmpnedpokdaejaa.QFnExactOldValid Go.Proofs.YtmpnedpokdaejaaW.PrintWords Go.Proofs.YtmpnedpokdaejaaW.PrintLast Go.Proofs.YtmpnedpokdaejaaW.PrintMore Go.Proofs.Ytmpnedpokdaejaa.M

theorem l6In_eq (a b c : Int) : spec_l6In.f a b c = some (decide (b ≤ a ∧ a ≤ c)) := by
  unfold spec_l6In.f
  by_cases h : a ≥ b
  · rw [if_pos h]; congr 1; simp only [decide_eq_decide]; omega
  · rw [if_neg h]; congr 1; symm; simp only [decide_eq_false_iff_not]; omega

theorem l1Ok_l0 (xs : List Int) (hl : xs.length ≤ 1000000000000000000) (d : Nat) : ∀ j : Nat, j ≤ xs.length → xs.length - j = d → EvV (fun k => spec_l1Ok.l0 k xs (j : Int)) (allB (xs.drop j)) := by
  induction d with
  | zero =>
    intro j hj hd
    refine EvP.succ ?_
    simp only [spec_l1Ok.l0]
    rw [drop_end xs j (by omega)]
    exact EvP.neg (by omega) (EvP.ret rfl)
  | succ d ih =>
    intro j hj hd
    have hlt : j < xs.length := by omega
    refine EvP.succ ?_
    simp only [spec_l1Ok.l0, l6In_eq, Option.bind_some, rd_nat xs j hlt, w64_succ hlt hl]
    refine EvP.pos (by omega) (EvP.pos (by omega) ?_)
    rw [drop_cons xs j hlt]
    refine EvP.ite (fun h => ?_) (fun h => EvP.ret ?_)
    · have hb : isB xs[j] = true := h
      exact (ih (j + 1) (by omega) (by omega)).to (allB_cons_t hb)
    · have hb : isB xs[j] = false := by simpa [isB] using h
      exact allB_cons_f hb
theorem l1Ok_ev (xs : List Int) (hl : xs.length ≤ 1000000000000000000) : EvV (fun k => spec_l1Ok.f k xs) (allB xs) := by
  unfold spec_l1Ok.f; exact l1Ok_l0 xs hl xs.length 0 (by omega) (by omega)

theorem isByte_eq (x : Int) : impl_isByte.f x = some (isB x) := by
  unfold impl_isByte.f isB
  by_cases h : x ≥ 0
  · rw [if_pos h]; congr 1; simp only [decide_eq_decide]; omega
  · rw [if_neg h]; congr 1; symm; simp only [decide_eq_false_iff_not]; omega

theorem allBytes_l0 (xs : List Int) (hl : xs.length ≤ 1000000000000000000) (d : Nat) : ∀ j : Nat, j ≤ xs.length → xs.length - j = d → EvV (fun k => impl_allBytes.l0 k xs (xs.length : Int) (j : Int)) (allB (xs.drop j)) := by
  induction d with
  | zero =>
    intro j hj hd
    refine EvP.succ ?_
    simp only [impl_allBytes.l0]
    rw [drop_end xs j (by omega)]
    exact EvP.neg (by omega) (EvP.ret rfl)
  | succ d ih =>
    intro j hj hd
    have hlt : j < xs.length := by omega
    refine EvP.succ ?_
    simp only [impl_allBytes.l0, isByte_eq, Option.bind_some, rd_nat xs j hlt, w64_succ hlt hl]
    refine EvP.pos (by omega) (EvP.pos (by omega) (EvP.pos (by omega) ?_))
    rw [drop_cons xs j hlt]
    refine EvP.ite (fun h => ?_) (fun h => EvP.ret ?_)
    · exact (ih (j + 1) (by omega) (by omega)).to (allB_cons_t h)
    · exact allB_cons_f (by simpa using h)
theorem allBytes_ev (xs : List Int) (hl : xs.length ≤ 1000000000000000000) : EvV (fun k => impl_allBytes.f k xs) (allB xs) := by
  unfold impl_allBytes.f; exact allBytes_l0 xs hl xs.length 0 (by omega) (by omega)

theorem eqIntS_l0 (xs ys : List Int) (he : xs.length = ys.length) (hl : xs.length ≤ 1000000000000000000) (d : Nat) : ∀ j : Nat, j ≤ xs.length → xs.length - j = d → EvV (fun k => laws_eqIntS.l0 k xs ys (j : Int)) (decide (xs.drop j = ys.drop j)) := by
  induction d with
  | zero =>
    intro j hj hd
    refine EvP.succ ?_
    simp only [laws_eqIntS.l0]
    rw [drop_end xs j (by omega), drop_end ys j (by omega)]
    exact EvP.neg (by omega) (EvP.ret (by simp))
  | succ d ih =>
    intro j hj hd
    have hlt : j < xs.length := by omega
    have hlt2 : j < ys.length := by omega
    refine EvP.succ ?_
    simp only [laws_eqIntS.l0, rd_nat xs j hlt, rd_nat ys j hlt2, w64_succ hlt hl]
    refine EvP.pos (by omega) (EvP.pos (by omega) (EvP.pos (by omega) ?_))
    rw [drop_cons xs j hlt, drop_cons ys j hlt2]
    refine EvP.ite (fun h => ?_) (fun h => EvP.ret ?_)
    · exact (ih (j + 1) (by omega) (by omega)).to (dec_cons_t h)
    · exact dec_cons_f h
theorem eqIntS_ev (xs ys : List Int) (hl : xs.length ≤ 1000000000000000000) : EvV (fun k => laws_eqIntS.f k xs ys) (decide (xs = ys)) := by
  unfold laws_eqIntS.f
  refine EvP.ite (fun h => ?_) (fun h => EvP.ret ?_)
  · exact eqIntS_l0 xs ys (by omega) hl xs.length 0 (by omega) (by omega)
  · have : ¬ xs = ys := by rintro rfl; exact h rfl
    simp [this]

theorem toIntS_ev (xs : List Int) (hl : xs.length ≤ 1000000000000) : EvV (fun k => laws_toIntS.f k xs) xs := by
  have key : ∀ (d j : Nat) (ys : List Int), j + d = xs.length → ys.length = xs.length → ys.take j = xs.take j → EvV (fun k => laws_toIntS.l0 k xs ys (j : Int)) xs := by
    intro d
    induction d with
    | zero =>
      intro j ys hj hy ht
      refine EvP.succ ?_
      simp only [laws_toIntS.l0]
      refine EvP.neg (by omega) (EvP.ret ?_)
      rw [List.take_of_length_le (by omega), List.take_of_length_le (by omega)] at ht
      exact ht.symm
    | succ d ih =>
      intro j ys hj hy ht
      have hlt : j < xs.length := by omega
      refine EvP.succ ?_
      simp only [laws_toIntS.l0, rd_nat xs j hlt, w64_succ hlt (by omega : xs.length ≤ 1000000000000000000)]
      refine EvP.pos (by omega) (EvP.pos (by omega) (EvP.pos (by omega) ?_))
      have e : ((j : Int)).toNat = j := by omega
      rw [e]
      refine ih (j + 1) _ (by omega) (by simpa using hy) ?_
      rw [List.take_add_one, List.take_add_one, List.take_set_of_le (Nat.le_refl _), ht]
      simp [hlt, hy]
  unfold laws_toIntS.f
  refine EvP.pos (by omega) (EvP.pos (by omega) ?_)
  exact key xs.length 0 _ (by omega) (by simp) (by simp)

theorem within_eq (a b c : Int) : impl_within.f a b c = some (decide (b ≤ a ∧ a ≤ c)) := by
  unfold impl_within.f
  by_cases h : a ≥ b
  · rw [if_pos h]; congr 1; simp only [decide_eq_decide]; omega
  · rw [if_neg h]; congr 1; symm; simp only [decide_eq_false_iff_not]; omega

theorem baseValid_eq (o t : Int) : impl_baseValid.f o t = some (baseO o t) := by
  unfold impl_baseValid.f baseO
  simp only [within_eq, Option.bind_some]
  by_cases h : 0 ≤ o ∧ o ≤ 99999
  · rw [if_pos (by simpa using h)]; simp [h]
  · rw [if_neg (by simpa using h)]; simp [h]

theorem partValid_ev (has : Bool) (xs : List Int) (hl : xs.length ≤ 1000000000000000000) : EvV (fun k => impl_partValid.f k has xs) (partOk has xs) := by
  unfold impl_partValid.f partOk
  refine EvP.ite (fun h => ?_) (fun h => EvP.ret ?_)
  · rw [if_pos h]
    refine EvP.ite (fun g => EvV.bind (allBytes_ev xs hl) (EvP.ret ?_)) (fun g => EvP.ret ?_)
    · simp [g]
    · simp [g]
  · rw [if_neg h, Bool.eq_iff_iff]
    simp only [decide_eq_true_eq, beq_iff_eq]

theorem iRecordValid_ev (o t : Int) (hk : Bool) (ks : List Int) (hv : Bool) (vs : List Int) (h1 : ks.length ≤ 1000000000000000000) (h2 : vs.length ≤ 1000000000000000000) : EvV (fun k => impl_RecordValid.f k o t hk ks hv vs) (recOk o t hk ks hv vs) := by
  unfold impl_RecordValid.f recOk
  simp only [baseValid_eq, baseO, Option.bind_some]
  refine EvP.ite (fun a => ?_) (fun a => EvP.ret ?_)
  · have a' := a
    simp only [Bool.and_eq_true, decide_eq_true_eq] at a'
    refine EvV.bind (partValid_ev hk ks h1) (EvP.ite (fun b => EvV.bind (partValid_ev hv vs h2) (EvP.ret ?_)) (fun b => EvP.ret ?_))
    · simp [a', b]
    · simp [a', b]
  · revert a
    cases decide (0 ≤ o ∧ o ≤ 99999) <;> cases decide (0 ≤ t ∧ t ≤ 99999) <;> simp

theorem l3Part_ev (has : Bool) (xs : List Int) (hl : xs.length ≤ 1000000000000000000) : EvV (fun k => spec_l3Part.f k has xs) (partOk has xs) := by
  unfold spec_l3Part.f partOk
  refine EvP.ite (fun h => ?_) (fun h => ?_)
  · rw [if_pos h]
    refine EvV.bind (l1Ok_ev xs hl) (EvP.ite (fun g => EvP.ret ?_) (fun g => EvP.ret ?_))
    · simp [g]
    · simp [g]
  · rw [if_neg h]
    refine EvP.ite (fun c => EvV.bind (l1Ok_ev xs hl) (EvP.ite (fun g => EvP.ret ?_) (fun g => EvP.ret ?_))) (fun c => EvP.ret ?_)
    · have : xs = [] := List.eq_nil_of_length_eq_zero (by omega)
      subst this; rfl
    · have : xs = [] := List.eq_nil_of_length_eq_zero (by omega)
      subst this; exact absurd rfl g
    · rw [decide_eq_false c]

theorem sRecordValid_ev (o t : Int) (hk : Bool) (ks : List Int) (hv : Bool) (vs : List Int) (h1 : ks.length ≤ 1000000000000000000) (h2 : vs.length ≤ 1000000000000000000) : EvV (fun k => spec_RecordValid.f k o t hk ks hv vs) (recOk o t hk ks hv vs) := by
  unfold spec_RecordValid.f recOk
  simp only [l6In_eq, Option.bind_some]
  refine EvP.ite (fun a => ?_) (fun a => EvP.ret (by simp [a]))
  refine EvP.ite (fun c => ?_) (fun c => EvP.ret (by simp [a, c]))
  refine EvV.bind (l3Part_ev hk ks h1) (EvP.ite (fun b => EvV.bind (l3Part_ev hv vs h2) (EvP.ret ?_)) (fun b => EvP.ret ?_))
  · rw [a, c, b]; rfl
  · have b' : partOk hk ks = false := by simpa using b
    rw [a, c, b']; rfl

theorem szIntS_eq (l : List Int) (a : Int) (ha0 : 0 ≤ a) (ha1 : a ≤ 1048576) (hl : l.length ≤ maxLen) : laws_szIntS.f l a = some (if a - (l.length : Int) < 0 then -1 else a - (l.length : Int)) := by
  unfold maxLen at hl
  unfold laws_szIntS.f
  rw [w64 (x := a - (l.length : Int)) (by omega) (by omega)]
  split <;> rfl

/-- A valid message. -/
def oldOk (o : Int) (timed : Bool) (t : Int) (ks vs : List Int) (hk miss : Bool) : Bool := recOk o t hk ks (!miss) vs && (timed || decide (t = 0))
theorem iKept_eq (o : Int) (timed : Bool) (t : Int) (ks vs : List Int) (hk miss : Bool) (h1 : ks.length ≤ 1000000000000) (h2 : vs.length ≤ 1000000000000) : impl_Old_kept.f o timed t ks vs hk miss = some (o, t, hk, ks, !miss, vs) := by
  unfold impl_Old_kept.f slices_Clone_int_int.f
  rw [if_pos (by omega), if_pos (by omega)]
  rfl
theorem iOldValid_ev (o : Int) (timed : Bool) (t : Int) (ks vs : List Int) (hk miss : Bool) (h1 : ks.length ≤ 1000000000000) (h2 : vs.length ≤ 1000000000000) : EvV (fun k => impl_OldValid.f k o timed t ks vs hk miss) (oldOk o timed t ks vs hk miss) := by
  unfold impl_OldValid.f oldOk
  rw [iKept_eq o timed t ks vs hk miss h1 h2]
  simp only [Option.bind_some]
  exact EvV.bind (iRecordValid_ev o t hk ks (!miss) vs (by omega) (by omega)) (EvP.ret rfl)

theorem sKept_eq (o : Int) (timed : Bool) (t : Int) (ks vs : List Int) (hk miss : Bool) (h1 : ks.length ≤ 1000000000000) (h2 : vs.length ≤ 1000000000000) : spec_l11Record.f o timed t ks vs hk miss = some (o, t, hk, ks, !miss, vs) := by
  unfold spec_l11Record.f
  simp only [Option.bind_some, List.nil_append, List.length_nil, Nat.zero_add]
  rw [if_pos (by omega), if_pos (by omega)]
theorem sOldValid_ev (o : Int) (timed : Bool) (t : Int) (ks vs : List Int) (hk miss : Bool) (h1 : ks.length ≤ 1000000000000) (h2 : vs.length ≤ 1000000000000) : EvV (fun k => spec_OldValid.f k o timed t ks vs hk miss) (oldOk o timed t ks vs hk miss) := by
  unfold spec_OldValid.f oldOk
  rw [sKept_eq o timed t ks vs hk miss h1 h2]
  simp only [Option.bind_some]
  refine EvV.bind (sRecordValid_ev o t hk ks (!miss) vs (by omega) (by omega)) (EvP.ite (fun a => ?_) (fun a => EvP.ret ?_))
  · rw [a]
    refine EvP.ite (fun b => EvP.ret (by rw [b]; rfl)) (fun b => EvP.ret ?_)
    rw [Bool.eq_false_iff.2 b]
    rw [Bool.eq_iff_iff]; simp
  · rw [Bool.eq_false_iff.2 a]; rfl

theorem szOld_eq (o : Int) (timed : Bool) (t : Int) (ks vs : List Int) (hk miss : Bool) (a : Int) (ha0 : 0 ≤ a) (ha1 : a ≤ 1048576) (h1 : ks.length ≤ maxLen) (h2 : vs.length ≤ maxLen) :
    ∃ v, laws_szOld.f o timed t ks vs hk miss a = some v ∧ (v < 0 ∨ (0 ≤ v ∧ v ≤ a ∧ (ks.length : Int) + vs.length ≤ 1048576)) := by
  unfold laws_szOld.f
  rw [szIntS_eq ks a ha0 ha1 h1]
  simp only [Option.bind_some]
  by_cases c : a - (ks.length : Int) < 0
  · rw [if_pos c]; exact ⟨-1, rfl, .inl (by decide)⟩
  · rw [if_neg c, if_neg c, szIntS_eq vs _ (by omega) (by omega) h2]
    simp only [Option.bind_some]
    by_cases d : a - (ks.length : Int) - (vs.length : Int) < 0
    · rw [if_pos d]; exact ⟨-1, rfl, .inl (by decide)⟩
    · rw [if_neg d, if_neg d]; exact ⟨_, rfl, .inr ⟨by omega, by omega, by omega⟩⟩

theorem toOld_ev (o : Int) (timed : Bool) (t : Int) (ks vs : List Int) (hk miss : Bool) (h1 : ks.length ≤ 1000000000000) (h2 : vs.length ≤ 1000000000000) : EvV (fun k => laws_toOld.f k o timed t ks vs hk miss) (o, timed, t, ks, vs, hk, miss) := by
  unfold laws_toOld.f
  exact EvV.bind (toIntS_ev ks h1) (EvV.bind (toIntS_ev vs h2) (EvP.ret rfl))

theorem eqOld_same (o : Int) (timed : Bool) (t : Int) (ks vs : List Int) (hk miss : Bool) (h1 : ks.length ≤ 1000000000000) (h2 : vs.length ≤ 1000000000000) : EvV (fun k => laws_eqOld.f k o timed t ks vs hk miss o timed t ks vs hk miss) true := by
  unfold laws_eqOld.f
  exact EvP.pos rfl (EvP.neg (by simp) (EvP.pos rfl (EvV.bind ((eqIntS_ev ks ks (by omega)).to (w := true) (by simp)) (EvP.pos rfl (EvV.bind ((eqIntS_ev vs vs (by omega)).to (w := true) (by simp)) (EvP.pos rfl (EvP.neg (by simp) (EvP.neg (by simp) (EvP.ret rfl)))))))))

theorem FnExactOldValid (o : Int) (timed : Bool) (t : Int) (ks vs : List Int) (hk miss : Bool) (h1 : ks.length ≤ maxLen) (h2 : vs.length ≤ maxLen) : ∃ k, laws_FnExactOldValid.f k o timed t ks vs hk miss = some true := by
  refine EvP.done ?_
  unfold laws_FnExactOldValid.f
  obtain ⟨v, hv', hc⟩ := szOld_eq o timed t ks vs hk miss 1048576 (by decide) (by decide) h1 h2
  rw [hv']
  simp only [Option.bind_some]
  refine EvP.ite (fun _ => EvP.ret rfl) (fun g => ?_)
  have hc' : (ks.length : Int) + vs.length ≤ 1048576 := by
    rcases hc with hc | hc
    · exact absurd hc g
    · exact hc.2.2
  have t' := toOld_ev o timed t ks vs hk miss (by omega) (by omega)
  exact EvV.bind t' (EvV.bind (sOldValid_ev o timed t ks vs hk miss (by omega) (by omega)) (EvV.bind t' (EvV.bind (iOldValid_ev o timed t ks vs hk miss (by omega) (by omega)) (EvP.neg (by simp) (EvV.bind t' (EvV.bind (eqOld_same o timed t ks vs hk miss (by omega) (by omega)) (EvP.pos rfl (EvP.ret rfl))))))))

end Go.Proofs.Ytmpnedpokdaejaa.Pure
