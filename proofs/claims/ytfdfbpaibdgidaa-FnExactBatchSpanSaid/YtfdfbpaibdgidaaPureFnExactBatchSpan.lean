/- The program's BatchSpan and the reference's tell the same and leave the batch as it is, for every batch; there is no condition. -/
import Derived.Test.YtfdfbpaibdgidaaQFnExactBatchSpanx7
import Derived.Test.YtfdfbpaibdgidaaMath
import Derived.Test.YtfdfbpaibdgidaaMath3
import Derived.Test.YtfdfbpaibdgidaaMath5
set_option linter.unusedVariables false
set_option linter.unusedSimpArgs false
namespace Go.Proofs.Ytfdfbpaibdgidaa.Pure
open Go.RowKit Go.Proofs.Ytfdfbpaibdgidaa.QFnExactBatchSpan Go.Proofs.YtfdfbpaibdgidaaW.PrintWords Go.Proofs.YtfdfbpaibdgidaaW.PrintLast Go.Proofs.YtfdfbpaibdgidaaW.PrintMore Go.Proofs.Ytfdfbpaibdgidaa.M

theorem l6In_eq (a b c : Int) : spec_l6In.f a b c = some (decide (b ≤ a ∧ a ≤ c)) := by
  unfold spec_l6In.f
  by_cases h : a ≥ b
  · rw [if_pos h]; congr 1; simp only [decide_eq_decide]; omega
  · rw [if_neg h]; congr 1; symm; simp only [decide_eq_false_iff_not]; omega

theorem l1Ok_l0 (xs : List Int) (hl : xs.length ≤ 1000000000000000000) (d : Nat) : ∀ j : Nat, j ≤ xs.length → xs.length - j = d → EvV (fun k => spec_l1Ok.l0 k xs (j : Int)) (allB (xs.drop j)) := by
  induction d with
  | zero =>
    intro j hj hd
    refine EvP.succ ?_
    simp only [spec_l1Ok.l0]
    rw [drop_end xs j (by omega)]
    exact EvP.neg (by omega) (EvP.ret rfl)
  | succ d ih =>
    intro j hj hd
    have hlt : j < xs.length := by omega
    refine EvP.succ ?_
    simp only [spec_l1Ok.l0, l6In_eq, Option.bind_some, rd_nat xs j hlt, w64_succ hlt hl]
    refine EvP.pos (by omega) (EvP.pos (by omega) ?_)
    rw [drop_cons xs j hlt]
    refine EvP.ite (fun h => ?_) (fun h => EvP.ret ?_)
    · have hb : isB xs[j] = true := h
      exact (ih (j + 1) (by omega) (by omega)).to (allB_cons_t hb)
    · have hb : isB xs[j] = false := by simpa [isB] using h
      exact allB_cons_f hb
theorem l1Ok_ev (xs : List Int) (hl : xs.length ≤ 1000000000000000000) : EvV (fun k => spec_l1Ok.f k xs) (allB xs) := by
  unfold spec_l1Ok.f; exact l1Ok_l0 xs hl xs.length 0 (by omega) (by omega)

theorem isByte_eq (x : Int) : impl_isByte.f x = some (isB x) := by
  unfold impl_isByte.f isB
  by_cases h : x ≥ 0
  · rw [if_pos h]; congr 1; simp only [decide_eq_decide]; omega
  · rw [if_neg h]; congr 1; symm; simp only [decide_eq_false_iff_not]; omega

theorem allBytes_l0 (xs : List Int) (hl : xs.length ≤ 1000000000000000000) (d : Nat) : ∀ j : Nat, j ≤ xs.length → xs.length - j = d → EvV (fun k => impl_allBytes.l0 k xs (xs.length : Int) (j : Int)) (allB (xs.drop j)) := by
  induction d with
  | zero =>
    intro j hj hd
    refine EvP.succ ?_
    simp only [impl_allBytes.l0]
    rw [drop_end xs j (by omega)]
    exact EvP.neg (by omega) (EvP.ret rfl)
  | succ d ih =>
    intro j hj hd
    have hlt : j < xs.length := by omega
    refine EvP.succ ?_
    simp only [impl_allBytes.l0, isByte_eq, Option.bind_some, rd_nat xs j hlt, w64_succ hlt hl]
    refine EvP.pos (by omega) (EvP.pos (by omega) (EvP.pos (by omega) ?_))
    rw [drop_cons xs j hlt]
    refine EvP.ite (fun h => ?_) (fun h => EvP.ret ?_)
    · exact (ih (j + 1) (by omega) (by omega)).to (allB_cons_t h)
    · exact allB_cons_f (by simpa using h)
theorem allBytes_ev (xs : List Int) (hl : xs.length ≤ 1000000000000000000) : EvV (fun k => impl_allBytes.f k xs) (allB xs) := by
  unfold impl_allBytes.f; exact allBytes_l0 xs hl xs.length 0 (by omega) (by omega)

theorem eqIntS_l0 (xs ys : List Int) (he : xs.length = ys.length) (hl : xs.length ≤ 1000000000000000000) (d : Nat) : ∀ j : Nat, j ≤ xs.length → xs.length - j = d → EvV (fun k => laws_eqIntS.l0 k xs ys (j : Int)) (decide (xs.drop j = ys.drop j)) := by
  induction d with
  | zero =>
    intro j hj hd
    refine EvP.succ ?_
    simp only [laws_eqIntS.l0]
    rw [drop_end xs j (by omega), drop_end ys j (by omega)]
    exact EvP.neg (by omega) (EvP.ret (by simp))
  | succ d ih =>
    intro j hj hd
    have hlt : j < xs.length := by omega
    have hlt2 : j < ys.length := by omega
    refine EvP.succ ?_
    simp only [laws_eqIntS.l0, rd_nat xs j hlt, rd_nat ys j hlt2, w64_succ hlt hl]
    refine EvP.pos (by omega) (EvP.pos (by omega) (EvP.pos (by omega) ?_))
    rw [drop_cons xs j hlt, drop_cons ys j hlt2]
    refine EvP.ite (fun h => ?_) (fun h => EvP.ret ?_)
    · exact (ih (j + 1) (by omega) (by omega)).to (dec_cons_t h)
    · exact dec_cons_f h
theorem eqIntS_ev (xs ys : List Int) (hl : xs.length ≤ 1000000000000000000) : EvV (fun k => laws_eqIntS.f k xs ys) (decide (xs = ys)) := by
  unfold laws_eqIntS.f
  refine EvP.ite (fun h => ?_) (fun h => EvP.ret ?_)
  · exact eqIntS_l0 xs ys (by omega) hl xs.length 0 (by omega) (by omega)
  · have : ¬ xs = ys := by rintro rfl; exact h rfl
    simp [this]

theorem toIntS_ev (xs : List Int) (hl : xs.length ≤ 1000000000000) : EvV (fun k => laws_toIntS.f k xs) xs := by
  have key : ∀ (d j : Nat) (ys : List Int), j + d = xs.length → ys.length = xs.length → ys.take j = xs.take j → EvV (fun k => laws_toIntS.l0 k xs ys (j : Int)) xs := by
    intro d
    induction d with
    | zero =>
      intro j ys hj hy ht
      refine EvP.succ ?_
      simp only [laws_toIntS.l0]
      refine EvP.neg (by omega) (EvP.ret ?_)
      rw [List.take_of_length_le (by omega), List.take_of_length_le (by omega)] at ht
      exact ht.symm
    | succ d ih =>
      intro j ys hj hy ht
      have hlt : j < xs.length := by omega
      refine EvP.succ ?_
      simp only [laws_toIntS.l0, rd_nat xs j hlt, w64_succ hlt (by omega : xs.length ≤ 1000000000000000000)]
      refine EvP.pos (by omega) (EvP.pos (by omega) (EvP.pos (by omega) ?_))
      have e : ((j : Int)).toNat = j := by omega
      rw [e]
      refine ih (j + 1) _ (by omega) (by simpa using hy) ?_
      rw [List.take_add_one, List.take_add_one, List.take_set_of_le (Nat.le_refl _), ht]
      simp [hlt, hy]
  unfold laws_toIntS.f
  refine EvP.pos (by omega) (EvP.pos (by omega) ?_)
  exact key xs.length 0 _ (by omega) (by simp) (by simp)

theorem within_eq (a b c : Int) : impl_within.f a b c = some (decide (b ≤ a ∧ a ≤ c)) := by
  unfold impl_within.f
  by_cases h : a ≥ b
  · rw [if_pos h]; congr 1; simp only [decide_eq_decide]; omega
  · rw [if_neg h]; congr 1; symm; simp only [decide_eq_false_iff_not]; omega

theorem baseValid_eq (o t : Int) : impl_baseValid.f o t = some (baseO o t) := by
  unfold impl_baseValid.f baseO
  simp only [within_eq, Option.bind_some]
  by_cases h : 0 ≤ o ∧ o ≤ 99999
  · rw [if_pos (by simpa using h)]; simp [h]
  · rw [if_neg (by simpa using h)]; simp [h]

theorem partValid_ev (has : Bool) (xs : List Int) (hl : xs.length ≤ 1000000000000000000) : EvV (fun k => impl_partValid.f k has xs) (partOk has xs) := by
  unfold impl_partValid.f partOk
  refine EvP.ite (fun h => ?_) (fun h => EvP.ret ?_)
  · rw [if_pos h]
    refine EvP.ite (fun g => EvV.bind (allBytes_ev xs hl) (EvP.ret ?_)) (fun g => EvP.ret ?_)
    · simp [g]
    · simp [g]
  · rw [if_neg h, Bool.eq_iff_iff]
    simp only [decide_eq_true_eq, beq_iff_eq]

theorem iRecordValid_ev (o t : Int) (hk : Bool) (ks : List Int) (hv : Bool) (vs : List Int) (h1 : ks.length ≤ 1000000000000000000) (h2 : vs.length ≤ 1000000000000000000) : EvV (fun k => impl_RecordValid.f k o t hk ks hv vs) (recOk o t hk ks hv vs) := by
  unfold impl_RecordValid.f recOk
  simp only [baseValid_eq, baseO, Option.bind_some]
  refine EvP.ite (fun a => ?_) (fun a => EvP.ret ?_)
  · have a' := a
    simp only [Bool.and_eq_true, decide_eq_true_eq] at a'
    refine EvV.bind (partValid_ev hk ks h1) (EvP.ite (fun b => EvV.bind (partValid_ev hv vs h2) (EvP.ret ?_)) (fun b => EvP.ret ?_))
    · simp [a', b]
    · simp [a', b]
  · revert a
    cases decide (0 ≤ o ∧ o ≤ 99999) <;> cases decide (0 ≤ t ∧ t ≤ 99999) <;> simp

theorem l3Part_ev (has : Bool) (xs : List Int) (hl : xs.length ≤ 1000000000000000000) : EvV (fun k => spec_l3Part.f k has xs) (partOk has xs) := by
  unfold spec_l3Part.f partOk
  refine EvP.ite (fun h => ?_) (fun h => ?_)
  · rw [if_pos h]
    refine EvV.bind (l1Ok_ev xs hl) (EvP.ite (fun g => EvP.ret ?_) (fun g => EvP.ret ?_))
    · simp [g]
    · simp [g]
  · rw [if_neg h]
    refine EvP.ite (fun c => EvV.bind (l1Ok_ev xs hl) (EvP.ite (fun g => EvP.ret ?_) (fun g => EvP.ret ?_))) (fun c => EvP.ret ?_)
    · have : xs = [] := List.eq_nil_of_length_eq_zero (by omega)
      subst this; rfl
    · have : xs = [] := List.eq_nil_of_length_eq_zero (by omega)
      subst this; exact absurd rfl g
    · rw [decide_eq_false c]

theorem sRecordValid_ev (o t : Int) (hk : Bool) (ks : List Int) (hv : Bool) (vs : List Int) (h1 : ks.length ≤ 1000000000000000000) (h2 : vs.length ≤ 1000000000000000000) : EvV (fun k => spec_RecordValid.f k o t hk ks hv vs) (recOk o t hk ks hv vs) := by
  unfold spec_RecordValid.f recOk
  simp only [l6In_eq, Option.bind_some]
  refine EvP.ite (fun a => ?_) (fun a => EvP.ret (by simp [a]))
  refine EvP.ite (fun c => ?_) (fun c => EvP.ret (by simp [a, c]))
  refine EvV.bind (l3Part_ev hk ks h1) (EvP.ite (fun b => EvV.bind (l3Part_ev hv vs h2) (EvP.ret ?_)) (fun b => EvP.ret ?_))
  · rw [a, c, b]; rfl
  · have b' : partOk hk ks = false := by simpa using b
    rw [a, c, b']; rfl

theorem szIntS_eq (l : List Int) (a : Int) (ha0 : 0 ≤ a) (ha1 : a ≤ 1048576) (hl : l.length ≤ maxLen) : laws_szIntS.f l a = some (if a - (l.length : Int) < 0 then -1 else a - (l.length : Int)) := by
  unfold maxLen at hl
  unfold laws_szIntS.f
  rw [w64 (x := a - (l.length : Int)) (by omega) (by omega)]
  split <;> rfl

theorem szRecord_eq (o t : Int) (hk : Bool) (ks : List Int) (hv : Bool) (vs : List Int) (a : Int) (ha0 : 0 ≤ a) (ha1 : a ≤ 1048576) (h1 : ks.length ≤ maxLen) (h2 : vs.length ≤ maxLen) :
    ∃ v, laws_szRecord.f o t hk ks hv vs a = some v ∧ (v < 0 ∨ (0 ≤ v ∧ v ≤ a ∧ (ks.length : Int) + vs.length ≤ 1048576)) := by
  unfold laws_szRecord.f
  rw [szIntS_eq ks a ha0 ha1 h1]
  simp only [Option.bind_some]
  by_cases c : a - (ks.length : Int) < 0
  · rw [if_pos c]; exact ⟨-1, rfl, .inl (by decide)⟩
  · rw [if_neg c, if_neg c, szIntS_eq vs _ (by omega) (by omega) h2]
    simp only [Option.bind_some]
    by_cases d : a - (ks.length : Int) - (vs.length : Int) < 0
    · rw [if_pos d]; exact ⟨-1, rfl, .inl (by decide)⟩
    · rw [if_neg d, if_neg d]; exact ⟨_, rfl, .inr ⟨by omega, by omega, by omega⟩⟩

theorem toRecord_ev (o t : Int) (hk : Bool) (ks : List Int) (hv : Bool) (vs : List Int) (h1 : ks.length ≤ 1000000000000) (h2 : vs.length ≤ 1000000000000) : EvV (fun k => laws_toRecord.f k o t hk ks hv vs) (o, t, hk, ks, hv, vs) := by
  unfold laws_toRecord.f
  exact EvV.bind (toIntS_ev ks h1) (EvV.bind (toIntS_ev vs h2) (EvP.ret rfl))

theorem eqRecord_same (o t : Int) (hk : Bool) (ks : List Int) (hv : Bool) (vs : List Int) (h1 : ks.length ≤ 1000000000000) (h2 : vs.length ≤ 1000000000000) : EvV (fun k => laws_eqRecord.f k o t hk ks hv vs o t hk ks hv vs) true := by
  unfold laws_eqRecord.f
  exact EvP.pos rfl (EvP.pos rfl (EvP.neg (by simp) (EvV.bind ((eqIntS_ev ks ks (by omega)).to (w := true) (by simp)) (EvP.pos rfl (EvP.neg (by simp) (EvV.bind ((eqIntS_ev vs vs (by omega)).to (w := true) (by simp)) (EvP.pos rfl (EvP.ret rfl))))))))

def toM (x : S36) : RecM := ⟨x.f0, x.f1, x.f2, x.f3, x.f4, x.f5⟩
def SmallR (L : List S36) : Prop := ∀ x ∈ L, x.f3.length ≤ 1000000000000 ∧ x.f5.length ≤ 1000000000000
def prevO (L : List S36) (j : Nat) : Option Int := if j = 0 then none else some (rd_T36 L ((j : Int) - 1)).f0
theorem rdT_nat (L : List S36) (j : Nat) (h : j < L.length) : rd_T36 L (j : Int) = L[j] := by
  unfold rd_T36; simp [List.getD_eq_getElem?_getD, h]
theorem l5Records_l0 (L : List S36) (hs : SmallR L) (hl : L.length ≤ 1000000000000) (d : Nat) : ∀ j : Nat, j ≤ L.length → L.length - j = d → EvV (fun k => spec_l5Records.l0 k L (j : Int)) (ascF (prevO L j) ((L.drop j).map toM) && decide (1 ≤ (L.length : Int) ∧ (L.length : Int) ≤ 6)) := by
  induction d with
  | zero =>
    intro j hj hd
    refine EvP.succ ?_
    simp only [spec_l5Records.l0, l6In_eq, Option.bind_some]
    rw [drop_end L j (by omega)]
    exact EvP.neg (by omega) (EvP.ret (by simp [ascF]))
  | succ d ih =>
    intro j hj hd
    have hlt : j < L.length := by omega
    have hx := hs L[j] (List.getElem_mem hlt)
    have e : rd_T36 L (j : Int) = L[j] := rdT_nat L j hlt
    refine EvP.succ ?_
    simp only [spec_l5Records.l0, e, w64_succ hlt (by omega : L.length ≤ 1000000000000000000)]
    rw [List.drop_eq_getElem_cons hlt, List.map_cons]
    refine EvP.pos (by omega) (EvP.pos (by omega) (EvV.bind (sRecordValid_ev _ _ _ _ _ _ (by omega) (by omega)) ?_))
    have hp : prevO L (j + 1) = some (toM L[j]).o := by
      unfold prevO
      rw [if_neg (by omega)]
      have : ((j + 1 : Nat) : Int) - 1 = (j : Int) := by omega
      rw [this, e]; rfl
    have next := ih (j + 1) (by omega) (by omega)
    rw [hp] at next
    refine EvP.ite (fun ok => ?_) (fun ok => EvP.ret ?_)
    · have ok' : (toM L[j]).ok = true := ok
      refine EvP.ite (fun hpos => ?_) (fun hpos => ?_)
      · have wj : wrap64 ((j : Int) - 1) = (j : Int) - 1 := w64 (by omega) (by omega)
        rw [wj]
        have hq : prevO L j = some (rd_T36 L ((j : Int) - 1)).f0 := by unfold prevO; rw [if_neg (by omega)]
        rw [hq]
        refine EvP.pos (by omega) (EvP.pos (by omega) (EvP.ite (fun g => EvP.ret ?_) (fun g => ?_)))
        · have : ¬ (rd_T36 L ((j : Int) - 1)).f0 < (toM L[j]).o := by show ¬ (_ < L[j].f0); omega
          simp [ascF, this]
        · have : (rd_T36 L ((j : Int) - 1)).f0 < (toM L[j]).o := by show _ < L[j].f0; omega
          exact next.to (by simp [ascF, ok', this])
      · have hq : prevO L j = none := by unfold prevO; rw [if_pos (by omega)]
        rw [hq]
        exact next.to (by simp [ascF, ok'])
    · have ok' : (toM L[j]).ok = false := Bool.eq_false_iff.mpr ok
      simp [ascF, ok']
theorem l5Records_ev (L : List S36) (hs : SmallR L) (hl : L.length ≤ 1000000000000) : EvV (fun k => spec_l5Records.f k L) (ascF none (L.map toM) && decide (1 ≤ (L.length : Int) ∧ (L.length : Int) ≤ 6)) := by
  unfold spec_l5Records.f
  exact l5Records_l0 L hs hl L.length 0 (by omega) (by omega)

theorem sBatchValid_ev (pk mark : Bool) (prod ep seq : Int) (L : List S36) (hs : SmallR L) (hl : L.length ≤ 1000000000000) : EvV (fun k => spec_BatchValid.f k pk mark prod ep seq L) (batOk mark prod ep seq (L.map toM)) := by
  have no : batOk mark prod ep seq (L.map toM) = false → EvV (fun k => spec_BatchValid.j0 k true pk mark prod ep seq L) (batOk mark prod ep seq (L.map toM)) := by
    intro h
    rw [h]
    refine EvP.succ ?_
    simp only [spec_BatchValid.j0]
    exact EvP.pos (by simp) (EvP.ret rfl)
  unfold spec_BatchValid.f
  refine EvV.bind (l5Records_ev L hs hl) ?_
  simp only [l6In_eq, Option.bind_some]
  have hlen : (L.map toM).length = L.length := by simp
  refine EvP.ite (fun a => ?_) (fun a => no ?_)
  · simp only [Bool.and_eq_true] at a
    refine EvP.ite (fun b => ?_) (fun b => no ?_)
    · refine EvP.ite (fun c => ?_) (fun c => no ?_)
      · by_cases e : decide (0 ≤ seq ∧ seq ≤ 9999) = true
        · rw [e]
          refine EvP.succ ?_
          simp only [spec_BatchValid.j0]
          have key : batOk mark prod ep seq (L.map toM) = ((if prod = 255 then decide (ep = 0) && (decide (seq = 0) && !mark) else true) && (!mark || decide ((L.length : Int) = 1))) := by
            unfold batOk manyOk
            rw [hlen, ← headOk_same, b, c, e, a.1, a.2]
            simp
          rw [key]
          refine EvP.neg (by decide) (EvP.ite (fun f => ?_) (fun f => ?_))
          · rw [if_pos f]
            refine EvP.ite (fun g => EvP.ite (fun h => EvP.ret ?_) (fun h => EvP.ret ?_)) (fun g => EvP.ret ?_)
            · cases mark <;> simp [g, h]
            · simp [h]
            · simp [g]
          · rw [if_neg f]
            refine EvP.ite (fun g => EvP.ret ?_) (fun g => EvP.ret ?_)
            · rw [g, Bool.eq_iff_iff]; simp
            · simp [g]
        · have e' : decide (0 ≤ seq ∧ seq ≤ 9999) = false := by simpa using e
          rw [e']
          refine no ?_
          unfold batOk; rw [← headOk_same, e']; simp
      · have c' : decide (0 ≤ ep ∧ ep ≤ 99) = false := by simpa using c
        unfold batOk; rw [← headOk_same, c']; simp
    · have b' : decide (0 ≤ prod ∧ prod ≤ 255) = false := by simpa using b
      unfold batOk; rw [← headOk_same, b']; simp
  · unfold batOk manyOk
    rw [hlen]
    revert a
    cases ascF none (L.map toM) <;> cases decide (1 ≤ (L.length : Int) ∧ (L.length : Int) ≤ 6) <;> simp

theorem idValid_eq (a : Int) : impl_idValid.f a = some (decide (0 ≤ a ∧ a ≤ 254)) := by
  unfold impl_idValid.f; rw [within_eq]; rfl

theorem ibv_l0 (L : List S36) (pk mark : Bool) (prod ep seq : Int) (hs : SmallR L) (hl : L.length ≤ 1000000000000) (d : Nat) : ∀ j : Nat, j ≤ L.length → L.length - j = d → EvV (fun k => impl_BatchValid.l0 k L (L.length : Int) (j : Int) pk mark prod ep seq L) (ascF (prevO L j) ((L.drop j).map toM)) := by
  induction d with
  | zero =>
    intro j hj hd
    refine EvP.succ ?_
    simp only [impl_BatchValid.l0]
    rw [drop_end L j (by omega)]
    exact EvP.neg (by omega) (EvP.ret (by simp [ascF]))
  | succ d ih =>
    intro j hj hd
    have hlt : j < L.length := by omega
    have hx := hs L[j] (List.getElem_mem hlt)
    have e : rd_T36 L (j : Int) = L[j] := rdT_nat L j hlt
    refine EvP.succ ?_
    simp only [impl_BatchValid.l0, e, w64_succ hlt (by omega : L.length ≤ 1000000000000000000)]
    rw [List.drop_eq_getElem_cons hlt, List.map_cons]
    refine EvP.pos (by omega) (EvP.pos (by omega) (EvP.pos (by omega) (EvV.bind (iRecordValid_ev _ _ _ _ _ _ (by omega) (by omega)) ?_)))
    have hp : prevO L (j + 1) = some (toM L[j]).o := by
      unfold prevO
      rw [if_neg (by omega)]
      have : ((j + 1 : Nat) : Int) - 1 = (j : Int) := by omega
      rw [this, e]; rfl
    have next := ih (j + 1) (by omega) (by omega)
    rw [hp] at next
    refine EvP.ite (fun ok => ?_) (fun ok => EvP.ret ?_)
    · have ok' : (toM L[j]).ok = true := ok
      refine EvP.ite (fun hpos => ?_) (fun hpos => ?_)
      · have wj : wrap64 ((j : Int) - 1) = (j : Int) - 1 := w64 (by omega) (by omega)
        rw [wj]
        have hq : prevO L j = some (rd_T36 L ((j : Int) - 1)).f0 := by unfold prevO; rw [if_neg (by omega)]
        rw [hq]
        refine EvP.pos (by omega) (EvP.pos (by omega) (EvP.ite (fun g => EvP.ret ?_) (fun g => ?_)))
        · have : ¬ (rd_T36 L ((j : Int) - 1)).f0 < (toM L[j]).o := by show ¬ (_ < L[j].f0); omega
          simp [ascF, this]
        · have : (rd_T36 L ((j : Int) - 1)).f0 < (toM L[j]).o := by show _ < L[j].f0; omega
          exact next.to (by simp [ascF, ok', this])
      · have hq : prevO L j = none := by unfold prevO; rw [if_pos (by omega)]
        rw [hq]
        exact next.to (by simp [ascF, ok'])
    · have ok' : (toM L[j]).ok = false := Bool.eq_false_iff.mpr ok
      simp [ascF, ok']
theorem iBatchValid_ev (pk mark : Bool) (prod ep seq : Int) (L : List S36) (hs : SmallR L) (hl : L.length ≤ 1000000000000) : EvV (fun k => impl_BatchValid.f k pk mark prod ep seq L) (batOk mark prod ep seq (L.map toM)) := by
  have hlen : (L.map toM).length = L.length := by simp
  have j1 : ∀ b : Bool, EvV (fun k => impl_BatchValid.j1 k b pk mark prod ep seq L) (!b && ascF none (L.map toM)) := by
    intro b
    refine EvP.succ ?_
    simp only [impl_BatchValid.j1]
    refine EvP.ite (fun h => EvP.ret (by simp [h])) (fun h => ?_)
    have hb : b = false := by simpa using h
    rw [hb]
    exact ibv_l0 L pk mark prod ep seq hs hl L.length 0 (by omega) (by omega)
  have j0 : headOk mark prod ep seq = true → EvV (fun k => impl_BatchValid.j0 k pk mark prod ep seq L) (batOk mark prod ep seq (L.map toM)) := by
    intro hh
    have key : batOk mark prod ep seq (L.map toM) = (decide (1 ≤ (L.length : Int) ∧ (L.length : Int) ≤ 6) && ((!mark || decide ((L.length : Int) = 1)) && ascF none (L.map toM))) := by
      unfold batOk manyOk
      rw [hlen, hh]; simp [Bool.and_assoc]
    rw [key]
    refine EvP.succ ?_
    simp only [impl_BatchValid.j0, within_eq, Option.bind_some]
    refine EvP.ite (fun a => EvP.ite (fun m => ?_) (fun m => ?_)) (fun a => ?_)
    · subst m
      rw [a]
      refine (j1 _).to ?_
      have : (!((L.length : Int) != 1)) = decide ((L.length : Int) = 1) := by rw [Bool.eq_iff_iff]; simp
      rw [this]; simp
    · have m' : mark = false := by simpa using m
      subst m'
      rw [a]
      exact (j1 false).to (by simp)
    · have a' : decide (1 ≤ (L.length : Int) ∧ (L.length : Int) ≤ 6) = false := by simpa using a
      rw [a']
      exact (j1 true).to (by simp)
  have no : headOk mark prod ep seq = false → batOk mark prod ep seq (L.map toM) = false := fun h => by unfold batOk; rw [h]; rfl
  unfold impl_BatchValid.f
  simp only [idValid_eq, within_eq, Option.bind_some]
  refine EvP.ite (fun a => ?_) (fun a => ?_)
  · have hd : headOk mark prod ep seq = (decide (ep = 0) && (decide (seq = 0) && !mark)) := by unfold headOk; rw [if_pos a]
    refine EvP.ite (fun b => EvP.ite (fun c => EvP.ite (fun m => EvP.ret ?_) (fun m => j0 ?_)) (fun c => EvP.ret ?_)) (fun b => EvP.ret ?_)
    · rw [no (by rw [hd, m]; simp)]
    · rw [hd]; simp [b, c, m]
    · rw [no (by rw [hd]; simp [c])]
    · rw [no (by rw [hd]; simp [b])]
  · have hd : headOk mark prod ep seq = (decide (0 ≤ prod ∧ prod ≤ 254) && (decide (0 ≤ ep ∧ ep ≤ 99) && decide (0 ≤ seq ∧ seq ≤ 9999))) := by unfold headOk; rw [if_neg a]
    refine EvP.ite (fun b => EvP.ite (fun c => EvP.ite (fun e => j0 ?_) (fun e => EvP.ret ?_)) (fun c => EvP.ret ?_)) (fun b => EvP.ret ?_)
    · rw [hd, b, c, e]; rfl
    · have e' : decide (0 ≤ seq ∧ seq ≤ 9999) = false := by simpa using e
      rw [no (by rw [hd, e']; simp)]
    · have c' : decide (0 ≤ ep ∧ ep ≤ 99) = false := by simpa using c
      rw [no (by rw [hd, c']; simp)]
    · have b' : decide (0 ≤ prod ∧ prod ≤ 254) = false := by simpa using b
      rw [no (by rw [hd, b']; simp)]

def spanOf (L : List S36) : Int × Int := ((rd_T36 L 0).f0, (rd_T36 L ((L.length : Int) - 1)).f0)
theorem sBatchSpan_ev (pk mark : Bool) (prod ep seq : Int) (L : List S36) (hs : SmallR L) (hl : L.length ≤ 1000000000000) : EvV (fun k => spec_BatchSpan.f k pk mark prod ep seq L) (if batOk mark prod ep seq (L.map toM) = true then ((spanOf L).1, (spanOf L).2, true) else (0, 0, false)) := by
  unfold spec_BatchSpan.f
  rw [w64 (x := (L.length : Int) - 1) (by omega) (by omega)]
  refine EvV.bind (sBatchValid_ev pk mark prod ep seq L hs hl) (EvP.ite (fun h => ?_) (fun h => EvP.ret (by rw [if_neg h])))
  have hm := (batOk_iff.1 h).2.1
  have hn : 1 ≤ L.length := by
    unfold manyOk at hm
    simp only [Bool.and_eq_true, decide_eq_true_eq, List.length_map] at hm
    omega
  rw [if_pos h]
  exact EvP.pos (by omega) (EvP.pos (by omega) (EvP.pos (by omega) (EvP.ret rfl)))

theorem first_eq (pk mark : Bool) (prod ep seq : Int) (L : List S36) (h : 0 < L.length) : impl_Batch_first.f pk mark prod ep seq L = some (spanOf L).1 := by
  unfold impl_Batch_first.f; rw [if_pos (by omega)]; rfl

theorem last_eq (pk mark : Bool) (prod ep seq : Int) (L : List S36) (h : 0 < L.length) (hl : L.length ≤ 1000000000000) : impl_Batch_last.f pk mark prod ep seq L = some (spanOf L).2 := by
  unfold impl_Batch_last.f; rw [w64 (x := (L.length : Int) - 1) (by omega) (by omega), if_pos (by omega), if_pos (by omega)]; rfl

theorem iBatchSpan_ev (pk mark : Bool) (prod ep seq : Int) (L : List S36) (hs : SmallR L) (hl : L.length ≤ 1000000000000) : EvV (fun k => impl_BatchSpan.f k pk mark prod ep seq L) (if batOk mark prod ep seq (L.map toM) = true then ((spanOf L).1, (spanOf L).2, true) else (0, 0, false)) := by
  unfold impl_BatchSpan.f
  refine EvV.bind (iBatchValid_ev pk mark prod ep seq L hs hl) (EvP.ite (fun h => ?_) (fun h => EvP.ret (by rw [if_neg h])))
  have hm := (batOk_iff.1 h).2.1
  have hn : 1 ≤ L.length := by
    unfold manyOk at hm
    simp only [Bool.and_eq_true, decide_eq_true_eq, List.length_map] at hm
    omega
  rw [if_pos h, first_eq pk mark prod ep seq L (by omega), last_eq pk mark prod ep seq L (by omega) hl]
  simp only [Option.bind_some]
  exact EvP.ret rfl

theorem szRecordS_ev (L : List S33) (a : Int) (ha0 : 0 ≤ a) (ha1 : a ≤ 1048576) (hl : L.length ≤ maxLen) (hm : ∀ x ∈ L, x.f3.length ≤ maxLen ∧ x.f5.length ≤ maxLen) :
    EvP (fun k => laws_szRecordS.f k L a) (fun v => v < 0 ∨ (0 ≤ v ∧ v ≤ a ∧ L.length ≤ 1048576 ∧ ∀ x ∈ L, x.f3.length ≤ 1048576 ∧ x.f5.length ≤ 1048576)) := by
  have hl' := hl
  unfold maxLen at hl'
  unfold laws_szRecordS.f
  rw [w64 (x := a - (L.length : Int)) (by omega) (by omega)]
  refine EvP.ite (fun _ => EvP.ret (.inl (by decide))) (fun h => ?_)
  have key : ∀ (d j : Nat) (s : Int), j + d = L.length → 0 ≤ s → s ≤ a → (∀ i (h : i < L.length), i < j → L[i].f3.length ≤ 1048576 ∧ L[i].f5.length ≤ 1048576) →
      EvP (fun k => laws_szRecordS.l0 k L s (j : Int)) (fun v => v < 0 ∨ (0 ≤ v ∧ v ≤ a ∧ L.length ≤ 1048576 ∧ ∀ x ∈ L, x.f3.length ≤ 1048576 ∧ x.f5.length ≤ 1048576)) := by
    intro d
    induction d with
    | zero =>
      intro j s hj h0 h1 hi
      refine EvP.succ ?_
      simp only [laws_szRecordS.l0]
      refine EvP.neg (by omega) (EvP.ret (.inr ⟨h0, h1, by omega, ?_⟩))
      intro x hx
      obtain ⟨i, hil, rfl⟩ := List.getElem_of_mem hx
      exact hi i hil (by omega)
    | succ d ih =>
      intro j s hj h0 h1 hi
      have hlt : j < L.length := by omega
      have e : rd_T33 L (j : Int) = L[j] := by unfold rd_T33; simp [List.getD_eq_getElem?_getD, hlt]
      have hx := hm L[j] (List.getElem_mem hlt)
      obtain ⟨v, hv, hc⟩ := szRecord_eq L[j].f0 L[j].f1 L[j].f2 L[j].f3 L[j].f4 L[j].f5 s h0 (by omega) hx.1 hx.2
      refine EvP.succ ?_
      simp only [laws_szRecordS.l0, e, hv, Option.bind_some, w64_succ hlt (by omega : L.length ≤ 1000000000000000000)]
      refine EvP.pos (by omega) (EvP.pos (by omega) (EvP.ite (fun _ => EvP.ret (.inl (by decide))) (fun g => ?_)))
      rcases hc with hc | ⟨c0, c1, c2⟩
      · exact absurd hc g
      · refine ih (j + 1) v (by omega) c0 (by omega) ?_
        intro i hil hij
        by_cases hc : i = j
        · subst hc; omega
        · exact hi i hil (by omega)
  refine (key L.length 0 _ (by omega) (by omega) (by omega) (by intro i _ h; omega))

theorem szBatch_ev (pk mark : Bool) (prod ep seq : Int) (L : List S33) (hl : L.length ≤ maxLen) (hm : ∀ x ∈ L, x.f3.length ≤ maxLen ∧ x.f5.length ≤ maxLen) :
    EvP (fun k => laws_szBatch.f k pk mark prod ep seq L 1048576) (fun v => v < 0 ∨ (L.length ≤ 1048576 ∧ ∀ x ∈ L, x.f3.length ≤ 1048576 ∧ x.f5.length ≤ 1048576)) := by
  unfold laws_szBatch.f
  refine EvP.bind (szRecordS_ev L 1048576 (by decide) (by decide) hl hm) ?_
  intro v hv
  refine EvP.ite (fun _ => EvP.ret (.inl (by decide))) (fun g => EvP.ret ?_)
  rcases hv with hv | hv
  · exact .inl hv
  · exact .inr hv.2.2

def cvt (x : S33) : S36 := ⟨x.f0, x.f1, x.f2, x.f3, x.f4, x.f5⟩
theorem toRecordS_ev (L : List S33) (hl : L.length ≤ 1048576) (hm : ∀ x ∈ L, x.f3.length ≤ 1048576 ∧ x.f5.length ≤ 1048576) : EvV (fun k => laws_toRecordS.f k L) (L.map cvt) := by
  have key : ∀ (d j : Nat) (ys : List S36), j + d = L.length → ys.length = L.length → ys.take j = (L.map cvt).take j → EvV (fun k => laws_toRecordS.l0 k L ys (j : Int)) (L.map cvt) := by
    intro d
    induction d with
    | zero =>
      intro j ys hj hy ht
      refine EvP.succ ?_
      simp only [laws_toRecordS.l0]
      refine EvP.neg (by omega) (EvP.ret ?_)
      rw [List.take_of_length_le (by omega), List.take_of_length_le (by simp; omega)] at ht
      exact ht.symm
    | succ d ih =>
      intro j ys hj hy ht
      have hlt : j < L.length := by omega
      have e : rd_T33 L (j : Int) = L[j] := by unfold rd_T33; simp [List.getD_eq_getElem?_getD, hlt]
      have hx := hm L[j] (List.getElem_mem hlt)
      refine EvP.succ ?_
      simp only [laws_toRecordS.l0, e, w64_succ hlt (by omega : L.length ≤ 1000000000000000000)]
      refine EvP.pos (by omega) (EvP.pos (by omega) (EvV.bind (toRecord_ev _ _ _ _ _ _ (by omega) (by omega)) (EvP.pos (by omega) ?_)))
      have ej : ((j : Int)).toNat = j := by omega
      rw [ej]
      refine ih (j + 1) _ (by omega) (by simpa using hy) ?_
      rw [List.take_add_one, List.take_add_one, List.take_set_of_le (Nat.le_refl _), ht]
      simp [hlt, hy, cvt]
  unfold laws_toRecordS.f
  refine EvP.pos (by omega) (EvP.pos (by omega) ?_)
  exact key L.length 0 _ (by omega) (by simp) (by simp)

theorem toBatch_ev (pk mark : Bool) (prod ep seq : Int) (L : List S33) (hl : L.length ≤ 1048576) (hm : ∀ x ∈ L, x.f3.length ≤ 1048576 ∧ x.f5.length ≤ 1048576) : EvV (fun k => laws_toBatch.f k pk mark prod ep seq L) (pk, mark, prod, ep, seq, L.map cvt) := by
  unfold laws_toBatch.f
  exact EvV.bind (toRecordS_ev L hl hm) (EvP.ret rfl)

theorem eqRecordS_same (L : List S36) (hs : SmallR L) (hl : L.length ≤ 1000000000000) : EvV (fun k => laws_eqRecordS.f k L L) true := by
  have key : ∀ (d j : Nat), j + d = L.length → EvV (fun k => laws_eqRecordS.l0 k L L (j : Int)) true := by
    intro d
    induction d with
    | zero =>
      intro j hj
      refine EvP.succ ?_
      simp only [laws_eqRecordS.l0]
      exact EvP.neg (by omega) (EvP.ret rfl)
    | succ d ih =>
      intro j hj
      have hlt : j < L.length := by omega
      have e : rd_T36 L (j : Int) = L[j] := by unfold rd_T36; simp [List.getD_eq_getElem?_getD, hlt]
      have hx := hs L[j] (List.getElem_mem hlt)
      refine EvP.succ ?_
      simp only [laws_eqRecordS.l0, e, w64_succ hlt (by omega : L.length ≤ 1000000000000000000)]
      exact EvP.pos (by omega) (EvP.pos (by omega) (EvP.pos (by omega) (EvV.bind (eqRecord_same _ _ _ _ _ _ hx.1 hx.2) (EvP.pos rfl (ih (j + 1) (by omega))))))
  unfold laws_eqRecordS.f
  exact EvP.pos rfl (key L.length 0 (by omega))

theorem eqBatch_same (pk mark : Bool) (prod ep seq : Int) (L : List S36) (hs : SmallR L) (hl : L.length ≤ 1000000000000) : EvV (fun k => laws_eqBatch.f k pk mark prod ep seq L pk mark prod ep seq L) true := by
  unfold laws_eqBatch.f
  exact EvP.neg (by simp) (EvP.neg (by simp) (EvP.pos rfl (EvP.pos rfl (EvP.pos rfl (EvV.bind (eqRecordS_same L hs hl) (EvP.pos rfl (EvP.ret rfl)))))))

theorem FnExactBatchSpan (pk mark : Bool) (prod ep seq : Int) (L : List S33) (hl : L.length ≤ maxLen) (hm : ∀ x ∈ L, x.f3.length ≤ maxLen ∧ x.f5.length ≤ maxLen) : ∃ k, laws_FnExactBatchSpan.f k pk mark prod ep seq L = some true := by
  refine EvP.done ?_
  unfold laws_FnExactBatchSpan.f
  refine EvP.bind (szBatch_ev pk mark prod ep seq L hl hm) ?_
  intro v hv
  refine EvP.ite (fun _ => EvP.ret rfl) (fun g => ?_)
  obtain ⟨hl2, hm2⟩ : L.length ≤ 1048576 ∧ ∀ x ∈ L, x.f3.length ≤ 1048576 ∧ x.f5.length ≤ 1048576 := by
    rcases hv with hv | hv
    · exact absurd hv g
    · exact hv
  have t' := toBatch_ev pk mark prod ep seq L hl2 hm2
  have hs : SmallR (L.map cvt) := by
    intro x hx
    obtain ⟨y, hy, rfl⟩ := List.mem_map.1 hx
    have := hm2 y hy
    exact ⟨by show y.f3.length ≤ _; omega, by show y.f5.length ≤ _; omega⟩
  have hl3 : (L.map cvt).length ≤ 1000000000000 := by simp; omega
  refine EvV.bind t' (EvV.bind (sBatchSpan_ev pk mark prod ep seq _ hs hl3) (EvV.bind t' (EvV.bind (iBatchSpan_ev pk mark prod ep seq _ hs hl3) (EvP.pos rfl (EvP.pos rfl (EvP.succ ?_))))))
  simp only [laws_FnExactBatchSpan.j0]
  exact EvP.neg (by simp) (EvV.bind t' (EvV.bind (eqBatch_same pk mark prod ep seq _ hs hl3) (EvP.pos rfl (EvP.ret rfl))))

end Go.Proofs.Ytfdfbpaibdgidaa.Pure
