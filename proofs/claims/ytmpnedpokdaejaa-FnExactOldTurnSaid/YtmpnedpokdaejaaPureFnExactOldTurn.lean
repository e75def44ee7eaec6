/- For every list of messages up to the size the law lets in, the code's batch is the model's, its rows are its own, and marks on the input's copy or on a batch stay where they were put. -/
import Derived.Test.YtmpnedpokdaejaaQFnExactOldTurnx12
import Derived.Test.YtmpnedpokdaejaaMath
import Derived.Test.YtmpnedpokdaejaaMath2
import Derived.Test.YtmpnedpokdaejaaMath3
import Derived.Test.YtmpnedpokdaejaaMath4
import Derived.Test.YtmpnedpokdaejaaMath5
set_option linter.unusedVariables false
set_option linter.unusedSimpArgs false
namespace Go.Proofs.Ytmpnedpokdaejaa.Pure
open Go.RowKit Go.Proofs.Ytmpnedpokdaejaa.QFnExactOldTurn Go.Proofs.YtmpnedpokdaejaaW.PrintWords Go.Proofs.YtmpnedpokdaejaaW.PrintLast Go.Proofs.YtmpnedpokdaejaaW.PrintMore Go.Proofs.Ytmpnedpokdaejaa.M

theorem l6In_eq (a b c : Int) : spec_l6In.f a b c = some (decide (b ≤ a ∧ a ≤ c)) := by
  unfold spec_l6In.f
  by_cases h : a ≥ b
  · rw [if_pos h]; congr 1; simp only [decide_eq_decide]; omega
  · rw [if_neg h]; congr 1; symm; simp only [decide_eq_false_iff_not]; omega

theorem l1Ok_l0 (xs : List Int) (hl : xs.length ≤ 1000000000000000000) (d : Nat) : ∀ j : Nat, j ≤ xs.length → xs.length - j = d → EvV (fun k => spec_l1Ok.l0 k xs (j : Int)) (allB (xs.drop j)) := by
  induction d with
  | zero =>
    intro j hj hd
    refine EvP.succ ?_
    simp only [spec_l1Ok.l0]
    rw [drop_end xs j (by omega)]
    exact EvP.neg (by omega) (EvP.ret rfl)
  | succ d ih =>
    intro j hj hd
    have hlt : j < xs.length := by omega
    refine EvP.succ ?_
    simp only [spec_l1Ok.l0, l6In_eq, Option.bind_some, rd_nat xs j hlt, w64_succ hlt hl]
    refine EvP.pos (by omega) (EvP.pos (by omega) ?_)
    rw [drop_cons xs j hlt]
    refine EvP.ite (fun h => ?_) (fun h => EvP.ret ?_)
    · have hb : isB xs[j] = true := h
      exact (ih (j + 1) (by omega) (by omega)).to (allB_cons_t hb)
    · have hb : isB xs[j] = false := by simpa [isB] using h
      exact allB_cons_f hb
theorem l1Ok_ev (xs : List Int) (hl : xs.length ≤ 1000000000000000000) : EvV (fun k => spec_l1Ok.f k xs) (allB xs) := by
  unfold spec_l1Ok.f; exact l1Ok_l0 xs hl xs.length 0 (by omega) (by omega)

theorem isByte_eq (x : Int) : impl_isByte.f x = some (isB x) := by
  unfold impl_isByte.f isB
  by_cases h : x ≥ 0
  · rw [if_pos h]; congr 1; simp only [decide_eq_decide]; omega
  · rw [if_neg h]; congr 1; symm; simp only [decide_eq_false_iff_not]; omega

theorem allBytes_l0 (xs : List Int) (hl : xs.length ≤ 1000000000000000000) (d : Nat) : ∀ j : Nat, j ≤ xs.length → xs.length - j = d → EvV (fun k => impl_allBytes.l0 k xs (xs.length : Int) (j : Int)) (allB (xs.drop j)) := by
  induction d with
  | zero =>
    intro j hj hd
    refine EvP.succ ?_
    simp only [impl_allBytes.l0]
    rw [drop_end xs j (by omega)]
    exact EvP.neg (by omega) (EvP.ret rfl)
  | succ d ih =>
    intro j hj hd
    have hlt : j < xs.length := by omega
    refine EvP.succ ?_
    simp only [impl_allBytes.l0, isByte_eq, Option.bind_some, rd_nat xs j hlt, w64_succ hlt hl]
    refine EvP.pos (by omega) (EvP.pos (by omega) (EvP.pos (by omega) ?_))
    rw [drop_cons xs j hlt]
    refine EvP.ite (fun h => ?_) (fun h => EvP.ret ?_)
    · exact (ih (j + 1) (by omega) (by omega)).to (allB_cons_t h)
    · exact allB_cons_f (by simpa using h)
theorem allBytes_ev (xs : List Int) (hl : xs.length ≤ 1000000000000000000) : EvV (fun k => impl_allBytes.f k xs) (allB xs) := by
  unfold impl_allBytes.f; exact allBytes_l0 xs hl xs.length 0 (by omega) (by omega)

theorem eqIntS_l0 (xs ys : List Int) (he : xs.length = ys.length) (hl : xs.length ≤ 1000000000000000000) (d : Nat) : ∀ j : Nat, j ≤ xs.length → xs.length - j = d → EvV (fun k => laws_eqIntS.l0 k xs ys (j : Int)) (decide (xs.drop j = ys.drop j)) := by
  induction d with
  | zero =>
    intro j hj hd
    refine EvP.succ ?_
    simp only [laws_eqIntS.l0]
    rw [drop_end xs j (by omega), drop_end ys j (by omega)]
    exact EvP.neg (by omega) (EvP.ret (by simp))
  | succ d ih =>
    intro j hj hd
    have hlt : j < xs.length := by omega
    have hlt2 : j < ys.length := by omega
    refine EvP.succ ?_
    simp only [laws_eqIntS.l0, rd_nat xs j hlt, rd_nat ys j hlt2, w64_succ hlt hl]
    refine EvP.pos (by omega) (EvP.pos (by omega) (EvP.pos (by omega) ?_))
    rw [drop_cons xs j hlt, drop_cons ys j hlt2]
    refine EvP.ite (fun h => ?_) (fun h => EvP.ret ?_)
    · exact (ih (j + 1) (by omega) (by omega)).to (dec_cons_t h)
    · exact dec_cons_f h
theorem eqIntS_ev (xs ys : List Int) (hl : xs.length ≤ 1000000000000000000) : EvV (fun k => laws_eqIntS.f k xs ys) (decide (xs = ys)) := by
  unfold laws_eqIntS.f
  refine EvP.ite (fun h => ?_) (fun h => EvP.ret ?_)
  · exact eqIntS_l0 xs ys (by omega) hl xs.length 0 (by omega) (by omega)
  · have : ¬ xs = ys := by rintro rfl; exact h rfl
    simp [this]

theorem toIntS_ev (xs : List Int) (hl : xs.length ≤ 1000000000000) : EvV (fun k => laws_toIntS.f k xs) xs := by
  have key : ∀ (d j : Nat) (ys : List Int), j + d = xs.length → ys.length = xs.length → ys.take j = xs.take j → EvV (fun k => laws_toIntS.l0 k xs ys (j : Int)) xs := by
    intro d
    induction d with
    | zero =>
      intro j ys hj hy ht
      refine EvP.succ ?_
      simp only [laws_toIntS.l0]
      refine EvP.neg (by omega) (EvP.ret ?_)
      rw [List.take_of_length_le (by omega), List.take_of_length_le (by omega)] at ht
      exact ht.symm
    | succ d ih =>
      intro j ys hj hy ht
      have hlt : j < xs.length := by omega
      refine EvP.succ ?_
      simp only [laws_toIntS.l0, rd_nat xs j hlt, w64_succ hlt (by omega : xs.length ≤ 1000000000000000000)]
      refine EvP.pos (by omega) (EvP.pos (by omega) (EvP.pos (by omega) ?_))
      have e : ((j : Int)).toNat = j := by omega
      rw [e]
      refine ih (j + 1) _ (by omega) (by simpa using hy) ?_
      rw [List.take_add_one, List.take_add_one, List.take_set_of_le (Nat.le_refl _), ht]
      simp [hlt, hy]
  unfold laws_toIntS.f
  refine EvP.pos (by omega) (EvP.pos (by omega) ?_)
  exact key xs.length 0 _ (by omega) (by simp) (by simp)

theorem markIntS_ev (xs : List Int) (s : Int) (hs0 : 0 ≤ s) (hs1 : s ≤ 1000000000000000) (hl : xs.length ≤ 1000000000000000) :
    EvP (fun k => laws_markIntS.f k xs s) (fun r => r.1 = s + xs.length ∧ r.2.length = xs.length ∧ Marked r.2 s) := by
  have key : ∀ (d j : Nat) (ys : List Int), j + d = xs.length → ys.length = xs.length → (∀ i (h : i < ys.length), i < j → ys[i] = s + i) → EvP (fun k => laws_markIntS.l0 k ys (s + j) (j : Int)) (fun r => r.1 = s + xs.length ∧ r.2.length = xs.length ∧ Marked r.2 s) := by
    intro d
    induction d with
    | zero =>
      intro j ys hj hy ht
      refine EvP.succ ?_
      simp only [laws_markIntS.l0]
      refine EvP.neg (by omega) (EvP.ret ⟨?_, hy, ?_⟩)
      · dsimp only; omega
      · intro i hi; exact ht i hi (by dsimp only at hi; omega)
    | succ d ih =>
      intro j ys hj hy ht
      have hlt : j < ys.length := by omega
      have e : ((j : Int)).toNat = j := by omega
      have e2 : wrap64 (s + (j : Int) + 1) = s + ((j + 1 : Nat) : Int) := by rw [w64 (by omega) (by omega)]; omega
      refine EvP.succ ?_
      simp only [laws_markIntS.l0, w64_succ hlt (by omega : ys.length ≤ 1000000000000000000), e, e2]
      refine EvP.pos (by omega) (EvP.pos (by omega) ?_)
      refine ih (j + 1) _ (by omega) (by simpa using hy) ?_
      intro i hi hij
      rw [List.getElem_set]
      split
      · rename_i h; omega
      · rename_i h; exact ht i (by simpa using hi) (by omega)
  unfold laws_markIntS.f
  have := key xs.length 0 xs (by omega) rfl (by intro i _ h; omega)
  simpa using this

theorem heldIntS_ev (ys : List Int) (s : Int) (hs0 : 0 ≤ s) (hs1 : s ≤ 1000000000000000) (hl : ys.length ≤ 1000000000000000) (hm : Marked ys s) :
    EvV (fun k => laws_heldIntS.f k ys s) (s + ys.length) := by
  have key : ∀ (d j : Nat), j + d = ys.length → EvV (fun k => laws_heldIntS.l0 k ys (s + j) (j : Int)) (s + ys.length) := by
    intro d
    induction d with
    | zero =>
      intro j hj
      refine EvP.succ ?_
      simp only [laws_heldIntS.l0]
      exact EvP.neg (by omega) (EvP.ret (by omega))
    | succ d ih =>
      intro j hj
      have hlt : j < ys.length := by omega
      have e2 : wrap64 (s + (j : Int) + 1) = s + ((j + 1 : Nat) : Int) := by rw [w64 (by omega) (by omega)]; omega
      refine EvP.succ ?_
      simp only [laws_heldIntS.l0, w64_succ hlt (by omega : ys.length ≤ 1000000000000000000), e2, marked_rd hm j hlt]
      refine EvP.pos (by omega) (EvP.pos (by omega) (EvP.pos (by simp) ?_))
      exact ih (j + 1) (by omega)
  unfold laws_heldIntS.f
  have := key ys.length 0 (by omega)
  simpa using this

theorem within_eq (a b c : Int) : impl_within.f a b c = some (decide (b ≤ a ∧ a ≤ c)) := by
  unfold impl_within.f
  by_cases h : a ≥ b
  · rw [if_pos h]; congr 1; simp only [decide_eq_decide]; omega
  · rw [if_neg h]; congr 1; symm; simp only [decide_eq_false_iff_not]; omega

theorem baseValid_eq (o t : Int) : impl_baseValid.f o t = some (baseO o t) := by
  unfold impl_baseValid.f baseO
  simp only [within_eq, Option.bind_some]
  by_cases h : 0 ≤ o ∧ o ≤ 99999
  · rw [if_pos (by simpa using h)]; simp [h]
  · rw [if_neg (by simpa using h)]; simp [h]

theorem partValid_ev (has : Bool) (xs : List Int) (hl : xs.length ≤ 1000000000000000000) : EvV (fun k => impl_partValid.f k has xs) (partOk has xs) := by
  unfold impl_partValid.f partOk
  refine EvP.ite (fun h => ?_) (fun h => EvP.ret ?_)
  · rw [if_pos h]
    refine EvP.ite (fun g => EvV.bind (allBytes_ev xs hl) (EvP.ret ?_)) (fun g => EvP.ret ?_)
    · simp [g]
    · simp [g]
  · rw [if_neg h, Bool.eq_iff_iff]
    simp only [decide_eq_true_eq, beq_iff_eq]

theorem iRecordValid_ev (o t : Int) (hk : Bool) (ks : List Int) (hv : Bool) (vs : List Int) (h1 : ks.length ≤ 1000000000000000000) (h2 : vs.length ≤ 1000000000000000000) : EvV (fun k => impl_RecordValid.f k o t hk ks hv vs) (recOk o t hk ks hv vs) := by
  unfold impl_RecordValid.f recOk
  simp only [baseValid_eq, baseO, Option.bind_some]
  refine EvP.ite (fun a => ?_) (fun a => EvP.ret ?_)
  · have a' := a
    simp only [Bool.and_eq_true, decide_eq_true_eq] at a'
    refine EvV.bind (partValid_ev hk ks h1) (EvP.ite (fun b => EvV.bind (partValid_ev hv vs h2) (EvP.ret ?_)) (fun b => EvP.ret ?_))
    · simp [a', b]
    · simp [a', b]
  · revert a
    cases decide (0 ≤ o ∧ o ≤ 99999) <;> cases decide (0 ≤ t ∧ t ≤ 99999) <;> simp

theorem l3Part_ev (has : Bool) (xs : List Int) (hl : xs.length ≤ 1000000000000000000) : EvV (fun k => spec_l3Part.f k has xs) (partOk has xs) := by
  unfold spec_l3Part.f partOk
  refine EvP.ite (fun h => ?_) (fun h => ?_)
  · rw [if_pos h]
    refine EvV.bind (l1Ok_ev xs hl) (EvP.ite (fun g => EvP.ret ?_) (fun g => EvP.ret ?_))
    · simp [g]
    · simp [g]
  · rw [if_neg h]
    refine EvP.ite (fun c => EvV.bind (l1Ok_ev xs hl) (EvP.ite (fun g => EvP.ret ?_) (fun g => EvP.ret ?_))) (fun c => EvP.ret ?_)
    · have : xs = [] := List.eq_nil_of_length_eq_zero (by omega)
      subst this; rfl
    · have : xs = [] := List.eq_nil_of_length_eq_zero (by omega)
      subst this; exact absurd rfl g
    · rw [decide_eq_false c]

theorem sRecordValid_ev (o t : Int) (hk : Bool) (ks : List Int) (hv : Bool) (vs : List Int) (h1 : ks.length ≤ 1000000000000000000) (h2 : vs.length ≤ 1000000000000000000) : EvV (fun k => spec_RecordValid.f k o t hk ks hv vs) (recOk o t hk ks hv vs) := by
  unfold spec_RecordValid.f recOk
  simp only [l6In_eq, Option.bind_some]
  refine EvP.ite (fun a => ?_) (fun a => EvP.ret (by simp [a]))
  refine EvP.ite (fun c => ?_) (fun c => EvP.ret (by simp [a, c]))
  refine EvV.bind (l3Part_ev hk ks h1) (EvP.ite (fun b => EvV.bind (l3Part_ev hv vs h2) (EvP.ret ?_)) (fun b => EvP.ret ?_))
  · rw [a, c, b]; rfl
  · have b' : partOk hk ks = false := by simpa using b
    rw [a, c, b']; rfl

theorem szIntS_eq (l : List Int) (a : Int) (ha0 : 0 ≤ a) (ha1 : a ≤ 1048576) (hl : l.length ≤ maxLen) : laws_szIntS.f l a = some (if a - (l.length : Int) < 0 then -1 else a - (l.length : Int)) := by
  unfold maxLen at hl
  unfold laws_szIntS.f
  rw [w64 (x := a - (l.length : Int)) (by omega) (by omega)]
  split <;> rfl

theorem eqRecord_same (o t : Int) (hk : Bool) (ks : List Int) (hv : Bool) (vs : List Int) (h1 : ks.length ≤ 1000000000000) (h2 : vs.length ≤ 1000000000000) : EvV (fun k => laws_eqRecord.f k o t hk ks hv vs o t hk ks hv vs) true := by
  unfold laws_eqRecord.f
  exact EvP.pos rfl (EvP.pos rfl (EvP.neg (by simp) (EvV.bind ((eqIntS_ev ks ks (by omega)).to (w := true) (by simp)) (EvP.pos rfl (EvP.neg (by simp) (EvV.bind ((eqIntS_ev vs vs (by omega)).to (w := true) (by simp)) (EvP.pos rfl (EvP.ret rfl))))))))

def toM (x : S57) : RecM := ⟨x.f0, x.f1, x.f2, x.f3, x.f4, x.f5⟩
def SmallR (L : List S57) : Prop := ∀ x ∈ L, x.f3.length ≤ 1000000000000 ∧ x.f5.length ≤ 1000000000000
def prevO (L : List S57) (j : Nat) : Option Int := if j = 0 then none else some (rd_T57 L ((j : Int) - 1)).f0
theorem rdT_nat (L : List S57) (j : Nat) (h : j < L.length) : rd_T57 L (j : Int) = L[j] := by
  unfold rd_T57; simp [List.getD_eq_getElem?_getD, h]
theorem l5Records_l0 (L : List S57) (hs : SmallR L) (hl : L.length ≤ 1000000000000) (d : Nat) : ∀ j : Nat, j ≤ L.length → L.length - j = d → EvV (fun k => spec_l5Records.l0 k L (j : Int)) (ascF (prevO L j) ((L.drop j).map toM) && decide (1 ≤ (L.length : Int) ∧ (L.length : Int) ≤ 6)) := by
  induction d with
  | zero =>
    intro j hj hd
    refine EvP.succ ?_
    simp only [spec_l5Records.l0, l6In_eq, Option.bind_some]
    rw [drop_end L j (by omega)]
    exact EvP.neg (by omega) (EvP.ret (by simp [ascF]))
  | succ d ih =>
    intro j hj hd
    have hlt : j < L.length := by omega
    have hx := hs L[j] (List.getElem_mem hlt)
    have e : rd_T57 L (j : Int) = L[j] := rdT_nat L j hlt
    refine EvP.succ ?_
    simp only [spec_l5Records.l0, e, w64_succ hlt (by omega : L.length ≤ 1000000000000000000)]
    rw [List.drop_eq_getElem_cons hlt, List.map_cons]
    refine EvP.pos (by omega) (EvP.pos (by omega) (EvV.bind (sRecordValid_ev _ _ _ _ _ _ (by omega) (by omega)) ?_))
    have hp : prevO L (j + 1) = some (toM L[j]).o := by
      unfold prevO
      rw [if_neg (by omega)]
      have : ((j + 1 : Nat) : Int) - 1 = (j : Int) := by omega
      rw [this, e]; rfl
    have next := ih (j + 1) (by omega) (by omega)
    rw [hp] at next
    refine EvP.ite (fun ok => ?_) (fun ok => EvP.ret ?_)
    · have ok' : (toM L[j]).ok = true := ok
      refine EvP.ite (fun hpos => ?_) (fun hpos => ?_)
      · have wj : wrap64 ((j : Int) - 1) = (j : Int) - 1 := w64 (by omega) (by omega)
        rw [wj]
        have hq : prevO L j = some (rd_T57 L ((j : Int) - 1)).f0 := by unfold prevO; rw [if_neg (by omega)]
        rw [hq]
        refine EvP.pos (by omega) (EvP.pos (by omega) (EvP.ite (fun g => EvP.ret ?_) (fun g => ?_)))
        · have : ¬ (rd_T57 L ((j : Int) - 1)).f0 < (toM L[j]).o := by show ¬ (_ < L[j].f0); omega
          simp [ascF, this]
        · have : (rd_T57 L ((j : Int) - 1)).f0 < (toM L[j]).o := by show _ < L[j].f0; omega
          exact next.to (by simp [ascF, ok', this])
      · have hq : prevO L j = none := by unfold prevO; rw [if_pos (by omega)]
        rw [hq]
        exact next.to (by simp [ascF, ok'])
    · have ok' : (toM L[j]).ok = false := Bool.eq_false_iff.mpr ok
      simp [ascF, ok']
theorem l5Records_ev (L : List S57) (hs : SmallR L) (hl : L.length ≤ 1000000000000) : EvV (fun k => spec_l5Records.f k L) (ascF none (L.map toM) && decide (1 ≤ (L.length : Int) ∧ (L.length : Int) ≤ 6)) := by
  unfold spec_l5Records.f
  exact l5Records_l0 L hs hl L.length 0 (by omega) (by omega)

theorem sBatchValid_ev (pk mark : Bool) (prod ep seq : Int) (L : List S57) (hs : SmallR L) (hl : L.length ≤ 1000000000000) : EvV (fun k => spec_BatchValid.f k pk mark prod ep seq L) (batOk mark prod ep seq (L.map toM)) := by
  have no : batOk mark prod ep seq (L.map toM) = false → EvV (fun k => spec_BatchValid.j0 k true pk mark prod ep seq L) (batOk mark prod ep seq (L.map toM)) := by
    intro h
    rw [h]
    refine EvP.succ ?_
    simp only [spec_BatchValid.j0]
    exact EvP.pos (by simp) (EvP.ret rfl)
  unfold spec_BatchValid.f
  refine EvV.bind (l5Records_ev L hs hl) ?_
  simp only [l6In_eq, Option.bind_some]
  have hlen : (L.map toM).length = L.length := by simp
  refine EvP.ite (fun a => ?_) (fun a => no ?_)
  · simp only [Bool.and_eq_true] at a
    refine EvP.ite (fun b => ?_) (fun b => no ?_)
    · refine EvP.ite (fun c => ?_) (fun c => no ?_)
      · by_cases e : decide (0 ≤ seq ∧ seq ≤ 9999) = true
        · rw [e]
          refine EvP.succ ?_
          simp only [spec_BatchValid.j0]
          have key : batOk mark prod ep seq (L.map toM) = ((if prod = 255 then decide (ep = 0) && (decide (seq = 0) && !mark) else true) && (!mark || decide ((L.length : Int) = 1))) := by
            unfold batOk manyOk
            rw [hlen, ← headOk_same, b, c, e, a.1, a.2]
            simp
          rw [key]
          refine EvP.neg (by decide) (EvP.ite (fun f => ?_) (fun f => ?_))
          · rw [if_pos f]
            refine EvP.ite (fun g => EvP.ite (fun h => EvP.ret ?_) (fun h => EvP.ret ?_)) (fun g => EvP.ret ?_)
            · cases mark <;> simp [g, h]
            · simp [h]
            · simp [g]
          · rw [if_neg f]
            refine EvP.ite (fun g => EvP.ret ?_) (fun g => EvP.ret ?_)
            · rw [g, Bool.eq_iff_iff]; simp
            · simp [g]
        · have e' : decide (0 ≤ seq ∧ seq ≤ 9999) = false := by simpa using e
          rw [e']
          refine no ?_
          unfold batOk; rw [← headOk_same, e']; simp
      · have c' : decide (0 ≤ ep ∧ ep ≤ 99) = false := by simpa using c
        unfold batOk; rw [← headOk_same, c']; simp
    · have b' : decide (0 ≤ prod ∧ prod ≤ 255) = false := by simpa using b
      unfold batOk; rw [← headOk_same, b']; simp
  · unfold batOk manyOk
    rw [hlen]
    revert a
    cases ascF none (L.map toM) <;> cases decide (1 ≤ (L.length : Int) ∧ (L.length : Int) ≤ 6) <;> simp

theorem idValid_eq (a : Int) : impl_idValid.f a = some (decide (0 ≤ a ∧ a ≤ 254)) := by
  unfold impl_idValid.f; rw [within_eq]; rfl

theorem ibv_l0 (L : List S57) (pk mark : Bool) (prod ep seq : Int) (hs : SmallR L) (hl : L.length ≤ 1000000000000) (d : Nat) : ∀ j : Nat, j ≤ L.length → L.length - j = d → EvV (fun k => impl_BatchValid.l0 k L (L.length : Int) (j : Int) pk mark prod ep seq L) (ascF (prevO L j) ((L.drop j).map toM)) := by
  induction d with
  | zero =>
    intro j hj hd
    refine EvP.succ ?_
    simp only [impl_BatchValid.l0]
    rw [drop_end L j (by omega)]
    exact EvP.neg (by omega) (EvP.ret (by simp [ascF]))
  | succ d ih =>
    intro j hj hd
    have hlt : j < L.length := by omega
    have hx := hs L[j] (List.getElem_mem hlt)
    have e : rd_T57 L (j : Int) = L[j] := rdT_nat L j hlt
    refine EvP.succ ?_
    simp only [impl_BatchValid.l0, e, w64_succ hlt (by omega : L.length ≤ 1000000000000000000)]
    rw [List.drop_eq_getElem_cons hlt, List.map_cons]
    refine EvP.pos (by omega) (EvP.pos (by omega) (EvP.pos (by omega) (EvV.bind (iRecordValid_ev _ _ _ _ _ _ (by omega) (by omega)) ?_)))
    have hp : prevO L (j + 1) = some (toM L[j]).o := by
      unfold prevO
      rw [if_neg (by omega)]
      have : ((j + 1 : Nat) : Int) - 1 = (j : Int) := by omega
      rw [this, e]; rfl
    have next := ih (j + 1) (by omega) (by omega)
    rw [hp] at next
    refine EvP.ite (fun ok => ?_) (fun ok => EvP.ret ?_)
    · have ok' : (toM L[j]).ok = true := ok
      refine EvP.ite (fun hpos => ?_) (fun hpos => ?_)
      · have wj : wrap64 ((j : Int) - 1) = (j : Int) - 1 := w64 (by omega) (by omega)
        rw [wj]
        have hq : prevO L j = some (rd_T57 L ((j : Int) - 1)).f0 := by unfold prevO; rw [if_neg (by omega)]
        rw [hq]
        refine EvP.pos (by omega) (EvP.pos (by omega) (EvP.ite (fun g => EvP.ret ?_) (fun g => ?_)))
        · have : ¬ (rd_T57 L ((j : Int) - 1)).f0 < (toM L[j]).o := by show ¬ (_ < L[j].f0); omega
          simp [ascF, this]
        · have : (rd_T57 L ((j : Int) - 1)).f0 < (toM L[j]).o := by show _ < L[j].f0; omega
          exact next.to (by simp [ascF, ok', this])
      · have hq : prevO L j = none := by unfold prevO; rw [if_pos (by omega)]
        rw [hq]
        exact next.to (by simp [ascF, ok'])
    · have ok' : (toM L[j]).ok = false := Bool.eq_false_iff.mpr ok
      simp [ascF, ok']
theorem iBatchValid_ev (pk mark : Bool) (prod ep seq : Int) (L : List S57) (hs : SmallR L) (hl : L.length ≤ 1000000000000) : EvV (fun k => impl_BatchValid.f k pk mark prod ep seq L) (batOk mark prod ep seq (L.map toM)) := by
  have hlen : (L.map toM).length = L.length := by simp
  have j1 : ∀ b : Bool, EvV (fun k => impl_BatchValid.j1 k b pk mark prod ep seq L) (!b && ascF none (L.map toM)) := by
    intro b
    refine EvP.succ ?_
    simp only [impl_BatchValid.j1]
    refine EvP.ite (fun h => EvP.ret (by simp [h])) (fun h => ?_)
    have hb : b = false := by simpa using h
    rw [hb]
    exact ibv_l0 L pk mark prod ep seq hs hl L.length 0 (by omega) (by omega)
  have j0 : headOk mark prod ep seq = true → EvV (fun k => impl_BatchValid.j0 k pk mark prod ep seq L) (batOk mark prod ep seq (L.map toM)) := by
    intro hh
    have key : batOk mark prod ep seq (L.map toM) = (decide (1 ≤ (L.length : Int) ∧ (L.length : Int) ≤ 6) && ((!mark || decide ((L.length : Int) = 1)) && ascF none (L.map toM))) := by
      unfold batOk manyOk
      rw [hlen, hh]; simp [Bool.and_assoc]
    rw [key]
    refine EvP.succ ?_
    simp only [impl_BatchValid.j0, within_eq, Option.bind_some]
    refine EvP.ite (fun a => EvP.ite (fun m => ?_) (fun m => ?_)) (fun a => ?_)
    · subst m
      rw [a]
      refine (j1 _).to ?_
      have : (!((L.length : Int) != 1)) = decide ((L.length : Int) = 1) := by rw [Bool.eq_iff_iff]; simp
      rw [this]; simp
    · have m' : mark = false := by simpa using m
      subst m'
      rw [a]
      exact (j1 false).to (by simp)
    · have a' : decide (1 ≤ (L.length : Int) ∧ (L.length : Int) ≤ 6) = false := by simpa using a
      rw [a']
      exact (j1 true).to (by simp)
  have no : headOk mark prod ep seq = false → batOk mark prod ep seq (L.map toM) = false := fun h => by unfold batOk; rw [h]; rfl
  unfold impl_BatchValid.f
  simp only [idValid_eq, within_eq, Option.bind_some]
  refine EvP.ite (fun a => ?_) (fun a => ?_)
  · have hd : headOk mark prod ep seq = (decide (ep = 0) && (decide (seq = 0) && !mark)) := by unfold headOk; rw [if_pos a]
    refine EvP.ite (fun b => EvP.ite (fun c => EvP.ite (fun m => EvP.ret ?_) (fun m => j0 ?_)) (fun c => EvP.ret ?_)) (fun b => EvP.ret ?_)
    · rw [no (by rw [hd, m]; simp)]
    · rw [hd]; simp [b, c, m]
    · rw [no (by rw [hd]; simp [c])]
    · rw [no (by rw [hd]; simp [b])]
  · have hd : headOk mark prod ep seq = (decide (0 ≤ prod ∧ prod ≤ 254) && (decide (0 ≤ ep ∧ ep ≤ 99) && decide (0 ≤ seq ∧ seq ≤ 9999))) := by unfold headOk; rw [if_neg a]
    refine EvP.ite (fun b => EvP.ite (fun c => EvP.ite (fun e => j0 ?_) (fun e => EvP.ret ?_)) (fun c => EvP.ret ?_)) (fun b => EvP.ret ?_)
    · rw [hd, b, c, e]; rfl
    · have e' : decide (0 ≤ seq ∧ seq ≤ 9999) = false := by simpa using e
      rw [no (by rw [hd, e']; simp)]
    · have c' : decide (0 ≤ ep ∧ ep ≤ 99) = false := by simpa using c
      rw [no (by rw [hd, c']; simp)]
    · have b' : decide (0 ≤ prod ∧ prod ≤ 254) = false := by simpa using b
      rw [no (by rw [hd, b']; simp)]

theorem eqRecordS_same (L : List S57) (hs : SmallR L) (hl : L.length ≤ 1000000000000) : EvV (fun k => laws_eqRecordS.f k L L) true := by
  have key : ∀ (d j : Nat), j + d = L.length → EvV (fun k => laws_eqRecordS.l0 k L L (j : Int)) true := by
    intro d
    induction d with
    | zero =>
      intro j hj
      refine EvP.succ ?_
      simp only [laws_eqRecordS.l0]
      exact EvP.neg (by omega) (EvP.ret rfl)
    | succ d ih =>
      intro j hj
      have hlt : j < L.length := by omega
      have e : rd_T57 L (j : Int) = L[j] := by unfold rd_T57; simp [List.getD_eq_getElem?_getD, hlt]
      have hx := hs L[j] (List.getElem_mem hlt)
      refine EvP.succ ?_
      simp only [laws_eqRecordS.l0, e, w64_succ hlt (by omega : L.length ≤ 1000000000000000000)]
      exact EvP.pos (by omega) (EvP.pos (by omega) (EvP.pos (by omega) (EvV.bind (eqRecord_same _ _ _ _ _ _ hx.1 hx.2) (EvP.pos rfl (ih (j + 1) (by omega))))))
  unfold laws_eqRecordS.f
  exact EvP.pos rfl (key L.length 0 (by omega))

theorem eqBatch_same (pk mark : Bool) (prod ep seq : Int) (L : List S57) (hs : SmallR L) (hl : L.length ≤ 1000000000000) : EvV (fun k => laws_eqBatch.f k pk mark prod ep seq L pk mark prod ep seq L) true := by
  unfold laws_eqBatch.f
  exact EvP.neg (by simp) (EvP.neg (by simp) (EvP.pos rfl (EvP.pos rfl (EvP.pos rfl (EvV.bind (eqRecordS_same L hs hl) (EvP.pos rfl (EvP.ret rfl)))))))

/-- A valid message. -/
def oldOk (o : Int) (timed : Bool) (t : Int) (ks vs : List Int) (hk miss : Bool) : Bool := recOk o t hk ks (!miss) vs && (timed || decide (t = 0))
theorem iKept_eq (o : Int) (timed : Bool) (t : Int) (ks vs : List Int) (hk miss : Bool) (h1 : ks.length ≤ 1000000000000) (h2 : vs.length ≤ 1000000000000) : impl_Old_kept.f o timed t ks vs hk miss = some (o, t, hk, ks, !miss, vs) := by
  unfold impl_Old_kept.f slices_Clone_int_int.f
  rw [if_pos (by omega), if_pos (by omega)]
  rfl
theorem iOldValid_ev (o : Int) (timed : Bool) (t : Int) (ks vs : List Int) (hk miss : Bool) (h1 : ks.length ≤ 1000000000000) (h2 : vs.length ≤ 1000000000000) : EvV (fun k => impl_OldValid.f k o timed t ks vs hk miss) (oldOk o timed t ks vs hk miss) := by
  unfold impl_OldValid.f oldOk
  rw [iKept_eq o timed t ks vs hk miss h1 h2]
  simp only [Option.bind_some]
  exact EvV.bind (iRecordValid_ev o t hk ks (!miss) vs (by omega) (by omega)) (EvP.ret rfl)

theorem sKept_eq (o : Int) (timed : Bool) (t : Int) (ks vs : List Int) (hk miss : Bool) (h1 : ks.length ≤ 1000000000000) (h2 : vs.length ≤ 1000000000000) : spec_l11Record.f o timed t ks vs hk miss = some (o, t, hk, ks, !miss, vs) := by
  unfold spec_l11Record.f
  simp only [Option.bind_some, List.nil_append, List.length_nil, Nat.zero_add]
  rw [if_pos (by omega), if_pos (by omega)]
theorem sOldValid_ev (o : Int) (timed : Bool) (t : Int) (ks vs : List Int) (hk miss : Bool) (h1 : ks.length ≤ 1000000000000) (h2 : vs.length ≤ 1000000000000) : EvV (fun k => spec_OldValid.f k o timed t ks vs hk miss) (oldOk o timed t ks vs hk miss) := by
  unfold spec_OldValid.f oldOk
  rw [sKept_eq o timed t ks vs hk miss h1 h2]
  simp only [Option.bind_some]
  refine EvV.bind (sRecordValid_ev o t hk ks (!miss) vs (by omega) (by omega)) (EvP.ite (fun a => ?_) (fun a => EvP.ret ?_))
  · rw [a]
    refine EvP.ite (fun b => EvP.ret (by rw [b]; rfl)) (fun b => EvP.ret ?_)
    rw [Bool.eq_false_iff.2 b]
    rw [Bool.eq_iff_iff]; simp
  · rw [Bool.eq_false_iff.2 a]; rfl

theorem szOld_eq (o : Int) (timed : Bool) (t : Int) (ks vs : List Int) (hk miss : Bool) (a : Int) (ha0 : 0 ≤ a) (ha1 : a ≤ 1048576) (h1 : ks.length ≤ maxLen) (h2 : vs.length ≤ maxLen) :
    ∃ v, laws_szOld.f o timed t ks vs hk miss a = some v ∧ (v < 0 ∨ (0 ≤ v ∧ v ≤ a ∧ (ks.length : Int) + vs.length ≤ 1048576)) := by
  unfold laws_szOld.f
  rw [szIntS_eq ks a ha0 ha1 h1]
  simp only [Option.bind_some]
  by_cases c : a - (ks.length : Int) < 0
  · rw [if_pos c]; exact ⟨-1, rfl, .inl (by decide)⟩
  · rw [if_neg c, if_neg c, szIntS_eq vs _ (by omega) (by omega) h2]
    simp only [Option.bind_some]
    by_cases d : a - (ks.length : Int) - (vs.length : Int) < 0
    · rw [if_pos d]; exact ⟨-1, rfl, .inl (by decide)⟩
    · rw [if_neg d, if_neg d]; exact ⟨_, rfl, .inr ⟨by omega, by omega, by omega⟩⟩

theorem toOld_ev (o : Int) (timed : Bool) (t : Int) (ks vs : List Int) (hk miss : Bool) (h1 : ks.length ≤ 1000000000000) (h2 : vs.length ≤ 1000000000000) : EvV (fun k => laws_toOld.f k o timed t ks vs hk miss) (o, timed, t, ks, vs, hk, miss) := by
  unfold laws_toOld.f
  exact EvV.bind (toIntS_ev ks h1) (EvV.bind (toIntS_ev vs h2) (EvP.ret rfl))

theorem eqOld_same (o : Int) (timed : Bool) (t : Int) (ks vs : List Int) (hk miss : Bool) (h1 : ks.length ≤ 1000000000000) (h2 : vs.length ≤ 1000000000000) : EvV (fun k => laws_eqOld.f k o timed t ks vs hk miss o timed t ks vs hk miss) true := by
  unfold laws_eqOld.f
  exact EvP.pos rfl (EvP.neg (by simp) (EvP.pos rfl (EvV.bind ((eqIntS_ev ks ks (by omega)).to (w := true) (by simp)) (EvP.pos rfl (EvV.bind ((eqIntS_ev vs vs (by omega)).to (w := true) (by simp)) (EvP.pos rfl (EvP.neg (by simp) (EvP.neg (by simp) (EvP.ret rfl)))))))))

def oldPB (has : Bool) (xs : List Int) : List Int := if has = true then (xs.length : Int) :: xs else [255]
theorem oldPB_len (has : Bool) (xs : List Int) : (oldPB has xs).length ≤ xs.length + 1 := by unfold oldPB; split <;> simp
theorem oldPB_bytes {has : Bool} {xs : List Int} (h : partOk has xs = true) : allB (oldPB has xs) = true := by
  unfold oldPB
  obtain ⟨h1, h2⟩ := partOk_iff.1 h
  by_cases hh : has = true
  · rw [if_pos hh]
    obtain ⟨a, b⟩ := h1 hh
    refine allB_iff.2 ?_
    intro x hx
    rcases List.mem_cons.1 hx with rfl | hx
    · omega
    · exact allB_iff.1 b x hx
  · rw [if_neg hh]; rfl
def headO (timed : Bool) (t : Int) : List Int := if timed = true then 1 :: intB t 3 else [0]
theorem headO_len (timed : Bool) (t : Int) : (headO timed t).length ≤ 4 := by
  have := intB_len3 t 3
  unfold headO; split <;> simp
  omega
theorem headO_bytes (timed : Bool) (t : Int) : allB (headO timed t) = true := by
  unfold headO
  split
  · refine allB_iff.2 ?_
    intro x hx
    rcases List.mem_cons.1 hx with rfl | hx
    · omega
    · exact allB_iff.1 (intB_bytes t 3) x hx
  · rfl
def bodyO (timed : Bool) (t : Int) (ks vs : List Int) (hk miss : Bool) : List Int := headO timed t ++ oldPB hk ks ++ oldPB (!miss) vs
/-- A message's bytes. -/
def oldB (o : Int) (timed : Bool) (t : Int) (ks vs : List Int) (hk miss : Bool) : List Int := intB o 3 ++ (intB (sumL (bodyO timed t ks vs hk miss)) 2 ++ bodyO timed t ks vs hk miss)
def oldR (o : Int) (timed : Bool) (t : Int) (ks vs : List Int) (hk miss : Bool) : List Int × Bool := if oldOk o timed t ks vs hk miss = true then (oldB o timed t ks vs hk miss, true) else ([], false)
theorem oldOk_iff {o : Int} {timed : Bool} {t : Int} {ks vs : List Int} {hk miss : Bool} : oldOk o timed t ks vs hk miss = true ↔ recOk o t hk ks (!miss) vs = true ∧ (timed = true ∨ t = 0) := by unfold oldOk; simp
theorem oldR_len (o : Int) (timed : Bool) (t : Int) (ks vs : List Int) (hk miss : Bool) : (oldR o timed t ks vs hk miss).1.length ≤ ks.length + vs.length + 20 := by
  unfold oldR
  split
  · have a1 := intB_len3 o 3
    have a2 := intB_len3 (sumL (bodyO timed t ks vs hk miss)) 2
    have a3 := headO_len timed t
    have a4 := oldPB_len hk ks
    have a5 := oldPB_len (!miss) vs
    unfold oldB
    simp only [List.length_append]
    unfold bodyO at a2 ⊢
    simp only [List.length_append]
    omega
  · simp

/-- A message as a record. -/
def toR (x : S26) : S57 := ⟨x.f0, x.f2, x.f5, x.f3, !x.f6, x.f4⟩
def okO (x : S26) : Bool := oldOk x.f0 x.f1 x.f2 x.f3 x.f4 x.f5 x.f6
def SmallO (xs : List S26) : Prop := ∀ x ∈ xs, x.f3.length ≤ 2000000 ∧ x.f4.length ≤ 2000000
def turnOk (xs : List S26) : Bool := decide (xs.length ≤ 6) && (xs.all okO && batOk false 255 0 0 ((xs.map toR).map toM))
def turnR (xs : List S26) (pk : Bool) : Bool × Bool × Int × Int × Int × List S57 × Bool := if turnOk xs = true then (pk, false, 255, 0, 0, xs.map toR, true) else (false, false, 0, 0, 0, [], false)
theorem rdO_nat (L : List S26) (j : Nat) (h : j < L.length) : rd_T26 L (j : Int) = L[j] := by
  unfold rd_T26; simp [List.getD_eq_getElem?_getD, h]
theorem smallR_map {xs : List S26} (hs : SmallO xs) : SmallR (xs.map toR) := by
  intro y hy
  obtain ⟨x, hx, rfl⟩ := List.mem_map.1 hy
  have := hs x hx
  exact ⟨by show x.f3.length ≤ _; omega, by show x.f4.length ≤ _; omega⟩
theorem turn_snoc (xs : List S26) (j : Nat) (h : j < xs.length) : (xs.take (j + 1)).map toR = (xs.take j).map toR ++ [toR xs[j]] := by
  rw [List.take_succ_eq_append_getElem h, List.map_append]
  rfl
theorem turn_all (xs : List S26) (j : Nat) (h : j < xs.length) (a : (xs.take j).all okO = true) (b : okO xs[j] = true) : (xs.take (j + 1)).all okO = true := by
  rw [List.take_succ_eq_append_getElem h, List.all_append, a]
  simpa using b
theorem turn_bad {xs : List S26} {j : Nat} (h : j < xs.length) (b : okO xs[j] = false) : turnOk xs = false := by
  rw [Bool.eq_false_iff]
  intro h0
  unfold turnOk at h0
  simp only [Bool.and_eq_true, List.all_eq_true] at h0
  have := h0.2.1 xs[j] (List.getElem_mem h)
  rw [b] at this
  cases this
theorem turn_end {xs : List S26} (h6 : xs.length ≤ 6) (a : xs.all okO = true) : turnOk xs = batOk false 255 0 0 ((xs.map toR).map toM) := by
  unfold turnOk
  rw [decide_eq_true h6, a]
  rfl
theorem sTurn_l0 (xs : List S26) (pk : Bool) (hs : SmallO xs) (hl : xs.length ≤ 2000000) (d : Nat) : ∀ j : Nat, j ≤ xs.length → xs.length - j = d → (xs.take j).all okO = true → (1 ≤ j → xs.length ≤ 6) →
    EvV (fun k => spec_OldTurn.l0 k xs (j : Int) pk false 255 0 0 ((xs.take j).map toR)) (turnR xs pk) := by
  induction d with
  | zero =>
    intro j hj hd ha h6
    have e : xs.take j = xs := List.take_of_length_le (by omega)
    rw [e] at ha ⊢
    refine EvP.succ ?_
    simp only [spec_OldTurn.l0]
    refine EvP.neg (by omega) (EvV.bind (sBatchValid_ev pk false 255 0 0 (xs.map toR) (smallR_map hs) (by simp; omega)) (EvP.ite (fun g => EvP.ret ?_) (fun g => EvP.ret ?_)))
    · unfold turnR
      rw [turn_end (by omega) ha, if_pos g]
    · unfold turnR
      rw [turn_end (by omega) ha, if_neg g]
  | succ d ih =>
    intro j hj hd ha h6
    have hlt : j < xs.length := by omega
    have hx := hs xs[j] (List.getElem_mem hlt)
    refine EvP.succ ?_
    simp only [spec_OldTurn.l0, rdO_nat xs j hlt, w64_succ hlt (by omega : xs.length ≤ 1000000000000000000)]
    refine EvP.pos (by omega) (EvP.pos (by omega) (EvV.bind (sOldValid_ev _ _ _ _ _ _ _ (by omega) (by omega)) (EvP.ite (fun g => ?_) (fun g => EvP.ret ?_))))
    · refine EvP.ite (fun g6 => EvP.ret ?_) (fun g6 => ?_)
      · unfold turnR
        have : turnOk xs = false := by unfold turnOk; rw [decide_eq_false (by omega)]; rfl
        rw [this]
        rfl
      · rw [sKept_eq _ _ _ _ _ _ _ (by omega) (by omega)]
        simp only [Option.bind_some]
        refine EvP.pos (by simp; omega) ?_
        have := ih (j + 1) (by omega) (by omega) (turn_all xs j hlt ha g) (fun _ => by omega)
        rw [turn_snoc xs j hlt] at this
        exact this
    · unfold turnR
      rw [turn_bad hlt (Bool.eq_false_iff.2 g)]
      rfl
theorem sTurn_ev (xs : List S26) (pk : Bool) (hs : SmallO xs) (hl : xs.length ≤ 2000000) : EvV (fun k => spec_OldTurn.f k xs pk) (turnR xs pk) := by
  unfold spec_OldTurn.f
  exact sTurn_l0 xs pk hs hl xs.length 0 (by omega) (by omega) rfl (by omega)

theorem iTurn_l0 (xs : List S26) (pk : Bool) (hs : SmallO xs) (h6 : xs.length ≤ 6) (d : Nat) : ∀ j : Nat, j ≤ xs.length → xs.length - j = d → (xs.take j).all okO = true →
    EvV (fun k => impl_OldTurn.l0 k xs (xs.length : Int) (j : Int) pk false 255 0 0 ((xs.take j).map toR)) (turnR xs pk) := by
  induction d with
  | zero =>
    intro j hj hd ha
    have e : xs.take j = xs := List.take_of_length_le (by omega)
    rw [e] at ha ⊢
    refine EvP.succ ?_
    simp only [impl_OldTurn.l0]
    refine EvP.neg (by omega) (EvV.bind (iBatchValid_ev pk false 255 0 0 (xs.map toR) (smallR_map hs) (by simp; omega)) (EvP.ite (fun g => EvP.ret ?_) (fun g => EvP.ret ?_)))
    · unfold turnR
      rw [turn_end (by omega) ha, if_pos g]
    · unfold turnR
      rw [turn_end (by omega) ha, if_neg g]
  | succ d ih =>
    intro j hj hd ha
    have hlt : j < xs.length := by omega
    have hx := hs xs[j] (List.getElem_mem hlt)
    refine EvP.succ ?_
    simp only [impl_OldTurn.l0, rdO_nat xs j hlt, w64_succ hlt (by omega : xs.length ≤ 1000000000000000000)]
    refine EvP.pos (by omega) (EvP.pos (by omega) (EvP.pos (by omega) (EvV.bind (iOldValid_ev _ _ _ _ _ _ _ (by omega) (by omega)) (EvP.ite (fun g => ?_) (fun g => EvP.ret ?_)))))
    · rw [iKept_eq _ _ _ _ _ _ _ (by omega) (by omega)]
      simp only [Option.bind_some]
      refine EvP.pos (by simp; omega) ?_
      have := ih (j + 1) (by omega) (by omega) (turn_all xs j hlt ha g)
      rw [turn_snoc xs j hlt] at this
      exact this
    · unfold turnR
      rw [turn_bad hlt (Bool.eq_false_iff.2 g)]
      rfl
theorem iTurn_ev (xs : List S26) (pk : Bool) (hs : SmallO xs) : EvV (fun k => impl_OldTurn.f k xs pk) (turnR xs pk) := by
  unfold impl_OldTurn.f
  refine EvP.ite (fun g => EvP.ret ?_) (fun g => iTurn_l0 xs pk hs (by omega) xs.length 0 (by omega) (by omega) rfl)
  unfold turnR
  have : turnOk xs = false := by unfold turnOk; rw [decide_eq_false (by omega)]; rfl
  rw [this]
  rfl

theorem szOldS_ev (L : List S50) (a : Int) (ha0 : 0 ≤ a) (ha1 : a ≤ 1048576) (hl : L.length ≤ maxLen) (hm : ∀ x ∈ L, x.f3.length ≤ maxLen ∧ x.f4.length ≤ maxLen) :
    EvP (fun k => laws_szOldS.f k L a) (fun v => v < 0 ∨ (0 ≤ v ∧ v ≤ a ∧ L.length ≤ 1048576 ∧ ∀ x ∈ L, x.f3.length ≤ 1048576 ∧ x.f4.length ≤ 1048576)) := by
  have hl' := hl
  unfold maxLen at hl'
  unfold laws_szOldS.f
  rw [w64 (x := a - (L.length : Int)) (by omega) (by omega)]
  refine EvP.ite (fun _ => EvP.ret (.inl (by decide))) (fun h => ?_)
  have key : ∀ (d j : Nat) (s : Int), j + d = L.length → 0 ≤ s → s ≤ a → (∀ i (h : i < L.length), i < j → L[i].f3.length ≤ 1048576 ∧ L[i].f4.length ≤ 1048576) →
      EvP (fun k => laws_szOldS.l0 k L s (j : Int)) (fun v => v < 0 ∨ (0 ≤ v ∧ v ≤ a ∧ L.length ≤ 1048576 ∧ ∀ x ∈ L, x.f3.length ≤ 1048576 ∧ x.f4.length ≤ 1048576)) := by
    intro d
    induction d with
    | zero =>
      intro j s hj h0 h1 hi
      refine EvP.succ ?_
      simp only [laws_szOldS.l0]
      refine EvP.neg (by omega) (EvP.ret (.inr ⟨h0, h1, by omega, ?_⟩))
      intro x hx
      obtain ⟨i, hil, rfl⟩ := List.getElem_of_mem hx
      exact hi i hil (by omega)
    | succ d ih =>
      intro j s hj h0 h1 hi
      have hlt : j < L.length := by omega
      have e : rd_T50 L (j : Int) = L[j] := by unfold rd_T50; simp [List.getD_eq_getElem?_getD, hlt]
      have hx := hm L[j] (List.getElem_mem hlt)
      obtain ⟨v, hv, hc⟩ := szOld_eq L[j].f0 L[j].f1 L[j].f2 L[j].f3 L[j].f4 L[j].f5 L[j].f6 s h0 (by omega) hx.1 hx.2
      refine EvP.succ ?_
      simp only [laws_szOldS.l0, e, hv, Option.bind_some, w64_succ hlt (by omega : L.length ≤ 1000000000000000000)]
      refine EvP.pos (by omega) (EvP.pos (by omega) (EvP.ite (fun _ => EvP.ret (.inl (by decide))) (fun g => ?_)))
      rcases hc with hc | ⟨c0, c1, c2⟩
      · exact absurd hc g
      · refine ih (j + 1) v (by omega) c0 (by omega) ?_
        intro i hil hij
        by_cases hc : i = j
        · subst hc; omega
        · exact hi i hil (by omega)
  exact key L.length 0 _ (by omega) (by omega) (by omega) (by intro i _ h; omega)

def cvO (x : S50) : S26 := ⟨x.f0, x.f1, x.f2, x.f3, x.f4, x.f5, x.f6⟩
theorem toOldS_ev (L : List S50) (hl : L.length ≤ 1048576) (hm : ∀ x ∈ L, x.f3.length ≤ 1048576 ∧ x.f4.length ≤ 1048576) : EvV (fun k => laws_toOldS.f k L) (L.map cvO) := by
  have key : ∀ (d j : Nat) (ys : List S26), j + d = L.length → ys.length = L.length → ys.take j = (L.map cvO).take j → EvV (fun k => laws_toOldS.l0 k L ys (j : Int)) (L.map cvO) := by
    intro d
    induction d with
    | zero =>
      intro j ys hj hy ht
      refine EvP.succ ?_
      simp only [laws_toOldS.l0]
      refine EvP.neg (by omega) (EvP.ret ?_)
      rw [List.take_of_length_le (by omega), List.take_of_length_le (by simp; omega)] at ht
      exact ht.symm
    | succ d ih =>
      intro j ys hj hy ht
      have hlt : j < L.length := by omega
      have e : rd_T50 L (j : Int) = L[j] := by unfold rd_T50; simp [List.getD_eq_getElem?_getD, hlt]
      have hx := hm L[j] (List.getElem_mem hlt)
      refine EvP.succ ?_
      simp only [laws_toOldS.l0, e, w64_succ hlt (by omega : L.length ≤ 1000000000000000000)]
      refine EvP.pos (by omega) (EvP.pos (by omega) (EvV.bind (toOld_ev _ _ _ _ _ _ _ (by omega) (by omega)) (EvP.pos (by omega) ?_)))
      have ej : ((j : Int)).toNat = j := by omega
      rw [ej]
      refine ih (j + 1) _ (by omega) (by simpa using hy) ?_
      rw [List.take_add_one, List.take_add_one, List.take_set_of_le (Nat.le_refl _), ht]
      simp [hlt, hy, cvO]
  unfold laws_toOldS.f
  refine EvP.pos (by omega) (EvP.pos (by omega) ?_)
  exact key L.length 0 _ (by omega) (by simp) (by simp)

theorem eqOldS_same (L : List S26) (hs : ∀ x ∈ L, x.f3.length ≤ 1048576 ∧ x.f4.length ≤ 1048576) (hl : L.length ≤ 1000000000000) : EvV (fun k => laws_eqOldS.f k L L) true := by
  have key : ∀ (d j : Nat), j + d = L.length → EvV (fun k => laws_eqOldS.l0 k L L (j : Int)) true := by
    intro d
    induction d with
    | zero =>
      intro j hj
      refine EvP.succ ?_
      simp only [laws_eqOldS.l0]
      exact EvP.neg (by omega) (EvP.ret rfl)
    | succ d ih =>
      intro j hj
      have hlt : j < L.length := by omega
      have e : rd_T26 L (j : Int) = L[j] := by unfold rd_T26; simp [List.getD_eq_getElem?_getD, hlt]
      have hx := hs L[j] (List.getElem_mem hlt)
      refine EvP.succ ?_
      simp only [laws_eqOldS.l0, e, w64_succ hlt (by omega : L.length ≤ 1000000000000000000)]
      exact EvP.pos (by omega) (EvP.pos (by omega) (EvP.pos (by omega) (EvV.bind (eqOld_same _ _ _ _ _ _ _ (by omega) (by omega)) (EvP.pos rfl (ih (j + 1) (by omega))))))
  unfold laws_eqOldS.f
  exact EvP.pos rfl (key L.length 0 (by omega))

theorem mk_len (l : List Int) : ∀ a, (mk l a).length = l.length := by
  induction l with
  | nil => intro a; rfl
  | cons y r ih => intro a; simp [mk, ih]
theorem mk_marked (l : List Int) : ∀ a, Marked (mk l a) a := by
  induction l with
  | nil => intro a j h; exact absurd h (by simp [mk])
  | cons y r ih =>
    intro a j h
    cases j with
    | zero => simp [mk]
    | succ j =>
      have h2 := ih (a + 1) j (by simp only [mk, List.length_cons] at h; omega)
      simp only [mk, List.getElem_cons_succ]
      rw [h2]
      omega
theorem markL0 (rest : List Int) : ∀ (pre : List Int) (a : Int) (n : Nat), rest.length + 1 ≤ n → 0 ≤ a → a + (rest.length : Int) ≤ 4611686018427387904 → pre.length + rest.length ≤ 4611686018427387904 → laws_markIntS.l0 n (pre ++ rest) a (pre.length : Int) = some (a + (rest.length : Int), pre ++ mk rest a) := by
  induction rest with
  | nil =>
    intro pre a n hn h0 h1 h2
    cases n with
    | zero => exact absurd hn (by omega)
    | succ m =>
      simp only [laws_markIntS.l0]
      rw [if_neg (by simp)]
      simp [mk]
  | cons y r ih =>
    intro pre a n hn h0 h1 h2
    simp only [List.length_cons] at hn h1 h2
    cases n with
    | zero => exact absurd hn (by omega)
    | succ m =>
      simp only [laws_markIntS.l0]
      rw [if_pos (by simp only [List.length_append, List.length_cons]; omega), if_pos (by omega), w64 (by omega) (by omega), w64 (by omega) (by omega)]
      have e : (pre ++ y :: r).set ((pre.length : Int)).toNat a = (pre ++ [a]) ++ r := by
        rw [Int.toNat_natCast, List.set_append_right _ _ (Nat.le_refl _), Nat.sub_self, List.set_cons_zero, List.append_assoc]
        rfl
      have h := ih (pre ++ [a]) (a + 1) m (by omega) (by omega) (by omega) (by simp only [List.length_append, List.length_singleton]; omega)
      have e2 : ((pre ++ [a]).length : Int) = (pre.length : Int) + 1 := by simp
      rw [e2] at h
      rw [e, h]
      have e3 : a + 1 + (r.length : Int) = a + ((y :: r).length : Int) := by simp only [List.length_cons]; omega
      rw [e3]
      simp [mk]
theorem marksOk_ex (N : Nat) (hN : N ≤ 4611686018427387904) : ∃ kk, MarksOk kk N := ⟨N + 1, fun l a hl h0 h1 => by
  have h := markL0 l [] a (N + 1) (by omega) h0 h1 (by simp only [List.length_nil]; omega)
  unfold laws_markIntS.f
  exact h⟩
set_option maxHeartbeats 2000000 in
theorem heldRec_l0 (rest : List S57) : ∀ (pre : List S57) (a : Int), 0 ≤ a → a + totR rest ≤ 100000000000000 → (pre.length : Int) + rest.length ≤ 100000000000000 → EvV (fun k => laws_heldRecordS.l0 k (pre ++ mkLR rest a) a (pre.length : Int)) (a + totR rest) := by
  induction rest with
  | nil =>
    intro pre a h0 h1 h2
    refine EvP.succ ?_
    simp only [laws_heldRecordS.l0]
    exact EvP.neg (by simp [mkLR]) (EvP.ret (by simp [totR]))
  | cons x r ih =>
    intro pre a h0 h1 h2
    have ht : totR (x :: r) = lenR x + totR r := by simp [totR]
    have hr := totR_len r
    have hx : lenR x = 4 + (x.f3.length : Int) + (x.f5.length : Int) := rfl
    simp only [List.length_cons] at h2
    have hC : (pre.length : Int) + 1 + (r.length : Int) ≤ 100000000000000 := by clear ht hr hx h1 ih h0; omega
    have hlt : ((pre.length : Int) < ((pre ++ mkLR (x :: r) a).length : Int)) := by
      have hh : (pre ++ mkLR (x :: r) a).length = pre.length + (r.length + 1) := by rw [List.length_append, mkLR_len]; rfl
      rw [hh]
      clear hh ht hr hx h1 h2 hC ih h0
      omega
    rw [ht] at h1 ⊢
    have HLT := Aside0.mk hlt
    have HC := Aside0.mk hC
    clear hlt hC
    have hA : 0 ≤ a + lenR x := by omega
    have hB : a + lenR x + totR r ≤ 100000000000000 := by omega
    have hD : a + 1 + 1 + 1 + (x.f3.length : Int) + 1 + (x.f5.length : Int) = a + lenR x := by omega
    have hE : a + lenR x + totR r = a + (lenR x + totR r) := by omega
    have hn3 : ¬ (a + 1 + 1 + 1 + (x.f3.length : Int) < 0) := by omega
    have hn5 : ¬ (a + 1 + 1 + 1 + (x.f3.length : Int) + 1 + (x.f5.length : Int) < 0) := by omega
    have e : rd_T57 (pre ++ mkLR (x :: r) a) (pre.length : Int) = mkER x a := by
      rw [rdT_nat _ _ (by simp [mkLR])]
      simp [mkLR]
    have w1 : wrap64 (a + 1) = a + 1 := w64 (by omega) (by omega)
    have w2 : wrap64 (a + 1 + 1) = a + 1 + 1 := w64 (by omega) (by omega)
    have w3 : wrap64 (a + 1 + 1 + 1) = a + 1 + 1 + 1 := w64 (by omega) (by omega)
    have w4 : wrap64 (a + 1 + 1 + 1 + (x.f3.length : Int) + 1) = a + 1 + 1 + 1 + (x.f3.length : Int) + 1 := w64 (by omega) (by omega)
    have wp : wrap64 ((pre.length : Int) + 1) = (pre.length : Int) + 1 := w64 (by omega) (by have := HC.out; omega)
    have WP := Aside0.mk wp
    clear wp
    have q3 := heldIntS_ev (mk x.f3 (a + 1 + 1 + 1)) (a + 1 + 1 + 1) (by omega) (by omega) (by rw [mk_len]; omega) (mk_marked _ _)
    have q5 := heldIntS_ev (mk x.f5 (a + 1 + 1 + 1 + (x.f3.length : Int) + 1)) (a + 1 + 1 + 1 + (x.f3.length : Int) + 1) (by omega) (by omega) (by rw [mk_len]; omega) (mk_marked _ _)
    rw [mk_len] at q3 q5
    have W4 := Aside0.mk w4
    clear w4
    refine EvP.succ ?_
    simp only [laws_heldRecordS.l0, e, w1, w2, w3, WP.out]
    refine EvP.pos HLT.out ?_
    refine EvP.pos (Int.natCast_nonneg _) ?_
    refine EvP.pos (show (mkER x a).f0 = a from rfl) ?_
    refine EvP.pos (show (mkER x a).f1 = a + 1 from rfl) ?_
    refine EvP.neg ?_ ?_
    rotate_left
    refine EvV.bind q3 ?_
    refine EvP.neg hn3 ?_
    refine EvP.neg ?_ ?_
    rotate_left
    rotate_left
    · show ¬ (b3 (a + 1 + 1) != _) = true
      unfold b3
      simp
    · show ¬ (b3 (a + 1 + 1 + 1 + (x.f3.length : Int)) != _) = true
      unfold b3
      simp
    · rw [W4.out]
      refine EvV.bind q5 (EvP.neg hn5 ?_)
      have e2 : ((pre ++ [mkER x a]).length : Int) = (pre.length : Int) + 1 := by simp
      have h := ih (pre ++ [mkER x a]) (a + lenR x) hA hB (by rw [e2]; exact HC.out)
      have e3 : (pre ++ [mkER x a]) ++ mkLR r (a + lenR x) = pre ++ mkLR (x :: r) a := by simp [mkLR]
      rw [e2, e3] at h
      rw [hD]
      exact h.to hE
theorem heldRecordS_ev (xs : List S57) (h1 : 1 + totR xs ≤ 100000000000000) : EvV (fun k => laws_heldRecordS.f k (mkLR xs 1) 1) (1 + totR xs) := by
  have h := heldRec_l0 xs [] 1 (by decide) h1 (by have := totR_len xs; simp only [List.length_nil]; omega)
  unfold laws_heldRecordS.f
  exact h

theorem evGet {α : Type} {g : Nat → Option α} {v : α} (h : EvV g v) : ∃ K, ∀ k, K ≤ k → g k = some v := by
  obtain ⟨r, rfl, h⟩ := h
  exact h
theorem totR_le (xs : List S57) (h : ∀ x ∈ xs, x.f3.length ≤ 1048576 ∧ x.f5.length ≤ 1048576) : totR xs ≤ (xs.length : Int) * 2097156 := by
  induction xs with
  | nil => simp [totR]
  | cons x r ih =>
    have h1 := ih (fun y hy => h y (List.mem_cons_of_mem _ hy))
    have h2 := h x List.mem_cons_self
    have ht : totR (x :: r) = lenR x + totR r := by simp [totR]
    have hx : lenR x = 4 + (x.f3.length : Int) + (x.f5.length : Int) := rfl
    simp only [List.length_cons]
    omega
theorem totO_le (xs : List S26) (h : ∀ x ∈ xs, x.f3.length ≤ 1048576 ∧ x.f4.length ≤ 1048576) : totO xs ≤ (xs.length : Int) * 2097157 := by
  induction xs with
  | nil => simp [totO]
  | cons x r ih =>
    have h1 := ih (fun y hy => h y (List.mem_cons_of_mem _ hy))
    have h2 := h x List.mem_cons_self
    have ht : totO (x :: r) = lenO x + totO r := by simp [totO]
    have hx : lenO x = 5 + (x.f3.length : Int) + (x.f4.length : Int) := rfl
    simp only [List.length_cons]
    omega
theorem FnExactOldTurn : laws_FnExactOldTurn.Pure := by
  intro pk l0 hl hm
  obtain ⟨s, hs, K0, h0⟩ := szOldS_ev l0 1048576 (by decide) (by decide) hl hm
  by_cases h : s < 0
  · exact ⟨K0, s, h0 _ (Nat.le_refl _), fun g => absurd h g⟩
  · obtain ⟨_, _, hL, hM⟩ := hs.resolve_left h
    obtain ⟨xs, hxs⟩ : ∃ xs, xs = l0.map cvO := ⟨_, rfl⟩
    have hxl : xs.length ≤ 1048576 := by rw [hxs]; simpa using hL
    have hxm : ∀ x ∈ xs, x.f3.length ≤ 1048576 ∧ x.f4.length ≤ 1048576 := by
      intro x hx
      rw [hxs] at hx
      obtain ⟨y, hy, rfl⟩ := List.mem_map.1 hx
      exact hM y hy
    have hsm : SmallO xs := fun x hx => by have := hxm x hx; omega
    have e1 := toOldS_ev l0 hL hM
    rw [← hxs] at e1
    obtain ⟨K1, h1⟩ := evGet e1
    obtain ⟨K2, h2⟩ := evGet (sTurn_ev xs pk hsm (by omega))
    obtain ⟨K3, h3⟩ := evGet (iTurn_ev xs pk hsm)
    have hrr : (∀ x ∈ (turnR xs pk).2.2.2.2.2.1, x.f3.length ≤ 1048576 ∧ x.f5.length ≤ 1048576) ∧ (turnR xs pk).2.2.2.2.2.1.length ≤ 1048576 := by
      unfold turnR
      by_cases c : turnOk xs = true
      · rw [if_pos c]
        refine ⟨fun x hx => ?_, by simpa using hxl⟩
        obtain ⟨y, hy, rfl⟩ := List.mem_map.1 hx
        exact hxm y hy
      · rw [if_neg c]
        exact ⟨fun x hx => by simp at hx, by simp⟩
    obtain ⟨K4, h4⟩ := evGet (eqBatch_same (turnR xs pk).1 (turnR xs pk).2.1 (turnR xs pk).2.2.1 (turnR xs pk).2.2.2.1 (turnR xs pk).2.2.2.2.1 (turnR xs pk).2.2.2.2.2.1 (fun x hx => by have := hrr.1 x hx; omega) (by omega))
    obtain ⟨K5, h5⟩ := evGet (eqOldS_same xs hxm (by omega))
    have tR := totR_le _ hrr.1
    have tO := totO_le _ hxm
    have tR0 := totR_len (turnR xs pk).2.2.2.2.2.1
    have tO0 := totO_len xs
    obtain ⟨K6, h6⟩ := evGet (heldRecordS_ev (turnR xs pk).2.2.2.2.2.1 (by omega))
    obtain ⟨N, hN⟩ : ∃ N : Nat, N = 10000000000000 := ⟨_, rfl⟩
    obtain ⟨kk, hkk⟩ := marksOk_ex N (by omega)
    obtain ⟨k, k0, k1, k2, k3, k4, k5, k6⟩ : ∃ k, K0 ≤ k ∧ K1 ≤ k ∧ K2 ≤ k ∧ K3 ≤ k ∧ K4 ≤ k ∧ K5 ≤ k ∧ K6 ≤ k := ⟨K0 + K1 + K2 + K3 + K4 + K5 + K6, by omega, by omega, by omega, by omega, by omega, by omega, by omega⟩
    refine ⟨k, s, h0 k k0, fun _ => ⟨kk, N, xs, (turnR xs pk).1, (turnR xs pk).2.1, (turnR xs pk).2.2.1, (turnR xs pk).2.2.2.1, (turnR xs pk).2.2.2.2.1, (turnR xs pk).2.2.2.2.2.1, (turnR xs pk).2.2.2.2.2.2, ⟨h1 k k1, h3 k k3, h2 k k2, h4 k k4, h5 k k5, hkk, ⟨by omega, by omega⟩, ⟨by omega, by omega⟩, ?_⟩⟩⟩
    unfold laws_heldBatch.f
    rw [h6 k k6]
    simp only [Option.bind_some]
    rw [if_neg (by omega)]

end Go.Proofs.Ytmpnedpokdaejaa.Pure
