/- The program's UnpackBytes and the reference's tell the same bytes, which share no memory with the argument or another call's, for every list; there is no condition. -/
import Derived.Test.YtdgpkjjclngamaaPFnExactUnpackBytesx4
import Derived.Test.YtdgpkjjclngamaaMath
import Derived.Test.YtdgpkjjclngamaaMath2
import Derived.Test.YtdgpkjjclngamaaMath3
import Derived.Test.YtdgpkjjclngamaaMath4
set_option linter.unusedVariables false
set_option linter.unusedSimpArgs false
namespace Go.Proofs.Ytdgpkjjclngamaa.Pure
open Go.RowKit Go.Proofs.Ytdgpkjjclngamaa.PFnExactUnpackBytes Go.Proofs.YtdgpkjjclngamaaW.PrintWords Go.Proofs.YtdgpkjjclngamaaW.PrintLast Go.Proofs.YtdgpkjjclngamaaW.PrintMore Go.Proofs.Ytdgpkjjclngamaa.M

theorem l6In_eq (a b c : Int) : spec_l6In.f a b c = some (decide (b ≤ a ∧ a ≤ c)) := by
  unfold spec_l6In.f
  by_cases h : a ≥ b
  · rw [if_pos h]; congr 1; simp only [decide_eq_decide]; omega
  · rw [if_neg h]; congr 1; symm; simp only [decide_eq_false_iff_not]; omega

theorem l1Ok_l0 (xs : List Int) (hl : xs.length ≤ 1000000000000000000) (d : Nat) : ∀ j : Nat, j ≤ xs.length → xs.length - j = d → EvV (fun k => spec_l1Ok.l0 k xs (j : Int)) (allB (xs.drop j)) := by
  induction d with
  | zero =>
    intro j hj hd
    refine EvP.succ ?_
    simp only [spec_l1Ok.l0]
    rw [drop_end xs j (by omega)]
    exact EvP.neg (by omega) (EvP.ret rfl)
  | succ d ih =>
    intro j hj hd
    have hlt : j < xs.length := by omega
    refine EvP.succ ?_
    simp only [spec_l1Ok.l0, l6In_eq, Option.bind_some, rd_nat xs j hlt, w64_succ hlt hl]
    refine EvP.pos (by omega) (EvP.pos (by omega) ?_)
    rw [drop_cons xs j hlt]
    refine EvP.ite (fun h => ?_) (fun h => EvP.ret ?_)
    · have hb : isB xs[j] = true := h
      exact (ih (j + 1) (by omega) (by omega)).to (allB_cons_t hb)
    · have hb : isB xs[j] = false := by simpa [isB] using h
      exact allB_cons_f hb
theorem l1Ok_ev (xs : List Int) (hl : xs.length ≤ 1000000000000000000) : EvV (fun k => spec_l1Ok.f k xs) (allB xs) := by
  unfold spec_l1Ok.f; exact l1Ok_l0 xs hl xs.length 0 (by omega) (by omega)

theorem isByte_eq (x : Int) : impl_isByte.f x = some (isB x) := by
  unfold impl_isByte.f isB
  by_cases h : x ≥ 0
  · rw [if_pos h]; congr 1; simp only [decide_eq_decide]; omega
  · rw [if_neg h]; congr 1; symm; simp only [decide_eq_false_iff_not]; omega

theorem allBytes_l0 (xs : List Int) (hl : xs.length ≤ 1000000000000000000) (d : Nat) : ∀ j : Nat, j ≤ xs.length → xs.length - j = d → EvV (fun k => impl_allBytes.l0 k xs (xs.length : Int) (j : Int)) (allB (xs.drop j)) := by
  induction d with
  | zero =>
    intro j hj hd
    refine EvP.succ ?_
    simp only [impl_allBytes.l0]
    rw [drop_end xs j (by omega)]
    exact EvP.neg (by omega) (EvP.ret rfl)
  | succ d ih =>
    intro j hj hd
    have hlt : j < xs.length := by omega
    refine EvP.succ ?_
    simp only [impl_allBytes.l0, isByte_eq, Option.bind_some, rd_nat xs j hlt, w64_succ hlt hl]
    refine EvP.pos (by omega) (EvP.pos (by omega) (EvP.pos (by omega) ?_))
    rw [drop_cons xs j hlt]
    refine EvP.ite (fun h => ?_) (fun h => EvP.ret ?_)
    · exact (ih (j + 1) (by omega) (by omega)).to (allB_cons_t h)
    · exact allB_cons_f (by simpa using h)
theorem allBytes_ev (xs : List Int) (hl : xs.length ≤ 1000000000000000000) : EvV (fun k => impl_allBytes.f k xs) (allB xs) := by
  unfold impl_allBytes.f; exact allBytes_l0 xs hl xs.length 0 (by omega) (by omega)

theorem eqIntS_l0 (xs ys : List Int) (he : xs.length = ys.length) (hl : xs.length ≤ 1000000000000000000) (d : Nat) : ∀ j : Nat, j ≤ xs.length → xs.length - j = d → EvV (fun k => laws_eqIntS.l0 k xs ys (j : Int)) (decide (xs.drop j = ys.drop j)) := by
  induction d with
  | zero =>
    intro j hj hd
    refine EvP.succ ?_
    simp only [laws_eqIntS.l0]
    rw [drop_end xs j (by omega), drop_end ys j (by omega)]
    exact EvP.neg (by omega) (EvP.ret (by simp))
  | succ d ih =>
    intro j hj hd
    have hlt : j < xs.length := by omega
    have hlt2 : j < ys.length := by omega
    refine EvP.succ ?_
    simp only [laws_eqIntS.l0, rd_nat xs j hlt, rd_nat ys j hlt2, w64_succ hlt hl]
    refine EvP.pos (by omega) (EvP.pos (by omega) (EvP.pos (by omega) ?_))
    rw [drop_cons xs j hlt, drop_cons ys j hlt2]
    refine EvP.ite (fun h => ?_) (fun h => EvP.ret ?_)
    · exact (ih (j + 1) (by omega) (by omega)).to (dec_cons_t h)
    · exact dec_cons_f h
theorem eqIntS_ev (xs ys : List Int) (hl : xs.length ≤ 1000000000000000000) : EvV (fun k => laws_eqIntS.f k xs ys) (decide (xs = ys)) := by
  unfold laws_eqIntS.f
  refine EvP.ite (fun h => ?_) (fun h => EvP.ret ?_)
  · exact eqIntS_l0 xs ys (by omega) hl xs.length 0 (by omega) (by omega)
  · have : ¬ xs = ys := by rintro rfl; exact h rfl
    simp [this]

theorem toIntS_ev (xs : List Int) (hl : xs.length ≤ 1000000000000) : EvV (fun k => laws_toIntS.f k xs) xs := by
  have key : ∀ (d j : Nat) (ys : List Int), j + d = xs.length → ys.length = xs.length → ys.take j = xs.take j → EvV (fun k => laws_toIntS.l0 k xs ys (j : Int)) xs := by
    intro d
    induction d with
    | zero =>
      intro j ys hj hy ht
      refine EvP.succ ?_
      simp only [laws_toIntS.l0]
      refine EvP.neg (by omega) (EvP.ret ?_)
      rw [List.take_of_length_le (by omega), List.take_of_length_le (by omega)] at ht
      exact ht.symm
    | succ d ih =>
      intro j ys hj hy ht
      have hlt : j < xs.length := by omega
      refine EvP.succ ?_
      simp only [laws_toIntS.l0, rd_nat xs j hlt, w64_succ hlt (by omega : xs.length ≤ 1000000000000000000)]
      refine EvP.pos (by omega) (EvP.pos (by omega) (EvP.pos (by omega) ?_))
      have e : ((j : Int)).toNat = j := by omega
      rw [e]
      refine ih (j + 1) _ (by omega) (by simpa using hy) ?_
      rw [List.take_add_one, List.take_add_one, List.take_set_of_le (Nat.le_refl _), ht]
      simp [hlt, hy]
  unfold laws_toIntS.f
  refine EvP.pos (by omega) (EvP.pos (by omega) ?_)
  exact key xs.length 0 _ (by omega) (by simp) (by simp)

theorem markIntS_ev (xs : List Int) (s : Int) (hs0 : 0 ≤ s) (hs1 : s ≤ 1000000000000000) (hl : xs.length ≤ 1000000000000000) :
    EvP (fun k => laws_markIntS.f k xs s) (fun r => r.1 = s + xs.length ∧ r.2.length = xs.length ∧ Marked r.2 s) := by
  have key : ∀ (d j : Nat) (ys : List Int), j + d = xs.length → ys.length = xs.length → (∀ i (h : i < ys.length), i < j → ys[i] = s + i) → EvP (fun k => laws_markIntS.l0 k ys (s + j) (j : Int)) (fun r => r.1 = s + xs.length ∧ r.2.length = xs.length ∧ Marked r.2 s) := by
    intro d
    induction d with
    | zero =>
      intro j ys hj hy ht
      refine EvP.succ ?_
      simp only [laws_markIntS.l0]
      refine EvP.neg (by omega) (EvP.ret ⟨?_, hy, ?_⟩)
      · dsimp only; omega
      · intro i hi; exact ht i hi (by dsimp only at hi; omega)
    | succ d ih =>
      intro j ys hj hy ht
      have hlt : j < ys.length := by omega
      have e : ((j : Int)).toNat = j := by omega
      have e2 : wrap64 (s + (j : Int) + 1) = s + ((j + 1 : Nat) : Int) := by rw [w64 (by omega) (by omega)]; omega
      refine EvP.succ ?_
      simp only [laws_markIntS.l0, w64_succ hlt (by omega : ys.length ≤ 1000000000000000000), e, e2]
      refine EvP.pos (by omega) (EvP.pos (by omega) ?_)
      refine ih (j + 1) _ (by omega) (by simpa using hy) ?_
      intro i hi hij
      rw [List.getElem_set]
      split
      · rename_i h; omega
      · rename_i h; exact ht i (by simpa using hi) (by omega)
  unfold laws_markIntS.f
  have := key xs.length 0 xs (by omega) rfl (by intro i _ h; omega)
  simpa using this

theorem heldIntS_ev (ys : List Int) (s : Int) (hs0 : 0 ≤ s) (hs1 : s ≤ 1000000000000000) (hl : ys.length ≤ 1000000000000000) (hm : Marked ys s) :
    EvV (fun k => laws_heldIntS.f k ys s) (s + ys.length) := by
  have key : ∀ (d j : Nat), j + d = ys.length → EvV (fun k => laws_heldIntS.l0 k ys (s + j) (j : Int)) (s + ys.length) := by
    intro d
    induction d with
    | zero =>
      intro j hj
      refine EvP.succ ?_
      simp only [laws_heldIntS.l0]
      exact EvP.neg (by omega) (EvP.ret (by omega))
    | succ d ih =>
      intro j hj
      have hlt : j < ys.length := by omega
      have e2 : wrap64 (s + (j : Int) + 1) = s + ((j + 1 : Nat) : Int) := by rw [w64 (by omega) (by omega)]; omega
      refine EvP.succ ?_
      simp only [laws_heldIntS.l0, w64_succ hlt (by omega : ys.length ≤ 1000000000000000000), e2, marked_rd hm j hlt]
      refine EvP.pos (by omega) (EvP.pos (by omega) (EvP.pos (by simp) ?_))
      exact ih (j + 1) (by omega)
  unfold laws_heldIntS.f
  have := key ys.length 0 (by omega)
  simpa using this

theorem l4_l1 {xs : List Int} (hb : allB xs = true) (hl : xs.length ≤ 1000000000000) (j : Nat) (hj : j + 1 < xs.length) (h64 : 64 ≤ rd xs j) (h128 : rd xs j < 128) (b : Nat) (hbb : rd xs ((j : Int) + 1) = b) (hb1 : 1 ≤ b) (res : List Int × Bool)
    (n : Nat) : ∀ (i : Int) (out : List Int), 0 ≤ i → i + n = rd xs j - 61 → b ≤ out.length → out.length ≤ 1000 + i →
    EvV (fun k => if ((rept n b out).length : Int) > 200 then some (([] : List Int), false) else spec_l4Unpack.l0 k xs (rept n b out) ((j + 2 : Nat) : Int)) res →
    EvV (fun k => spec_l4Unpack.l1 k xs out (j : Int) i) res := by
  have w1 : wrap64 (rd xs j - 61) = rd xs j - 61 := w64 (by omega) (by omega)
  have w2 : wrap64 ((j : Int) + 1) = (j : Int) + 1 := w64 (by omega) (by omega)
  have w3 : wrap64 ((j : Int) + 2) = ((j + 2 : Nat) : Int) := by rw [w64 (by omega) (by omega)]; omega
  induction n with
  | zero =>
    intro i out hi hn _ _ h
    refine EvP.succ ?_
    simp only [spec_l4Unpack.l1, w1, w2, w3]
    exact EvP.pos (by omega) (EvP.pos (by omega) (EvP.neg (by omega) h))
  | succ n ih =>
    intro i out hi hn hbo hlo h
    have wi : wrap64 (i + 1) = i + 1 := w64 (by omega) (by omega)
    have wb : wrap64 ((out.length : Int) - (b : Int)) = (out.length : Int) - b := w64 (by omega) (by omega)
    refine EvP.succ ?_
    simp only [spec_l4Unpack.l1, w1, w2, w3, hbb, wb, wi]
    refine EvP.pos (by omega) (EvP.pos (by omega) (EvP.pos (by omega) (EvP.pos (by omega) (EvP.pos (by omega) (EvP.pos (by omega) (EvP.pos (by omega) (EvP.pos (by omega) ?_)))))))
    exact ih (i + 1) _ (by omega) (by omega) (by simp; omega) (by simp; omega) h
theorem l4_fail {xs out : List Int} {j : Int} : EvV (fun k => spec_l4Unpack.j1 k xs out j false) ([], false) := by
  refine EvP.succ ?_
  simp only [spec_l4Unpack.j1]
  exact EvP.neg (by decide) (EvP.ret rfl)
theorem l4_l0 {xs : List Int} (hb : allB xs = true) (hl : xs.length ≤ 1000000000000) (d : Nat) : ∀ (j : Nat) (out : List Int), xs.length - j ≤ d → out.length ≤ 200 → EvV (fun k => spec_l4Unpack.l0 k xs out (j : Int)) (unp d (xs.drop j) out) := by
  induction d with
  | zero =>
    intro j out hd _
    refine EvP.succ ?_
    simp only [spec_l4Unpack.l0]
    rw [drop_end xs j (by omega), unp_nil]
    exact EvP.neg (by omega) (EvP.ret rfl)
  | succ d ih =>
    intro j out hd ho
    by_cases hlt : j < xs.length
    · have r0 := rd_nat xs j hlt
      have hx := rd_byte hb j
      have w1 : wrap64 ((j : Int) + 1) = (j : Int) + 1 := w64 (by omega) (by omega)
      have w2 : wrap64 (rd xs j + 1) = rd xs j + 1 := w64 (by omega) (by omega)
      have w3 : wrap64 ((j : Int) + (rd xs j + 1)) = (j : Int) + (rd xs j + 1) := w64 (by omega) (by omega)
      have w4 : wrap64 ((j : Int) + 1 + (rd xs j + 1)) = (j : Int) + 1 + (rd xs j + 1) := w64 (by omega) (by omega)
      have hlen : (xs.drop (j + 1)).length = xs.length - (j + 1) := by simp
      refine EvP.succ ?_
      simp only [spec_l4Unpack.l0, w1, w2, w3, w4, l6In_eq, Option.bind_some]
      rw [drop_cons xs j hlt, ← r0]
      simp only [unp]
      refine EvP.pos (by omega) (EvP.pos (by omega) (EvP.ite (fun h64 => ?_) (fun h64 => ?_)))
      · rw [if_pos h64]
        refine EvP.ite (fun g => EvP.ret ?_) (fun g => ?_)
        · rw [if_pos (by omega)]
        · rw [if_neg (by omega : ¬ ((xs.drop (j + 1)).length : Int) < rd xs j + 1)]
          have e1 : ((j : Int) + 1 + (rd xs j + 1)).toNat = j + 1 + (rd xs j + 1).toNat := by omega
          have e2 : ((j : Int) + 1).toNat = j + 1 := by omega
          have e3 : (xs.take (j + 1 + (rd xs j + 1).toNat)).drop (j + 1) = (xs.drop (j + 1)).take (rd xs j + 1).toNat := by rw [List.drop_take]; congr 1; omega
          have e4 : (j : Int) + 1 + (rd xs j + 1) = ((j + 1 + (rd xs j + 1).toNat : Nat) : Int) := by omega
          have e5 : (xs.drop (j + 1)).drop (rd xs j + 1).toNat = xs.drop (j + 1 + (rd xs j + 1).toNat) := by rw [List.drop_drop]
          have l5 : ((xs.drop (j + 1)).take (rd xs j + 1).toNat).length ≤ 1000 := by simp; omega
          rw [e1, e2, e3, e5]
          refine EvP.pos (by omega) (EvP.pos (by omega) (EvP.pos (by omega) (EvP.pos (by omega) (EvP.ite (fun c => EvP.ret (by rw [if_pos c])) (fun c => ?_)))))
          rw [if_neg c, e4]
          exact ih _ _ (by omega) (by omega)
      · rw [if_neg h64]
        refine EvP.ite (fun h128 => ?_) (fun h128 => ?_)
        · rw [if_pos h128]
          refine EvP.ite (fun g => ?_) (fun g => ?_)
          · have g' : j + 1 < xs.length := by omega
            have rc : xs.drop (j + 1) = xs[j + 1] :: xs.drop (j + 2) := drop_cons xs (j + 1) g'
            have r1 : rd xs ((j : Int) + 1) = xs[j + 1] := by have := rd_nat xs (j + 1) g'; rwa [Int.natCast_add] at this
            have hx1 := rd_byte hb ((j : Int) + 1)
            have hd0 : (xs.drop (j + 1)).headD 0 = rd xs ((j : Int) + 1) := by rw [rc]; exact r1.symm
            have e6 : (xs.drop (j + 1)).drop 1 = xs.drop (j + 2) := by rw [List.drop_drop]
            rw [if_neg (by rw [rc]; exact List.cons_ne_nil _ _ : ¬ xs.drop (j + 1) = []), hd0, e6]
            refine EvP.pos (by omega) (EvP.succ ?_)
            simp only [spec_l4Unpack.j1]
            refine EvP.ite (fun c => ?_) (fun c => EvP.ret ?_)
            · have c' : 1 ≤ rd xs ((j : Int) + 1) ∧ rd xs ((j : Int) + 1) ≤ out.length := by simpa using c
              rw [if_neg (by omega : ¬ (rd xs ((j : Int) + 1) < 1 ∨ rd xs ((j : Int) + 1) > out.length))]
              obtain ⟨b, hbb⟩ := Int.eq_ofNat_of_zero_le hx1.1
              have eb : (rd xs ((j : Int) + 1)).toNat = b := by omega
              rw [eb]
              refine l4_l1 hb hl j g' (by omega) h128 b hbb (by omega) _ (rd xs j - 61).toNat 0 out (by decide) (by omega) (by omega) (by omega) ?_
              refine EvP.ite (fun c2 => EvP.ret (by rw [if_pos c2])) (fun c2 => ?_)
              rw [if_neg c2]
              exact ih (j + 2) _ (by omega) (by omega)
            · have c' : ¬ (1 ≤ rd xs ((j : Int) + 1) ∧ rd xs ((j : Int) + 1) ≤ out.length) := by simpa using c
              rw [if_pos (by omega)]
          · rw [if_pos (List.drop_eq_nil_of_le (by omega))]; exact l4_fail
        · rw [if_neg h128]; exact l4_fail
    · refine EvP.succ ?_
      simp only [spec_l4Unpack.l0]
      rw [drop_end xs j (by omega), unp_nil]
      exact EvP.neg (by omega) (EvP.ret rfl)

theorem sUnpack_ev (xs : List Int) (hl : xs.length ≤ 1000000000000) : EvV (fun k => spec_UnpackBytes.f k xs) (unpackL xs) := by
  unfold spec_UnpackBytes.f unpackL
  refine EvV.bind (l1Ok_ev xs (by omega)) (EvP.ite (fun hb => ?_) (fun hb => EvP.ret (by rw [if_neg hb])))
  rw [if_pos hb]
  unfold spec_l4Unpack.f
  exact EvV.bind (l4_l0 hb hl xs.length 0 [] (by omega) (by simp)) (EvP.ret rfl)

theorem iu_l1 {xs : List Int} (b m : Nat) (hb1 : 1 ≤ b) (hm : m ≤ 1000) (j : Int) (res : List Int × Bool)
    (n : Nat) : ∀ (i : Int) (out : List Int), 0 ≤ i → i + n = m → b ≤ out.length → out.length ≤ 1000 + i →
    EvV (fun k => if ((rept n b out).length : Int) > 200 then some (([] : List Int), false) else impl_UnpackBytes.l0 k xs (rept n b out) j) res →
    EvV (fun k => impl_UnpackBytes.l1 k xs out j (b : Int) (m : Int) i) res := by
  induction n with
  | zero =>
    intro i out hi hn _ _ h
    refine EvP.succ ?_
    simp only [impl_UnpackBytes.l1]
    exact EvP.neg (by omega) h
  | succ n ih =>
    intro i out hi hn hbo hlo h
    have wi : wrap64 (i + 1) = i + 1 := w64 (by omega) (by omega)
    have wb : wrap64 ((out.length : Int) - (b : Int)) = (out.length : Int) - b := w64 (by omega) (by omega)
    refine EvP.succ ?_
    simp only [impl_UnpackBytes.l1, wb, wi]
    refine EvP.pos (by omega) (EvP.pos (by omega) (EvP.pos (by omega) (EvP.pos (by omega) ?_)))
    exact ih (i + 1) _ (by omega) (by omega) (by simp; omega) (by simp; omega) h
theorem iu_fail {xs out : List Int} {j n b : Int} : EvV (fun k => impl_UnpackBytes.j1 k xs out j n b true) ([], false) := by
  refine EvP.succ ?_
  simp only [impl_UnpackBytes.j1]
  exact EvP.pos (by simp) (EvP.ret rfl)
theorem iu_l0 {xs : List Int} (hb : allB xs = true) (hl : xs.length ≤ 1000000000000) (d : Nat) : ∀ (j : Nat) (out : List Int), xs.length - j ≤ d → out.length ≤ 200 → EvV (fun k => impl_UnpackBytes.l0 k xs out (j : Int)) (unp d (xs.drop j) out) := by
  induction d with
  | zero =>
    intro j out hd _
    refine EvP.succ ?_
    simp only [impl_UnpackBytes.l0]
    rw [drop_end xs j (by omega), unp_nil]
    exact EvP.neg (by omega) (EvP.ret rfl)
  | succ d ih =>
    intro j out hd ho
    by_cases hlt : j < xs.length
    · have r0 := rd_nat xs j hlt
      have hx := rd_byte hb j
      have w1 : wrap64 ((j : Int) + 1) = (j : Int) + 1 := w64 (by omega) (by omega)
      have w1' : wrap64 ((j : Int) + 1 + 1) = ((j + 2 : Nat) : Int) := by rw [w64 (by omega) (by omega)]; omega
      have w2 : wrap64 (rd xs j + 1) = rd xs j + 1 := w64 (by omega) (by omega)
      have w3 : wrap64 ((j : Int) + 1 + rd xs j) = (j : Int) + 1 + rd xs j := w64 (by omega) (by omega)
      have w3' : wrap64 ((j : Int) + 1 + rd xs j + 1) = (j : Int) + 1 + (rd xs j + 1) := by rw [w64 (by omega) (by omega)]; omega
      have w4 : wrap64 ((j : Int) + 1 + (rd xs j + 1)) = (j : Int) + 1 + (rd xs j + 1) := w64 (by omega) (by omega)
      have w5 : wrap64 ((xs.length : Int) - ((j : Int) + 1)) = (xs.length : Int) - ((j : Int) + 1) := w64 (by omega) (by omega)
      have hlen : (xs.drop (j + 1)).length = xs.length - (j + 1) := by simp
      refine EvP.succ ?_
      simp only [impl_UnpackBytes.l0, w1, w1', w2, w3, w3', w4, w5, Option.bind_some]
      rw [drop_cons xs j hlt, ← r0]
      simp only [unp]
      refine EvP.pos (by omega) (EvP.pos (by omega) (EvP.ite (fun h64 => ?_) (fun h64 => ?_)))
      · rw [if_pos h64]
        refine EvP.ite (fun g => EvP.ret ?_) (fun g => ?_)
        · rw [if_pos (by omega)]
        · rw [if_neg (by omega : ¬ ((xs.drop (j + 1)).length : Int) < rd xs j + 1)]
          have e1 : ((j : Int) + 1 + (rd xs j + 1)).toNat = j + 1 + (rd xs j + 1).toNat := by omega
          have e2 : ((j : Int) + 1).toNat = j + 1 := by omega
          have e3 : (xs.take (j + 1 + (rd xs j + 1).toNat)).drop (j + 1) = (xs.drop (j + 1)).take (rd xs j + 1).toNat := by rw [List.drop_take]; congr 1; omega
          have e4 : (j : Int) + 1 + (rd xs j + 1) = ((j + 1 + (rd xs j + 1).toNat : Nat) : Int) := by omega
          have e5 : (xs.drop (j + 1)).drop (rd xs j + 1).toNat = xs.drop (j + 1 + (rd xs j + 1).toNat) := by rw [List.drop_drop]
          have l5 : ((xs.drop (j + 1)).take (rd xs j + 1).toNat).length ≤ 1000 := by simp; omega
          rw [e1, e2, e3, e5]
          refine EvP.pos (by omega) (EvP.pos (by omega) (EvP.pos (by omega) (EvP.pos (by omega) (EvP.ite (fun c => EvP.ret (by rw [if_pos c])) (fun c => ?_)))))
          rw [if_neg c, e4]
          exact ih _ _ (by omega) (by omega)
      · rw [if_neg h64]
        refine EvP.ite (fun h128 => ?_) (fun h128 => EvP.ret (by rw [if_neg h128]))
        rw [if_pos h128]
        refine EvP.ite (fun g => EvP.ret ?_) (fun g => ?_)
        · rw [if_pos (List.drop_eq_nil_of_le (by omega))]
        · have g' : j + 1 < xs.length := by omega
          have rc : xs.drop (j + 1) = xs[j + 1] :: xs.drop (j + 2) := drop_cons xs (j + 1) g'
          have r1 : rd xs ((j : Int) + 1) = xs[j + 1] := by have := rd_nat xs (j + 1) g'; rwa [Int.natCast_add] at this
          have hx1 := rd_byte hb ((j : Int) + 1)
          have hd0 : (xs.drop (j + 1)).headD 0 = rd xs ((j : Int) + 1) := by rw [rc]; exact r1.symm
          have e6 : (xs.drop (j + 1)).drop 1 = xs.drop (j + 2) := by rw [List.drop_drop]
          rw [if_neg (by rw [rc]; exact List.cons_ne_nil _ _ : ¬ xs.drop (j + 1) = []), hd0, e6]
          refine EvP.pos (by omega) (EvP.pos (by omega) (EvP.ite (fun c => ?_) (fun c => ?_)))
          · rw [if_pos (Or.inl c)]; exact iu_fail
          · by_cases c2 : rd xs ((j : Int) + 1) > out.length
            · rw [if_pos (Or.inr c2), decide_eq_true c2]; exact iu_fail
            · rw [if_neg (by omega : ¬ (rd xs ((j : Int) + 1) < 1 ∨ rd xs ((j : Int) + 1) > out.length)), decide_eq_false c2]
              obtain ⟨b, hbb⟩ := Int.eq_ofNat_of_zero_le hx1.1
              obtain ⟨m, hm⟩ := Int.eq_ofNat_of_zero_le (by omega : 0 ≤ rd xs j - 61)
              have wm : wrap64 (rd xs j - 61) = (m : Int) := by rw [w64 (by omega) (by omega)]; exact hm
              refine EvP.succ ?_
              simp only [impl_UnpackBytes.j1, wm, hbb]
              have eb : ((b : Int)).toNat = b := by omega
              have em : (rd xs j - 61).toNat = m := by omega
              rw [eb, em]
              refine EvP.neg (by decide) ?_
              refine iu_l1 b m (by omega) (by omega) _ _ m 0 out (by decide) (by omega) (by omega) (by omega) ?_
              refine EvP.ite (fun c3 => EvP.ret (by rw [if_pos c3])) (fun c3 => ?_)
              rw [if_neg c3]
              exact ih (j + 2) _ (by omega) (by omega)
    · refine EvP.succ ?_
      simp only [impl_UnpackBytes.l0]
      rw [drop_end xs j (by omega), unp_nil]
      exact EvP.neg (by omega) (EvP.ret rfl)
theorem iUnpack_ev (xs : List Int) (hl : xs.length ≤ 1000000000000) : EvV (fun k => impl_UnpackBytes.f k xs) (unpackL xs) := by
  unfold impl_UnpackBytes.f unpackL
  refine EvV.bind (allBytes_ev xs (by omega)) (EvP.ite (fun hb => ?_) (fun hb => EvP.ret (by rw [if_neg hb])))
  rw [if_pos hb]
  exact iu_l0 hb hl xs.length 0 [] (by omega) (by simp)

theorem FnExactUnpackBytes : laws_FnExactUnpackBytes.Pure := by
  intro l _ _ _
  refine EvP.done ?_
  unfold laws_FnExactUnpackBytes.f
  refine EvP.ite (fun _ => EvP.ret rfl) (fun h => ?_)
  have t := toIntS_ev l (by omega)
  have s := sUnpack_ev l (by omega)
  have i := iUnpack_ev l (by omega)
  have L := unpackL_len l
  generalize unpackL l = r at s i L
  obtain ⟨xs, b⟩ := r
  dsimp only at L
  have q := (eqIntS_ev xs xs (by omega)).to (w := true) (by simp)
  have ql := (eqIntS_ev l l (by omega)).to (w := true) (by simp)
  refine EvV.bind t (EvV.bind s (EvV.bind t (EvV.bind i (EvV.bind q (EvP.pos (by simp) (EvP.succ ?_))))))
  simp only [laws_FnExactUnpackBytes.j0]
  refine EvP.neg (by simp) (EvV.bind t (EvV.bind ql (EvP.pos (by simp) (EvP.bind (markIntS_ev l 1 (by decide) (by decide) (by omega)) ?_))))
  rintro ⟨m0, ys0⟩ ⟨hm0, _, _⟩
  dsimp only at hm0 ⊢
  refine EvP.neg (by omega) (EvV.bind q (EvP.pos (by simp) (EvP.succ ?_)))
  simp only [laws_FnExactUnpackBytes.j1]
  refine EvP.neg (by simp) (EvP.bind (markIntS_ev xs 1 (by decide) (by decide) (by omega)) ?_)
  rintro ⟨m, ys⟩ ⟨hm, hy, hM⟩
  dsimp only at hm hy hM ⊢
  have hh := heldIntS_ev ys 1 (by decide) (by decide) (by omega) hM
  refine EvV.bind hh (EvP.neg (by omega) (EvP.pos (by omega) (EvV.bind t (EvV.bind i (EvV.bind q (EvP.pos (by simp) (EvP.succ ?_)))))))
  simp only [laws_FnExactUnpackBytes.j2]
  exact EvP.neg (by simp) (EvV.bind hh (EvP.neg (by omega) (EvP.pos (by omega) (EvP.ret rfl))))

end Go.Proofs.Ytdgpkjjclngamaa.Pure
