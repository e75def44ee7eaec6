/- The program's IntFrom and the reference's tell the same number and leave the bytes as they are, for all arguments; there is no condition. -/
import Derived.Test.YtohbbdklddinoaaQFnExactIntFromx2
import Derived.Test.YtohbbdklddinoaaMath
import Derived.Test.YtohbbdklddinoaaMath2
import Derived.Test.YtohbbdklddinoaaMath3
set_option linter.unusedVariables false
set_option linter.unusedSimpArgs false
namespace Go.Proofs.Ytohbbdklddinoaa.Pure
open Go.RowKit Go.Proofs.Ytohbbdklddinoaa.QFnExactIntFrom Go.Proofs.YtohbbdklddinoaaW.PrintWords Go.Proofs.YtohbbdklddinoaaW.PrintLast Go.Proofs.YtohbbdklddinoaaW.PrintMore Go.Proofs.Ytohbbdklddinoaa.M

theorem l6In_eq (a b c : Int) : spec_l6In.f a b c = some (decide (b ≤ a ∧ a ≤ c)) := by
  unfold spec_l6In.f
  by_cases h : a ≥ b
  · rw [if_pos h]; congr 1; simp only [decide_eq_decide]; omega
  · rw [if_neg h]; congr 1; symm; simp only [decide_eq_false_iff_not]; omega

theorem l1Ok_l0 (xs : List Int) (hl : xs.length ≤ 1000000000000000000) (d : Nat) : ∀ j : Nat, j ≤ xs.length → xs.length - j = d → EvV (fun k => spec_l1Ok.l0 k xs (j : Int)) (allB (xs.drop j)) := by
  induction d with
  | zero =>
    intro j hj hd
    refine EvP.succ ?_
    simp only [spec_l1Ok.l0]
    rw [drop_end xs j (by omega)]
    exact EvP.neg (by omega) (EvP.ret rfl)
  | succ d ih =>
    intro j hj hd
    have hlt : j < xs.length := by omega
    refine EvP.succ ?_
    simp only [spec_l1Ok.l0, l6In_eq, Option.bind_some, rd_nat xs j hlt, w64_succ hlt hl]
    refine EvP.pos (by omega) (EvP.pos (by omega) ?_)
    rw [drop_cons xs j hlt]
    refine EvP.ite (fun h => ?_) (fun h => EvP.ret ?_)
    · have hb : isB xs[j] = true := h
      exact (ih (j + 1) (by omega) (by omega)).to (allB_cons_t hb)
    · have hb : isB xs[j] = false := by simpa [isB] using h
      exact allB_cons_f hb
theorem l1Ok_ev (xs : List Int) (hl : xs.length ≤ 1000000000000000000) : EvV (fun k => spec_l1Ok.f k xs) (allB xs) := by
  unfold spec_l1Ok.f; exact l1Ok_l0 xs hl xs.length 0 (by omega) (by omega)

theorem isByte_eq (x : Int) : impl_isByte.f x = some (isB x) := by
  unfold impl_isByte.f isB
  by_cases h : x ≥ 0
  · rw [if_pos h]; congr 1; simp only [decide_eq_decide]; omega
  · rw [if_neg h]; congr 1; symm; simp only [decide_eq_false_iff_not]; omega

theorem allBytes_l0 (xs : List Int) (hl : xs.length ≤ 1000000000000000000) (d : Nat) : ∀ j : Nat, j ≤ xs.length → xs.length - j = d → EvV (fun k => impl_allBytes.l0 k xs (xs.length : Int) (j : Int)) (allB (xs.drop j)) := by
  induction d with
  | zero =>
    intro j hj hd
    refine EvP.succ ?_
    simp only [impl_allBytes.l0]
    rw [drop_end xs j (by omega)]
    exact EvP.neg (by omega) (EvP.ret rfl)
  | succ d ih =>
    intro j hj hd
    have hlt : j < xs.length := by omega
    refine EvP.succ ?_
    simp only [impl_allBytes.l0, isByte_eq, Option.bind_some, rd_nat xs j hlt, w64_succ hlt hl]
    refine EvP.pos (by omega) (EvP.pos (by omega) (EvP.pos (by omega) ?_))
    rw [drop_cons xs j hlt]
    refine EvP.ite (fun h => ?_) (fun h => EvP.ret ?_)
    · exact (ih (j + 1) (by omega) (by omega)).to (allB_cons_t h)
    · exact allB_cons_f (by simpa using h)
theorem allBytes_ev (xs : List Int) (hl : xs.length ≤ 1000000000000000000) : EvV (fun k => impl_allBytes.f k xs) (allB xs) := by
  unfold impl_allBytes.f; exact allBytes_l0 xs hl xs.length 0 (by omega) (by omega)

theorem l2From_ev {xs : List Int} {a m : Int} (hl : xs.length ≤ 1000000000000000000) (hb : allB xs = true) (h0 : 1 ≤ m) (h1 : m ≤ 3) (ha : 0 ≤ a) (hm : a + m ≤ xs.length) :
    EvV (fun k => spec_l2From.f k xs a m) (joinB ((xs.take (a + m).toNat).drop a.toNat)) := by
  obtain ⟨j, rfl⟩ := Int.eq_ofNat_of_zero_le ha
  obtain ⟨q, rfl⟩ := Int.eq_ofNat_of_zero_le (by omega : 0 ≤ m)
  have ew : wrap64 ((j : Int) + (q : Int)) = ((j + q : Nat) : Int) := by rw [w64 (by omega) (by omega)]; omega
  have e1 : ((j : Int) + (q : Int)).toNat = j + q := by omega
  have e2 : ((j : Int)).toNat = j := by omega
  rw [e1, e2]
  have key : ∀ (d i : Nat) (n : Int), j ≤ i → i + d = j + q → 0 ≤ n → n < 256 ^ (q - d) → EvV (fun k => spec_l2From.l0 k xs (j : Int) (q : Int) n (i : Int)) (((xs.take (j + q)).drop i).foldl (fun n b => 256 * n + b) n) := by
    intro d
    induction d with
    | zero =>
      intro i n _ hi _ _
      refine EvP.succ ?_
      simp only [spec_l2From.l0, ew]
      rw [drop_end _ i (by simp; omega)]
      exact EvP.neg (by omega) (EvP.ret rfl)
    | succ d ih =>
      intro i n hji hi hn hn2
      have hlt : i < xs.length := by omega
      have hx := allB_get hb i hlt
      by_cases hqd : d + 1 ≤ q
      · have hc : (256 : Int) ^ (q - (d + 1)) ≤ 65536 := by
          have : q - (d + 1) = 0 ∨ q - (d + 1) = 1 ∨ q - (d + 1) = 2 := by omega
          rcases this with h | h | h <;> rw [h] <;> decide
        have hs : (256 : Int) ^ (q - d) = 256 * 256 ^ (q - (d + 1)) := by
          have : q - d = (q - (d + 1)) + 1 := by omega
          rw [this, Int.pow_succ]; omega
        refine EvP.succ ?_
        simp only [spec_l2From.l0, ew, rd_nat xs i hlt, w64_succ hlt hl]
        refine EvP.pos (by omega) (EvP.pos (by omega) (EvP.pos (by omega) ?_))
        rw [w64 (x := 256 * n) (by omega) (by omega), w64 (by omega) (by omega)]
        have hlt2 : i < (xs.take (j + q)).length := by simp; omega
        rw [drop_cons _ i hlt2]
        have : (xs.take (j + q))[i] = xs[i] := by simp
        rw [this]
        exact ih (i + 1) _ (by omega) (by omega) (by omega) (by omega)
      · exfalso; omega
  unfold spec_l2From.f
  exact key q j 0 (Nat.le_refl _) rfl (by decide) (by simp)

theorem sIntFrom_ev (xs : List Int) (a m : Int) (hl : xs.length ≤ 1000000000000000000) : EvV (fun k => spec_IntFrom.f k xs a m) (intFC xs a m) := by
  unfold spec_IntFrom.f intFC
  simp only [l6In_eq, Option.bind_some]
  refine EvP.ite (fun h => ?_) (fun h => EvP.ret ?_)
  · have h' : 1 ≤ m ∧ m ≤ 3 := by simpa using h
    refine EvV.bind (l1Ok_ev xs hl) (EvP.ite (fun hb => ?_) (fun hb => EvP.ret ?_))
    · rw [w64 (by omega) (by omega)]
      refine EvP.ite (fun g => ?_) (fun g => EvP.ret ?_)
      · have g' : 0 ≤ a ∧ a ≤ xs.length - m := by simpa using g
        rw [if_pos ⟨h'.1, h'.2, hb, g'.1, g'.2⟩]
        exact EvV.bind (l2From_ev hl hb h'.1 h'.2 g'.1 (by omega)) (EvP.ret rfl)
      · have g' : ¬ (0 ≤ a ∧ a ≤ xs.length - m) := by simpa using g
        rw [if_neg (fun x => g' x.2.2.2)]
    · rw [if_neg (fun x => hb x.2.2.1)]
  · have h' : ¬ (1 ≤ m ∧ m ≤ 3) := by simpa using h
    rw [if_neg (fun x => h' ⟨x.1, x.2.1⟩)]

theorem intAt_ev {xs : List Int} {a m : Int} (hl : xs.length ≤ 1000000000000000000) (hb : allB xs = true) (h0 : 1 ≤ m) (h1 : m ≤ 3) (ha1 : -9223372036854775808 ≤ a) (ha2 : a ≤ 9223372036854775807) :
    EvV (fun k => impl_intAt.f k xs a m) (if 0 ≤ a ∧ a ≤ xs.length - m then (joinB ((xs.take (a + m).toNat).drop a.toNat), true) else (0, false)) := by
  have wl : wrap64 ((xs.length : Int) - m) = xs.length - m := w64 (by omega) (by omega)
  unfold impl_intAt.f
  rw [wl]
  refine EvP.ite (fun h => ?_) (fun h => ?_)
  · rw [if_neg (by omega)]
    refine EvP.succ ?_
    simp only [impl_intAt.j0]
    exact EvP.pos (by simp) (EvP.ret rfl)
  · refine EvP.succ ?_
    simp only [impl_intAt.j0]
    refine EvP.ite (fun g => EvP.ret ?_) (fun g => ?_)
    · have : a > xs.length - m := by simpa using g
      rw [if_neg (by omega)]
    · have g' : ¬ a > xs.length - m := by simpa using g
      rw [if_pos ⟨by omega, by omega⟩]
      have wam : wrap64 (a + m) = a + m := w64 (by omega) (by omega)
      rw [wam]
      refine EvP.pos (by omega) (EvP.pos (by omega) (EvP.pos (by omega) ?_))
      generalize hys : (xs.take (a + m).toNat).drop a.toNat = ys
      have hyl : ys.length = m := by rw [← hys]; simp; omega
      have hyb : allB ys = true := by
        rw [allB_iff]; intro x hx; rw [← hys] at hx
        exact allB_iff.1 hb x (List.mem_of_mem_take (List.mem_of_mem_drop hx))
      have key : ∀ (d i : Nat) (n : Int), i + d = ys.length → 0 ≤ n → n < 256 ^ i → EvV (fun k => impl_intAt.l0 k n ys (ys.length : Int) (i : Int)) ((ys.drop i).foldl (fun n b => 256 * n + b) n, true) := by
        intro d
        induction d with
        | zero =>
          intro i n hi _ _
          refine EvP.succ ?_
          simp only [impl_intAt.l0]
          rw [drop_end _ i (by omega)]
          exact EvP.neg (by omega) (EvP.ret rfl)
        | succ d ih =>
          intro i n hi hn hn2
          have hlt : i < ys.length := by omega
          have hx := allB_get hyb i hlt
          have hc : (256 : Int) ^ i ≤ 65536 := by
            have : i = 0 ∨ i = 1 ∨ i = 2 := by omega
            rcases this with h | h | h <;> rw [h] <;> decide
          refine EvP.succ ?_
          simp only [impl_intAt.l0, rd_nat ys i hlt, w64_succ hlt (by omega : ys.length ≤ 1000000000000000000)]
          refine EvP.pos (by omega) (EvP.pos (by omega) (EvP.pos (by omega) ?_))
          rw [w64 (x := n * 256) (by omega) (by omega), or_join 8 (n * 256) ys[i] (by omega) (by omega) (by omega) hx.1 (by omega) (by omega)]
          rw [drop_cons _ i hlt]
          have e : n * 256 + ys[i] = 256 * n + ys[i] := by omega
          rw [e]
          have hs : (256 : Int) ^ (i + 1) = 256 * 256 ^ i := by rw [Int.pow_succ]; omega
          exact ih (i + 1) _ (by omega) (by omega) (by omega)
      exact key ys.length 0 0 (by omega) (by decide) (by simp)

theorem iIntFrom_ev (xs : List Int) (a m : Int) (hl : xs.length ≤ 1000000000000000000) (ha1 : -9223372036854775808 ≤ a) (ha2 : a ≤ 9223372036854775807) : EvV (fun k => impl_IntFrom.f k xs a m) (intFC xs a m) := by
  unfold impl_IntFrom.f intFC
  refine EvP.ite (fun h => EvP.ret (by rw [if_neg (by omega)])) (fun h => ?_)
  refine EvP.ite (fun g => EvP.ret (by rw [if_neg (by omega)])) (fun g => ?_)
  refine EvV.bind (allBytes_ev xs hl) (EvP.ite (fun hb => ?_) (fun hb => EvP.ret ?_))
  · refine EvV.bind (intAt_ev hl hb (by omega) (by omega) ha1 ha2) (EvP.ret ?_)
    by_cases c : 0 ≤ a ∧ a ≤ xs.length - m
    · rw [if_pos c, if_pos ⟨by omega, by omega, hb, c.1, c.2⟩]
    · rw [if_neg c, if_neg (fun x => c x.2.2.2)]
  · rw [if_neg (fun x => hb x.2.2.1)]

theorem eqIntS_l0 (xs ys : List Int) (he : xs.length = ys.length) (hl : xs.length ≤ 1000000000000000000) (d : Nat) : ∀ j : Nat, j ≤ xs.length → xs.length - j = d → EvV (fun k => laws_eqIntS.l0 k xs ys (j : Int)) (decide (xs.drop j = ys.drop j)) := by
  induction d with
  | zero =>
    intro j hj hd
    refine EvP.succ ?_
    simp only [laws_eqIntS.l0]
    rw [drop_end xs j (by omega), drop_end ys j (by omega)]
    exact EvP.neg (by omega) (EvP.ret (by simp))
  | succ d ih =>
    intro j hj hd
    have hlt : j < xs.length := by omega
    have hlt2 : j < ys.length := by omega
    refine EvP.succ ?_
    simp only [laws_eqIntS.l0, rd_nat xs j hlt, rd_nat ys j hlt2, w64_succ hlt hl]
    refine EvP.pos (by omega) (EvP.pos (by omega) (EvP.pos (by omega) ?_))
    rw [drop_cons xs j hlt, drop_cons ys j hlt2]
    refine EvP.ite (fun h => ?_) (fun h => EvP.ret ?_)
    · exact (ih (j + 1) (by omega) (by omega)).to (dec_cons_t h)
    · exact dec_cons_f h
theorem eqIntS_ev (xs ys : List Int) (hl : xs.length ≤ 1000000000000000000) : EvV (fun k => laws_eqIntS.f k xs ys) (decide (xs = ys)) := by
  unfold laws_eqIntS.f
  refine EvP.ite (fun h => ?_) (fun h => EvP.ret ?_)
  · exact eqIntS_l0 xs ys (by omega) hl xs.length 0 (by omega) (by omega)
  · have : ¬ xs = ys := by rintro rfl; exact h rfl
    simp [this]

theorem toIntS_ev (xs : List Int) (hl : xs.length ≤ 1000000000000) : EvV (fun k => laws_toIntS.f k xs) xs := by
  have key : ∀ (d j : Nat) (ys : List Int), j + d = xs.length → ys.length = xs.length → ys.take j = xs.take j → EvV (fun k => laws_toIntS.l0 k xs ys (j : Int)) xs := by
    intro d
    induction d with
    | zero =>
      intro j ys hj hy ht
      refine EvP.succ ?_
      simp only [laws_toIntS.l0]
      refine EvP.neg (by omega) (EvP.ret ?_)
      rw [List.take_of_length_le (by omega), List.take_of_length_le (by omega)] at ht
      exact ht.symm
    | succ d ih =>
      intro j ys hj hy ht
      have hlt : j < xs.length := by omega
      refine EvP.succ ?_
      simp only [laws_toIntS.l0, rd_nat xs j hlt, w64_succ hlt (by omega : xs.length ≤ 1000000000000000000)]
      refine EvP.pos (by omega) (EvP.pos (by omega) (EvP.pos (by omega) ?_))
      have e : ((j : Int)).toNat = j := by omega
      rw [e]
      refine ih (j + 1) _ (by omega) (by simpa using hy) ?_
      rw [List.take_add_one, List.take_add_one, List.take_set_of_le (Nat.le_refl _), ht]
      simp [hlt, hy]
  unfold laws_toIntS.f
  refine EvP.pos (by omega) (EvP.pos (by omega) ?_)
  exact key xs.length 0 _ (by omega) (by simp) (by simp)

theorem FnExactIntFrom : laws_FnExactIntFrom.Pure := by
  intro l a m _ _ _ ha _
  obtain ⟨a0, a1⟩ := wf_i64 ha
  refine EvP.done ?_
  unfold laws_FnExactIntFrom.f
  refine EvP.ite (fun _ => EvP.ret rfl) (fun h => ?_)
  have t := toIntS_ev l (by omega)
  have q := (eqIntS_ev l l (by omega)).to (w := true) (by simp)
  refine EvV.bind t (EvV.bind (sIntFrom_ev l a m (by omega)) (EvV.bind t (EvV.bind (iIntFrom_ev l a m (by omega) a0 a1) (EvP.pos rfl (EvP.succ ?_)))))
  simp only [laws_FnExactIntFrom.j0]
  exact EvP.neg (by simp) (EvV.bind t (EvV.bind q (EvP.pos rfl (EvP.ret rfl))))

end Go.Proofs.Ytohbbdklddinoaa.Pure
