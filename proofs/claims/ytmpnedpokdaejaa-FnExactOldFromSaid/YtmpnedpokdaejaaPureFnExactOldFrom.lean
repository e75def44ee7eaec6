/- The program's OldFrom and the reference's read the same message out of all bytes, which shares no memory with them or another call's; there is no condition. -/
import Derived.Test.YtmpnedpokdaejaaQFnExactOldFromx8
import Derived.Test.YtmpnedpokdaejaaMath
import Derived.Test.YtmpnedpokdaejaaMath2
import Derived.Test.YtmpnedpokdaejaaMath3
import Derived.Test.YtmpnedpokdaejaaMath4
set_option linter.unusedVariables false
set_option linter.unusedSimpArgs false
namespace Go.Proofs.Ytmpnedpokdaejaa.Pure
open Go.RowKit Go.Proofs.Ytmpnedpokdaejaa.QFnExactOldFrom Go.Proofs.YtmpnedpokdaejaaW.PrintWords Go.Proofs.YtmpnedpokdaejaaW.PrintLast Go.Proofs.YtmpnedpokdaejaaW.PrintMore Go.Proofs.Ytmpnedpokdaejaa.M

theorem l6In_eq (a b c : Int) : spec_l6In.f a b c = some (decide (b ≤ a ∧ a ≤ c)) := by
  unfold spec_l6In.f
  by_cases h : a ≥ b
  · rw [if_pos h]; congr 1; simp only [decide_eq_decide]; omega
  · rw [if_neg h]; congr 1; symm; simp only [decide_eq_false_iff_not]; omega

theorem l1Ok_l0 (xs : List Int) (hl : xs.length ≤ 1000000000000000000) (d : Nat) : ∀ j : Nat, j ≤ xs.length → xs.length - j = d → EvV (fun k => spec_l1Ok.l0 k xs (j : Int)) (allB (xs.drop j)) := by
  induction d with
  | zero =>
    intro j hj hd
    refine EvP.succ ?_
    simp only [spec_l1Ok.l0]
    rw [drop_end xs j (by omega)]
    exact EvP.neg (by omega) (EvP.ret rfl)
  | succ d ih =>
    intro j hj hd
    have hlt : j < xs.length := by omega
    refine EvP.succ ?_
    simp only [spec_l1Ok.l0, l6In_eq, Option.bind_some, rd_nat xs j hlt, w64_succ hlt hl]
    refine EvP.pos (by omega) (EvP.pos (by omega) ?_)
    rw [drop_cons xs j hlt]
    refine EvP.ite (fun h => ?_) (fun h => EvP.ret ?_)
    · have hb : isB xs[j] = true := h
      exact (ih (j + 1) (by omega) (by omega)).to (allB_cons_t hb)
    · have hb : isB xs[j] = false := by simpa [isB] using h
      exact allB_cons_f hb
theorem l1Ok_ev (xs : List Int) (hl : xs.length ≤ 1000000000000000000) : EvV (fun k => spec_l1Ok.f k xs) (allB xs) := by
  unfold spec_l1Ok.f; exact l1Ok_l0 xs hl xs.length 0 (by omega) (by omega)

theorem isByte_eq (x : Int) : impl_isByte.f x = some (isB x) := by
  unfold impl_isByte.f isB
  by_cases h : x ≥ 0
  · rw [if_pos h]; congr 1; simp only [decide_eq_decide]; omega
  · rw [if_neg h]; congr 1; symm; simp only [decide_eq_false_iff_not]; omega

theorem allBytes_l0 (xs : List Int) (hl : xs.length ≤ 1000000000000000000) (d : Nat) : ∀ j : Nat, j ≤ xs.length → xs.length - j = d → EvV (fun k => impl_allBytes.l0 k xs (xs.length : Int) (j : Int)) (allB (xs.drop j)) := by
  induction d with
  | zero =>
    intro j hj hd
    refine EvP.succ ?_
    simp only [impl_allBytes.l0]
    rw [drop_end xs j (by omega)]
    exact EvP.neg (by omega) (EvP.ret rfl)
  | succ d ih =>
    intro j hj hd
    have hlt : j < xs.length := by omega
    refine EvP.succ ?_
    simp only [impl_allBytes.l0, isByte_eq, Option.bind_some, rd_nat xs j hlt, w64_succ hlt hl]
    refine EvP.pos (by omega) (EvP.pos (by omega) (EvP.pos (by omega) ?_))
    rw [drop_cons xs j hlt]
    refine EvP.ite (fun h => ?_) (fun h => EvP.ret ?_)
    · exact (ih (j + 1) (by omega) (by omega)).to (allB_cons_t h)
    · exact allB_cons_f (by simpa using h)
theorem allBytes_ev (xs : List Int) (hl : xs.length ≤ 1000000000000000000) : EvV (fun k => impl_allBytes.f k xs) (allB xs) := by
  unfold impl_allBytes.f; exact allBytes_l0 xs hl xs.length 0 (by omega) (by omega)

theorem l2Sum_l0 (xs : List Int) (hl : xs.length ≤ 1000000000000000000) (hb : allB xs = true) (d : Nat) : ∀ (j : Nat) (s : Int), j ≤ xs.length → xs.length - j = d → 0 ≤ s → s < 65521 → EvV (fun k => spec_l2Sum.l0 k xs s (j : Int)) ((xs.drop j).foldl sumStep s) := by
  induction d with
  | zero =>
    intro j s hj hd _ _
    refine EvP.succ ?_
    simp only [spec_l2Sum.l0]
    rw [drop_end xs j (by omega)]
    exact EvP.neg (by omega) (EvP.ret rfl)
  | succ d ih =>
    intro j s hj hd h0 h1
    have hlt : j < xs.length := by omega
    have hx := allB_get hb j hlt
    have e : Int.tmod (wrap64 (wrap64 (257 * s) + xs[j])) 65521 = sumStep s xs[j] := by
      rw [w64 (x := 257 * s) (by omega) (by omega), w64 (by omega) (by omega), tmod_pos (by omega)]; rfl
    refine EvP.succ ?_
    simp only [spec_l2Sum.l0, rd_nat xs j hlt, w64_succ hlt hl, e]
    refine EvP.pos (by omega) (EvP.pos (by omega) ?_)
    rw [drop_cons xs j hlt]
    exact ih (j + 1) _ (by omega) (by omega) (sumStep_rng _ _).1 (sumStep_rng _ _).2
theorem l2Sum_ev (xs : List Int) (hl : xs.length ≤ 1000000000000000000) (hb : allB xs = true) : EvV (fun k => spec_l2Sum.f k xs) (sumL xs) := by
  unfold spec_l2Sum.f; exact l2Sum_l0 xs hl hb xs.length 0 1 (by omega) (by omega) (by decide) (by decide)

theorem with_eq {s b : Int} (h0 : 0 ≤ s) (h1 : s < 65521) (hb : 0 ≤ b ∧ b ≤ 255) : impl_sum_with.f s b = some (sumStep s b) := by
  unfold impl_sum_with.f
  rw [w64 (x := 257 * s) (by omega) (by omega), w64 (by omega) (by omega), tmod_pos (by omega)]; rfl

theorem over_l0 (xs : List Int) (hl : xs.length ≤ 1000000000000000000) (hb : allB xs = true) (d : Nat) : ∀ (j : Nat) (s : Int), j ≤ xs.length → xs.length - j = d → 0 ≤ s → s < 65521 → EvV (fun k => impl_sum_over.l0 k s xs (xs.length : Int) (j : Int)) ((xs.drop j).foldl sumStep s) := by
  induction d with
  | zero =>
    intro j s hj hd _ _
    refine EvP.succ ?_
    simp only [impl_sum_over.l0]
    rw [drop_end xs j (by omega)]
    exact EvP.neg (by omega) (EvP.ret rfl)
  | succ d ih =>
    intro j s hj hd h0 h1
    have hlt : j < xs.length := by omega
    refine EvP.succ ?_
    simp only [impl_sum_over.l0, rd_nat xs j hlt, w64_succ hlt hl, with_eq h0 h1 (allB_get hb j hlt), Option.bind_some]
    refine EvP.pos (by omega) (EvP.pos (by omega) (EvP.pos (by omega) ?_))
    rw [drop_cons xs j hlt]
    exact ih (j + 1) _ (by omega) (by omega) (sumStep_rng _ _).1 (sumStep_rng _ _).2
theorem over_ev (xs : List Int) (hl : xs.length ≤ 1000000000000000000) (hb : allB xs = true) : EvV (fun k => impl_sum_over.f k 1 xs) (sumL xs) := by
  unfold impl_sum_over.f; exact over_l0 xs hl hb xs.length 0 1 (by omega) (by omega) (by decide) (by decide)

theorem l2Int_ev {n m : Int} (h0 : 1 ≤ m) (h1 : m ≤ 3) (hn : 0 ≤ n) (hn1 : n < 4611686018427387904) : EvV (fun k => spec_l2Int.f k n m) (intB n m) := by
  have d1 : wrap64 (Int.tdiv n 256) = n / 256 := by rw [tdiv_pos hn, w64 (by omega) (by omega)]
  have d2 : wrap64 (Int.tdiv (n / 256) 256) = n / 65536 := by rw [tdiv_pos (by omega), w64 (by omega) (by omega)]; omega
  have r0 : Int.tmod n 256 = n % 256 := tmod_pos hn
  have r1 : Int.tmod (n / 256) 256 = n / 256 % 256 := tmod_pos (by omega)
  have r2 : Int.tmod (n / 65536) 256 = n / 65536 % 256 := tmod_pos (by omega)
  have w0 : wrap64 (1 - 1) = 0 := w64 (by decide) (by decide)
  have w1 : wrap64 (2 - 1) = 1 := w64 (by decide) (by decide)
  have w2 : wrap64 (3 - 1) = 2 := w64 (by decide) (by decide)
  have w3 : wrap64 (0 - 1) = -1 := w64 (by decide) (by decide)
  refine EvV.of_add 4 fun k => ?_
  rcases m123 h0 h1 with rfl | rfl | rfl <;> simp [spec_l2Int.f, spec_l2Int.l0, w64, intB, d1, d2, r0, r1, r2, List.replicate, List.set]

theorem intOf_ev {n m : Int} (h0 : 1 ≤ m) (h1 : m ≤ 3) (hn : 0 ≤ n) (hn1 : n < 4611686018427387904) : EvV (fun k => impl_intOf.f k n m) (intB n m) := by
  have s0 : shr .i64 n 0 = n := by unfold shr; simp
  have s1 : shr .i64 n 8 = n / 256 := by unfold shr; rfl
  have s2 : shr .i64 n 16 = n / 65536 := by unfold shr; rfl
  have r0 : Go.bits .and .i64 n 255 = n % 256 := and255 hn (by omega)
  have r1 : Go.bits .and .i64 (n / 256) 255 = n / 256 % 256 := and255 (by omega) (by omega)
  have r2 : Go.bits .and .i64 (n / 65536) 255 = n / 65536 % 256 := and255 (by omega) (by omega)
  refine EvV.of_add 4 fun k => ?_
  rcases m123 h0 h1 with rfl | rfl | rfl <;> simp [impl_intOf.f, impl_intOf.l0, w64, intB, s0, s1, s2, r0, r1, r2, List.replicate, List.set]

theorem l2From_ev {xs : List Int} {a m : Int} (hl : xs.length ≤ 1000000000000000000) (hb : allB xs = true) (h0 : 1 ≤ m) (h1 : m ≤ 3) (ha : 0 ≤ a) (hm : a + m ≤ xs.length) :
    EvV (fun k => spec_l2From.f k xs a m) (joinB ((xs.take (a + m).toNat).drop a.toNat)) := by
  obtain ⟨j, rfl⟩ := Int.eq_ofNat_of_zero_le ha
  obtain ⟨q, rfl⟩ := Int.eq_ofNat_of_zero_le (by omega : 0 ≤ m)
  have ew : wrap64 ((j : Int) + (q : Int)) = ((j + q : Nat) : Int) := by rw [w64 (by omega) (by omega)]; omega
  have e1 : ((j : Int) + (q : Int)).toNat = j + q := by omega
  have e2 : ((j : Int)).toNat = j := by omega
  rw [e1, e2]
  have key : ∀ (d i : Nat) (n : Int), j ≤ i → i + d = j + q → 0 ≤ n → n < 256 ^ (q - d) → EvV (fun k => spec_l2From.l0 k xs (j : Int) (q : Int) n (i : Int)) (((xs.take (j + q)).drop i).foldl (fun n b => 256 * n + b) n) := by
    intro d
    induction d with
    | zero =>
      intro i n _ hi _ _
      refine EvP.succ ?_
      simp only [spec_l2From.l0, ew]
      rw [drop_end _ i (by simp; omega)]
      exact EvP.neg (by omega) (EvP.ret rfl)
    | succ d ih =>
      intro i n hji hi hn hn2
      have hlt : i < xs.length := by omega
      have hx := allB_get hb i hlt
      by_cases hqd : d + 1 ≤ q
      · have hc : (256 : Int) ^ (q - (d + 1)) ≤ 65536 := by
          have : q - (d + 1) = 0 ∨ q - (d + 1) = 1 ∨ q - (d + 1) = 2 := by omega
          rcases this with h | h | h <;> rw [h] <;> decide
        have hs : (256 : Int) ^ (q - d) = 256 * 256 ^ (q - (d + 1)) := by
          have : q - d = (q - (d + 1)) + 1 := by omega
          rw [this, Int.pow_succ]; omega
        refine EvP.succ ?_
        simp only [spec_l2From.l0, ew, rd_nat xs i hlt, w64_succ hlt hl]
        refine EvP.pos (by omega) (EvP.pos (by omega) (EvP.pos (by omega) ?_))
        rw [w64 (x := 256 * n) (by omega) (by omega), w64 (by omega) (by omega)]
        have hlt2 : i < (xs.take (j + q)).length := by simp; omega
        rw [drop_cons _ i hlt2]
        have : (xs.take (j + q))[i] = xs[i] := by simp
        rw [this]
        exact ih (i + 1) _ (by omega) (by omega) (by omega) (by omega)
      · exfalso; omega
  unfold spec_l2From.f
  exact key q j 0 (Nat.le_refl _) rfl (by decide) (by simp)

theorem intAt_ev {xs : List Int} {a m : Int} (hl : xs.length ≤ 1000000000000000000) (hb : allB xs = true) (h0 : 1 ≤ m) (h1 : m ≤ 3) (ha1 : -9223372036854775808 ≤ a) (ha2 : a ≤ 9223372036854775807) :
    EvV (fun k => impl_intAt.f k xs a m) (if 0 ≤ a ∧ a ≤ xs.length - m then (joinB ((xs.take (a + m).toNat).drop a.toNat), true) else (0, false)) := by
  have wl : wrap64 ((xs.length : Int) - m) = xs.length - m := w64 (by omega) (by omega)
  unfold impl_intAt.f
  rw [wl]
  refine EvP.ite (fun h => ?_) (fun h => ?_)
  · rw [if_neg (by omega)]
    refine EvP.succ ?_
    simp only [impl_intAt.j0]
    exact EvP.pos (by simp) (EvP.ret rfl)
  · refine EvP.succ ?_
    simp only [impl_intAt.j0]
    refine EvP.ite (fun g => EvP.ret ?_) (fun g => ?_)
    · have : a > xs.length - m := by simpa using g
      rw [if_neg (by omega)]
    · have g' : ¬ a > xs.length - m := by simpa using g
      rw [if_pos ⟨by omega, by omega⟩]
      have wam : wrap64 (a + m) = a + m := w64 (by omega) (by omega)
      rw [wam]
      refine EvP.pos (by omega) (EvP.pos (by omega) (EvP.pos (by omega) ?_))
      generalize hys : (xs.take (a + m).toNat).drop a.toNat = ys
      have hyl : ys.length = m := by rw [← hys]; simp; omega
      have hyb : allB ys = true := by
        rw [allB_iff]; intro x hx; rw [← hys] at hx
        exact allB_iff.1 hb x (List.mem_of_mem_take (List.mem_of_mem_drop hx))
      have key : ∀ (d i : Nat) (n : Int), i + d = ys.length → 0 ≤ n → n < 256 ^ i → EvV (fun k => impl_intAt.l0 k n ys (ys.length : Int) (i : Int)) ((ys.drop i).foldl (fun n b => 256 * n + b) n, true) := by
        intro d
        induction d with
        | zero =>
          intro i n hi _ _
          refine EvP.succ ?_
          simp only [impl_intAt.l0]
          rw [drop_end _ i (by omega)]
          exact EvP.neg (by omega) (EvP.ret rfl)
        | succ d ih =>
          intro i n hi hn hn2
          have hlt : i < ys.length := by omega
          have hx := allB_get hyb i hlt
          have hc : (256 : Int) ^ i ≤ 65536 := by
            have : i = 0 ∨ i = 1 ∨ i = 2 := by omega
            rcases this with h | h | h <;> rw [h] <;> decide
          refine EvP.succ ?_
          simp only [impl_intAt.l0, rd_nat ys i hlt, w64_succ hlt (by omega : ys.length ≤ 1000000000000000000)]
          refine EvP.pos (by omega) (EvP.pos (by omega) (EvP.pos (by omega) ?_))
          rw [w64 (x := n * 256) (by omega) (by omega), or_join 8 (n * 256) ys[i] (by omega) (by omega) (by omega) hx.1 (by omega) (by omega)]
          rw [drop_cons _ i hlt]
          have e : n * 256 + ys[i] = 256 * n + ys[i] := by omega
          rw [e]
          have hs : (256 : Int) ^ (i + 1) = 256 * 256 ^ i := by rw [Int.pow_succ]; omega
          exact ih (i + 1) _ (by omega) (by omega) (by omega)
      exact key ys.length 0 0 (by omega) (by decide) (by simp)

theorem eqIntS_l0 (xs ys : List Int) (he : xs.length = ys.length) (hl : xs.length ≤ 1000000000000000000) (d : Nat) : ∀ j : Nat, j ≤ xs.length → xs.length - j = d → EvV (fun k => laws_eqIntS.l0 k xs ys (j : Int)) (decide (xs.drop j = ys.drop j)) := by
  induction d with
  | zero =>
    intro j hj hd
    refine EvP.succ ?_
    simp only [laws_eqIntS.l0]
    rw [drop_end xs j (by omega), drop_end ys j (by omega)]
    exact EvP.neg (by omega) (EvP.ret (by simp))
  | succ d ih =>
    intro j hj hd
    have hlt : j < xs.length := by omega
    have hlt2 : j < ys.length := by omega
    refine EvP.succ ?_
    simp only [laws_eqIntS.l0, rd_nat xs j hlt, rd_nat ys j hlt2, w64_succ hlt hl]
    refine EvP.pos (by omega) (EvP.pos (by omega) (EvP.pos (by omega) ?_))
    rw [drop_cons xs j hlt, drop_cons ys j hlt2]
    refine EvP.ite (fun h => ?_) (fun h => EvP.ret ?_)
    · exact (ih (j + 1) (by omega) (by omega)).to (dec_cons_t h)
    · exact dec_cons_f h
theorem eqIntS_ev (xs ys : List Int) (hl : xs.length ≤ 1000000000000000000) : EvV (fun k => laws_eqIntS.f k xs ys) (decide (xs = ys)) := by
  unfold laws_eqIntS.f
  refine EvP.ite (fun h => ?_) (fun h => EvP.ret ?_)
  · exact eqIntS_l0 xs ys (by omega) hl xs.length 0 (by omega) (by omega)
  · have : ¬ xs = ys := by rintro rfl; exact h rfl
    simp [this]

theorem toIntS_ev (xs : List Int) (hl : xs.length ≤ 1000000000000) : EvV (fun k => laws_toIntS.f k xs) xs := by
  have key : ∀ (d j : Nat) (ys : List Int), j + d = xs.length → ys.length = xs.length → ys.take j = xs.take j → EvV (fun k => laws_toIntS.l0 k xs ys (j : Int)) xs := by
    intro d
    induction d with
    | zero =>
      intro j ys hj hy ht
      refine EvP.succ ?_
      simp only [laws_toIntS.l0]
      refine EvP.neg (by omega) (EvP.ret ?_)
      rw [List.take_of_length_le (by omega), List.take_of_length_le (by omega)] at ht
      exact ht.symm
    | succ d ih =>
      intro j ys hj hy ht
      have hlt : j < xs.length := by omega
      refine EvP.succ ?_
      simp only [laws_toIntS.l0, rd_nat xs j hlt, w64_succ hlt (by omega : xs.length ≤ 1000000000000000000)]
      refine EvP.pos (by omega) (EvP.pos (by omega) (EvP.pos (by omega) ?_))
      have e : ((j : Int)).toNat = j := by omega
      rw [e]
      refine ih (j + 1) _ (by omega) (by simpa using hy) ?_
      rw [List.take_add_one, List.take_add_one, List.take_set_of_le (Nat.le_refl _), ht]
      simp [hlt, hy]
  unfold laws_toIntS.f
  refine EvP.pos (by omega) (EvP.pos (by omega) ?_)
  exact key xs.length 0 _ (by omega) (by simp) (by simp)

theorem markIntS_ev (xs : List Int) (s : Int) (hs0 : 0 ≤ s) (hs1 : s ≤ 1000000000000000) (hl : xs.length ≤ 1000000000000000) :
    EvP (fun k => laws_markIntS.f k xs s) (fun r => r.1 = s + xs.length ∧ r.2.length = xs.length ∧ Marked r.2 s) := by
  have key : ∀ (d j : Nat) (ys : List Int), j + d = xs.length → ys.length = xs.length → (∀ i (h : i < ys.length), i < j → ys[i] = s + i) → EvP (fun k => laws_markIntS.l0 k ys (s + j) (j : Int)) (fun r => r.1 = s + xs.length ∧ r.2.length = xs.length ∧ Marked r.2 s) := by
    intro d
    induction d with
    | zero =>
      intro j ys hj hy ht
      refine EvP.succ ?_
      simp only [laws_markIntS.l0]
      refine EvP.neg (by omega) (EvP.ret ⟨?_, hy, ?_⟩)
      · dsimp only; omega
      · intro i hi; exact ht i hi (by dsimp only at hi; omega)
    | succ d ih =>
      intro j ys hj hy ht
      have hlt : j < ys.length := by omega
      have e : ((j : Int)).toNat = j := by omega
      have e2 : wrap64 (s + (j : Int) + 1) = s + ((j + 1 : Nat) : Int) := by rw [w64 (by omega) (by omega)]; omega
      refine EvP.succ ?_
      simp only [laws_markIntS.l0, w64_succ hlt (by omega : ys.length ≤ 1000000000000000000), e, e2]
      refine EvP.pos (by omega) (EvP.pos (by omega) ?_)
      refine ih (j + 1) _ (by omega) (by simpa using hy) ?_
      intro i hi hij
      rw [List.getElem_set]
      split
      · rename_i h; omega
      · rename_i h; exact ht i (by simpa using hi) (by omega)
  unfold laws_markIntS.f
  have := key xs.length 0 xs (by omega) rfl (by intro i _ h; omega)
  simpa using this

theorem heldIntS_ev (ys : List Int) (s : Int) (hs0 : 0 ≤ s) (hs1 : s ≤ 1000000000000000) (hl : ys.length ≤ 1000000000000000) (hm : Marked ys s) :
    EvV (fun k => laws_heldIntS.f k ys s) (s + ys.length) := by
  have key : ∀ (d j : Nat), j + d = ys.length → EvV (fun k => laws_heldIntS.l0 k ys (s + j) (j : Int)) (s + ys.length) := by
    intro d
    induction d with
    | zero =>
      intro j hj
      refine EvP.succ ?_
      simp only [laws_heldIntS.l0]
      exact EvP.neg (by omega) (EvP.ret (by omega))
    | succ d ih =>
      intro j hj
      have hlt : j < ys.length := by omega
      have e2 : wrap64 (s + (j : Int) + 1) = s + ((j + 1 : Nat) : Int) := by rw [w64 (by omega) (by omega)]; omega
      refine EvP.succ ?_
      simp only [laws_heldIntS.l0, w64_succ hlt (by omega : ys.length ≤ 1000000000000000000), e2, marked_rd hm j hlt]
      refine EvP.pos (by omega) (EvP.pos (by omega) (EvP.pos (by simp) ?_))
      exact ih (j + 1) (by omega)
  unfold laws_heldIntS.f
  have := key ys.length 0 (by omega)
  simpa using this

theorem within_eq (a b c : Int) : impl_within.f a b c = some (decide (b ≤ a ∧ a ≤ c)) := by
  unfold impl_within.f
  by_cases h : a ≥ b
  · rw [if_pos h]; congr 1; simp only [decide_eq_decide]; omega
  · rw [if_neg h]; congr 1; symm; simp only [decide_eq_false_iff_not]; omega

theorem baseValid_eq (o t : Int) : impl_baseValid.f o t = some (baseO o t) := by
  unfold impl_baseValid.f baseO
  simp only [within_eq, Option.bind_some]
  by_cases h : 0 ≤ o ∧ o ≤ 99999
  · rw [if_pos (by simpa using h)]; simp [h]
  · rw [if_neg (by simpa using h)]; simp [h]

theorem partValid_ev (has : Bool) (xs : List Int) (hl : xs.length ≤ 1000000000000000000) : EvV (fun k => impl_partValid.f k has xs) (partOk has xs) := by
  unfold impl_partValid.f partOk
  refine EvP.ite (fun h => ?_) (fun h => EvP.ret ?_)
  · rw [if_pos h]
    refine EvP.ite (fun g => EvV.bind (allBytes_ev xs hl) (EvP.ret ?_)) (fun g => EvP.ret ?_)
    · simp [g]
    · simp [g]
  · rw [if_neg h, Bool.eq_iff_iff]
    simp only [decide_eq_true_eq, beq_iff_eq]

theorem iRecordValid_ev (o t : Int) (hk : Bool) (ks : List Int) (hv : Bool) (vs : List Int) (h1 : ks.length ≤ 1000000000000000000) (h2 : vs.length ≤ 1000000000000000000) : EvV (fun k => impl_RecordValid.f k o t hk ks hv vs) (recOk o t hk ks hv vs) := by
  unfold impl_RecordValid.f recOk
  simp only [baseValid_eq, baseO, Option.bind_some]
  refine EvP.ite (fun a => ?_) (fun a => EvP.ret ?_)
  · have a' := a
    simp only [Bool.and_eq_true, decide_eq_true_eq] at a'
    refine EvV.bind (partValid_ev hk ks h1) (EvP.ite (fun b => EvV.bind (partValid_ev hv vs h2) (EvP.ret ?_)) (fun b => EvP.ret ?_))
    · simp [a', b]
    · simp [a', b]
  · revert a
    cases decide (0 ≤ o ∧ o ≤ 99999) <;> cases decide (0 ≤ t ∧ t ≤ 99999) <;> simp

theorem l3Part_ev (has : Bool) (xs : List Int) (hl : xs.length ≤ 1000000000000000000) : EvV (fun k => spec_l3Part.f k has xs) (partOk has xs) := by
  unfold spec_l3Part.f partOk
  refine EvP.ite (fun h => ?_) (fun h => ?_)
  · rw [if_pos h]
    refine EvV.bind (l1Ok_ev xs hl) (EvP.ite (fun g => EvP.ret ?_) (fun g => EvP.ret ?_))
    · simp [g]
    · simp [g]
  · rw [if_neg h]
    refine EvP.ite (fun c => EvV.bind (l1Ok_ev xs hl) (EvP.ite (fun g => EvP.ret ?_) (fun g => EvP.ret ?_))) (fun c => EvP.ret ?_)
    · have : xs = [] := List.eq_nil_of_length_eq_zero (by omega)
      subst this; rfl
    · have : xs = [] := List.eq_nil_of_length_eq_zero (by omega)
      subst this; exact absurd rfl g
    · rw [decide_eq_false c]

theorem sRecordValid_ev (o t : Int) (hk : Bool) (ks : List Int) (hv : Bool) (vs : List Int) (h1 : ks.length ≤ 1000000000000000000) (h2 : vs.length ≤ 1000000000000000000) : EvV (fun k => spec_RecordValid.f k o t hk ks hv vs) (recOk o t hk ks hv vs) := by
  unfold spec_RecordValid.f recOk
  simp only [l6In_eq, Option.bind_some]
  refine EvP.ite (fun a => ?_) (fun a => EvP.ret (by simp [a]))
  refine EvP.ite (fun c => ?_) (fun c => EvP.ret (by simp [a, c]))
  refine EvV.bind (l3Part_ev hk ks h1) (EvP.ite (fun b => EvV.bind (l3Part_ev hv vs h2) (EvP.ret ?_)) (fun b => EvP.ret ?_))
  · rw [a, c, b]; rfl
  · have b' : partOk hk ks = false := by simpa using b
    rw [a, c, b']; rfl

/-- A valid message. -/
def oldOk (o : Int) (timed : Bool) (t : Int) (ks vs : List Int) (hk miss : Bool) : Bool := recOk o t hk ks (!miss) vs && (timed || decide (t = 0))
theorem iKept_eq (o : Int) (timed : Bool) (t : Int) (ks vs : List Int) (hk miss : Bool) (h1 : ks.length ≤ 1000000000000) (h2 : vs.length ≤ 1000000000000) : impl_Old_kept.f o timed t ks vs hk miss = some (o, t, hk, ks, !miss, vs) := by
  unfold impl_Old_kept.f slices_Clone_int_int.f
  rw [if_pos (by omega), if_pos (by omega)]
  rfl
theorem iOldValid_ev (o : Int) (timed : Bool) (t : Int) (ks vs : List Int) (hk miss : Bool) (h1 : ks.length ≤ 1000000000000) (h2 : vs.length ≤ 1000000000000) : EvV (fun k => impl_OldValid.f k o timed t ks vs hk miss) (oldOk o timed t ks vs hk miss) := by
  unfold impl_OldValid.f oldOk
  rw [iKept_eq o timed t ks vs hk miss h1 h2]
  simp only [Option.bind_some]
  exact EvV.bind (iRecordValid_ev o t hk ks (!miss) vs (by omega) (by omega)) (EvP.ret rfl)

theorem sKept_eq (o : Int) (timed : Bool) (t : Int) (ks vs : List Int) (hk miss : Bool) (h1 : ks.length ≤ 1000000000000) (h2 : vs.length ≤ 1000000000000) : spec_l11Record.f o timed t ks vs hk miss = some (o, t, hk, ks, !miss, vs) := by
  unfold spec_l11Record.f
  simp only [Option.bind_some, List.nil_append, List.length_nil, Nat.zero_add]
  rw [if_pos (by omega), if_pos (by omega)]
theorem sOldValid_ev (o : Int) (timed : Bool) (t : Int) (ks vs : List Int) (hk miss : Bool) (h1 : ks.length ≤ 1000000000000) (h2 : vs.length ≤ 1000000000000) : EvV (fun k => spec_OldValid.f k o timed t ks vs hk miss) (oldOk o timed t ks vs hk miss) := by
  unfold spec_OldValid.f oldOk
  rw [sKept_eq o timed t ks vs hk miss h1 h2]
  simp only [Option.bind_some]
  refine EvV.bind (sRecordValid_ev o t hk ks (!miss) vs (by omega) (by omega)) (EvP.ite (fun a => ?_) (fun a => EvP.ret ?_))
  · rw [a]
    refine EvP.ite (fun b => EvP.ret (by rw [b]; rfl)) (fun b => EvP.ret ?_)
    rw [Bool.eq_false_iff.2 b]
    rw [Bool.eq_iff_iff]; simp
  · rw [Bool.eq_false_iff.2 a]; rfl

theorem eqOld_same (o : Int) (timed : Bool) (t : Int) (ks vs : List Int) (hk miss : Bool) (h1 : ks.length ≤ 1000000000000) (h2 : vs.length ≤ 1000000000000) : EvV (fun k => laws_eqOld.f k o timed t ks vs hk miss o timed t ks vs hk miss) true := by
  unfold laws_eqOld.f
  exact EvP.pos rfl (EvP.neg (by simp) (EvP.pos rfl (EvV.bind ((eqIntS_ev ks ks (by omega)).to (w := true) (by simp)) (EvP.pos rfl (EvV.bind ((eqIntS_ev vs vs (by omega)).to (w := true) (by simp)) (EvP.pos rfl (EvP.neg (by simp) (EvP.neg (by simp) (EvP.ret rfl)))))))))

def oldPB (has : Bool) (xs : List Int) : List Int := if has = true then (xs.length : Int) :: xs else [255]
theorem oldPB_len (has : Bool) (xs : List Int) : (oldPB has xs).length ≤ xs.length + 1 := by unfold oldPB; split <;> simp
theorem oldPB_bytes {has : Bool} {xs : List Int} (h : partOk has xs = true) : allB (oldPB has xs) = true := by
  unfold oldPB
  obtain ⟨h1, h2⟩ := partOk_iff.1 h
  by_cases hh : has = true
  · rw [if_pos hh]
    obtain ⟨a, b⟩ := h1 hh
    refine allB_iff.2 ?_
    intro x hx
    rcases List.mem_cons.1 hx with rfl | hx
    · omega
    · exact allB_iff.1 b x hx
  · rw [if_neg hh]; rfl
def headO (timed : Bool) (t : Int) : List Int := if timed = true then 1 :: intB t 3 else [0]
theorem headO_len (timed : Bool) (t : Int) : (headO timed t).length ≤ 4 := by
  have := intB_len3 t 3
  unfold headO; split <;> simp
  omega
theorem headO_bytes (timed : Bool) (t : Int) : allB (headO timed t) = true := by
  unfold headO
  split
  · refine allB_iff.2 ?_
    intro x hx
    rcases List.mem_cons.1 hx with rfl | hx
    · omega
    · exact allB_iff.1 (intB_bytes t 3) x hx
  · rfl
def bodyO (timed : Bool) (t : Int) (ks vs : List Int) (hk miss : Bool) : List Int := headO timed t ++ oldPB hk ks ++ oldPB (!miss) vs
/-- A message's bytes. -/
def oldB (o : Int) (timed : Bool) (t : Int) (ks vs : List Int) (hk miss : Bool) : List Int := intB o 3 ++ (intB (sumL (bodyO timed t ks vs hk miss)) 2 ++ bodyO timed t ks vs hk miss)
def oldR (o : Int) (timed : Bool) (t : Int) (ks vs : List Int) (hk miss : Bool) : List Int × Bool := if oldOk o timed t ks vs hk miss = true then (oldB o timed t ks vs hk miss, true) else ([], false)
theorem oldOk_iff {o : Int} {timed : Bool} {t : Int} {ks vs : List Int} {hk miss : Bool} : oldOk o timed t ks vs hk miss = true ↔ recOk o t hk ks (!miss) vs = true ∧ (timed = true ∨ t = 0) := by unfold oldOk; simp
theorem oldR_len (o : Int) (timed : Bool) (t : Int) (ks vs : List Int) (hk miss : Bool) : (oldR o timed t ks vs hk miss).1.length ≤ ks.length + vs.length + 20 := by
  unfold oldR
  split
  · have a1 := intB_len3 o 3
    have a2 := intB_len3 (sumL (bodyO timed t ks vs hk miss)) 2
    have a3 := headO_len timed t
    have a4 := oldPB_len hk ks
    have a5 := oldPB_len (!miss) vs
    unfold oldB
    simp only [List.length_append]
    unfold bodyO at a2 ⊢
    simp only [List.length_append]
    omega
  · simp

theorem iOldPart_eq (has : Bool) (xs : List Int) (hl : xs.length ≤ 1000000000000) : impl_oldPart.f has xs = some (oldPB has xs) := by
  unfold impl_oldPart.f oldPB
  by_cases h : has = true
  · rw [if_pos h, if_pos h]
    simp only [Option.bind_some, List.length_cons, List.length_nil]
    rw [if_pos (by omega)]
    rfl
  · rw [if_neg h, if_neg h]

theorem sOldPart_eq (has : Bool) (xs : List Int) (hl : xs.length ≤ 1000000000000) : spec_l11Part.f has xs = some (oldPB has xs) := by
  unfold spec_l11Part.f oldPB
  by_cases h : has = true
  · rw [if_pos h, if_pos h]
    simp only [Option.bind_some, List.length_cons, List.length_nil]
    rw [if_pos (by omega)]
    rfl
  · rw [if_neg h, if_neg h]

theorem iBytesOf_ev {o : Int} {timed : Bool} {t : Int} {ks vs : List Int} {hk miss : Bool} (h : oldOk o timed t ks vs hk miss = true) : EvV (fun k => impl_Old_bytesOf.f k o timed t ks vs hk miss) (oldB o timed t ks vs hk miss) := by
  obtain ⟨⟨⟨o0, o1⟩, ⟨t0, t1⟩, pk, pv⟩, _⟩ := (show ((0 ≤ o ∧ o ≤ 99999) ∧ (0 ≤ t ∧ t ≤ 99999) ∧ partOk hk ks = true ∧ partOk (!miss) vs = true) ∧ (timed = true ∨ t = 0) from ⟨recOk_iff.1 (oldOk_iff.1 h).1, (oldOk_iff.1 h).2⟩)
  have lk := (partB_len pk).2
  have lv := (partB_len pv).2
  have a4 := oldPB_len hk ks
  have a5 := oldPB_len (!miss) vs
  have j0 : ∀ hd : List Int, hd = headO timed t → EvV (fun k => impl_Old_bytesOf.j0 k hd o timed t ks vs hk miss) (oldB o timed t ks vs hk miss) := by
    intro hd e
    have hl := headO_len timed t
    have hb := headO_bytes timed t
    have eb : hd ++ oldPB hk ks ++ oldPB (!miss) vs = bodyO timed t ks vs hk miss := by rw [e]; rfl
    have bb : allB (bodyO timed t ks vs hk miss) = true := by unfold bodyO; rw [allB_append, allB_append, hb, oldPB_bytes pk, oldPB_bytes pv]; rfl
    have bl : (bodyO timed t ks vs hk miss).length ≤ 100 := by unfold bodyO; simp only [List.length_append]; omega
    rw [← e] at hl
    refine EvP.succ ?_
    simp only [impl_Old_bytesOf.j0, iOldPart_eq hk ks (by omega), iOldPart_eq (!miss) vs (by omega), Option.bind_some]
    refine EvP.pos (by omega) (EvP.pos (by simp only [List.length_append]; omega) ?_)
    rw [eb]
    have sr := sumL_rng (bodyO timed t ks vs hk miss)
    refine EvV.bind (intOf_ev (by decide) (by decide) o0 (by omega)) (EvV.bind (over_ev _ (by omega) bb) (EvV.bind (intOf_ev (by decide) (by decide) sr.1 (by omega)) ?_))
    have c1 := intB_len3 o 3
    have c2 := intB_len3 (sumL (bodyO timed t ks vs hk miss)) 2
    unfold slices_Concat_int_int.f oldB
    rw [if_pos (by simp only [List.flatten_cons, List.flatten_nil, List.length_append, List.length_nil]; omega)]
    simp only [Option.bind_some, List.flatten_cons, List.flatten_nil, List.append_nil]
    exact EvP.ret rfl
  unfold impl_Old_bytesOf.f
  refine EvP.ite (fun c => ?_) (fun c => j0 [0] (by unfold headO; rw [if_neg c]))
  simp only [Option.bind_some]
  have c1 := intB_len3 t 3
  refine EvV.bind (intOf_ev (by decide) (by decide) t0 (by omega)) (EvP.pos (by simp only [List.length_cons, List.length_nil]; omega) (j0 _ ?_))
  unfold headO; rw [if_pos c]; rfl

theorem sBytesOf_ev {o : Int} {timed : Bool} {t : Int} {ks vs : List Int} {hk miss : Bool} (h : oldOk o timed t ks vs hk miss = true) : EvV (fun k => spec_l11Bytes.f k o timed t ks vs hk miss) (oldB o timed t ks vs hk miss) := by
  obtain ⟨⟨⟨o0, o1⟩, ⟨t0, t1⟩, pk, pv⟩, _⟩ := (show ((0 ≤ o ∧ o ≤ 99999) ∧ (0 ≤ t ∧ t ≤ 99999) ∧ partOk hk ks = true ∧ partOk (!miss) vs = true) ∧ (timed = true ∨ t = 0) from ⟨recOk_iff.1 (oldOk_iff.1 h).1, (oldOk_iff.1 h).2⟩)
  have lk := (partB_len pk).2
  have lv := (partB_len pv).2
  have a4 := oldPB_len hk ks
  have a5 := oldPB_len (!miss) vs
  have j0 : ∀ hd : List Int, hd = headO timed t → EvV (fun k => spec_l11Bytes.j0 k hd o timed t ks vs hk miss) (oldB o timed t ks vs hk miss) := by
    intro hd e
    have hl := headO_len timed t
    have hb := headO_bytes timed t
    have eb : hd ++ oldPB hk ks ++ oldPB (!miss) vs = bodyO timed t ks vs hk miss := by rw [e]; rfl
    have bb : allB (bodyO timed t ks vs hk miss) = true := by unfold bodyO; rw [allB_append, allB_append, hb, oldPB_bytes pk, oldPB_bytes pv]; rfl
    have bl : (bodyO timed t ks vs hk miss).length ≤ 100 := by unfold bodyO; simp only [List.length_append]; omega
    rw [← e] at hl
    refine EvP.succ ?_
    simp only [spec_l11Bytes.j0, sOldPart_eq hk ks (by omega), sOldPart_eq (!miss) vs (by omega), Option.bind_some]
    refine EvP.pos (by omega) (EvP.pos (by simp only [List.length_append]; omega) ?_)
    rw [eb]
    have sr := sumL_rng (bodyO timed t ks vs hk miss)
    have c1 := intB_len3 o 3
    have c2 := intB_len3 (sumL (bodyO timed t ks vs hk miss)) 2
    refine EvV.bind (l2Int_ev (by decide) (by decide) o0 (by omega)) (EvV.bind (l2Sum_ev _ (by omega) bb) (EvV.bind (l2Int_ev (by decide) (by decide) sr.1 (by omega)) (EvP.pos (by omega) ?_)))
    exact EvP.pos (by simp only [List.length_append]; omega) (EvP.ret (by unfold oldB; rw [List.append_assoc]))
  unfold spec_l11Bytes.f
  refine EvP.ite (fun c => ?_) (fun c => j0 [0] (by unfold headO; rw [if_neg c]))
  simp only [Option.bind_some]
  have c1 := intB_len3 t 3
  refine EvV.bind (l2Int_ev (by decide) (by decide) t0 (by omega)) (EvP.pos (by simp only [List.length_cons, List.length_nil]; omega) (j0 _ ?_))
  unfold headO; rw [if_pos c]; rfl

theorem markOld_ev (o : Int) (timed : Bool) (t : Int) (ks vs : List Int) (hk miss : Bool) (h1 : ks.length ≤ 1048576) (h2 : vs.length ≤ 1048576) : EvP (fun k => laws_markOld.f k o timed t ks vs hk miss 1) (fun r => 0 ≤ r.1) := by
  unfold laws_markOld.f
  refine EvP.bind (markIntS_ev ks 1 (by decide) (by decide) (by omega)) ?_
  rintro ⟨m, ys⟩ ⟨hm, _, _⟩
  dsimp only at hm ⊢
  refine EvP.bind (markIntS_ev vs m (by omega) (by omega) (by omega)) ?_
  rintro ⟨m2, ys2⟩ ⟨hm2, _, _⟩
  dsimp only at hm2 ⊢
  exact EvP.ret (by dsimp only; omega)

theorem equalI_l0 (xs ys : List Int) (he : xs.length = ys.length) (hl : xs.length ≤ 1000000000000000000) (d : Nat) : ∀ j : Nat, j ≤ xs.length → xs.length - j = d → EvV (fun k => slices_Equal_int_int.l0 k xs ys (xs.length : Int) (j : Int)) (decide (xs.drop j = ys.drop j)) := by
  induction d with
  | zero =>
    intro j hj hd
    refine EvP.succ ?_
    simp only [slices_Equal_int_int.l0]
    rw [drop_end xs j (by omega), drop_end ys j (by omega)]
    exact EvP.neg (by omega) (EvP.ret (by simp))
  | succ d ih =>
    intro j hj hd
    have hlt : j < xs.length := by omega
    have hlt2 : j < ys.length := by omega
    refine EvP.succ ?_
    simp only [slices_Equal_int_int.l0, rd_nat xs j hlt, rd_nat ys j hlt2, w64_succ hlt hl]
    refine EvP.pos (by omega) (EvP.pos (by omega) (EvP.pos (by omega) (EvP.pos (by omega) ?_)))
    rw [drop_cons xs j hlt, drop_cons ys j hlt2]
    refine EvP.ite (fun h => ?_) (fun h => EvP.ret ?_)
    · exact (ih (j + 1) (by omega) (by omega)).to (dec_cons_t h)
    · exact dec_cons_f h
theorem equalI_ev (xs ys : List Int) (hl : xs.length ≤ 1000000000000000000) : EvV (fun k => slices_Equal_int_int.f k xs ys) (decide (xs = ys)) := by
  unfold slices_Equal_int_int.f
  refine EvP.ite (fun h => ?_) (fun h => EvP.ret ?_)
  · exact equalI_l0 xs ys (by omega) hl xs.length 0 (by omega) (by omega)
  · have : ¬ xs = ys := by rintro rfl; exact h rfl
    simp [this]

theorem intB3_cons (x : Int) : intB x 3 = [x / 65536 % 256, x / 256 % 256, x % 256] := by simp [intB]
theorem intB2_cons (x : Int) : intB x 2 = [x / 256 % 256, x % 256] := by simp [intB]
theorem oldB_cons (o : Int) (td : Bool) (t : Int) (ks vs : List Int) (hk ms : Bool) : oldB o td t ks vs hk ms = o / 65536 % 256 :: o / 256 % 256 :: o % 256 :: sumL (bodyO td t ks vs hk ms) / 256 % 256 :: sumL (bodyO td t ks vs hk ms) % 256 :: bodyO td t ks vs hk ms := by
  unfold oldB
  rw [intB3_cons, intB2_cons]
  rfl
theorem headO_t (t : Int) : headO true t = [1, t / 65536 % 256, t / 256 % 256, t % 256] := by unfold headO; rw [if_pos rfl, intB3_cons]
theorem headO_f (t : Int) : headO false t = [0] := by unfold headO; rw [if_neg (by simp)]
theorem oldOk_all {o : Int} {td : Bool} {t : Int} {ks vs : List Int} {hk ms : Bool} (h : oldOk o td t ks vs hk ms = true) : (0 ≤ o ∧ o ≤ 99999) ∧ (0 ≤ t ∧ t ≤ 99999) ∧ partOk hk ks = true ∧ partOk (!ms) vs = true ∧ (td = true ∨ t = 0) := by
  obtain ⟨h1, h2⟩ := oldOk_iff.1 h
  obtain ⟨a, b, c, d⟩ := recOk_iff.1 h1
  exact ⟨a, b, c, d, h2⟩
theorem oldPB_split {hk hk' : Bool} {ks ks' r r' : List Int} (p : partOk hk ks = true) (p' : partOk hk' ks' = true) (e : oldPB hk ks ++ r = oldPB hk' ks' ++ r') : hk = hk' ∧ ks = ks' ∧ r = r' := by
  obtain ⟨a1, a2⟩ := partOk_iff.1 p
  obtain ⟨b1, b2⟩ := partOk_iff.1 p'
  unfold oldPB at e
  cases hk <;> cases hk'
  · rw [if_neg (by simp), if_neg (by simp)] at e
    rw [a2 rfl, b2 rfl]
    simpa using e
  · rw [if_neg (by simp), if_pos rfl] at e
    have := (b1 rfl).1
    simp only [List.cons_append, List.nil_append, List.cons.injEq] at e
    omega
  · rw [if_pos rfl, if_neg (by simp)] at e
    have := (a1 rfl).1
    simp only [List.cons_append, List.nil_append, List.cons.injEq] at e
    omega
  · rw [if_pos rfl, if_pos rfl] at e
    simp only [List.cons_append, List.cons.injEq] at e
    obtain ⟨e1, e2⟩ := List.append_inj e.2 (by omega)
    exact ⟨rfl, e1, e2⟩
theorem headO_split {td td' : Bool} {t t' : Int} {r r' : List Int} (h : 0 ≤ t ∧ t ≤ 99999) (h' : 0 ≤ t' ∧ t' ≤ 99999) (z : td = true ∨ t = 0) (z' : td' = true ∨ t' = 0) (e : headO td t ++ r = headO td' t' ++ r') : td = td' ∧ t = t' ∧ r = r' := by
  cases td <;> cases td'
  · rw [headO_f, headO_f] at e
    simp at z z' e
    exact ⟨rfl, by omega, e⟩
  · rw [headO_f, headO_t] at e
    simp at e
  · rw [headO_f, headO_t] at e
    simp at e
  · rw [headO_t, headO_t] at e
    simp only [List.cons_append, List.nil_append, List.cons.injEq] at e
    obtain ⟨_, e1, e2, e3, e4⟩ := e
    exact ⟨rfl, by omega, e4⟩
/-- A message's bytes tell where they end, and the message. -/
theorem oldB_split {o o' : Int} {td td' : Bool} {t t' : Int} {ks ks' vs vs' : List Int} {hk hk' ms ms' : Bool} {r r' : List Int} (v : oldOk o td t ks vs hk ms = true) (v' : oldOk o' td' t' ks' vs' hk' ms' = true)
    (e : oldB o td t ks vs hk ms ++ r = oldB o' td' t' ks' vs' hk' ms' ++ r') : o = o' ∧ td = td' ∧ t = t' ∧ ks = ks' ∧ vs = vs' ∧ hk = hk' ∧ ms = ms' ∧ r = r' := by
  obtain ⟨o0, t0, pk, pv, z⟩ := oldOk_all v
  obtain ⟨o0', t0', pk', pv', z'⟩ := oldOk_all v'
  rw [oldB_cons, oldB_cons] at e
  simp only [List.cons_append, List.cons.injEq] at e
  obtain ⟨e1, e2, e3, _, _, e⟩ := e
  unfold bodyO at e
  simp only [List.append_assoc] at e
  obtain ⟨h1, h2, e⟩ := headO_split t0 t0' z z' e
  obtain ⟨h3, h4, e⟩ := oldPB_split pk pk' e
  obtain ⟨h5, h6, e⟩ := oldPB_split pv pv' e
  refine ⟨by omega, h1, h2, h4, h6, h3, ?_, e⟩
  revert h5; cases ms <;> cases ms' <;> simp
theorem oldB_bytes {o : Int} {td : Bool} {t : Int} {ks vs : List Int} {hk ms : Bool} (v : oldOk o td t ks vs hk ms = true) : allB (oldB o td t ks vs hk ms) = true := by
  obtain ⟨_, _, pk, pv, _⟩ := oldOk_all v
  unfold oldB bodyO
  simp only [allB_append]
  rw [intB_bytes, intB_bytes, headO_bytes, oldPB_bytes pk, oldPB_bytes pv]
  rfl
theorem oldB_short {o : Int} {td : Bool} {t : Int} {ks vs : List Int} {hk ms : Bool} (v : oldOk o td t ks vs hk ms = true) : (oldB o td t ks vs hk ms).length ≤ 60 := by
  obtain ⟨_, _, pk, pv, _⟩ := oldOk_all v
  have h1 := headO_len td t
  have h2 := oldPB_len hk ks
  have h3 := oldPB_len (!ms) vs
  have h4 := (partB_len pk).2
  have h5 := (partB_len pv).2
  rw [oldB_cons]
  unfold bodyO
  simp only [List.length_cons, List.length_append]
  omega
theorem oldPB_pos (hk : Bool) (ks : List Int) : 1 ≤ (oldPB hk ks).length := by unfold oldPB; split <;> simp
abbrev OMsg := Int × Bool × Int × List Int × List Int × Bool × Bool × Bool
/-- What is read: a valid message that has just these bytes; else nothing. -/
def OldRead (xs : List Int) (r : OMsg) : Prop := (∃ o td t ks vs hk ms, oldOk o td t ks vs hk ms = true ∧ oldB o td t ks vs hk ms = xs ∧ r = (o, td, t, ks, vs, hk, ms, true)) ∨
  (r = (0, false, 0, ([] : List Int), ([] : List Int), false, false, false) ∧ ∀ o td t ks vs hk ms, oldOk o td t ks vs hk ms = true → oldB o td t ks vs hk ms ≠ xs)
theorem OldRead.one {xs : List Int} {r r' : OMsg} (h : OldRead xs r) (h' : OldRead xs r') : r = r' := by
  rcases h with ⟨o, td, t, ks, vs, hk, ms, v, e, rfl⟩ | ⟨rfl, h⟩
  · rcases h' with ⟨o', td', t', ks', vs', hk', ms', v', e', rfl⟩ | ⟨_, h'⟩
    · obtain ⟨rfl, rfl, rfl, rfl, rfl, rfl, rfl, _⟩ := oldB_split (r := []) (r' := []) v v' (by rw [e, e'])
      rfl
    · exact absurd e (h' _ _ _ _ _ _ _ v)
  · rcases h' with ⟨o', td', t', ks', vs', hk', ms', v', e', rfl⟩ | ⟨rfl, _⟩
    · exact absurd e' (h _ _ _ _ _ _ _ v')
    · rfl
theorem OldRead.len {xs : List Int} {r : OMsg} (h : OldRead xs r) : r.2.2.2.1.length ≤ 12 ∧ r.2.2.2.2.1.length ≤ 12 := by
  rcases h with ⟨o, td, t, ks, vs, hk, ms, v, e, rfl⟩ | ⟨rfl, h⟩
  · obtain ⟨_, _, pk, pv, _⟩ := oldOk_all v
    exact ⟨(partB_len pk).2, (partB_len pv).2⟩
  · exact ⟨by simp, by simp⟩
theorem iPart_eq {hk : Bool} {ks : List Int} (p : partOk hk ks = true) (r : List Int) : impl_oldPartFrom.f (oldPB hk ks ++ r) = some (hk, ks, r, true) := by
  obtain ⟨a1, a2⟩ := partOk_iff.1 p
  unfold impl_oldPartFrom.f oldPB
  cases hk
  · rw [if_neg (by simp), a2 rfl]
    simp [rd]
  · rw [if_pos rfl]
    have l := (a1 rfl).1
    have e : rd ((ks.length : Int) :: ks ++ r) 0 = (ks.length : Int) := by simp [rd]
    have e2 : ((ks.length : Int) :: ks ++ r).drop 1 = ks ++ r := rfl
    rw [e, e2, if_neg (by simp), if_neg (by omega), if_neg (by omega), if_neg (by simp only [List.length_append]; omega), if_pos (by omega)]
    simp
theorem iPart_any {xs : List Int} (hb : allB xs = true) : ∃ q ks r ok, impl_oldPartFrom.f xs = some (q, ks, r, ok) ∧ ks.length ≤ 12 ∧ allB r = true ∧ (ok = true → partOk q ks = true ∧ xs = oldPB q ks ++ r) := by
  unfold impl_oldPartFrom.f
  by_cases c1 : xs.length = 0
  · rw [if_pos c1]; exact ⟨_, _, _, _, rfl, by simp, rfl, by simp⟩
  rw [if_neg c1]
  obtain ⟨x, ys, rfl⟩ : ∃ x ys, xs = x :: ys := by
    cases xs with
    | nil => simp at c1
    | cons x ys => exact ⟨x, ys, rfl⟩
  have hx := allB_iff.1 hb x (by simp)
  have hy : allB ys = true := allB_iff.2 fun z hz => allB_iff.1 hb z (List.mem_cons_of_mem _ hz)
  have e : rd (x :: ys) 0 = x := by simp [rd]
  have e2 : (x :: ys).drop 1 = ys := rfl
  rw [e, e2]
  by_cases c2 : x = 255
  · rw [if_pos c2]; subst c2; exact ⟨_, _, _, _, rfl, by simp, hy, fun _ => ⟨by simp [partOk], by simp [oldPB]⟩⟩
  rw [if_neg c2]
  by_cases c3 : x > 12
  · rw [if_pos c3]; exact ⟨_, _, _, _, rfl, by simp, rfl, by simp⟩
  rw [if_neg c3]
  by_cases c4 : x > (ys.length : Int)
  · rw [if_pos c4]; exact ⟨_, _, _, _, rfl, by simp, rfl, by simp⟩
  rw [if_neg c4, if_pos hx.1]
  have ht : ((ys.take x.toNat).length : Int) = x := by simp; omega
  refine ⟨_, _, _, _, rfl, by omega, allB_iff.2 fun z hz => allB_iff.1 hy z (List.mem_of_mem_drop hz), fun _ => ⟨partOk_iff.2 ⟨fun _ => ⟨by omega, allB_take hy _⟩, by simp⟩, ?_⟩⟩
  unfold oldPB
  rw [if_pos rfl, ht, List.cons_append, List.take_append_drop]
theorem iOld_t2 {xs : List Int} (hl : xs.length ≤ 1000000000000) {o : Int} {td : Bool} {t : Int} {hk : Bool} {ks rest : List Int} (hks : ks.length ≤ 12) (hb : allB rest = true) (hn : ∀ o td t ks vs hk ms, oldOk o td t ks vs hk ms = true → oldB o td t ks vs hk ms ≠ xs) :
    EvV (fun k => impl_OldFrom.t2 k xs o td t hk ks rest) impl_OldFrom.z := by
  unfold impl_OldFrom.t2
  obtain ⟨q, vs, r, ok, e, hv, _, _⟩ := iPart_any hb
  rw [e]
  simp only [Option.bind_some]
  refine EvP.ite (fun _ => EvP.ite (fun _ => ?_) (fun _ => EvP.ret rfl)) (fun _ => EvP.ret rfl)
  refine EvV.bind (iOldValid_ev o td t ks vs hk (!q) (by omega) (by omega)) (EvP.ite (fun v => ?_) (fun _ => EvP.ret rfl))
  have ne := hn _ _ _ _ _ _ _ v
  have sl := oldB_short v
  refine EvV.bind (iBytesOf_ev v) (EvV.bind (equalI_ev _ _ (by omega)) (EvP.neg (by simpa using ne) (EvP.ret rfl)))
theorem iOld_t1 {xs : List Int} (hl : xs.length ≤ 1000000000000) {o : Int} {td : Bool} {t : Int} {rest : List Int} (hb : allB rest = true) (hn : ∀ o td t ks vs hk ms, oldOk o td t ks vs hk ms = true → oldB o td t ks vs hk ms ≠ xs) :
    EvV (fun k => impl_OldFrom.t1 k xs o td t rest) impl_OldFrom.z := by
  unfold impl_OldFrom.t1
  obtain ⟨q, ks, r, ok, e, hv, hr, _⟩ := iPart_any hb
  rw [e]
  simp only [Option.bind_some]
  exact EvP.ite (fun _ => iOld_t2 hl hv hr hn) (fun _ => EvP.ret rfl)
theorem allB_drop {xs : List Int} (h : allB xs = true) (n : Nat) : allB (xs.drop n) = true := allB_iff.2 fun z hz => allB_iff.1 h z (List.mem_of_mem_drop hz)
theorem iOld_no {xs : List Int} (hl : xs.length ≤ 1000000000000) (hn : ∀ o td t ks vs hk ms, oldOk o td t ks vs hk ms = true → oldB o td t ks vs hk ms ≠ xs) : EvV (fun k => impl_OldFrom.f k xs) impl_OldFrom.z := by
  unfold impl_OldFrom.f
  refine EvV.bind (allBytes_ev xs (by omega)) (EvP.ite (fun hb => ?_) (fun _ => EvP.ret rfl))
  refine EvP.ite (fun _ => EvP.ret rfl) (fun c1 => EvP.ite (fun _ => EvP.ret rfl) (fun c2 => ?_))
  unfold impl_OldFrom.t0
  refine EvV.bind (intAt_ev (by omega) hb (by decide) (by decide) (by decide) (by decide)) ?_
  refine EvP.ite (fun c3 => ?_) (fun c3 => iOld_t1 hl (allB_drop hb _) hn)
  refine EvV.bind (intAt_ev (by omega) hb (by decide) (by decide) (by decide) (by decide)) ?_
  by_cases c4 : 0 ≤ (6 : Int) ∧ (6 : Int) ≤ xs.length - 3
  · rw [if_pos c4]
    exact EvP.pos rfl (EvP.pos (by omega) (iOld_t1 hl (allB_drop hb _) hn))
  · rw [if_neg c4]
    exact EvP.neg (by simp) (EvP.ret rfl)
theorem iOld_yes_t1 {o : Int} {td : Bool} {t : Int} {ks vs : List Int} {hk ms : Bool} (v : oldOk o td t ks vs hk ms = true) : EvV (fun k => impl_OldFrom.t1 k (oldB o td t ks vs hk ms) o td t (oldPB hk ks ++ oldPB (!ms) vs)) (o, td, t, ks, vs, hk, ms, true) := by
  obtain ⟨_, _, pk, pv, _⟩ := oldOk_all v
  unfold impl_OldFrom.t1
  rw [iPart_eq pk]
  simp only [Option.bind_some]
  refine EvP.pos (by simp) ?_
  unfold impl_OldFrom.t2
  have e := iPart_eq pv []
  rw [List.append_nil] at e
  rw [e]
  simp only [Option.bind_some]
  refine EvP.pos (by simp) (EvP.pos (by simp) ?_)
  have l1 := (partB_len pk).2
  have l2 := (partB_len pv).2
  have sl := oldB_short v
  have em : (!(!ms)) = ms := by simp
  rw [em]
  refine EvV.bind ((iOldValid_ev o td t ks vs hk ms (by omega) (by omega)).to v) (EvP.pos rfl (EvV.bind (iBytesOf_ev v) (EvV.bind ((equalI_ev _ _ (by omega)).to (w := true) (by simp)) (EvP.pos rfl (EvP.ret rfl)))))
theorem iOld_yes {o : Int} {td : Bool} {t : Int} {ks vs : List Int} {hk ms : Bool} (v : oldOk o td t ks vs hk ms = true) : EvV (fun k => impl_OldFrom.f k (oldB o td t ks vs hk ms)) (o, td, t, ks, vs, hk, ms, true) := by
  obtain ⟨o0, t0, pk, pv, z⟩ := oldOk_all v
  have sl := oldB_short v
  have hb := oldB_bytes v
  have T := iOld_yes_t1 v
  unfold impl_OldFrom.f
  refine EvV.bind ((allBytes_ev _ (by omega)).to hb) (EvP.pos rfl ?_)
  have p1 := oldPB_pos hk ks
  have I0 := intAt_ev (xs := oldB o td t ks vs hk ms) (a := 0) (m := 3) (by omega) hb (by decide) (by decide) (by decide) (by decide)
  have I6 := intAt_ev (xs := oldB o td t ks vs hk ms) (a := 6) (m := 3) (by omega) hb (by decide) (by decide) (by decide) (by decide)
  generalize hX : oldB o td t ks vs hk ms = X at *
  rw [oldB_cons] at hX
  unfold bodyO at hX
  generalize sumL _ = s at hX
  have j0 : joinB ((X.take ((0 : Int) + 3).toNat).drop (0 : Int).toNat) = o := by
    rw [← hX]; simp [joinB]; omega
  unfold impl_OldFrom.t0
  cases td
  · rw [headO_f] at hX
    have e5 : rd X 5 = 0 := by rw [← hX]; simp [rd]
    have d6 : X.drop 6 = oldPB hk ks ++ oldPB (!ms) vs := by rw [← hX]; simp
    have hlen : 6 ≤ (X.length : Int) := by rw [← hX]; simp only [List.length_cons, List.length_append]; omega
    have t00 : t = 0 := by simpa using z
    rw [if_pos (by omega), j0] at I0
    rw [e5, d6]
    subst t00
    exact EvP.neg (by omega) (EvP.neg (by omega) (EvV.bind I0 (EvP.neg (by decide) T)))
  · rw [headO_t] at hX
    have e5 : rd X 5 = 1 := by rw [← hX]; simp [rd]
    have d9 : X.drop 9 = oldPB hk ks ++ oldPB (!ms) vs := by rw [← hX]; simp
    have hlen : 9 ≤ (X.length : Int) := by rw [← hX]; simp only [List.length_cons, List.length_append]; omega
    have j6 : joinB ((X.take ((6 : Int) + 3).toNat).drop (6 : Int).toNat) = t := by
      rw [← hX]; simp [joinB]; omega
    rw [if_pos (by omega), j0] at I0
    rw [if_pos (by omega), j6] at I6
    rw [e5, d9]
    exact EvP.neg (by omega) (EvP.neg (by omega) (EvV.bind I0 (EvP.pos rfl (EvV.bind I6 (EvP.pos rfl (EvP.pos hlen T))))))
theorem iOldFrom_ev (xs : List Int) (hl : xs.length ≤ 1000000000000) : EvP (fun k => impl_OldFrom.f k xs) (OldRead xs) := by
  by_cases h : ∃ o td t ks vs hk ms, oldOk o td t ks vs hk ms = true ∧ oldB o td t ks vs hk ms = xs
  · obtain ⟨o, td, t, ks, vs, hk, ms, v, rfl⟩ := h
    exact (iOld_yes v).mono (fun r hr => .inl ⟨o, td, t, ks, vs, hk, ms, v, rfl, hr.symm⟩)
  · have hn : ∀ o td t ks vs hk ms, oldOk o td t ks vs hk ms = true → oldB o td t ks vs hk ms ≠ xs := fun o td t ks vs hk ms v e => h ⟨o, td, t, ks, vs, hk, ms, v, e⟩
    exact (iOld_no hl hn).mono (fun r hr => .inr ⟨hr.symm, hn⟩)

theorem sGet_eq {hk : Bool} {ks : List Int} (p : partOk hk ks = true) (pre r : List Int) (hl : pre.length + r.length ≤ 1000000000000) : spec_l11Get.f (pre ++ (oldPB hk ks ++ r)) (pre.length : Int) = some (hk, ks, ((pre.length + (oldPB hk ks).length : Nat) : Int), true) := by
  obtain ⟨a1, a2⟩ := partOk_iff.1 p
  have hr : rd (pre ++ (oldPB hk ks ++ r)) (pre.length : Int) = (oldPB hk ks ++ r).headD 0 := by
    unfold rd
    rw [List.getD_eq_getElem?_getD, show ((pre.length : Int)).toNat = pre.length by omega, List.getElem?_append_right (Nat.le_refl _), Nat.sub_self]
    have := oldPB_pos hk ks
    cases h : oldPB hk ks with
    | nil => rw [h] at this; simp at this
    | cons a b => rfl
  have hp := oldPB_pos hk ks
  unfold spec_l11Get.f
  rw [hr, if_neg (by simp only [List.length_append]; omega), if_pos (by omega), if_pos (by simp only [List.length_append]; omega)]
  cases hk
  · have e : oldPB false ks = [255] := by unfold oldPB; rw [if_neg (by simp)]
    rw [e, a2 rfl, if_pos (show ([(255 : Int)] ++ r).headD 0 = 255 from rfl), w64 (by omega) (by omega)]
    rfl
  · have e : oldPB true ks = (ks.length : Int) :: ks := by unfold oldPB; rw [if_pos rfl]
    have l := (a1 rfl).1
    rw [e]
    simp only [List.cons_append, List.headD_cons, List.length_append, List.length_cons]
    have w1 : wrap64 ((pre.length : Int) + 1) = ((pre.length + 1 : Nat) : Int) := by rw [w64 (by omega) (by omega)]; omega
    simp only [w1]
    have w2 : wrap64 (((pre.length + 1 : Nat) : Int) + (ks.length : Int)) = ((pre.length + 1 + ks.length : Nat) : Int) := by clear w1; rw [w64 (by omega) (by omega)]; omega
    simp only [w2]
    clear w1 w2
    rw [if_neg (by omega), if_neg (by omega)]
    simp only [Option.bind_some, List.length_nil, Nat.zero_add, List.nil_append]
    have t1 : (((pre.length + 1 : Nat) : Int)).toNat = pre.length + 1 := by omega
    have t2 : (((pre.length + 1 + ks.length : Nat) : Int)).toNat = pre.length + 1 + ks.length := by omega
    rw [t1, t2]
    have cut : (List.take (pre.length + 1 + ks.length) (pre ++ (ks.length : Int) :: (ks ++ r))).drop (pre.length + 1) = ks := by
      have e1 : pre ++ (ks.length : Int) :: (ks ++ r) = (pre ++ [(ks.length : Int)]) ++ ks ++ r := by simp
      have e2 : pre.length + 1 + ks.length = ((pre ++ [(ks.length : Int)]) ++ ks).length := by simp; omega
      have e3 : pre.length + 1 = (pre ++ [(ks.length : Int)]).length := by simp
      rw [e1, e2, List.take_left, e3, List.drop_left]
    rw [cut, if_pos (by omega), if_pos (by omega), if_pos (by omega), if_pos (by omega)]
    congr 1
    simp only [Prod.mk.injEq, and_true, true_and]
    omega
theorem sGet_any {xs : List Int} (hb : allB xs = true) (hl : xs.length ≤ 1000000000000) {a : Int} (h0 : 0 ≤ a) : ∃ q ks n ok, spec_l11Get.f xs a = some (q, ks, n, ok) ∧ ks.length ≤ xs.length ∧ 0 ≤ n := by
  unfold spec_l11Get.f
  by_cases c1 : a ≥ (xs.length : Int)
  · rw [if_pos c1]; exact ⟨_, _, _, _, rfl, by simp, by decide⟩
  rw [if_neg c1, if_pos h0, if_pos (by omega)]
  have hx := rd_rng (allB_iff.1 hb) a
  generalize rd xs a = x at hx
  have w1 : wrap64 (a + 1) = a + 1 := w64 (by omega) (by omega)
  rw [w1]
  have w2 : wrap64 (a + 1 + x) = a + 1 + x := by clear w1; exact w64 (by omega) (by omega)
  rw [w2]
  clear w1 w2
  by_cases c2 : x = 255
  · rw [if_pos c2]; exact ⟨_, _, _, _, rfl, by simp, by omega⟩
  rw [if_neg c2]
  by_cases c3 : a + 1 + x > (xs.length : Int)
  · rw [if_pos c3]; exact ⟨_, _, _, _, rfl, by simp, by decide⟩
  rw [if_neg c3]
  simp only [Option.bind_some, List.length_nil, Nat.zero_add, List.nil_append]
  have ll : ((xs.take (a + 1 + x).toNat).drop (a + 1).toNat).length ≤ xs.length := by simp; omega
  rw [if_pos (by omega), if_pos (by omega), if_pos (by omega), if_pos (by omega)]
  exact ⟨_, _, _, _, rfl, ll, by omega⟩

theorem l3Same_ev (xs ys : List Int) (hl : xs.length ≤ 1000000000000) (hy : ys.length ≤ 1000000000000) : EvV (fun k => spec_l3Same.f k xs 0 ys) (decide (ys.length ≤ xs.length ∧ xs.take ys.length = ys)) := by
  unfold spec_l3Same.f
  have w0 : wrap64 (0 + (ys.length : Int)) = ys.length := by rw [w64 (by omega) (by omega)]; omega
  rw [w0]
  refine EvP.ite (fun h => EvP.ret ?_) (fun h => ?_)
  · have : ¬ ys.length ≤ xs.length := by omega
    simp [this]
  · have hle : ys.length ≤ xs.length := by omega
    have key : ∀ (d j : Nat), j + d = ys.length → EvV (fun k => spec_l3Same.l0 k xs 0 ys (j : Int)) (decide ((xs.take ys.length).drop j = ys.drop j)) := by
      intro d
      induction d with
      | zero =>
        intro j hj
        refine EvP.succ ?_
        simp only [spec_l3Same.l0]
        rw [drop_end (xs.take ys.length) j (by simp; omega), drop_end ys j (by omega)]
        exact EvP.neg (by omega) (EvP.ret (by simp))
      | succ d ih =>
        intro j hj
        have hlt : j < ys.length := by omega
        have hlx : j < xs.length := by omega
        have hlt2 : j < (xs.take ys.length).length := by simp; omega
        have w1 : wrap64 (0 + (j : Int)) = (j : Int) := by rw [w64 (by omega) (by omega)]; omega
        have e : (xs.take ys.length)[j] = xs[j] := by simp
        refine EvP.succ ?_
        simp only [spec_l3Same.l0, w1, rd_nat xs j hlx, rd_nat ys j hlt, w64_succ hlt (by omega : ys.length ≤ 1000000000000000000)]
        refine EvP.pos (by omega) (EvP.pos (by omega) (EvP.pos (by omega) (EvP.pos (by omega) ?_)))
        rw [drop_cons (xs.take ys.length) j hlt2, drop_cons ys j hlt, e]
        refine EvP.ite (fun h => ?_) (fun h => EvP.ret ?_)
        · exact (ih (j + 1) (by omega)).to (dec_cons_t h)
        · exact dec_cons_f h
    refine (key ys.length 0 (by omega)).to ?_
    rw [List.drop_zero, List.drop_zero]
    simp [hle]

theorem sOld_t1_no {xs : List Int} (hl : xs.length ≤ 1000000000000) (hb : allB xs = true) {a o : Int} (ha : 0 ≤ a) {td : Bool} {t : Int} (hn : ∀ o td t ks vs hk ms, oldOk o td t ks vs hk ms = true → oldB o td t ks vs hk ms ≠ xs) :
    EvV (fun k => spec_OldFrom.t1 k xs o td t a) spec_OldFrom.z := by
  unfold spec_OldFrom.t1
  obtain ⟨q, ks, n, ok, e, hk, hn0⟩ := sGet_any hb hl ha
  rw [e]
  simp only [Option.bind_some]
  refine EvP.ite (fun _ => ?_) (fun _ => EvP.ret rfl)
  unfold spec_OldFrom.t2
  obtain ⟨q2, vs, n2, ok2, e2, hv, hn2⟩ := sGet_any hb hl hn0
  rw [e2]
  simp only [Option.bind_some]
  refine EvP.ite (fun _ => ?_) (fun _ => EvP.ret rfl)
  refine EvV.bind (sOldValid_ev o td t ks vs q (!q2) (by omega) (by omega)) (EvP.ite (fun v => ?_) (fun _ => EvP.ret rfl))
  have ne := hn _ _ _ _ _ _ _ v
  have sl := oldB_short v
  refine EvV.bind (sBytesOf_ev v) (EvV.bind (l3Same_ev xs _ hl (by omega)) (EvP.ite (fun h => ?_) (fun _ => EvP.ret rfl)))
  have h' : (oldB o td t ks vs q (!q2)).length ≤ xs.length ∧ xs.take (oldB o td t ks vs q (!q2)).length = oldB o td t ks vs q (!q2) := by simpa using h
  refine EvV.bind (sBytesOf_ev v) (EvP.neg (fun hl2 => ne ?_) (EvP.ret rfl))
  have e3 : xs.take (oldB o td t ks vs q (!q2)).length = xs := List.take_of_length_le (by omega)
  rw [← h'.2, e3]
theorem sOld_no {xs : List Int} (hl : xs.length ≤ 1000000000000) (hn : ∀ o td t ks vs hk ms, oldOk o td t ks vs hk ms = true → oldB o td t ks vs hk ms ≠ xs) : EvV (fun k => spec_OldFrom.f k xs) spec_OldFrom.z := by
  unfold spec_OldFrom.f
  refine EvV.bind (l1Ok_ev xs (by omega)) (EvP.ite (fun hb => ?_) (fun _ => EvP.ret rfl))
  refine EvP.ite (fun _ => EvP.ret rfl) (fun c1 => ?_)
  have j0 : ((rd xs 5 = 1) → 11 ≤ xs.length) → EvV (fun k => spec_OldFrom.t0 k xs) spec_OldFrom.z := by
    intro c
    unfold spec_OldFrom.t0
    refine EvV.bind (l2From_ev (by omega) hb (by decide) (by decide) (by decide) (by omega)) (EvP.ite (fun g => ?_) (fun g => sOld_t1_no hl hb (by decide) hn))
    have := c g
    exact EvV.bind (l2From_ev (by omega) hb (by decide) (by decide) (by decide) (by omega)) (sOld_t1_no hl hb (by decide) hn)
  refine EvP.ite (fun c2 => EvP.ite (fun _ => EvP.ret rfl) (fun c3 => j0 (fun _ => by omega))) (fun c2 => j0 (fun g => absurd g c2))
theorem sOld_yes {o : Int} {td : Bool} {t : Int} {ks vs : List Int} {hk ms : Bool} (v : oldOk o td t ks vs hk ms = true) : EvV (fun k => spec_OldFrom.f k (oldB o td t ks vs hk ms)) (o, td, t, ks, vs, hk, ms, true) := by
  obtain ⟨o0, t0, pk, pv, z⟩ := oldOk_all v
  have sl := oldB_short v
  have hb := oldB_bytes v
  have l1 := (partB_len pk).2
  have l2 := (partB_len pv).2
  have p1 := oldPB_pos hk ks
  have p2 := oldPB_pos (!ms) vs
  have B := sBytesOf_ev v
  have V := (sOldValid_ev o td t ks vs hk ms (by omega) (by omega)).to v
  generalize hX : oldB o td t ks vs hk ms = X at *
  have j1 : ∀ pre : List Int, X = pre ++ (oldPB hk ks ++ oldPB (!ms) vs) → EvV (fun k => spec_OldFrom.t1 k X o td t (pre.length : Int)) (o, td, t, ks, vs, hk, ms, true) := by
    intro pre e
    unfold spec_OldFrom.t1
    have lx := congrArg List.length e
    simp only [List.length_append] at lx
    have g1 := sGet_eq pk pre (oldPB (!ms) vs) (by omega)
    rw [← e] at g1
    have e2 : X = (pre ++ oldPB hk ks) ++ (oldPB (!ms) vs ++ []) := by rw [e]; simp
    have g2 := sGet_eq pv (pre ++ oldPB hk ks) [] (by simp; omega)
    rw [← e2, List.length_append] at g2
    have em : (!(!ms)) = ms := by simp
    rw [g1]
    simp only [Option.bind_some]
    refine EvP.pos (by simp) ?_
    unfold spec_OldFrom.t2
    rw [g2]
    simp only [Option.bind_some, em]
    exact EvP.pos (by simp) (EvV.bind V (EvP.pos rfl (EvV.bind B (EvV.bind ((l3Same_ev X X (by omega) (by omega)).to (w := true) (by simp)) (EvP.pos rfl (EvV.bind B (EvP.pos rfl (EvP.ret rfl))))))))
  have I0 := fun h => l2From_ev (xs := X) (a := 0) (m := 3) (by omega) hb (by decide) (by decide) (by decide) h
  have I6 := fun h => l2From_ev (xs := X) (a := 6) (m := 3) (by omega) hb (by decide) (by decide) (by decide) h
  clear B V
  rw [oldB_cons] at hX
  unfold bodyO at hX
  generalize sumL _ = s at hX
  have j0 : joinB ((X.take ((0 : Int) + 3).toNat).drop (0 : Int).toNat) = o := by
    rw [← hX]; simp [joinB]; omega
  rw [j0] at I0
  unfold spec_OldFrom.f
  refine EvV.bind ((l1Ok_ev _ (by omega)).to hb) (EvP.pos rfl ?_)
  unfold spec_OldFrom.t0
  cases td
  · rw [headO_f] at hX
    have e5 : rd X 5 = 0 := by rw [← hX]; simp [rd]
    have t00 : t = 0 := by simpa using z
    have lx : 8 ≤ (X.length : Int) := by rw [← hX]; simp only [List.length_cons, List.length_append, List.length_nil]; omega
    have J := j1 [o / 65536 % 256, o / 256 % 256, o % 256, s / 256 % 256, s % 256, 0] (by rw [← hX]; simp)
    subst t00
    rw [e5]
    exact EvP.neg (by omega) (EvP.neg (by decide) (EvV.bind (I0 (by omega)) (EvP.neg (by decide) J)))
  · rw [headO_t] at hX
    have e5 : rd X 5 = 1 := by rw [← hX]; simp [rd]
    have lx : 11 ≤ (X.length : Int) := by rw [← hX]; simp only [List.length_cons, List.length_append, List.length_nil]; omega
    have j6 : joinB ((X.take ((6 : Int) + 3).toNat).drop (6 : Int).toNat) = t := by
      rw [← hX]; simp [joinB]; omega
    rw [j6] at I6
    have J := j1 [o / 65536 % 256, o / 256 % 256, o % 256, s / 256 % 256, s % 256, 1, t / 65536 % 256, t / 256 % 256, t % 256] (by rw [← hX]; simp)
    rw [e5]
    exact EvP.neg (by omega) (EvP.pos rfl (EvP.neg (by omega) (EvV.bind (I0 (by omega)) (EvP.pos rfl (EvV.bind (I6 (by omega)) J)))))
theorem sOldFrom_ev (xs : List Int) (hl : xs.length ≤ 1000000000000) : EvP (fun k => spec_OldFrom.f k xs) (OldRead xs) := by
  by_cases h : ∃ o td t ks vs hk ms, oldOk o td t ks vs hk ms = true ∧ oldB o td t ks vs hk ms = xs
  · obtain ⟨o, td, t, ks, vs, hk, ms, v, rfl⟩ := h
    exact (sOld_yes v).mono (fun r hr => .inl ⟨o, td, t, ks, vs, hk, ms, v, rfl, hr.symm⟩)
  · have hn : ∀ o td t ks vs hk ms, oldOk o td t ks vs hk ms = true → oldB o td t ks vs hk ms ≠ xs := fun o td t ks vs hk ms v e => h ⟨o, td, t, ks, vs, hk, ms, v, e⟩
    exact (sOld_no hl hn).mono (fun r hr => .inr ⟨hr.symm, hn⟩)

theorem markOld_ev2 (o : Int) (timed : Bool) (t : Int) (ks vs : List Int) (hk miss : Bool) (h1 : ks.length ≤ 1048576) (h2 : vs.length ≤ 1048576) : EvP (fun k => laws_markOld.f k o timed t ks vs hk miss 1) (fun r => r.1 = 1 + ks.length + vs.length ∧ r.2.1.length = ks.length ∧ Marked r.2.1 1 ∧ r.2.2.length = vs.length ∧ Marked r.2.2 (1 + ks.length)) := by
  unfold laws_markOld.f
  refine EvP.bind (markIntS_ev ks 1 (by decide) (by decide) (by omega)) ?_
  rintro ⟨m, ys⟩ ⟨hm, hy, hM⟩
  dsimp only at hm hy hM ⊢
  refine EvP.bind (markIntS_ev vs m (by omega) (by omega) (by omega)) ?_
  rintro ⟨m2, ys2⟩ ⟨hm2, hy2, hM2⟩
  dsimp only at hm2 hy2 hM2 ⊢
  rw [hm] at hM2
  exact EvP.ret ⟨by dsimp only; omega, hy, hM, hy2, hM2⟩
theorem heldOld_ev (o : Int) (timed : Bool) (t : Int) (ks vs : List Int) (hk miss : Bool) (h1 : ks.length ≤ 1048576) (h2 : vs.length ≤ 1048576) (m1 : Marked ks 1) (m2 : Marked vs (1 + ks.length)) : EvV (fun k => laws_heldOld.f k o timed t ks vs hk miss 1) (1 + ks.length + vs.length) := by
  unfold laws_heldOld.f
  exact EvV.bind (heldIntS_ev ks 1 (by decide) (by decide) (by omega) m1) (EvP.neg (by omega) (EvV.bind (heldIntS_ev vs (1 + ks.length) (by omega) (by omega) (by omega) m2) (EvP.neg (by omega) (EvP.ret rfl))))

theorem FnExactOldFrom : laws_FnExactOldFrom.Pure := by
  intro xs hx _ _
  refine EvP.done ?_
  unfold laws_FnExactOldFrom.f
  refine EvP.ite (fun _ => EvP.ret rfl) (fun g => ?_)
  have hl : xs.length ≤ 1048576 := by omega
  have t' := toIntS_ev xs (by omega)
  refine EvV.bind t' (EvP.bind (sOldFrom_ev xs (by omega)) ?_)
  intro r hr
  have I : EvV (fun k => impl_OldFrom.f k xs) r := by
    obtain ⟨r', h', K⟩ := iOldFrom_ev xs (by omega)
    obtain rfl := hr.one h'
    exact ⟨r, rfl, K⟩
  have ll := hr.len
  clear hr
  obtain ⟨o, td, t, ks, vs, hk, ms, ok⟩ := r
  dsimp only at ll ⊢
  have S := eqOld_same o td t ks vs hk ms (by omega) (by omega)
  refine EvV.bind t' (EvV.bind I (EvV.bind S (EvP.pos rfl (EvP.succ ?_))))
  simp only [laws_FnExactOldFrom.j0]
  refine EvP.neg (by simp) (EvV.bind t' (EvV.bind ((eqIntS_ev xs xs (by omega)).to (w := true) (by simp)) (EvP.pos rfl (EvP.bind (markIntS_ev xs 1 (by decide) (by decide) (by omega)) ?_))))
  rintro ⟨m0, y0⟩ ⟨hm0, _, _⟩
  dsimp only at hm0 ⊢
  refine EvP.neg (by omega) (EvV.bind S (EvP.pos rfl (EvP.succ ?_)))
  simp only [laws_FnExactOldFrom.j1]
  refine EvP.neg (by simp) (EvP.bind (markOld_ev2 o td t ks vs hk ms (by omega) (by omega)) ?_)
  rintro ⟨m, ys, zs⟩ ⟨hm, hy, hM, hz, hN⟩
  dsimp only at hm hy hM hz hN ⊢
  have H := heldOld_ev o td t ys zs hk ms (by omega) (by omega) hM (by rw [hy]; exact hN)
  refine EvV.bind H (EvP.neg (by omega) (EvP.pos (by omega) (EvV.bind t' (EvV.bind I (EvV.bind S (EvP.pos rfl (EvP.succ ?_)))))))
  simp only [laws_FnExactOldFrom.j2]
  exact EvP.neg (by simp) (EvV.bind H (EvP.neg (by omega) (EvP.pos (by omega) (EvP.ret rfl))))

end Go.Proofs.Ytmpnedpokdaejaa.Pure
