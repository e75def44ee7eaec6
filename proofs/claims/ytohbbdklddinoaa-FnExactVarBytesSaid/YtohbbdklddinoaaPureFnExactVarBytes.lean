/- The program's VarBytes and the reference's tell the same bytes, which share no memory with another call's, for every number; there is no condition. -/
import Derived.Test.YtohbbdklddinoaaPFnExactVarBytesx2
import Derived.Test.YtohbbdklddinoaaMath
import Derived.Test.YtohbbdklddinoaaMath2
set_option linter.unusedVariables false
set_option linter.unusedSimpArgs false
namespace Go.Proofs.Ytohbbdklddinoaa.Pure
open Go.RowKit Go.Proofs.Ytohbbdklddinoaa.PFnExactVarBytes Go.Proofs.YtohbbdklddinoaaW.PrintWords Go.Proofs.YtohbbdklddinoaaW.PrintLast Go.Proofs.YtohbbdklddinoaaW.PrintMore Go.Proofs.Ytohbbdklddinoaa.M

theorem l6In_eq (a b c : Int) : spec_l6In.f a b c = some (decide (b ≤ a ∧ a ≤ c)) := by
  unfold spec_l6In.f
  by_cases h : a ≥ b
  · rw [if_pos h]; congr 1; simp only [decide_eq_decide]; omega
  · rw [if_neg h]; congr 1; symm; simp only [decide_eq_false_iff_not]; omega

theorem l1Fold_eq {n : Int} (h0 : -1000000 ≤ n) (h1 : n ≤ 1000000) : spec_l1Fold.f n = some (fold n) := by
  unfold spec_l1Fold.f fold
  rw [if_neg (by omega : ¬ (n < -1000000 ∨ 1000000 < n))]
  split
  · rw [w64 (x := -2 * n) (by omega) (by omega), w64 (by omega) (by omega)]
  · rw [w64 (by omega) (by omega)]

theorem iFold_eq (k : Nat) (n : Int) : impl_FoldNumber.f (k + 1) n = some (fold n) := by
  unfold impl_FoldNumber.f
  simp only [impl_FoldNumber.j0]
  unfold fold
  by_cases h1 : n < -1000000
  · simp [h1]
  · by_cases h2 : n > 1000000
    · simp [h1, h2]
    · by_cases h3 : n < 0
      · rw [if_neg h1, if_neg (by simpa using h2), if_pos h3, if_neg (by omega), if_pos h3, w64 (x := -2 * n) (by omega) (by omega), w64 (by omega) (by omega)]
      · rw [if_neg h1, if_neg (by simpa using h2), if_neg h3, if_neg (by omega), if_neg h3, w64 (by omega) (by omega)]
theorem iFold_ev (n : Int) : EvV (fun k => impl_FoldNumber.f k n) (fold n) := EvV.of_succ fun k => iFold_eq k n

theorem l1Bytes_ev {n : Int} (h0 : -1000000 ≤ n) (h1 : n ≤ 1000000) : EvV (fun k => spec_l1Bytes.f k n) (varL (fold n)) := by
  obtain ⟨f0, f1⟩ := fold_rng h0 h1
  refine EvV.of_add 3 fun k => ?_
  unfold spec_l1Bytes.f
  rw [l1Fold_eq h0 h1]
  simp only [Option.bind_some]
  generalize fold n = f at f0 f1 ⊢
  unfold varL
  by_cases a : f < 128
  · simp only [spec_l1Bytes.l0]; rw [if_neg (by omega), if_pos (by simp), if_pos a]; rfl
  · rw [if_neg a]
    have e1 : wrap64 (Int.tdiv f 128) = f / 128 := by rw [tdiv_pos f0, w64 (by omega) (by omega)]
    have e2 : wrap64 (128 + Int.tmod f 128) = f % 128 + 128 := by rw [tmod_pos f0, w64 (by omega) (by omega)]; omega
    by_cases b : f < 16384
    · simp only [spec_l1Bytes.l0]; rw [if_pos (by omega), if_pos (by simp), e1, e2, if_neg (by omega), if_pos (by simp), if_pos b]; rfl
    · have e3 : wrap64 (Int.tdiv (f / 128) 128) = f / 16384 := by rw [tdiv_pos (by omega), w64 (by omega) (by omega)]; omega
      have e4 : wrap64 (128 + Int.tmod (f / 128) 128) = f / 128 % 128 + 128 := by rw [tmod_pos (by omega), w64 (by omega) (by omega)]; omega
      simp only [spec_l1Bytes.l0]
      rw [if_pos (by omega), if_pos (by simp), e1, e2, if_pos (by omega), if_pos (by simp), e3, e4, if_neg (by omega), if_pos (by simp), if_neg b]; rfl

theorem sVarBytes_ev (n : Int) : EvV (fun k => spec_VarBytes.f k n) (varR n) := by
  unfold varR spec_VarBytes.f
  simp only [l6In_eq, Option.bind_some]
  by_cases h : -1000000 ≤ n ∧ n ≤ 1000000
  · have := fold_rng h.1 h.2
    refine EvP.pos (by simpa using h) (EvV.bind (l1Bytes_ev h.1 h.2) (EvP.ret ?_))
    rw [if_neg (by omega)]
  · refine EvP.neg (by simpa using h) (EvP.ret ?_)
    rw [if_pos (by unfold fold; rw [if_pos (by omega)]; decide)]

theorem varOf_ev {n : Int} (h0 : -1000000 ≤ n) (h1 : n ≤ 1000000) : EvV (fun k => impl_varOf.f k n) (varL (fold n)) := by
  obtain ⟨f0, f1⟩ := fold_rng h0 h1
  unfold impl_varOf.f
  refine EvV.bind (iFold_ev n) ?_
  refine EvV.of_add 3 fun k => ?_
  generalize fold n = f at f0 f1 ⊢
  unfold varL
  have orr : ∀ y : Int, 0 ≤ y → y < 128 → Go.bits .or .i64 y 128 = y + 128 := fun y a b => by
    rw [bits_swap, or_join 7 128 y (by omega) (by decide) (by omega) a (by omega) (by omega)]; omega
  by_cases a : f < 128
  · simp only [impl_varOf.l0]; rw [if_pos a, if_pos (by simp), if_pos a]; rfl
  · rw [if_neg a]
    have e2 : Go.bits .or .i64 (Go.bits .and .i64 f 127) 128 = f % 128 + 128 := by rw [and127 f0 (by omega), orr _ (by omega) (by omega)]
    by_cases b : f < 16384
    · simp only [impl_varOf.l0]; rw [if_neg a, if_pos (by simp), e2, if_pos (by omega), if_pos (by simp), if_pos b]; rfl
    · have e3 : f / 128 / 128 = f / 16384 := by omega
      have e4 : Go.bits .or .i64 (Go.bits .and .i64 (f / 128) 127) 128 = f / 128 % 128 + 128 := by rw [and127 (by omega) (by omega), orr _ (by omega) (by omega)]
      simp only [impl_varOf.l0]
      rw [if_neg a, if_pos (by simp), e2, if_neg (by omega), if_pos (by simp), e3, e4, if_pos (by omega), if_pos (by simp), if_neg b]; rfl

theorem iVarBytes_ev (n : Int) : EvV (fun k => impl_VarBytes.f k n) (varR n) := by
  unfold varR impl_VarBytes.f
  refine EvV.bind (iFold_ev n) ?_
  refine EvP.ite (fun h => EvP.ret ?_) (fun h => ?_)
  · rw [if_pos h]
  · have h' : -1000000 ≤ n ∧ n ≤ 1000000 := by unfold fold at h; split at h <;> omega
    refine EvV.bind (varOf_ev h'.1 h'.2) (EvP.ret ?_)
    rw [if_neg h]

theorem eqIntS_l0 (xs ys : List Int) (he : xs.length = ys.length) (hl : xs.length ≤ 1000000000000000000) (d : Nat) : ∀ j : Nat, j ≤ xs.length → xs.length - j = d → EvV (fun k => laws_eqIntS.l0 k xs ys (j : Int)) (decide (xs.drop j = ys.drop j)) := by
  induction d with
  | zero =>
    intro j hj hd
    refine EvP.succ ?_
    simp only [laws_eqIntS.l0]
    rw [drop_end xs j (by omega), drop_end ys j (by omega)]
    exact EvP.neg (by omega) (EvP.ret (by simp))
  | succ d ih =>
    intro j hj hd
    have hlt : j < xs.length := by omega
    have hlt2 : j < ys.length := by omega
    refine EvP.succ ?_
    simp only [laws_eqIntS.l0, rd_nat xs j hlt, rd_nat ys j hlt2, w64_succ hlt hl]
    refine EvP.pos (by omega) (EvP.pos (by omega) (EvP.pos (by omega) ?_))
    rw [drop_cons xs j hlt, drop_cons ys j hlt2]
    refine EvP.ite (fun h => ?_) (fun h => EvP.ret ?_)
    · exact (ih (j + 1) (by omega) (by omega)).to (dec_cons_t h)
    · exact dec_cons_f h
theorem eqIntS_ev (xs ys : List Int) (hl : xs.length ≤ 1000000000000000000) : EvV (fun k => laws_eqIntS.f k xs ys) (decide (xs = ys)) := by
  unfold laws_eqIntS.f
  refine EvP.ite (fun h => ?_) (fun h => EvP.ret ?_)
  · exact eqIntS_l0 xs ys (by omega) hl xs.length 0 (by omega) (by omega)
  · have : ¬ xs = ys := by rintro rfl; exact h rfl
    simp [this]

theorem markIntS_ev (xs : List Int) (s : Int) (hs0 : 0 ≤ s) (hs1 : s ≤ 1000000000000000) (hl : xs.length ≤ 1000000000000000) :
    EvP (fun k => laws_markIntS.f k xs s) (fun r => r.1 = s + xs.length ∧ r.2.length = xs.length ∧ Marked r.2 s) := by
  have key : ∀ (d j : Nat) (ys : List Int), j + d = xs.length → ys.length = xs.length → (∀ i (h : i < ys.length), i < j → ys[i] = s + i) → EvP (fun k => laws_markIntS.l0 k ys (s + j) (j : Int)) (fun r => r.1 = s + xs.length ∧ r.2.length = xs.length ∧ Marked r.2 s) := by
    intro d
    induction d with
    | zero =>
      intro j ys hj hy ht
      refine EvP.succ ?_
      simp only [laws_markIntS.l0]
      refine EvP.neg (by omega) (EvP.ret ⟨?_, hy, ?_⟩)
      · dsimp only; omega
      · intro i hi; exact ht i hi (by dsimp only at hi; omega)
    | succ d ih =>
      intro j ys hj hy ht
      have hlt : j < ys.length := by omega
      have e : ((j : Int)).toNat = j := by omega
      have e2 : wrap64 (s + (j : Int) + 1) = s + ((j + 1 : Nat) : Int) := by rw [w64 (by omega) (by omega)]; omega
      refine EvP.succ ?_
      simp only [laws_markIntS.l0, w64_succ hlt (by omega : ys.length ≤ 1000000000000000000), e, e2]
      refine EvP.pos (by omega) (EvP.pos (by omega) ?_)
      refine ih (j + 1) _ (by omega) (by simpa using hy) ?_
      intro i hi hij
      rw [List.getElem_set]
      split
      · rename_i h; omega
      · rename_i h; exact ht i (by simpa using hi) (by omega)
  unfold laws_markIntS.f
  have := key xs.length 0 xs (by omega) rfl (by intro i _ h; omega)
  simpa using this

theorem heldIntS_ev (ys : List Int) (s : Int) (hs0 : 0 ≤ s) (hs1 : s ≤ 1000000000000000) (hl : ys.length ≤ 1000000000000000) (hm : Marked ys s) :
    EvV (fun k => laws_heldIntS.f k ys s) (s + ys.length) := by
  have key : ∀ (d j : Nat), j + d = ys.length → EvV (fun k => laws_heldIntS.l0 k ys (s + j) (j : Int)) (s + ys.length) := by
    intro d
    induction d with
    | zero =>
      intro j hj
      refine EvP.succ ?_
      simp only [laws_heldIntS.l0]
      exact EvP.neg (by omega) (EvP.ret (by omega))
    | succ d ih =>
      intro j hj
      have hlt : j < ys.length := by omega
      have e2 : wrap64 (s + (j : Int) + 1) = s + ((j + 1 : Nat) : Int) := by rw [w64 (by omega) (by omega)]; omega
      refine EvP.succ ?_
      simp only [laws_heldIntS.l0, w64_succ hlt (by omega : ys.length ≤ 1000000000000000000), e2, marked_rd hm j hlt]
      refine EvP.pos (by omega) (EvP.pos (by omega) (EvP.pos (by simp) ?_))
      exact ih (j + 1) (by omega)
  unfold laws_heldIntS.f
  have := key ys.length 0 (by omega)
  simpa using this

theorem FnExactVarBytes : laws_FnExactVarBytes.Pure := by
  intro n _
  refine EvP.done ?_
  unfold laws_FnExactVarBytes.f
  have s := sVarBytes_ev n
  have i := iVarBytes_ev n
  have hl := varR_len n
  generalize varR n = r at s i hl
  obtain ⟨xs, b⟩ := r
  dsimp only at hl
  have q := (eqIntS_ev xs xs (by omega)).to (w := true) (by simp)
  refine EvV.bind s (EvV.bind i (EvV.bind q (EvP.pos rfl (EvP.succ ?_))))
  simp only [laws_FnExactVarBytes.j0]
  refine EvP.neg (by simp) (EvP.bind (markIntS_ev xs 1 (by decide) (by decide) (by omega)) ?_)
  rintro ⟨m, ys⟩ ⟨hm, hy, hM⟩
  dsimp only at hm hy hM ⊢
  have hh := heldIntS_ev ys 1 (by decide) (by decide) (by omega) hM
  refine EvV.bind hh (EvP.neg (by omega) (EvP.pos (by omega) (EvV.bind i (EvV.bind q (EvP.pos rfl (EvP.succ ?_))))))
  simp only [laws_FnExactVarBytes.j1]
  exact EvP.neg (by simp) (EvV.bind hh (EvP.neg (by omega) (EvP.pos (by omega) (EvP.ret rfl))))

end Go.Proofs.Ytohbbdklddinoaa.Pure
