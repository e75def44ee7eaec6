/- The program's IntBytes and the reference's tell the same bytes, which share no memory with another call's, for all numbers; there is no condition. -/
import Derived.Test.YtohbbdklddinoaaQFnExactIntBytesx2
import Derived.Test.YtohbbdklddinoaaMath
import Derived.Test.YtohbbdklddinoaaMath2
import Derived.Test.YtohbbdklddinoaaMath3
set_option linter.unusedVariables false
set_option linter.unusedSimpArgs false
namespace Go.Proofs.Ytohbbdklddinoaa.Pure
open Go.RowKit Go.Proofs.Ytohbbdklddinoaa.QFnExactIntBytes Go.Proofs.YtohbbdklddinoaaW.PrintWords Go.Proofs.YtohbbdklddinoaaW.PrintLast Go.Proofs.YtohbbdklddinoaaW.PrintMore Go.Proofs.Ytohbbdklddinoaa.M

theorem l6In_eq (a b c : Int) : spec_l6In.f a b c = some (decide (b ≤ a ∧ a ≤ c)) := by
  unfold spec_l6In.f
  by_cases h : a ≥ b
  · rw [if_pos h]; congr 1; simp only [decide_eq_decide]; omega
  · rw [if_neg h]; congr 1; symm; simp only [decide_eq_false_iff_not]; omega

theorem l2Power_ev {m : Int} (h0 : 1 ≤ m) (h1 : m ≤ 3) : EvV (fun k => spec_l2Power.f k m) (pow256 m) := by
  refine EvV.of_add 4 fun k => ?_
  rcases m123 h0 h1 with rfl | rfl | rfl <;> simp [spec_l2Power.f, spec_l2Power.l0, w64, pow256]

theorem l2Int_ev {n m : Int} (h0 : 1 ≤ m) (h1 : m ≤ 3) (hn : 0 ≤ n) (hn1 : n < 4611686018427387904) : EvV (fun k => spec_l2Int.f k n m) (intB n m) := by
  have d1 : wrap64 (Int.tdiv n 256) = n / 256 := by rw [tdiv_pos hn, w64 (by omega) (by omega)]
  have d2 : wrap64 (Int.tdiv (n / 256) 256) = n / 65536 := by rw [tdiv_pos (by omega), w64 (by omega) (by omega)]; omega
  have r0 : Int.tmod n 256 = n % 256 := tmod_pos hn
  have r1 : Int.tmod (n / 256) 256 = n / 256 % 256 := tmod_pos (by omega)
  have r2 : Int.tmod (n / 65536) 256 = n / 65536 % 256 := tmod_pos (by omega)
  have w0 : wrap64 (1 - 1) = 0 := w64 (by decide) (by decide)
  have w1 : wrap64 (2 - 1) = 1 := w64 (by decide) (by decide)
  have w2 : wrap64 (3 - 1) = 2 := w64 (by decide) (by decide)
  have w3 : wrap64 (0 - 1) = -1 := w64 (by decide) (by decide)
  refine EvV.of_add 4 fun k => ?_
  rcases m123 h0 h1 with rfl | rfl | rfl <;> simp [spec_l2Int.f, spec_l2Int.l0, w64, intB, d1, d2, r0, r1, r2, List.replicate, List.set]

theorem sIntBytes_ev (n m : Int) : EvV (fun k => spec_IntBytes.f k n m) (intBC n m) := by
  unfold spec_IntBytes.f intBC
  simp only [l6In_eq, Option.bind_some]
  refine EvP.ite (fun h => ?_) (fun h => EvP.ret ?_)
  · have h' : 1 ≤ m ∧ m ≤ 3 := by simpa using h
    have hp := pow256_pos m
    refine EvV.bind (l2Power_ev h'.1 h'.2) ?_
    rw [w64 (by omega) (by omega)]
    refine EvP.ite (fun g => ?_) (fun g => EvP.ret ?_)
    · have g' : 0 ≤ n ∧ n ≤ pow256 m - 1 := by simpa using g
      rw [if_pos ⟨h'.1, h'.2, g'.1, by omega⟩]
      exact EvV.bind (l2Int_ev h'.1 h'.2 g'.1 (by omega)) (EvP.ret rfl)
    · have g' : ¬ (0 ≤ n ∧ n ≤ pow256 m - 1) := by simpa using g
      rw [if_neg (by omega)]
  · have h' : ¬ (1 ≤ m ∧ m ≤ 3) := by simpa using h
    rw [if_neg (by omega)]

theorem intOf_ev {n m : Int} (h0 : 1 ≤ m) (h1 : m ≤ 3) (hn : 0 ≤ n) (hn1 : n < 4611686018427387904) : EvV (fun k => impl_intOf.f k n m) (intB n m) := by
  have s0 : shr .i64 n 0 = n := by unfold shr; simp
  have s1 : shr .i64 n 8 = n / 256 := by unfold shr; rfl
  have s2 : shr .i64 n 16 = n / 65536 := by unfold shr; rfl
  have r0 : Go.bits .and .i64 n 255 = n % 256 := and255 hn (by omega)
  have r1 : Go.bits .and .i64 (n / 256) 255 = n / 256 % 256 := and255 (by omega) (by omega)
  have r2 : Go.bits .and .i64 (n / 65536) 255 = n / 65536 % 256 := and255 (by omega) (by omega)
  refine EvV.of_add 4 fun k => ?_
  rcases m123 h0 h1 with rfl | rfl | rfl <;> simp [impl_intOf.f, impl_intOf.l0, w64, intB, s0, s1, s2, r0, r1, r2, List.replicate, List.set]

theorem iIntBytes_ev (n m : Int) : EvV (fun k => impl_IntBytes.f k n m) (intBC n m) := by
  unfold impl_IntBytes.f intBC
  refine EvP.ite (fun h => EvP.ret (by rw [if_neg (by omega)])) (fun a => ?_)
  refine EvP.ite (fun h => EvP.ret (by rw [if_neg (by omega)])) (fun b => ?_)
  refine EvP.ite (fun h => EvP.ret (by rw [if_neg (by omega)])) (fun c => ?_)
  have e : shl .i64 1 (wrap64 (8 * m)) = pow256 m := by
    rw [w64 (by omega) (by omega)]
    rcases m123 (by omega : 1 ≤ m) (by omega) with rfl | rfl | rfl <;> (unfold shl; rw [wrap_i64_eq]; exact w64 (by decide) (by decide))
  rw [e]
  have w : wrap64 (8 * m) = 8 * m := w64 (by omega) (by omega)
  have hp := pow256_pos m
  rw [w]
  refine EvP.pos (by omega) ?_
  refine EvP.ite (fun h => EvP.ret (by rw [if_neg (by omega)])) (fun d => ?_)
  rw [if_pos ⟨by omega, by omega, by omega, by omega⟩]
  exact EvV.bind (intOf_ev (by omega) (by omega) (by omega) (by omega)) (EvP.ret rfl)

theorem eqIntS_l0 (xs ys : List Int) (he : xs.length = ys.length) (hl : xs.length ≤ 1000000000000000000) (d : Nat) : ∀ j : Nat, j ≤ xs.length → xs.length - j = d → EvV (fun k => laws_eqIntS.l0 k xs ys (j : Int)) (decide (xs.drop j = ys.drop j)) := by
  induction d with
  | zero =>
    intro j hj hd
    refine EvP.succ ?_
    simp only [laws_eqIntS.l0]
    rw [drop_end xs j (by omega), drop_end ys j (by omega)]
    exact EvP.neg (by omega) (EvP.ret (by simp))
  | succ d ih =>
    intro j hj hd
    have hlt : j < xs.length := by omega
    have hlt2 : j < ys.length := by omega
    refine EvP.succ ?_
    simp only [laws_eqIntS.l0, rd_nat xs j hlt, rd_nat ys j hlt2, w64_succ hlt hl]
    refine EvP.pos (by omega) (EvP.pos (by omega) (EvP.pos (by omega) ?_))
    rw [drop_cons xs j hlt, drop_cons ys j hlt2]
    refine EvP.ite (fun h => ?_) (fun h => EvP.ret ?_)
    · exact (ih (j + 1) (by omega) (by omega)).to (dec_cons_t h)
    · exact dec_cons_f h
theorem eqIntS_ev (xs ys : List Int) (hl : xs.length ≤ 1000000000000000000) : EvV (fun k => laws_eqIntS.f k xs ys) (decide (xs = ys)) := by
  unfold laws_eqIntS.f
  refine EvP.ite (fun h => ?_) (fun h => EvP.ret ?_)
  · exact eqIntS_l0 xs ys (by omega) hl xs.length 0 (by omega) (by omega)
  · have : ¬ xs = ys := by rintro rfl; exact h rfl
    simp [this]

theorem markIntS_ev (xs : List Int) (s : Int) (hs0 : 0 ≤ s) (hs1 : s ≤ 1000000000000000) (hl : xs.length ≤ 1000000000000000) :
    EvP (fun k => laws_markIntS.f k xs s) (fun r => r.1 = s + xs.length ∧ r.2.length = xs.length ∧ Marked r.2 s) := by
  have key : ∀ (d j : Nat) (ys : List Int), j + d = xs.length → ys.length = xs.length → (∀ i (h : i < ys.length), i < j → ys[i] = s + i) → EvP (fun k => laws_markIntS.l0 k ys (s + j) (j : Int)) (fun r => r.1 = s + xs.length ∧ r.2.length = xs.length ∧ Marked r.2 s) := by
    intro d
    induction d with
    | zero =>
      intro j ys hj hy ht
      refine EvP.succ ?_
      simp only [laws_markIntS.l0]
      refine EvP.neg (by omega) (EvP.ret ⟨?_, hy, ?_⟩)
      · dsimp only; omega
      · intro i hi; exact ht i hi (by dsimp only at hi; omega)
    | succ d ih =>
      intro j ys hj hy ht
      have hlt : j < ys.length := by omega
      have e : ((j : Int)).toNat = j := by omega
      have e2 : wrap64 (s + (j : Int) + 1) = s + ((j + 1 : Nat) : Int) := by rw [w64 (by omega) (by omega)]; omega
      refine EvP.succ ?_
      simp only [laws_markIntS.l0, w64_succ hlt (by omega : ys.length ≤ 1000000000000000000), e, e2]
      refine EvP.pos (by omega) (EvP.pos (by omega) ?_)
      refine ih (j + 1) _ (by omega) (by simpa using hy) ?_
      intro i hi hij
      rw [List.getElem_set]
      split
      · rename_i h; omega
      · rename_i h; exact ht i (by simpa using hi) (by omega)
  unfold laws_markIntS.f
  have := key xs.length 0 xs (by omega) rfl (by intro i _ h; omega)
  simpa using this

theorem heldIntS_ev (ys : List Int) (s : Int) (hs0 : 0 ≤ s) (hs1 : s ≤ 1000000000000000) (hl : ys.length ≤ 1000000000000000) (hm : Marked ys s) :
    EvV (fun k => laws_heldIntS.f k ys s) (s + ys.length) := by
  have key : ∀ (d j : Nat), j + d = ys.length → EvV (fun k => laws_heldIntS.l0 k ys (s + j) (j : Int)) (s + ys.length) := by
    intro d
    induction d with
    | zero =>
      intro j hj
      refine EvP.succ ?_
      simp only [laws_heldIntS.l0]
      exact EvP.neg (by omega) (EvP.ret (by omega))
    | succ d ih =>
      intro j hj
      have hlt : j < ys.length := by omega
      have e2 : wrap64 (s + (j : Int) + 1) = s + ((j + 1 : Nat) : Int) := by rw [w64 (by omega) (by omega)]; omega
      refine EvP.succ ?_
      simp only [laws_heldIntS.l0, w64_succ hlt (by omega : ys.length ≤ 1000000000000000000), e2, marked_rd hm j hlt]
      refine EvP.pos (by omega) (EvP.pos (by omega) (EvP.pos (by simp) ?_))
      exact ih (j + 1) (by omega)
  unfold laws_heldIntS.f
  have := key ys.length 0 (by omega)
  simpa using this

theorem FnExactIntBytes : laws_FnExactIntBytes.Pure := by
  intro n m _ _
  refine EvP.done ?_
  unfold laws_FnExactIntBytes.f
  have s := sIntBytes_ev n m
  have i := iIntBytes_ev n m
  have hl := intBC_len n m
  generalize intBC n m = r at s i hl
  obtain ⟨xs, b⟩ := r
  dsimp only at hl
  have q := (eqIntS_ev xs xs (by omega)).to (w := true) (by simp)
  refine EvV.bind s (EvV.bind i (EvV.bind q (EvP.pos rfl (EvP.succ ?_))))
  simp only [laws_FnExactIntBytes.j0]
  refine EvP.neg (by simp) (EvP.bind (markIntS_ev xs 1 (by decide) (by decide) (by omega)) ?_)
  rintro ⟨m', ys⟩ ⟨hm, hy, hM⟩
  dsimp only at hm hy hM ⊢
  have hh := heldIntS_ev ys 1 (by decide) (by decide) (by omega) hM
  refine EvV.bind hh (EvP.neg (by omega) (EvP.pos (by omega) (EvV.bind i (EvV.bind q (EvP.pos rfl (EvP.succ ?_))))))
  simp only [laws_FnExactIntBytes.j1]
  exact EvP.neg (by simp) (EvV.bind hh (EvP.neg (by omega) (EvP.pos (by omega) (EvP.ret rfl))))

end Go.Proofs.Ytohbbdklddinoaa.Pure
