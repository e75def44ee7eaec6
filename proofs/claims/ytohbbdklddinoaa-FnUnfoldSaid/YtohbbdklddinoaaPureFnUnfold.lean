/- A number that is unfolded and folded again is the same, at whatever number the code draws; there is no condition. -/
import Derived.Test.YtohbbdklddinoaaPFnUnfoldx1
import Derived.Test.YtohbbdklddinoaaMath
import Derived.Test.YtohbbdklddinoaaMath2
set_option linter.unusedVariables false
set_option linter.unusedSimpArgs false
namespace Go.Proofs.Ytohbbdklddinoaa.Pure
open Go.RowKit Go.Proofs.Ytohbbdklddinoaa.PFnUnfold Go.Proofs.YtohbbdklddinoaaW.PrintWords Go.Proofs.YtohbbdklddinoaaW.PrintLast Go.Proofs.YtohbbdklddinoaaW.PrintMore Go.Proofs.Ytohbbdklddinoaa.M

theorem l6In_eq (a b c : Int) : spec_l6In.f a b c = some (decide (b ≤ a ∧ a ≤ c)) := by
  unfold spec_l6In.f
  by_cases h : a ≥ b
  · rw [if_pos h]; congr 1; simp only [decide_eq_decide]; omega
  · rw [if_neg h]; congr 1; symm; simp only [decide_eq_false_iff_not]; omega

theorem iFold_eq (k : Nat) (n : Int) : impl_FoldNumber.f (k + 1) n = some (fold n) := by
  unfold impl_FoldNumber.f
  simp only [impl_FoldNumber.j0]
  unfold fold
  by_cases h1 : n < -1000000
  · simp [h1]
  · by_cases h2 : n > 1000000
    · simp [h1, h2]
    · by_cases h3 : n < 0
      · rw [if_neg h1, if_neg (by simpa using h2), if_pos h3, if_neg (by omega), if_pos h3, w64 (x := -2 * n) (by omega) (by omega), w64 (by omega) (by omega)]
      · rw [if_neg h1, if_neg (by simpa using h2), if_neg h3, if_neg (by omega), if_neg h3, w64 (by omega) (by omega)]
theorem iFold_ev (n : Int) : EvV (fun k => impl_FoldNumber.f k n) (fold n) := EvV.of_succ fun k => iFold_eq k n

theorem l1Unfold_eq {n : Int} (h0 : 0 ≤ n) (h1 : n ≤ 2000000) : spec_l1Unfold.f n = some (unf n) := by
  unfold spec_l1Unfold.f unf
  rw [tmod_pos h0]
  split
  · rw [w64 (x := n + 1) (by omega) (by omega), w64 (x := -(n + 1)) (by omega) (by omega)]
    have e : Int.tdiv (-(n + 1)) 2 = -((n + 1) / 2) := by rw [Int.neg_tdiv, tdiv_pos (by omega)]
    rw [e, w64 (by omega) (by omega)]; congr 1; omega
  · rw [tdiv_pos h0, w64 (by omega) (by omega)]

theorem sUnfold_eq (n : Int) : spec_UnfoldNumber.f n = some (unfC n) := by
  unfold spec_UnfoldNumber.f unfC
  simp only [l6In_eq, Option.bind_some]
  by_cases h : 0 ≤ n ∧ n ≤ 2000000
  · rw [if_pos (by simpa using h), l1Unfold_eq h.1 h.2, if_neg (by omega)]; rfl
  · rw [if_neg (by simpa using h), if_pos (by omega)]

theorem iUnfold_eq (k : Nat) (n : Int) : impl_UnfoldNumber.f (k + 1) n = some (unfC n) := by
  unfold impl_UnfoldNumber.f
  simp only [impl_UnfoldNumber.j0]
  unfold unfC
  by_cases h1 : n < 0
  · simp [h1]
  · by_cases h2 : n > 2000000
    · simp [h1, h2]
    · rw [if_neg h1, if_neg (by simpa using h2), if_neg (show ¬ (n < 0 ∨ 2000000 < n) by omega), and1 (by omega) (by omega)]
      unfold unf
      split
      · rw [w64 (x := -(n / 2)) (by omega) (by omega), w64 (by omega) (by omega)]
      · rfl
theorem iUnfold_ev (n : Int) : EvV (fun k => impl_UnfoldNumber.f k n) (unfC n) := EvV.of_succ fun k => iUnfold_eq k n

theorem pick_ev {b : List Int} {p : Int} (hb : Rdr b p) (hp : p ≤ 1000000000) {n : Int} (hn : 1 ≤ n) (hn2 : n ≤ 1000000000) :
    EvP (fun k => spec_l6Rd_pick.f k b p n) (fun r => 0 ≤ r.1 ∧ r.1 < n ∧ r.2 = p + 1) := by
  obtain ⟨hl, hx, hp0⟩ := hb
  have w1 : wrap64 (p + 1) = p + 1 := w64 (by omega) (by omega)
  have w2 : wrap64 (p + 1 - 1) = p := by rw [w64 (by omega) (by omega)]; omega
  unfold spec_l6Rd_pick.f
  refine EvP.neg (by omega) ?_
  rw [w1]
  refine EvP.succ ?_
  simp only [spec_l6Rd_pick.j0, w2]
  refine EvP.ite (fun h => EvP.ret ⟨by omega, by omega, rfl⟩) (fun h => ?_)
  have hlen : ((b.length : Int) == 0) = false := by simpa using h
  have hne : ¬ (b.length : Int) = 0 := by simpa using hlen
  have tm : ∀ x : Int, 0 ≤ x → 0 ≤ Int.tmod x n ∧ Int.tmod x n < n := fun x hx => by
    rw [tmod_pos hx]; exact ⟨Int.emod_nonneg _ (by omega), Int.emod_lt_of_pos _ (by omega)⟩
  have rr : ∀ i, 0 ≤ rd b i ∧ rd b i ≤ 255 := rd_rng hx
  refine EvP.ite (fun h1 => ?_) (fun h1 => ?_)
  · refine EvP.pos hp0 (EvP.neg (by omega) (EvP.ret ?_))
    have := rr p
    have t := tm (wrap64 (rd b p)) (by rw [w64 (by omega) (by omega)]; omega)
    exact ⟨t.1, t.2, rfl⟩
  · have t1 : Int.tmod p (b.length : Int) = p % (b.length : Int) := tmod_pos hp0
    have w3 : wrap64 (wrap64 (p * 7) + 3) = p * 7 + 3 := by rw [w64 (x := p * 7) (by omega) (by omega), w64 (by omega) (by omega)]
    have t2 : Int.tmod (p * 7 + 3) (b.length : Int) = (p * 7 + 3) % (b.length : Int) := tmod_pos (by omega)
    have a1 := Int.emod_nonneg p hne
    have a2 := Int.emod_lt_of_pos p (by omega : 0 < (b.length : Int))
    have a3 := Int.emod_nonneg (p * 7 + 3) hne
    have a4 := Int.emod_lt_of_pos (p * 7 + 3) (by omega : 0 < (b.length : Int))
    have d1 : Int.tdiv p (b.length : Int) = p / (b.length : Int) := tdiv_pos hp0
    have d2 : 0 ≤ p / (b.length : Int) := Int.ediv_nonneg hp0 (by omega)
    have d3 : p / (b.length : Int) ≤ p := Int.ediv_le_self _ hp0
    simp only [w3, t1, t2, d1]
    refine EvP.neg hne (EvP.pos a1 (EvP.pos a2 (EvP.pos a3 (EvP.pos a4 (EvP.neg (by omega) (EvP.ret ?_))))))
    have r1 := rr (p % (b.length : Int))
    have r2 := rr ((p * 7 + 3) % (b.length : Int))
    generalize rd b (p % (b.length : Int)) = x1 at r1 ⊢
    generalize rd b ((p * 7 + 3) % (b.length : Int)) = x2 at r2 ⊢
    generalize p / (b.length : Int) = q at d2 d3 ⊢
    have wx : ∀ x : Int, 0 ≤ x → x ≤ 1000000000000 → wrap64 x = x := fun x h0 h1 => w64 (by omega) (by omega)
    have e : wrap64 (wrap64 (wrap64 (wrap64 (wrap64 x1 * 131) + wrap64 (wrap64 x2 * 1117)) + wrap64 (p * 29)) + wrap64 (wrap64 q * 53)) = x1 * 131 + x2 * 1117 + p * 29 + q * 53 := by
      rw [wx x1 (by omega) (by omega), wx x2 (by omega) (by omega), wx q (by omega) (by omega), wx (x1 * 131) (by omega) (by omega), wx (x2 * 1117) (by omega) (by omega), wx (p * 29) (by omega) (by omega), wx (q * 53) (by omega) (by omega),
        wx (x1 * 131 + x2 * 1117) (by omega) (by omega), wx (x1 * 131 + x2 * 1117 + p * 29) (by omega) (by omega), wx _ (by omega) (by omega)]
    rw [e]
    generalize hz : x1 * 131 + x2 * 1117 + p * 29 + q * 53 = z
    have z0 : 0 ≤ z := by omega
    have z1 : z ≤ 1000000000000 := by omega
    rw [tdiv_pos z0, wx (z / 64) (by omega) (by omega)]
    have t := tm _ (xor_nonneg (x := z) (y := z / 64) (by omega) (by omega) (by omega) (by omega))
    exact ⟨t.1, t.2, rfl⟩

theorem open_ev (l : List Int) (hl : ∀ x ∈ l, (Lit.int .u8 x).wf = true) : EvP (fun _ => spec_l6Open.f l) (fun r => Rdr r.1 r.2 ∧ r.2 = 0) := by
  have hx : ∀ x ∈ l, 0 ≤ x ∧ x ≤ 255 := fun x hx => wf_u8 (hl x hx)
  unfold spec_l6Open.f
  refine EvP.ite (fun h => ?_) (fun h => ?_)
  · refine EvP.pos (by omega) (EvP.ret ⟨⟨by simp; omega, fun x hm => hx x (List.mem_of_mem_take hm), Int.le_refl 0⟩, rfl⟩)
  · exact EvP.ret ⟨⟨by dsimp only; omega, hx, Int.le_refl 0⟩, rfl⟩

theorem drawUnfold_ev (l : List Int) (hl : ∀ x ∈ l, (Lit.int .u8 x).wf = true) : EvP (fun k => spec_DrawUnfoldNumber.f k l) (fun _ => True) := by
  unfold spec_DrawUnfoldNumber.f
  refine EvP.bind (open_ev l hl) ?_
  rintro ⟨b, p⟩ ⟨h, hp⟩
  obtain rfl : p = 0 := hp
  have hR : ∀ q : Int, 0 ≤ q → Rdr b q := fun q hq => ⟨h.1, h.2.1, hq⟩
  dsimp only at h ⊢
  refine EvP.bind (pick_ev h (by decide) (by decide) (by decide)) ?_
  rintro ⟨v1, q1⟩ ⟨a1, a2, a3⟩
  dsimp only at a1 a2 a3 ⊢
  refine EvP.ite (fun _ => ?_) (fun _ => ?_)
  · simp only [Option.bind_some]
    refine EvP.bind (pick_ev (hR q1 (by omega)) (by omega) (by decide) (by decide)) ?_
    rintro ⟨v2, q2⟩ ⟨b1, b2, b3⟩
    dsimp only at b1 b2 b3 ⊢
    exact EvP.pos b1 (EvP.pos (by simpa using b2) (EvP.ret trivial))
  · refine EvP.bind (pick_ev (hR q1 (by omega)) (by omega) (by decide) (by decide)) ?_
    rintro ⟨v2, q2⟩ ⟨b1, b2, b3⟩
    dsimp only at b1 b2 b3 ⊢
    refine EvP.bind (pick_ev (hR q2 (by omega)) (by omega) (by decide) (by decide)) ?_
    rintro ⟨v3, q3⟩ ⟨c1, c2, c3⟩
    exact EvP.ret trivial

theorem FnUnfold : laws_FnUnfold.Pure := by
  intro l _ _ hl
  refine EvP.done ?_
  unfold laws_FnUnfold.f
  refine EvP.ite (fun _ => EvP.ret rfl) (fun _ => ?_)
  refine EvP.bind (drawUnfold_ev l hl) ?_
  intro n _
  refine EvV.bind (iUnfold_ev n) ?_
  simp only [sUnfold_eq, Option.bind_some]
  refine EvP.pos (by simp) (EvP.ite (fun _ => EvP.ret (by simp)) (fun h => EvP.ite (fun _ => EvP.ret (by simp)) (fun h2 => ?_)))
  refine EvV.bind (iFold_ev _) (EvP.ret ?_)
  have e : unfC n = unf n := by unfold unfC; rw [if_neg (by omega)]
  rw [e, fold_unf (by omega) (by omega)]; simp

end Go.Proofs.Ytohbbdklddinoaa.Pure
