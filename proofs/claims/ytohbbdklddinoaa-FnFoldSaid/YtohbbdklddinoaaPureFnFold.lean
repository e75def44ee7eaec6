/- A folded number is unfolded to the number, and is odd just where the number is less than 0, at whatever number the code draws; there is no condition. -/
import Derived.Test.YtohbbdklddinoaaPFnFoldx2
import Derived.Test.YtohbbdklddinoaaMath
import Derived.Test.YtohbbdklddinoaaMath2
set_option linter.unusedVariables false
set_option linter.unusedSimpArgs false
namespace Go.Proofs.Ytohbbdklddinoaa.Pure
open Go.RowKit Go.Proofs.Ytohbbdklddinoaa.PFnFold Go.Proofs.YtohbbdklddinoaaW.PrintWords Go.Proofs.YtohbbdklddinoaaW.PrintLast Go.Proofs.YtohbbdklddinoaaW.PrintMore Go.Proofs.Ytohbbdklddinoaa.M

theorem l6In_eq (a b c : Int) : spec_l6In.f a b c = some (decide (b ≤ a ∧ a ≤ c)) := by
  unfold spec_l6In.f
  by_cases h : a ≥ b
  · rw [if_pos h]; congr 1; simp only [decide_eq_decide]; omega
  · rw [if_neg h]; congr 1; symm; simp only [decide_eq_false_iff_not]; omega

theorem l1Fold_eq {n : Int} (h0 : -1000000 ≤ n) (h1 : n ≤ 1000000) : spec_l1Fold.f n = some (fold n) := by
  unfold spec_l1Fold.f fold
  rw [if_neg (by omega : ¬ (n < -1000000 ∨ 1000000 < n))]
  split
  · rw [w64 (x := -2 * n) (by omega) (by omega), w64 (by omega) (by omega)]
  · rw [w64 (by omega) (by omega)]

theorem sFold_eq (n : Int) : spec_FoldNumber.f n = some (fold n) := by
  unfold spec_FoldNumber.f
  simp only [l6In_eq, Option.bind_some]
  by_cases h : -1000000 ≤ n ∧ n ≤ 1000000
  · rw [if_pos (by simpa using h), l1Fold_eq h.1 h.2]; rfl
  · rw [if_neg (by simpa using h)]; unfold fold; rw [if_pos (by omega)]

theorem iFold_eq (k : Nat) (n : Int) : impl_FoldNumber.f (k + 1) n = some (fold n) := by
  unfold impl_FoldNumber.f
  simp only [impl_FoldNumber.j0]
  unfold fold
  by_cases h1 : n < -1000000
  · simp [h1]
  · by_cases h2 : n > 1000000
    · simp [h1, h2]
    · by_cases h3 : n < 0
      · rw [if_neg h1, if_neg (by simpa using h2), if_pos h3, if_neg (by omega), if_pos h3, w64 (x := -2 * n) (by omega) (by omega), w64 (by omega) (by omega)]
      · rw [if_neg h1, if_neg (by simpa using h2), if_neg h3, if_neg (by omega), if_neg h3, w64 (by omega) (by omega)]
theorem iFold_ev (n : Int) : EvV (fun k => impl_FoldNumber.f k n) (fold n) := EvV.of_succ fun k => iFold_eq k n

theorem iUnfold_eq (k : Nat) (n : Int) : impl_UnfoldNumber.f (k + 1) n = some (unfC n) := by
  unfold impl_UnfoldNumber.f
  simp only [impl_UnfoldNumber.j0]
  unfold unfC
  by_cases h1 : n < 0
  · simp [h1]
  · by_cases h2 : n > 2000000
    · simp [h1, h2]
    · rw [if_neg h1, if_neg (by simpa using h2), if_neg (show ¬ (n < 0 ∨ 2000000 < n) by omega), and1 (by omega) (by omega)]
      unfold unf
      split
      · rw [w64 (x := -(n / 2)) (by omega) (by omega), w64 (by omega) (by omega)]
      · rfl
theorem iUnfold_ev (n : Int) : EvV (fun k => impl_UnfoldNumber.f k n) (unfC n) := EvV.of_succ fun k => iUnfold_eq k n

theorem pick_ev {b : List Int} {p : Int} (hb : Rdr b p) (hp : p ≤ 1000000000) {n : Int} (hn : 1 ≤ n) (hn2 : n ≤ 1000000000) :
    EvP (fun k => spec_l6Rd_pick.f k b p n) (fun r => 0 ≤ r.1 ∧ r.1 < n ∧ r.2 = p + 1) := by
  obtain ⟨hl, hx, hp0⟩ := hb
  have w1 : wrap64 (p + 1) = p + 1 := w64 (by omega) (by omega)
  have w2 : wrap64 (p + 1 - 1) = p := by rw [w64 (by omega) (by omega)]; omega
  unfold spec_l6Rd_pick.f
  refine EvP.neg (by omega) ?_
  rw [w1]
  refine EvP.succ ?_
  simp only [spec_l6Rd_pick.j0, w2]
  refine EvP.ite (fun h => EvP.ret ⟨by omega, by omega, rfl⟩) (fun h => ?_)
  have hlen : ((b.length : Int) == 0) = false := by simpa using h
  have hne : ¬ (b.length : Int) = 0 := by simpa using hlen
  have tm : ∀ x : Int, 0 ≤ x → 0 ≤ Int.tmod x n ∧ Int.tmod x n < n := fun x hx => by
    rw [tmod_pos hx]; exact ⟨Int.emod_nonneg _ (by omega), Int.emod_lt_of_pos _ (by omega)⟩
  have rr : ∀ i, 0 ≤ rd b i ∧ rd b i ≤ 255 := rd_rng hx
  refine EvP.ite (fun h1 => ?_) (fun h1 => ?_)
  · refine EvP.pos hp0 (EvP.neg (by omega) (EvP.ret ?_))
    have := rr p
    have t := tm (wrap64 (rd b p)) (by rw [w64 (by omega) (by omega)]; omega)
    exact ⟨t.1, t.2, rfl⟩
  · have t1 : Int.tmod p (b.length : Int) = p % (b.length : Int) := tmod_pos hp0
    have w3 : wrap64 (wrap64 (p * 7) + 3) = p * 7 + 3 := by rw [w64 (x := p * 7) (by omega) (by omega), w64 (by omega) (by omega)]
    have t2 : Int.tmod (p * 7 + 3) (b.length : Int) = (p * 7 + 3) % (b.length : Int) := tmod_pos (by omega)
    have a1 := Int.emod_nonneg p hne
    have a2 := Int.emod_lt_of_pos p (by omega : 0 < (b.length : Int))
    have a3 := Int.emod_nonneg (p * 7 + 3) hne
    have a4 := Int.emod_lt_of_pos (p * 7 + 3) (by omega : 0 < (b.length : Int))
    have d1 : Int.tdiv p (b.length : Int) = p / (b.length : Int) := tdiv_pos hp0
    have d2 : 0 ≤ p / (b.length : Int) := Int.ediv_nonneg hp0 (by omega)
    have d3 : p / (b.length : Int) ≤ p := Int.ediv_le_self _ hp0
    simp only [w3, t1, t2, d1]
    refine EvP.neg hne (EvP.pos a1 (EvP.pos a2 (EvP.pos a3 (EvP.pos a4 (EvP.neg (by omega) (EvP.ret ?_))))))
    have r1 := rr (p % (b.length : Int))
    have r2 := rr ((p * 7 + 3) % (b.length : Int))
    generalize rd b (p % (b.length : Int)) = x1 at r1 ⊢
    generalize rd b ((p * 7 + 3) % (b.length : Int)) = x2 at r2 ⊢
    generalize p / (b.length : Int) = q at d2 d3 ⊢
    have wx : ∀ x : Int, 0 ≤ x → x ≤ 1000000000000 → wrap64 x = x := fun x h0 h1 => w64 (by omega) (by omega)
    have e : wrap64 (wrap64 (wrap64 (wrap64 (wrap64 x1 * 131) + wrap64 (wrap64 x2 * 1117)) + wrap64 (p * 29)) + wrap64 (wrap64 q * 53)) = x1 * 131 + x2 * 1117 + p * 29 + q * 53 := by
      rw [wx x1 (by omega) (by omega), wx x2 (by omega) (by omega), wx q (by omega) (by omega), wx (x1 * 131) (by omega) (by omega), wx (x2 * 1117) (by omega) (by omega), wx (p * 29) (by omega) (by omega), wx (q * 53) (by omega) (by omega),
        wx (x1 * 131 + x2 * 1117) (by omega) (by omega), wx (x1 * 131 + x2 * 1117 + p * 29) (by omega) (by omega), wx _ (by omega) (by omega)]
    rw [e]
    generalize hz : x1 * 131 + x2 * 1117 + p * 29 + q * 53 = z
    have z0 : 0 ≤ z := by omega
    have z1 : z ≤ 1000000000000 := by omega
    rw [tdiv_pos z0, wx (z / 64) (by omega) (by omega)]
    have t := tm _ (xor_nonneg (x := z) (y := z / 64) (by omega) (by omega) (by omega) (by omega))
    exact ⟨t.1, t.2, rfl⟩

theorem open_ev (l : List Int) (hl : ∀ x ∈ l, (Lit.int .u8 x).wf = true) : EvP (fun _ => spec_l6Open.f l) (fun r => Rdr r.1 r.2 ∧ r.2 = 0) := by
  have hx : ∀ x ∈ l, 0 ≤ x ∧ x ≤ 255 := fun x hx => wf_u8 (hl x hx)
  unfold spec_l6Open.f
  refine EvP.ite (fun h => ?_) (fun h => ?_)
  · refine EvP.pos (by omega) (EvP.ret ⟨⟨by simp; omega, fun x hm => hx x (List.mem_of_mem_take hm), Int.le_refl 0⟩, rfl⟩)
  · exact EvP.ret ⟨⟨by dsimp only; omega, hx, Int.le_refl 0⟩, rfl⟩

theorem l91Number_ev {b : List Int} {p : Int} (hb : Rdr b p) (hp : p ≤ 100000000) :
    EvP (fun k => spec_l91Number.f k b p) (fun r => -10000000 ≤ r.1 ∧ r.1 ≤ 10000000 ∧ Rdr b r.2 ∧ r.2 ≤ p + 10) := by
  have hR : ∀ q : Int, p ≤ q → Rdr b q := fun q hq => ⟨hb.1, hb.2.1, by have := hb.2.2; omega⟩
  unfold spec_l91Number.f
  refine EvP.bind (pick_ev hb (by omega) (by decide) (by decide)) ?_
  rintro ⟨v1, q1⟩ ⟨a1, a2, a3⟩
  dsimp only at a1 a2 a3 ⊢
  refine EvP.ite (fun _ => ?_) (fun _ => EvP.ite (fun _ => ?_) (fun _ => ?_))
  · simp only [Option.bind_some]
    refine EvP.bind (pick_ev (hR q1 (by omega)) (by omega) (by decide) (by decide)) ?_
    rintro ⟨v2, q2⟩ ⟨b1, b2, b3⟩
    dsimp only at b1 b2 b3 ⊢
    refine EvP.pos b1 (EvP.pos (by simpa using b2) (EvP.ret ⟨?_, ?_, hR _ (by omega), by omega⟩))
    all_goals
      have c : v2 = 0 ∨ v2 = 1 ∨ v2 = 2 ∨ v2 = 3 ∨ v2 = 4 ∨ v2 = 5 := by omega
      rcases c with rfl | rfl | rfl | rfl | rfl | rfl <;> dsimp only <;> decide
  · simp only [Option.bind_some]
    refine EvP.bind (pick_ev (hR q1 (by omega)) (by omega) (by decide) (by decide)) ?_
    rintro ⟨v2, q2⟩ ⟨b1, b2, b3⟩
    dsimp only at b1 b2 b3 ⊢
    refine EvP.pos b1 (EvP.pos (by simpa using b2) (EvP.ret ⟨?_, ?_, hR _ (by omega), by omega⟩))
    all_goals
      have c : v2 = 0 ∨ v2 = 1 ∨ v2 = 2 ∨ v2 = 3 ∨ v2 = 4 ∨ v2 = 5 ∨ v2 = 6 ∨ v2 = 7 := by omega
      rcases c with rfl | rfl | rfl | rfl | rfl | rfl | rfl | rfl <;> dsimp only <;> decide
  · refine EvP.bind (pick_ev (hR q1 (by omega)) (by omega) (by decide) (by decide)) ?_
    rintro ⟨v2, q2⟩ ⟨b1, b2, b3⟩
    dsimp only at b1 b2 b3 ⊢
    refine EvP.bind (pick_ev (hR q2 (by omega)) (by omega) (by decide) (by decide)) ?_
    rintro ⟨v3, q3⟩ ⟨c1, c2, c3⟩
    dsimp only at c1 c2 c3 ⊢
    refine EvP.bind (pick_ev (hR q3 (by omega)) (by omega) (by decide) (by decide)) ?_
    rintro ⟨v4, q4⟩ ⟨d1, d2, d3⟩
    dsimp only at d1 d2 d3 ⊢
    refine EvP.bind (pick_ev (hR q4 (by omega)) (by omega) (by decide) (by decide)) ?_
    rintro ⟨v5, q5⟩ ⟨e1, e2, e3⟩
    dsimp only at e1 e2 e3 ⊢
    have m1 : 0 ≤ v3 * v4 := Int.mul_nonneg c1 d1
    have m2 : v3 * v4 ≤ 3 * 249 := Int.mul_le_mul (by omega) (by omega) d1 (by omega)
    have m3 : 0 ≤ v2 * (1 + v3 * v4) := Int.mul_nonneg b1 (by omega)
    have m4 : v2 * (1 + v3 * v4) ≤ 255 * 748 := Int.mul_le_mul (by omega) (by omega) (by omega) (by omega)
    have x1 : wrap64 (v3 * v4) = v3 * v4 := w64 (by omega) (by omega)
    have x2 : wrap64 (1 + v3 * v4) = 1 + v3 * v4 := w64 (by omega) (by omega)
    have x3 : wrap64 (v2 * (1 + v3 * v4)) = v2 * (1 + v3 * v4) := w64 (by omega) (by omega)
    simp only [x1, x2, x3]
    generalize v2 * (1 + v3 * v4) = y at *
    have x4 : wrap64 (-y) = -y := w64 (by omega) (by omega)
    refine EvP.ite (fun _ => EvP.ret ⟨?_, ?_, hR _ (by dsimp only; omega), by dsimp only; omega⟩) (fun _ => EvP.ret ⟨?_, ?_, hR _ (by dsimp only; omega), by dsimp only; omega⟩) <;> dsimp only <;> omega

theorem drawFold_ev (l : List Int) (hl : ∀ x ∈ l, (Lit.int .u8 x).wf = true) : EvP (fun k => spec_DrawFoldNumber.f k l) (fun n => -10000000 ≤ n ∧ n ≤ 10000000) := by
  unfold spec_DrawFoldNumber.f
  refine EvP.bind (open_ev l hl) ?_
  rintro ⟨b, p⟩ ⟨h, hp⟩
  obtain rfl : p = 0 := hp
  dsimp only at h ⊢
  refine EvP.bind (l91Number_ev h (by decide)) ?_
  rintro ⟨n, q⟩ ⟨h1, h2, _⟩
  exact EvP.ret ⟨h1, h2⟩

theorem FnFold : laws_FnFold.Pure := by
  intro l _ _ hl
  refine EvP.done ?_
  unfold laws_FnFold.f
  refine EvP.ite (fun _ => EvP.ret rfl) (fun _ => ?_)
  refine EvP.bind (drawFold_ev l hl) ?_
  rintro n ⟨h0, h1⟩
  refine EvV.bind (iFold_ev n) ?_
  simp only [sFold_eq, Option.bind_some]
  refine EvP.pos (by simp) (EvP.ite (fun _ => EvP.ret (by simp)) (fun h => ?_))
  have hn : -1000000 ≤ n ∧ n ≤ 1000000 := by unfold fold at h; split at h <;> omega
  have hf := fold_rng hn.1 hn.2
  refine EvV.bind (iUnfold_ev _) ?_
  have e : unfC (fold n) = n := by unfold unfC; rw [if_neg (by omega)]; exact unf_fold hn.1 hn.2
  rw [e]
  refine EvP.pos (by simp) (EvP.ret ?_)
  rw [tmod_pos hf.1]
  have : fold n % 2 = 1 ↔ n < 0 := by unfold fold; repeat' split <;> omega
  by_cases hlt : n < 0
  · simp [this.2 hlt, hlt]
  · have h2 : ¬ fold n % 2 = 1 := fun x => hlt (this.1 x)
    simp [h2, hlt]

end Go.Proofs.Ytohbbdklddinoaa.Pure
