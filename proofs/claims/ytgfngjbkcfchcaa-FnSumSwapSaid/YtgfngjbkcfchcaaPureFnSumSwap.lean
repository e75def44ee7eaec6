/- Neighbours that are exchanged change the sum, at whatever bytes and place the codes draw; there is no condition. -/
import Derived.Test.YtgfngjbkcfchcaaPFnSumSwapx2
import Derived.Test.YtgfngjbkcfchcaaMath
import Derived.Test.YtgfngjbkcfchcaaMath2
import Derived.Test.YtgfngjbkcfchcaaMath3
set_option linter.unusedVariables false
set_option linter.unusedSimpArgs false
namespace Go.Proofs.Ytgfngjbkcfchcaa.Pure
open Go.RowKit Go.Proofs.Ytgfngjbkcfchcaa.PFnSumSwap Go.Proofs.YtgfngjbkcfchcaaW.PrintWords Go.Proofs.YtgfngjbkcfchcaaW.PrintLast Go.Proofs.YtgfngjbkcfchcaaW.PrintMore Go.Proofs.Ytgfngjbkcfchcaa.M

theorem l6In_eq (a b c : Int) : spec_l6In.f a b c = some (decide (b ≤ a ∧ a ≤ c)) := by
  unfold spec_l6In.f
  by_cases h : a ≥ b
  · rw [if_pos h]; congr 1; simp only [decide_eq_decide]; omega
  · rw [if_neg h]; congr 1; symm; simp only [decide_eq_false_iff_not]; omega

theorem pick_ev {b : List Int} {p : Int} (hb : Rdr b p) (hp : p ≤ 1000000000) {n : Int} (hn : 1 ≤ n) (hn2 : n ≤ 1000000000) :
    EvP (fun k => spec_l6Rd_pick.f k b p n) (fun r => 0 ≤ r.1 ∧ r.1 < n ∧ r.2 = p + 1) := by
  obtain ⟨hl, hx, hp0⟩ := hb
  have w1 : wrap64 (p + 1) = p + 1 := w64 (by omega) (by omega)
  have w2 : wrap64 (p + 1 - 1) = p := by rw [w64 (by omega) (by omega)]; omega
  unfold spec_l6Rd_pick.f
  refine EvP.neg (by omega) ?_
  rw [w1]
  refine EvP.succ ?_
  simp only [spec_l6Rd_pick.j0, w2]
  refine EvP.ite (fun h => EvP.ret ⟨by omega, by omega, rfl⟩) (fun h => ?_)
  have hlen : ((b.length : Int) == 0) = false := by simpa using h
  have hne : ¬ (b.length : Int) = 0 := by simpa using hlen
  have tm : ∀ x : Int, 0 ≤ x → 0 ≤ Int.tmod x n ∧ Int.tmod x n < n := fun x hx => by
    rw [tmod_pos hx]; exact ⟨Int.emod_nonneg _ (by omega), Int.emod_lt_of_pos _ (by omega)⟩
  have rr : ∀ i, 0 ≤ rd b i ∧ rd b i ≤ 255 := rd_rng hx
  refine EvP.ite (fun h1 => ?_) (fun h1 => ?_)
  · refine EvP.pos hp0 (EvP.neg (by omega) (EvP.ret ?_))
    have := rr p
    have t := tm (wrap64 (rd b p)) (by rw [w64 (by omega) (by omega)]; omega)
    exact ⟨t.1, t.2, rfl⟩
  · have t1 : Int.tmod p (b.length : Int) = p % (b.length : Int) := tmod_pos hp0
    have w3 : wrap64 (wrap64 (p * 7) + 3) = p * 7 + 3 := by rw [w64 (x := p * 7) (by omega) (by omega), w64 (by omega) (by omega)]
    have t2 : Int.tmod (p * 7 + 3) (b.length : Int) = (p * 7 + 3) % (b.length : Int) := tmod_pos (by omega)
    have a1 := Int.emod_nonneg p hne
    have a2 := Int.emod_lt_of_pos p (by omega : 0 < (b.length : Int))
    have a3 := Int.emod_nonneg (p * 7 + 3) hne
    have a4 := Int.emod_lt_of_pos (p * 7 + 3) (by omega : 0 < (b.length : Int))
    have d1 : Int.tdiv p (b.length : Int) = p / (b.length : Int) := tdiv_pos hp0
    have d2 : 0 ≤ p / (b.length : Int) := Int.ediv_nonneg hp0 (by omega)
    have d3 : p / (b.length : Int) ≤ p := Int.ediv_le_self _ hp0
    simp only [w3, t1, t2, d1]
    refine EvP.neg hne (EvP.pos a1 (EvP.pos a2 (EvP.pos a3 (EvP.pos a4 (EvP.neg (by omega) (EvP.ret ?_))))))
    have r1 := rr (p % (b.length : Int))
    have r2 := rr ((p * 7 + 3) % (b.length : Int))
    generalize rd b (p % (b.length : Int)) = x1 at r1 ⊢
    generalize rd b ((p * 7 + 3) % (b.length : Int)) = x2 at r2 ⊢
    generalize p / (b.length : Int) = q at d2 d3 ⊢
    have wx : ∀ x : Int, 0 ≤ x → x ≤ 1000000000000 → wrap64 x = x := fun x h0 h1 => w64 (by omega) (by omega)
    have e : wrap64 (wrap64 (wrap64 (wrap64 (wrap64 x1 * 131) + wrap64 (wrap64 x2 * 1117)) + wrap64 (p * 29)) + wrap64 (wrap64 q * 53)) = x1 * 131 + x2 * 1117 + p * 29 + q * 53 := by
      rw [wx x1 (by omega) (by omega), wx x2 (by omega) (by omega), wx q (by omega) (by omega), wx (x1 * 131) (by omega) (by omega), wx (x2 * 1117) (by omega) (by omega), wx (p * 29) (by omega) (by omega), wx (q * 53) (by omega) (by omega),
        wx (x1 * 131 + x2 * 1117) (by omega) (by omega), wx (x1 * 131 + x2 * 1117 + p * 29) (by omega) (by omega), wx _ (by omega) (by omega)]
    rw [e]
    generalize hz : x1 * 131 + x2 * 1117 + p * 29 + q * 53 = z
    have z0 : 0 ≤ z := by omega
    have z1 : z ≤ 1000000000000 := by omega
    rw [tdiv_pos z0, wx (z / 64) (by omega) (by omega)]
    have t := tm _ (xor_nonneg (x := z) (y := z / 64) (by omega) (by omega) (by omega) (by omega))
    exact ⟨t.1, t.2, rfl⟩

theorem open_ev (l : List Int) (hl : ∀ x ∈ l, (Lit.int .u8 x).wf = true) : EvP (fun _ => spec_l6Open.f l) (fun r => Rdr r.1 r.2 ∧ r.2 = 0) := by
  have hx : ∀ x ∈ l, 0 ≤ x ∧ x ≤ 255 := fun x hx => wf_u8 (hl x hx)
  unfold spec_l6Open.f
  refine EvP.ite (fun h => ?_) (fun h => ?_)
  · refine EvP.pos (by omega) (EvP.ret ⟨⟨by simp; omega, fun x hm => hx x (List.mem_of_mem_take hm), Int.le_refl 0⟩, rfl⟩)
  · exact EvP.ret ⟨⟨by dsimp only; omega, hx, Int.le_refl 0⟩, rfl⟩

theorem l1Ok_l0 (xs : List Int) (hl : xs.length ≤ 1000000000000000000) (d : Nat) : ∀ j : Nat, j ≤ xs.length → xs.length - j = d → EvV (fun k => spec_l1Ok.l0 k xs (j : Int)) (allB (xs.drop j)) := by
  induction d with
  | zero =>
    intro j hj hd
    refine EvP.succ ?_
    simp only [spec_l1Ok.l0]
    rw [drop_end xs j (by omega)]
    exact EvP.neg (by omega) (EvP.ret rfl)
  | succ d ih =>
    intro j hj hd
    have hlt : j < xs.length := by omega
    refine EvP.succ ?_
    simp only [spec_l1Ok.l0, l6In_eq, Option.bind_some, rd_nat xs j hlt, w64_succ hlt hl]
    refine EvP.pos (by omega) (EvP.pos (by omega) ?_)
    rw [drop_cons xs j hlt]
    refine EvP.ite (fun h => ?_) (fun h => EvP.ret ?_)
    · have hb : isB xs[j] = true := h
      exact (ih (j + 1) (by omega) (by omega)).to (allB_cons_t hb)
    · have hb : isB xs[j] = false := by simpa [isB] using h
      exact allB_cons_f hb
theorem l1Ok_ev (xs : List Int) (hl : xs.length ≤ 1000000000000000000) : EvV (fun k => spec_l1Ok.f k xs) (allB xs) := by
  unfold spec_l1Ok.f; exact l1Ok_l0 xs hl xs.length 0 (by omega) (by omega)

theorem isByte_eq (x : Int) : impl_isByte.f x = some (isB x) := by
  unfold impl_isByte.f isB
  by_cases h : x ≥ 0
  · rw [if_pos h]; congr 1; simp only [decide_eq_decide]; omega
  · rw [if_neg h]; congr 1; symm; simp only [decide_eq_false_iff_not]; omega

theorem allBytes_l0 (xs : List Int) (hl : xs.length ≤ 1000000000000000000) (d : Nat) : ∀ j : Nat, j ≤ xs.length → xs.length - j = d → EvV (fun k => impl_allBytes.l0 k xs (xs.length : Int) (j : Int)) (allB (xs.drop j)) := by
  induction d with
  | zero =>
    intro j hj hd
    refine EvP.succ ?_
    simp only [impl_allBytes.l0]
    rw [drop_end xs j (by omega)]
    exact EvP.neg (by omega) (EvP.ret rfl)
  | succ d ih =>
    intro j hj hd
    have hlt : j < xs.length := by omega
    refine EvP.succ ?_
    simp only [impl_allBytes.l0, isByte_eq, Option.bind_some, rd_nat xs j hlt, w64_succ hlt hl]
    refine EvP.pos (by omega) (EvP.pos (by omega) (EvP.pos (by omega) ?_))
    rw [drop_cons xs j hlt]
    refine EvP.ite (fun h => ?_) (fun h => EvP.ret ?_)
    · exact (ih (j + 1) (by omega) (by omega)).to (allB_cons_t h)
    · exact allB_cons_f (by simpa using h)
theorem allBytes_ev (xs : List Int) (hl : xs.length ≤ 1000000000000000000) : EvV (fun k => impl_allBytes.f k xs) (allB xs) := by
  unfold impl_allBytes.f; exact allBytes_l0 xs hl xs.length 0 (by omega) (by omega)

theorem l2Sum_l0 (xs : List Int) (hl : xs.length ≤ 1000000000000000000) (hb : allB xs = true) (d : Nat) : ∀ (j : Nat) (s : Int), j ≤ xs.length → xs.length - j = d → 0 ≤ s → s < 65521 → EvV (fun k => spec_l2Sum.l0 k xs s (j : Int)) ((xs.drop j).foldl sumStep s) := by
  induction d with
  | zero =>
    intro j s hj hd _ _
    refine EvP.succ ?_
    simp only [spec_l2Sum.l0]
    rw [drop_end xs j (by omega)]
    exact EvP.neg (by omega) (EvP.ret rfl)
  | succ d ih =>
    intro j s hj hd h0 h1
    have hlt : j < xs.length := by omega
    have hx := allB_get hb j hlt
    have e : Int.tmod (wrap64 (wrap64 (257 * s) + xs[j])) 65521 = sumStep s xs[j] := by
      rw [w64 (x := 257 * s) (by omega) (by omega), w64 (by omega) (by omega), tmod_pos (by omega)]; rfl
    refine EvP.succ ?_
    simp only [spec_l2Sum.l0, rd_nat xs j hlt, w64_succ hlt hl, e]
    refine EvP.pos (by omega) (EvP.pos (by omega) ?_)
    rw [drop_cons xs j hlt]
    exact ih (j + 1) _ (by omega) (by omega) (sumStep_rng _ _).1 (sumStep_rng _ _).2
theorem l2Sum_ev (xs : List Int) (hl : xs.length ≤ 1000000000000000000) (hb : allB xs = true) : EvV (fun k => spec_l2Sum.f k xs) (sumL xs) := by
  unfold spec_l2Sum.f; exact l2Sum_l0 xs hl hb xs.length 0 1 (by omega) (by omega) (by decide) (by decide)

theorem sSumOf_ev (xs : List Int) (hl : xs.length ≤ 1000000000000000000) : EvV (fun k => spec_SumOf.f k xs) (if allB xs = true then sumL xs else -1) := by
  unfold spec_SumOf.f
  refine EvV.bind (l1Ok_ev xs hl) (EvP.ite (fun h => ?_) (fun h => EvP.ret ?_))
  · rw [if_pos h]; exact EvV.bind (l2Sum_ev xs hl h) (EvP.ret rfl)
  · rw [if_neg h]

theorem with_eq {s b : Int} (h0 : 0 ≤ s) (h1 : s < 65521) (hb : 0 ≤ b ∧ b ≤ 255) : impl_sum_with.f s b = some (sumStep s b) := by
  unfold impl_sum_with.f
  rw [w64 (x := 257 * s) (by omega) (by omega), w64 (by omega) (by omega), tmod_pos (by omega)]; rfl

theorem over_l0 (xs : List Int) (hl : xs.length ≤ 1000000000000000000) (hb : allB xs = true) (d : Nat) : ∀ (j : Nat) (s : Int), j ≤ xs.length → xs.length - j = d → 0 ≤ s → s < 65521 → EvV (fun k => impl_sum_over.l0 k s xs (xs.length : Int) (j : Int)) ((xs.drop j).foldl sumStep s) := by
  induction d with
  | zero =>
    intro j s hj hd _ _
    refine EvP.succ ?_
    simp only [impl_sum_over.l0]
    rw [drop_end xs j (by omega)]
    exact EvP.neg (by omega) (EvP.ret rfl)
  | succ d ih =>
    intro j s hj hd h0 h1
    have hlt : j < xs.length := by omega
    refine EvP.succ ?_
    simp only [impl_sum_over.l0, rd_nat xs j hlt, w64_succ hlt hl, with_eq h0 h1 (allB_get hb j hlt), Option.bind_some]
    refine EvP.pos (by omega) (EvP.pos (by omega) (EvP.pos (by omega) ?_))
    rw [drop_cons xs j hlt]
    exact ih (j + 1) _ (by omega) (by omega) (sumStep_rng _ _).1 (sumStep_rng _ _).2
theorem over_ev (xs : List Int) (hl : xs.length ≤ 1000000000000000000) (hb : allB xs = true) : EvV (fun k => impl_sum_over.f k 1 xs) (sumL xs) := by
  unfold impl_sum_over.f; exact over_l0 xs hl hb xs.length 0 1 (by omega) (by omega) (by decide) (by decide)

theorem iSumOf_ev (xs : List Int) (hl : xs.length ≤ 1000000000000000000) : EvV (fun k => impl_SumOf.f k xs) (if allB xs = true then sumL xs else -1) := by
  unfold impl_SumOf.f
  refine EvV.bind (allBytes_ev xs hl) (EvP.ite (fun h => ?_) (fun h => EvP.ret ?_))
  · rw [if_pos h]; exact EvV.bind (over_ev xs hl h) (EvP.ret rfl)
  · rw [if_neg h]

theorem l91Some_ev {b : List Int} {p : Int} (hb : Rdr b p) (hp : p ≤ 1000000) {m : Int} (hm0 : 0 ≤ m) (hm : m ≤ 100) :
    EvP (fun k => spec_l91Some.f k b p m) (fun r => r.1.length ≤ 100 ∧ Rdr b r.2 ∧ r.2 ≤ p + 200) := by
  have hR : ∀ q : Int, p ≤ q → Rdr b q := fun q hq => ⟨hb.1, hb.2.1, by have := hb.2.2; omega⟩
  unfold spec_l91Some.f
  rw [w64 (x := m + 1) (by omega) (by omega)]
  refine EvP.bind (pick_ev hb (by omega) (by omega) (by omega)) ?_
  rintro ⟨n, q0⟩ ⟨a1, a2, a3⟩
  dsimp only at a1 a2 a3 ⊢
  have key : ∀ (d : Nat) (xs : List Int) (i q : Int), 0 ≤ i → i + d = n → xs.length = i → p ≤ q → q ≤ p + 1 + i → EvP (fun k => spec_l91Some.l0 k xs n i b q) (fun r => r.1.length ≤ 100 ∧ Rdr b r.2 ∧ r.2 ≤ p + 200) := by
    intro d
    induction d with
    | zero =>
      intro xs i q hi hd hx hq0 hq
      refine EvP.succ ?_
      simp only [spec_l91Some.l0]
      refine EvP.neg (by omega) (EvP.ite (fun hn => ?_) (fun hn => ?_))
      · refine EvP.bind (pick_ev (hR q hq0) (by omega) (by decide) (by decide)) ?_
        rintro ⟨v, q1⟩ ⟨b1, b2, b3⟩
        dsimp only at b1 b2 b3 ⊢
        refine EvP.succ ?_
        simp only [spec_l91Some.j1]
        refine EvP.ite (fun _ => ?_) (fun _ => EvP.ret ⟨by dsimp only; omega, hR _ (by dsimp only; omega), by dsimp only; omega⟩)
        refine EvP.bind (pick_ev (hR q1 (by omega)) (by omega) (by omega) (by omega)) ?_
        rintro ⟨w, q2⟩ ⟨c1, c2, c3⟩
        dsimp only at c1 c2 c3 ⊢
        simp only [Option.bind_some]
        refine EvP.bind (pick_ev (hR q2 (by omega)) (by omega) (by decide) (by decide)) ?_
        rintro ⟨u, q3⟩ ⟨d1, d2, d3⟩
        dsimp only at d1 d2 d3 ⊢
        exact EvP.pos d1 (EvP.pos (by simpa using d2) (EvP.pos c1 (EvP.pos (by omega) (EvP.ret ⟨by simp; omega, hR _ (by dsimp only; omega), by dsimp only; omega⟩))))
      · refine EvP.succ ?_
        simp only [spec_l91Some.j1]
        exact EvP.neg (by decide) (EvP.ret ⟨by dsimp only; omega, hR _ (by dsimp only; omega), by dsimp only; omega⟩)
    | succ d ih =>
      intro xs i q hi hd hx hq0 hq
      refine EvP.succ ?_
      simp only [spec_l91Some.l0]
      refine EvP.pos (by omega) ?_
      refine EvP.bind (pick_ev (hR q hq0) (by omega) (by decide) (by decide)) ?_
      rintro ⟨v, q1⟩ ⟨b1, b2, b3⟩
      dsimp only at b1 b2 b3 ⊢
      rw [w64 (x := i + 1) (by omega) (by omega)]
      exact EvP.pos (by omega) (ih _ (i + 1) q1 (by omega) (by omega) (by simp; omega) (by omega) (by omega))
  exact key n.toNat [] 0 q0 (by omega) (by omega) rfl (by omega) (by omega)

theorem drawSumOf_ev (l : List Int) (hl : ∀ x ∈ l, (Lit.int .u8 x).wf = true) : EvP (fun k => spec_DrawSumOf.f k l) (fun xs => xs.length ≤ 100) := by
  unfold spec_DrawSumOf.f
  refine EvP.bind (open_ev l hl) ?_
  rintro ⟨b, p⟩ ⟨h, hp⟩
  obtain rfl : p = 0 := hp
  dsimp only at h ⊢
  refine EvP.bind (l91Some_ev h (by decide) (by decide) (by decide)) ?_
  rintro ⟨xs, q⟩ ⟨h1, _⟩
  exact EvP.ret h1

theorem sumSwap_j0 (l m : List Int) (hl : ∀ x ∈ l, (Lit.int .u8 x).wf = true) (hm : m.length ≤ 1048576) : EvV (fun k => laws_FnSumSwap.j0 k l m false) true := by
  refine EvP.succ ?_
  simp only [laws_FnSumSwap.j0]
  refine EvP.neg (by decide) (EvP.bind (drawSumOf_ev l hl) ?_)
  intro xs hx
  refine EvV.bind (iSumOf_ev xs (by omega)) (EvV.bind (sSumOf_ev xs (by omega)) (EvP.pos (by simp) ?_))
  refine EvP.ite (fun h => EvP.succ ?_) (fun h => EvP.succ ?_)
  · simp only [laws_FnSumSwap.j1]
    exact EvP.pos (by simp) (EvP.ret (by simp))
  · simp only [laws_FnSumSwap.j1]
    refine EvP.ite (fun _ => EvP.ret (by simp)) (fun hne => ?_)
    have hb : allB xs = true := by
      by_cases c : allB xs = true
      · exact c
      · rw [if_neg c] at h; omega
    have hlen : ¬ (xs.length : Int) < 2 := by simpa using hne
    rw [if_pos hb]
    simp only [Option.bind_some, List.nil_append]
    have wl : wrap64 ((xs.length : Int) - 1) = xs.length - 1 := w64 (by omega) (by omega)
    rw [wl]
    have p1 := Int.emod_nonneg (m.length : Int) (by omega : (xs.length : Int) - 1 ≠ 0)
    have p2 := Int.emod_lt_of_pos (m.length : Int) (by omega : 0 < (xs.length : Int) - 1)
    obtain ⟨j, hj⟩ := Int.eq_ofNat_of_zero_le p1
    rw [hj] at p2 ⊢
    have hjl : j + 1 < xs.length := by omega
    have wj : wrap64 ((j : Int) + 1) = ((j + 1 : Nat) : Int) := by rw [w64 (by omega) (by omega)]; omega
    have ej : ((j : Int)).toNat = j := by omega
    have ej1 : (((j + 1 : Nat) : Int)).toNat = j + 1 := by omega
    rw [wj, rd_nat xs j (by omega), rd_nat xs (j + 1) hjl, ej, ej1]
    refine EvP.neg (by omega) (EvP.pos (by omega) (EvP.pos (by omega) (EvP.pos (by omega) (EvP.pos (by omega) (EvP.ite (fun c => EvP.ret rfl) (fun c => ?_))))))
    refine EvP.pos (by simp; omega) (EvP.pos (by omega) (EvP.pos (by omega) ?_))
    refine EvV.bind (iSumOf_ev _ (by simp; omega)) (EvP.ret ?_)
    rw [if_pos (allB_swap hb j hjl)]
    simp only [bne_iff_ne, ne_eq, Bool.true_eq, decide_eq_true_eq]
    exact sumL_swap_ne hb j hjl c
theorem FnSumSwap : laws_FnSumSwap.Pure := by
  intro l m _ _ hl _ _ _
  refine EvP.done ?_
  unfold laws_FnSumSwap.f
  refine EvP.ite (fun _ => EvP.succ ?_) (fun _ => ?_)
  · simp only [laws_FnSumSwap.j0]
    exact EvP.pos (by simp) (EvP.ret rfl)
  · by_cases c : (m.length : Int) > 1048576
    · rw [decide_eq_true c]
      refine EvP.succ ?_
      simp only [laws_FnSumSwap.j0]
      exact EvP.pos (by simp) (EvP.ret rfl)
    · rw [decide_eq_false c]
      exact sumSwap_j0 l m hl (by omega)

end Go.Proofs.Ytgfngjbkcfchcaa.Pure
