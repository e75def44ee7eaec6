/- A message's bytes without their last, or with one more, are no message's, at whatever bytes the code draws; there is no condition. -/
import Derived.Test.YtmpnedpokdaejaaQFnOldTornx9
import Derived.Test.YtmpnedpokdaejaaMath
import Derived.Test.YtmpnedpokdaejaaMath2
import Derived.Test.YtmpnedpokdaejaaMath3
import Derived.Test.YtmpnedpokdaejaaMath4
set_option linter.unusedVariables false
set_option linter.unusedSimpArgs false
namespace Go.Proofs.Ytmpnedpokdaejaa.Pure
open Go.RowKit Go.Proofs.Ytmpnedpokdaejaa.QFnOldTorn Go.Proofs.YtmpnedpokdaejaaW.PrintWords Go.Proofs.YtmpnedpokdaejaaW.PrintLast Go.Proofs.YtmpnedpokdaejaaW.PrintMore Go.Proofs.Ytmpnedpokdaejaa.M

theorem l6In_eq (a b c : Int) : spec_l6In.f a b c = some (decide (b ≤ a ∧ a ≤ c)) := by
  unfold spec_l6In.f
  by_cases h : a ≥ b
  · rw [if_pos h]; congr 1; simp only [decide_eq_decide]; omega
  · rw [if_neg h]; congr 1; symm; simp only [decide_eq_false_iff_not]; omega

theorem pick_ev {b : List Int} {p : Int} (hb : Rdr b p) (hp : p ≤ 1000000000) {n : Int} (hn : 1 ≤ n) (hn2 : n ≤ 1000000000) :
    EvP (fun k => spec_l6Rd_pick.f k b p n) (fun r => 0 ≤ r.1 ∧ r.1 < n ∧ r.2 = p + 1) := by
  obtain ⟨hl, hx, hp0⟩ := hb
  have w1 : wrap64 (p + 1) = p + 1 := w64 (by omega) (by omega)
  have w2 : wrap64 (p + 1 - 1) = p := by rw [w64 (by omega) (by omega)]; omega
  unfold spec_l6Rd_pick.f
  refine EvP.neg (by omega) ?_
  rw [w1]
  refine EvP.succ ?_
  simp only [spec_l6Rd_pick.j0, w2]
  refine EvP.ite (fun h => EvP.ret ⟨by omega, by omega, rfl⟩) (fun h => ?_)
  have hlen : ((b.length : Int) == 0) = false := by simpa using h
  have hne : ¬ (b.length : Int) = 0 := by simpa using hlen
  have tm : ∀ x : Int, 0 ≤ x → 0 ≤ Int.tmod x n ∧ Int.tmod x n < n := fun x hx => by
    rw [tmod_pos hx]; exact ⟨Int.emod_nonneg _ (by omega), Int.emod_lt_of_pos _ (by omega)⟩
  have rr : ∀ i, 0 ≤ rd b i ∧ rd b i ≤ 255 := rd_rng hx
  refine EvP.ite (fun h1 => ?_) (fun h1 => ?_)
  · refine EvP.pos hp0 (EvP.neg (by omega) (EvP.ret ?_))
    have := rr p
    have t := tm (wrap64 (rd b p)) (by rw [w64 (by omega) (by omega)]; omega)
    exact ⟨t.1, t.2, rfl⟩
  · have t1 : Int.tmod p (b.length : Int) = p % (b.length : Int) := tmod_pos hp0
    have w3 : wrap64 (wrap64 (p * 7) + 3) = p * 7 + 3 := by rw [w64 (x := p * 7) (by omega) (by omega), w64 (by omega) (by omega)]
    have t2 : Int.tmod (p * 7 + 3) (b.length : Int) = (p * 7 + 3) % (b.length : Int) := tmod_pos (by omega)
    have a1 := Int.emod_nonneg p hne
    have a2 := Int.emod_lt_of_pos p (by omega : 0 < (b.length : Int))
    have a3 := Int.emod_nonneg (p * 7 + 3) hne
    have a4 := Int.emod_lt_of_pos (p * 7 + 3) (by omega : 0 < (b.length : Int))
    have d1 : Int.tdiv p (b.length : Int) = p / (b.length : Int) := tdiv_pos hp0
    have d2 : 0 ≤ p / (b.length : Int) := Int.ediv_nonneg hp0 (by omega)
    have d3 : p / (b.length : Int) ≤ p := Int.ediv_le_self _ hp0
    simp only [w3, t1, t2, d1]
    refine EvP.neg hne (EvP.pos a1 (EvP.pos a2 (EvP.pos a3 (EvP.pos a4 (EvP.neg (by omega) (EvP.ret ?_))))))
    have r1 := rr (p % (b.length : Int))
    have r2 := rr ((p * 7 + 3) % (b.length : Int))
    generalize rd b (p % (b.length : Int)) = x1 at r1 ⊢
    generalize rd b ((p * 7 + 3) % (b.length : Int)) = x2 at r2 ⊢
    generalize p / (b.length : Int) = q at d2 d3 ⊢
    have wx : ∀ x : Int, 0 ≤ x → x ≤ 1000000000000 → wrap64 x = x := fun x h0 h1 => w64 (by omega) (by omega)
    have e : wrap64 (wrap64 (wrap64 (wrap64 (wrap64 x1 * 131) + wrap64 (wrap64 x2 * 1117)) + wrap64 (p * 29)) + wrap64 (wrap64 q * 53)) = x1 * 131 + x2 * 1117 + p * 29 + q * 53 := by
      rw [wx x1 (by omega) (by omega), wx x2 (by omega) (by omega), wx q (by omega) (by omega), wx (x1 * 131) (by omega) (by omega), wx (x2 * 1117) (by omega) (by omega), wx (p * 29) (by omega) (by omega), wx (q * 53) (by omega) (by omega),
        wx (x1 * 131 + x2 * 1117) (by omega) (by omega), wx (x1 * 131 + x2 * 1117 + p * 29) (by omega) (by omega), wx _ (by omega) (by omega)]
    rw [e]
    generalize hz : x1 * 131 + x2 * 1117 + p * 29 + q * 53 = z
    have z0 : 0 ≤ z := by omega
    have z1 : z ≤ 1000000000000 := by omega
    rw [tdiv_pos z0, wx (z / 64) (by omega) (by omega)]
    have t := tm _ (xor_nonneg (x := z) (y := z / 64) (by omega) (by omega) (by omega) (by omega))
    exact ⟨t.1, t.2, rfl⟩

theorem open_ev (l : List Int) (hl : ∀ x ∈ l, (Lit.int .u8 x).wf = true) : EvP (fun _ => spec_l6Open.f l) (fun r => Rdr r.1 r.2 ∧ r.2 = 0) := by
  have hx : ∀ x ∈ l, 0 ≤ x ∧ x ≤ 255 := fun x hx => wf_u8 (hl x hx)
  unfold spec_l6Open.f
  refine EvP.ite (fun h => ?_) (fun h => ?_)
  · refine EvP.pos (by omega) (EvP.ret ⟨⟨by simp; omega, fun x hm => hx x (List.mem_of_mem_take hm), Int.le_refl 0⟩, rfl⟩)
  · exact EvP.ret ⟨⟨by dsimp only; omega, hx, Int.le_refl 0⟩, rfl⟩

theorem l1Ok_l0 (xs : List Int) (hl : xs.length ≤ 1000000000000000000) (d : Nat) : ∀ j : Nat, j ≤ xs.length → xs.length - j = d → EvV (fun k => spec_l1Ok.l0 k xs (j : Int)) (allB (xs.drop j)) := by
  induction d with
  | zero =>
    intro j hj hd
    refine EvP.succ ?_
    simp only [spec_l1Ok.l0]
    rw [drop_end xs j (by omega)]
    exact EvP.neg (by omega) (EvP.ret rfl)
  | succ d ih =>
    intro j hj hd
    have hlt : j < xs.length := by omega
    refine EvP.succ ?_
    simp only [spec_l1Ok.l0, l6In_eq, Option.bind_some, rd_nat xs j hlt, w64_succ hlt hl]
    refine EvP.pos (by omega) (EvP.pos (by omega) ?_)
    rw [drop_cons xs j hlt]
    refine EvP.ite (fun h => ?_) (fun h => EvP.ret ?_)
    · have hb : isB xs[j] = true := h
      exact (ih (j + 1) (by omega) (by omega)).to (allB_cons_t hb)
    · have hb : isB xs[j] = false := by simpa [isB] using h
      exact allB_cons_f hb
theorem l1Ok_ev (xs : List Int) (hl : xs.length ≤ 1000000000000000000) : EvV (fun k => spec_l1Ok.f k xs) (allB xs) := by
  unfold spec_l1Ok.f; exact l1Ok_l0 xs hl xs.length 0 (by omega) (by omega)

theorem isByte_eq (x : Int) : impl_isByte.f x = some (isB x) := by
  unfold impl_isByte.f isB
  by_cases h : x ≥ 0
  · rw [if_pos h]; congr 1; simp only [decide_eq_decide]; omega
  · rw [if_neg h]; congr 1; symm; simp only [decide_eq_false_iff_not]; omega

theorem allBytes_l0 (xs : List Int) (hl : xs.length ≤ 1000000000000000000) (d : Nat) : ∀ j : Nat, j ≤ xs.length → xs.length - j = d → EvV (fun k => impl_allBytes.l0 k xs (xs.length : Int) (j : Int)) (allB (xs.drop j)) := by
  induction d with
  | zero =>
    intro j hj hd
    refine EvP.succ ?_
    simp only [impl_allBytes.l0]
    rw [drop_end xs j (by omega)]
    exact EvP.neg (by omega) (EvP.ret rfl)
  | succ d ih =>
    intro j hj hd
    have hlt : j < xs.length := by omega
    refine EvP.succ ?_
    simp only [impl_allBytes.l0, isByte_eq, Option.bind_some, rd_nat xs j hlt, w64_succ hlt hl]
    refine EvP.pos (by omega) (EvP.pos (by omega) (EvP.pos (by omega) ?_))
    rw [drop_cons xs j hlt]
    refine EvP.ite (fun h => ?_) (fun h => EvP.ret ?_)
    · exact (ih (j + 1) (by omega) (by omega)).to (allB_cons_t h)
    · exact allB_cons_f (by simpa using h)
theorem allBytes_ev (xs : List Int) (hl : xs.length ≤ 1000000000000000000) : EvV (fun k => impl_allBytes.f k xs) (allB xs) := by
  unfold impl_allBytes.f; exact allBytes_l0 xs hl xs.length 0 (by omega) (by omega)

theorem l2Sum_l0 (xs : List Int) (hl : xs.length ≤ 1000000000000000000) (hb : allB xs = true) (d : Nat) : ∀ (j : Nat) (s : Int), j ≤ xs.length → xs.length - j = d → 0 ≤ s → s < 65521 → EvV (fun k => spec_l2Sum.l0 k xs s (j : Int)) ((xs.drop j).foldl sumStep s) := by
  induction d with
  | zero =>
    intro j s hj hd _ _
    refine EvP.succ ?_
    simp only [spec_l2Sum.l0]
    rw [drop_end xs j (by omega)]
    exact EvP.neg (by omega) (EvP.ret rfl)
  | succ d ih =>
    intro j s hj hd h0 h1
    have hlt : j < xs.length := by omega
    have hx := allB_get hb j hlt
    have e : Int.tmod (wrap64 (wrap64 (257 * s) + xs[j])) 65521 = sumStep s xs[j] := by
      rw [w64 (x := 257 * s) (by omega) (by omega), w64 (by omega) (by omega), tmod_pos (by omega)]; rfl
    refine EvP.succ ?_
    simp only [spec_l2Sum.l0, rd_nat xs j hlt, w64_succ hlt hl, e]
    refine EvP.pos (by omega) (EvP.pos (by omega) ?_)
    rw [drop_cons xs j hlt]
    exact ih (j + 1) _ (by omega) (by omega) (sumStep_rng _ _).1 (sumStep_rng _ _).2
theorem l2Sum_ev (xs : List Int) (hl : xs.length ≤ 1000000000000000000) (hb : allB xs = true) : EvV (fun k => spec_l2Sum.f k xs) (sumL xs) := by
  unfold spec_l2Sum.f; exact l2Sum_l0 xs hl hb xs.length 0 1 (by omega) (by omega) (by decide) (by decide)

theorem with_eq {s b : Int} (h0 : 0 ≤ s) (h1 : s < 65521) (hb : 0 ≤ b ∧ b ≤ 255) : impl_sum_with.f s b = some (sumStep s b) := by
  unfold impl_sum_with.f
  rw [w64 (x := 257 * s) (by omega) (by omega), w64 (by omega) (by omega), tmod_pos (by omega)]; rfl

theorem over_l0 (xs : List Int) (hl : xs.length ≤ 1000000000000000000) (hb : allB xs = true) (d : Nat) : ∀ (j : Nat) (s : Int), j ≤ xs.length → xs.length - j = d → 0 ≤ s → s < 65521 → EvV (fun k => impl_sum_over.l0 k s xs (xs.length : Int) (j : Int)) ((xs.drop j).foldl sumStep s) := by
  induction d with
  | zero =>
    intro j s hj hd _ _
    refine EvP.succ ?_
    simp only [impl_sum_over.l0]
    rw [drop_end xs j (by omega)]
    exact EvP.neg (by omega) (EvP.ret rfl)
  | succ d ih =>
    intro j s hj hd h0 h1
    have hlt : j < xs.length := by omega
    refine EvP.succ ?_
    simp only [impl_sum_over.l0, rd_nat xs j hlt, w64_succ hlt hl, with_eq h0 h1 (allB_get hb j hlt), Option.bind_some]
    refine EvP.pos (by omega) (EvP.pos (by omega) (EvP.pos (by omega) ?_))
    rw [drop_cons xs j hlt]
    exact ih (j + 1) _ (by omega) (by omega) (sumStep_rng _ _).1 (sumStep_rng _ _).2
theorem over_ev (xs : List Int) (hl : xs.length ≤ 1000000000000000000) (hb : allB xs = true) : EvV (fun k => impl_sum_over.f k 1 xs) (sumL xs) := by
  unfold impl_sum_over.f; exact over_l0 xs hl hb xs.length 0 1 (by omega) (by omega) (by decide) (by decide)

theorem l2Int_ev {n m : Int} (h0 : 1 ≤ m) (h1 : m ≤ 3) (hn : 0 ≤ n) (hn1 : n < 4611686018427387904) : EvV (fun k => spec_l2Int.f k n m) (intB n m) := by
  have d1 : wrap64 (Int.tdiv n 256) = n / 256 := by rw [tdiv_pos hn, w64 (by omega) (by omega)]
  have d2 : wrap64 (Int.tdiv (n / 256) 256) = n / 65536 := by rw [tdiv_pos (by omega), w64 (by omega) (by omega)]; omega
  have r0 : Int.tmod n 256 = n % 256 := tmod_pos hn
  have r1 : Int.tmod (n / 256) 256 = n / 256 % 256 := tmod_pos (by omega)
  have r2 : Int.tmod (n / 65536) 256 = n / 65536 % 256 := tmod_pos (by omega)
  have w0 : wrap64 (1 - 1) = 0 := w64 (by decide) (by decide)
  have w1 : wrap64 (2 - 1) = 1 := w64 (by decide) (by decide)
  have w2 : wrap64 (3 - 1) = 2 := w64 (by decide) (by decide)
  have w3 : wrap64 (0 - 1) = -1 := w64 (by decide) (by decide)
  refine EvV.of_add 4 fun k => ?_
  rcases m123 h0 h1 with rfl | rfl | rfl <;> simp [spec_l2Int.f, spec_l2Int.l0, w64, intB, d1, d2, r0, r1, r2, List.replicate, List.set]

theorem intOf_ev {n m : Int} (h0 : 1 ≤ m) (h1 : m ≤ 3) (hn : 0 ≤ n) (hn1 : n < 4611686018427387904) : EvV (fun k => impl_intOf.f k n m) (intB n m) := by
  have s0 : shr .i64 n 0 = n := by unfold shr; simp
  have s1 : shr .i64 n 8 = n / 256 := by unfold shr; rfl
  have s2 : shr .i64 n 16 = n / 65536 := by unfold shr; rfl
  have r0 : Go.bits .and .i64 n 255 = n % 256 := and255 hn (by omega)
  have r1 : Go.bits .and .i64 (n / 256) 255 = n / 256 % 256 := and255 (by omega) (by omega)
  have r2 : Go.bits .and .i64 (n / 65536) 255 = n / 65536 % 256 := and255 (by omega) (by omega)
  refine EvV.of_add 4 fun k => ?_
  rcases m123 h0 h1 with rfl | rfl | rfl <;> simp [impl_intOf.f, impl_intOf.l0, w64, intB, s0, s1, s2, r0, r1, r2, List.replicate, List.set]

theorem l2From_ev {xs : List Int} {a m : Int} (hl : xs.length ≤ 1000000000000000000) (hb : allB xs = true) (h0 : 1 ≤ m) (h1 : m ≤ 3) (ha : 0 ≤ a) (hm : a + m ≤ xs.length) :
    EvV (fun k => spec_l2From.f k xs a m) (joinB ((xs.take (a + m).toNat).drop a.toNat)) := by
  obtain ⟨j, rfl⟩ := Int.eq_ofNat_of_zero_le ha
  obtain ⟨q, rfl⟩ := Int.eq_ofNat_of_zero_le (by omega : 0 ≤ m)
  have ew : wrap64 ((j : Int) + (q : Int)) = ((j + q : Nat) : Int) := by rw [w64 (by omega) (by omega)]; omega
  have e1 : ((j : Int) + (q : Int)).toNat = j + q := by omega
  have e2 : ((j : Int)).toNat = j := by omega
  rw [e1, e2]
  have key : ∀ (d i : Nat) (n : Int), j ≤ i → i + d = j + q → 0 ≤ n → n < 256 ^ (q - d) → EvV (fun k => spec_l2From.l0 k xs (j : Int) (q : Int) n (i : Int)) (((xs.take (j + q)).drop i).foldl (fun n b => 256 * n + b) n) := by
    intro d
    induction d with
    | zero =>
      intro i n _ hi _ _
      refine EvP.succ ?_
      simp only [spec_l2From.l0, ew]
      rw [drop_end _ i (by simp; omega)]
      exact EvP.neg (by omega) (EvP.ret rfl)
    | succ d ih =>
      intro i n hji hi hn hn2
      have hlt : i < xs.length := by omega
      have hx := allB_get hb i hlt
      by_cases hqd : d + 1 ≤ q
      · have hc : (256 : Int) ^ (q - (d + 1)) ≤ 65536 := by
          have : q - (d + 1) = 0 ∨ q - (d + 1) = 1 ∨ q - (d + 1) = 2 := by omega
          rcases this with h | h | h <;> rw [h] <;> decide
        have hs : (256 : Int) ^ (q - d) = 256 * 256 ^ (q - (d + 1)) := by
          have : q - d = (q - (d + 1)) + 1 := by omega
          rw [this, Int.pow_succ]; omega
        refine EvP.succ ?_
        simp only [spec_l2From.l0, ew, rd_nat xs i hlt, w64_succ hlt hl]
        refine EvP.pos (by omega) (EvP.pos (by omega) (EvP.pos (by omega) ?_))
        rw [w64 (x := 256 * n) (by omega) (by omega), w64 (by omega) (by omega)]
        have hlt2 : i < (xs.take (j + q)).length := by simp; omega
        rw [drop_cons _ i hlt2]
        have : (xs.take (j + q))[i] = xs[i] := by simp
        rw [this]
        exact ih (i + 1) _ (by omega) (by omega) (by omega) (by omega)
      · exfalso; omega
  unfold spec_l2From.f
  exact key q j 0 (Nat.le_refl _) rfl (by decide) (by simp)

theorem intAt_ev {xs : List Int} {a m : Int} (hl : xs.length ≤ 1000000000000000000) (hb : allB xs = true) (h0 : 1 ≤ m) (h1 : m ≤ 3) (ha1 : -9223372036854775808 ≤ a) (ha2 : a ≤ 9223372036854775807) :
    EvV (fun k => impl_intAt.f k xs a m) (if 0 ≤ a ∧ a ≤ xs.length - m then (joinB ((xs.take (a + m).toNat).drop a.toNat), true) else (0, false)) := by
  have wl : wrap64 ((xs.length : Int) - m) = xs.length - m := w64 (by omega) (by omega)
  unfold impl_intAt.f
  rw [wl]
  refine EvP.ite (fun h => ?_) (fun h => ?_)
  · rw [if_neg (by omega)]
    refine EvP.succ ?_
    simp only [impl_intAt.j0]
    exact EvP.pos (by simp) (EvP.ret rfl)
  · refine EvP.succ ?_
    simp only [impl_intAt.j0]
    refine EvP.ite (fun g => EvP.ret ?_) (fun g => ?_)
    · have : a > xs.length - m := by simpa using g
      rw [if_neg (by omega)]
    · have g' : ¬ a > xs.length - m := by simpa using g
      rw [if_pos ⟨by omega, by omega⟩]
      have wam : wrap64 (a + m) = a + m := w64 (by omega) (by omega)
      rw [wam]
      refine EvP.pos (by omega) (EvP.pos (by omega) (EvP.pos (by omega) ?_))
      generalize hys : (xs.take (a + m).toNat).drop a.toNat = ys
      have hyl : ys.length = m := by rw [← hys]; simp; omega
      have hyb : allB ys = true := by
        rw [allB_iff]; intro x hx; rw [← hys] at hx
        exact allB_iff.1 hb x (List.mem_of_mem_take (List.mem_of_mem_drop hx))
      have key : ∀ (d i : Nat) (n : Int), i + d = ys.length → 0 ≤ n → n < 256 ^ i → EvV (fun k => impl_intAt.l0 k n ys (ys.length : Int) (i : Int)) ((ys.drop i).foldl (fun n b => 256 * n + b) n, true) := by
        intro d
        induction d with
        | zero =>
          intro i n hi _ _
          refine EvP.succ ?_
          simp only [impl_intAt.l0]
          rw [drop_end _ i (by omega)]
          exact EvP.neg (by omega) (EvP.ret rfl)
        | succ d ih =>
          intro i n hi hn hn2
          have hlt : i < ys.length := by omega
          have hx := allB_get hyb i hlt
          have hc : (256 : Int) ^ i ≤ 65536 := by
            have : i = 0 ∨ i = 1 ∨ i = 2 := by omega
            rcases this with h | h | h <;> rw [h] <;> decide
          refine EvP.succ ?_
          simp only [impl_intAt.l0, rd_nat ys i hlt, w64_succ hlt (by omega : ys.length ≤ 1000000000000000000)]
          refine EvP.pos (by omega) (EvP.pos (by omega) (EvP.pos (by omega) ?_))
          rw [w64 (x := n * 256) (by omega) (by omega), or_join 8 (n * 256) ys[i] (by omega) (by omega) (by omega) hx.1 (by omega) (by omega)]
          rw [drop_cons _ i hlt]
          have e : n * 256 + ys[i] = 256 * n + ys[i] := by omega
          rw [e]
          have hs : (256 : Int) ^ (i + 1) = 256 * 256 ^ i := by rw [Int.pow_succ]; omega
          exact ih (i + 1) _ (by omega) (by omega) (by omega)
      exact key ys.length 0 0 (by omega) (by decide) (by simp)

theorem sameInts_l0 (xs ys : List Int) (he : xs.length = ys.length) (hl : xs.length ≤ 1000000000000000000) (d : Nat) : ∀ j : Nat, j ≤ xs.length → xs.length - j = d → EvV (fun k => laws_sameInts.l0 k xs ys (j : Int)) (decide (xs.drop j = ys.drop j)) := by
  induction d with
  | zero =>
    intro j hj hd
    refine EvP.succ ?_
    simp only [laws_sameInts.l0]
    rw [drop_end xs j (by omega), drop_end ys j (by omega)]
    exact EvP.neg (by omega) (EvP.ret (by simp))
  | succ d ih =>
    intro j hj hd
    have hlt : j < xs.length := by omega
    have hlt2 : j < ys.length := by omega
    refine EvP.succ ?_
    simp only [laws_sameInts.l0, rd_nat xs j hlt, rd_nat ys j hlt2, w64_succ hlt hl]
    refine EvP.pos (by omega) (EvP.pos (by omega) (EvP.pos (by omega) ?_))
    rw [drop_cons xs j hlt, drop_cons ys j hlt2]
    refine EvP.ite (fun h => ?_) (fun h => EvP.ret ?_)
    · exact (ih (j + 1) (by omega) (by omega)).to (dec_cons_t h)
    · exact dec_cons_f h
theorem sameInts_ev (xs ys : List Int) (hl : xs.length ≤ 1000000000000000000) : EvV (fun k => laws_sameInts.f k xs ys) (decide (xs = ys)) := by
  unfold laws_sameInts.f
  refine EvP.ite (fun h => ?_) (fun h => EvP.ret ?_)
  · exact sameInts_l0 xs ys (by omega) hl xs.length 0 (by omega) (by omega)
  · have : ¬ xs = ys := by rintro rfl; exact h rfl
    simp [this]
theorem sameInts_same (xs : List Int) (hl : xs.length ≤ 1000000000000000000) : EvV (fun k => laws_sameInts.f k xs xs) true := (sameInts_ev xs xs hl).to (by simp)

theorem l91Part_ev {b : List Int} {p : Int} (hb : Rdr b p) (hp : p ≤ 10000000) :
    EvP (fun k => spec_l91Part.f k b p) (fun r => r.2.1.length ≤ 12 ∧ Rdr b r.2.2 ∧ r.2.2 ≤ p + 100) := by
  have hR : ∀ q : Int, p ≤ q → Rdr b q := fun q hq => ⟨hb.1, hb.2.1, by have := hb.2.2; omega⟩
  have key : ∀ (n : Int), n ≤ 12 → ∀ (d : Nat) (xs : List Int) (i q : Int), 0 ≤ i → n - i ≤ d → xs.length = i → i ≤ 12 → p ≤ q → q ≤ p + 10 + 2 * i → EvP (fun k => spec_l91Part.l0 k xs n i b q) (fun r => r.2.1.length ≤ 12 ∧ Rdr b r.2.2 ∧ r.2.2 ≤ p + 100) := by
    intro n hn d
    induction d with
    | zero =>
      intro xs i q hi hd hx hi2 hq0 hq
      refine EvP.succ ?_
      simp only [spec_l91Part.l0]
      exact EvP.neg (by omega) (EvP.ret ⟨by dsimp only; omega, hR _ (by dsimp only; omega), by dsimp only; omega⟩)
    | succ d ih =>
      intro xs i q hi hd hx hi2 hq0 hq
      refine EvP.succ ?_
      simp only [spec_l91Part.l0]
      refine EvP.ite (fun hlt => ?_) (fun _ => EvP.ret ⟨by dsimp only; omega, hR _ (by dsimp only; omega), by dsimp only; omega⟩)
      refine EvP.bind (pick_ev (hR q hq0) (by omega) (by decide) (by decide)) ?_
      rintro ⟨v, q1⟩ ⟨b1, b2, b3⟩
      dsimp only at b1 b2 b3 ⊢
      simp only [Option.bind_some]
      refine EvP.bind (pick_ev (hR q1 (by omega)) (by omega) (by decide) (by decide)) ?_
      rintro ⟨u, q2⟩ ⟨c1, c2, c3⟩
      dsimp only at c1 c2 c3 ⊢
      rw [w64 (x := i + 1) (by omega) (by omega)]
      exact EvP.pos c1 (EvP.pos (by simpa using c2) (EvP.pos (by omega) (ih _ (i + 1) q2 (by omega) (by omega) (by simp; omega) (by omega) (by omega) (by omega))))
  have hj : ∀ (n q : Int), n ≤ 12 → p ≤ q → q ≤ p + 10 → EvP (fun k => spec_l91Part.j0 k [] n b q) (fun r => r.2.1.length ≤ 12 ∧ Rdr b r.2.2 ∧ r.2.2 ≤ p + 100) := by
    intro n q hn hq0 hq
    refine EvP.succ ?_
    simp only [spec_l91Part.j0]
    exact key n hn n.toNat [] 0 q (by decide) (by omega) rfl (by decide) hq0 (by omega)
  unfold spec_l91Part.f
  refine EvP.bind (pick_ev hb (by omega) (by decide) (by decide)) ?_
  rintro ⟨v, q1⟩ ⟨a1, a2, a3⟩
  dsimp only at a1 a2 a3 ⊢
  refine EvP.ite (fun _ => EvP.ret ⟨by simp, hR _ (by dsimp only; omega), by dsimp only; omega⟩) (fun _ => ?_)
  simp only [Option.bind_some]
  refine EvP.bind (pick_ev (hR q1 (by omega)) (by omega) (by decide) (by decide)) ?_
  rintro ⟨u, q2⟩ ⟨b1, b2, b3⟩
  dsimp only at b1 b2 b3 ⊢
  refine EvP.bind (pick_ev (hR q2 (by omega)) (by omega) (by decide) (by decide)) ?_
  rintro ⟨w, q3⟩ ⟨c1, c2, c3⟩
  dsimp only at c1 c2 c3 ⊢
  exact EvP.ite (fun _ => hj _ _ (by decide) (by omega) (by omega)) (fun _ => hj _ _ (by omega) (by omega) (by omega))

theorem within_eq (a b c : Int) : impl_within.f a b c = some (decide (b ≤ a ∧ a ≤ c)) := by
  unfold impl_within.f
  by_cases h : a ≥ b
  · rw [if_pos h]; congr 1; simp only [decide_eq_decide]; omega
  · rw [if_neg h]; congr 1; symm; simp only [decide_eq_false_iff_not]; omega

theorem baseValid_eq (o t : Int) : impl_baseValid.f o t = some (baseO o t) := by
  unfold impl_baseValid.f baseO
  simp only [within_eq, Option.bind_some]
  by_cases h : 0 ≤ o ∧ o ≤ 99999
  · rw [if_pos (by simpa using h)]; simp [h]
  · rw [if_neg (by simpa using h)]; simp [h]

theorem partValid_ev (has : Bool) (xs : List Int) (hl : xs.length ≤ 1000000000000000000) : EvV (fun k => impl_partValid.f k has xs) (partOk has xs) := by
  unfold impl_partValid.f partOk
  refine EvP.ite (fun h => ?_) (fun h => EvP.ret ?_)
  · rw [if_pos h]
    refine EvP.ite (fun g => EvV.bind (allBytes_ev xs hl) (EvP.ret ?_)) (fun g => EvP.ret ?_)
    · simp [g]
    · simp [g]
  · rw [if_neg h, Bool.eq_iff_iff]
    simp only [decide_eq_true_eq, beq_iff_eq]

theorem iRecordValid_ev (o t : Int) (hk : Bool) (ks : List Int) (hv : Bool) (vs : List Int) (h1 : ks.length ≤ 1000000000000000000) (h2 : vs.length ≤ 1000000000000000000) : EvV (fun k => impl_RecordValid.f k o t hk ks hv vs) (recOk o t hk ks hv vs) := by
  unfold impl_RecordValid.f recOk
  simp only [baseValid_eq, baseO, Option.bind_some]
  refine EvP.ite (fun a => ?_) (fun a => EvP.ret ?_)
  · have a' := a
    simp only [Bool.and_eq_true, decide_eq_true_eq] at a'
    refine EvV.bind (partValid_ev hk ks h1) (EvP.ite (fun b => EvV.bind (partValid_ev hv vs h2) (EvP.ret ?_)) (fun b => EvP.ret ?_))
    · simp [a', b]
    · simp [a', b]
  · revert a
    cases decide (0 ≤ o ∧ o ≤ 99999) <;> cases decide (0 ≤ t ∧ t ≤ 99999) <;> simp

theorem l3Part_ev (has : Bool) (xs : List Int) (hl : xs.length ≤ 1000000000000000000) : EvV (fun k => spec_l3Part.f k has xs) (partOk has xs) := by
  unfold spec_l3Part.f partOk
  refine EvP.ite (fun h => ?_) (fun h => ?_)
  · rw [if_pos h]
    refine EvV.bind (l1Ok_ev xs hl) (EvP.ite (fun g => EvP.ret ?_) (fun g => EvP.ret ?_))
    · simp [g]
    · simp [g]
  · rw [if_neg h]
    refine EvP.ite (fun c => EvV.bind (l1Ok_ev xs hl) (EvP.ite (fun g => EvP.ret ?_) (fun g => EvP.ret ?_))) (fun c => EvP.ret ?_)
    · have : xs = [] := List.eq_nil_of_length_eq_zero (by omega)
      subst this; rfl
    · have : xs = [] := List.eq_nil_of_length_eq_zero (by omega)
      subst this; exact absurd rfl g
    · rw [decide_eq_false c]

theorem sRecordValid_ev (o t : Int) (hk : Bool) (ks : List Int) (hv : Bool) (vs : List Int) (h1 : ks.length ≤ 1000000000000000000) (h2 : vs.length ≤ 1000000000000000000) : EvV (fun k => spec_RecordValid.f k o t hk ks hv vs) (recOk o t hk ks hv vs) := by
  unfold spec_RecordValid.f recOk
  simp only [l6In_eq, Option.bind_some]
  refine EvP.ite (fun a => ?_) (fun a => EvP.ret (by simp [a]))
  refine EvP.ite (fun c => ?_) (fun c => EvP.ret (by simp [a, c]))
  refine EvV.bind (l3Part_ev hk ks h1) (EvP.ite (fun b => EvV.bind (l3Part_ev hv vs h2) (EvP.ret ?_)) (fun b => EvP.ret ?_))
  · rw [a, c, b]; rfl
  · have b' : partOk hk ks = false := by simpa using b
    rw [a, c, b']; rfl

/-- A valid message. -/
def oldOk (o : Int) (timed : Bool) (t : Int) (ks vs : List Int) (hk miss : Bool) : Bool := recOk o t hk ks (!miss) vs && (timed || decide (t = 0))
theorem iKept_eq (o : Int) (timed : Bool) (t : Int) (ks vs : List Int) (hk miss : Bool) (h1 : ks.length ≤ 1000000000000) (h2 : vs.length ≤ 1000000000000) : impl_Old_kept.f o timed t ks vs hk miss = some (o, t, hk, ks, !miss, vs) := by
  unfold impl_Old_kept.f slices_Clone_int_int.f
  rw [if_pos (by omega), if_pos (by omega)]
  rfl
theorem iOldValid_ev (o : Int) (timed : Bool) (t : Int) (ks vs : List Int) (hk miss : Bool) (h1 : ks.length ≤ 1000000000000) (h2 : vs.length ≤ 1000000000000) : EvV (fun k => impl_OldValid.f k o timed t ks vs hk miss) (oldOk o timed t ks vs hk miss) := by
  unfold impl_OldValid.f oldOk
  rw [iKept_eq o timed t ks vs hk miss h1 h2]
  simp only [Option.bind_some]
  exact EvV.bind (iRecordValid_ev o t hk ks (!miss) vs (by omega) (by omega)) (EvP.ret rfl)

theorem sKept_eq (o : Int) (timed : Bool) (t : Int) (ks vs : List Int) (hk miss : Bool) (h1 : ks.length ≤ 1000000000000) (h2 : vs.length ≤ 1000000000000) : spec_l11Record.f o timed t ks vs hk miss = some (o, t, hk, ks, !miss, vs) := by
  unfold spec_l11Record.f
  simp only [Option.bind_some, List.nil_append, List.length_nil, Nat.zero_add]
  rw [if_pos (by omega), if_pos (by omega)]
theorem sOldValid_ev (o : Int) (timed : Bool) (t : Int) (ks vs : List Int) (hk miss : Bool) (h1 : ks.length ≤ 1000000000000) (h2 : vs.length ≤ 1000000000000) : EvV (fun k => spec_OldValid.f k o timed t ks vs hk miss) (oldOk o timed t ks vs hk miss) := by
  unfold spec_OldValid.f oldOk
  rw [sKept_eq o timed t ks vs hk miss h1 h2]
  simp only [Option.bind_some]
  refine EvV.bind (sRecordValid_ev o t hk ks (!miss) vs (by omega) (by omega)) (EvP.ite (fun a => ?_) (fun a => EvP.ret ?_))
  · rw [a]
    refine EvP.ite (fun b => EvP.ret (by rw [b]; rfl)) (fun b => EvP.ret ?_)
    rw [Bool.eq_false_iff.2 b]
    rw [Bool.eq_iff_iff]; simp
  · rw [Bool.eq_false_iff.2 a]; rfl

theorem l91Old_ev {b : List Int} {p : Int} (hb : Rdr b p) (hp : p ≤ 1000000) (o : Int) :
    EvP (fun k => spec_l91Old.f k b p o) (fun r => r.2.2.2.1.length ≤ 12 ∧ r.2.2.2.2.1.length ≤ 12 ∧ (r.1 = o ∨ -1 ≤ r.1 ∧ r.1 ≤ 100000) ∧ 0 ≤ r.2.2.1 ∧ r.2.2.1 ≤ 100000 ∧ Rdr b r.2.2.2.2.2.2.2 ∧ r.2.2.2.2.2.2.2 ≤ p + 1000) := by
  have hR : ∀ q : Int, 0 ≤ q → Rdr b q := fun q hq => ⟨hb.1, hb.2.1, hq⟩
  have p0 := hb.2.2
  have j0 : ∀ (q : Int) (timed : Bool) (t : Int) (x y : Bool), 0 ≤ q → q ≤ p + 10 → 0 ≤ t → t ≤ 100000 → EvP (fun k => spec_l91Old.j0 k b q o timed t x y) (fun r => r.2.2.2.1.length ≤ 12 ∧ r.2.2.2.2.1.length ≤ 12 ∧ (r.1 = o ∨ -1 ≤ r.1 ∧ r.1 ≤ 100000) ∧ 0 ≤ r.2.2.1 ∧ r.2.2.1 ≤ 100000 ∧ Rdr b r.2.2.2.2.2.2.2 ∧ r.2.2.2.2.2.2.2 ≤ p + 1000) := by
    intro q timed t x y q0 q1 t0 t1
    refine EvP.succ ?_
    simp only [spec_l91Old.j0]
    refine EvP.bind (l91Part_ev (hR q q0) (by omega)) ?_
    rintro ⟨hk, ks, r1⟩ ⟨e1, e2, e3⟩
    dsimp only at e1 e2 e3 ⊢
    have e20 := e2.2.2
    refine EvP.bind (l91Part_ev e2 (by omega)) ?_
    rintro ⟨hv, vs, r2⟩ ⟨f1, f2, f3⟩
    dsimp only at f1 f2 f3 ⊢
    have f20 := f2.2.2
    refine EvP.bind (pick_ev f2 (by omega) (by decide) (by decide)) ?_
    rintro ⟨v, r3⟩ ⟨c1, c2, c3⟩
    dsimp only at c1 c2 c3 ⊢
    refine EvP.ite (fun _ => EvP.ret ⟨e1, f1, .inl rfl, t0, t1, hR _ (by dsimp only; omega), by dsimp only; omega⟩) (fun _ => EvP.ite (fun _ => ?_) (fun _ => EvP.ret ⟨e1, f1, .inl rfl, t0, t1, hR _ (by dsimp only; omega), by dsimp only; omega⟩))
    simp only [Option.bind_some]
    refine EvP.bind (pick_ev (hR r3 (by omega)) (by omega) (by decide) (by decide)) ?_
    rintro ⟨u, r4⟩ ⟨d1, d2, d3⟩
    dsimp only at d1 d2 d3 ⊢
    have hr : -1 ≤ rd [-1, 99999, 100000] u ∧ rd [-1, 99999, 100000] u ≤ 100000 := by
      have c : u = 0 ∨ u = 1 ∨ u = 2 := by omega
      rcases c with rfl | rfl | rfl <;> decide
    exact EvP.pos d1 (EvP.pos (by simpa using d2) (EvP.ret ⟨e1, f1, .inr hr, t0, t1, hR _ (by dsimp only; omega), by dsimp only; omega⟩))
  unfold spec_l91Old.f
  refine EvP.bind (pick_ev hb (by omega) (by decide) (by decide)) ?_
  rintro ⟨v1, q1⟩ ⟨a1, a2, a3⟩
  dsimp only at a1 a2 a3 ⊢
  refine EvP.ite (fun _ => ?_) (fun _ => j0 q1 _ _ _ _ (by omega) (by omega) (by decide) (by decide))
  refine EvP.bind (pick_ev (hR q1 (by omega)) (by omega) (by decide) (by decide)) ?_
  rintro ⟨v2, q2⟩ ⟨b1, b2, b3⟩
  dsimp only at b1 b2 b3 ⊢
  refine EvP.bind (pick_ev (hR q2 (by omega)) (by omega) (by decide) (by decide)) ?_
  rintro ⟨v3, q3⟩ ⟨c1, c2, c3⟩
  dsimp only at c1 c2 c3 ⊢
  have m3 : 0 ≤ v2 * (1 + v3 * 300) := Int.mul_nonneg b1 (by omega)
  have m4 : v2 * (1 + v3 * 300) ≤ 249 * 301 := Int.mul_le_mul (by omega) (by omega) (by omega) (by omega)
  rw [w64 (x := v3 * 300) (by omega) (by omega), w64 (x := 1 + v3 * 300) (by omega) (by omega)]
  generalize v2 * (1 + v3 * 300) = y at m3 m4 ⊢
  rw [w64 (x := y) (by omega) (by omega)]
  exact j0 q3 _ _ _ _ (by omega) (by omega) m3 (by omega)

def oldPB (has : Bool) (xs : List Int) : List Int := if has = true then (xs.length : Int) :: xs else [255]
theorem oldPB_len (has : Bool) (xs : List Int) : (oldPB has xs).length ≤ xs.length + 1 := by unfold oldPB; split <;> simp
theorem oldPB_bytes {has : Bool} {xs : List Int} (h : partOk has xs = true) : allB (oldPB has xs) = true := by
  unfold oldPB
  obtain ⟨h1, h2⟩ := partOk_iff.1 h
  by_cases hh : has = true
  · rw [if_pos hh]
    obtain ⟨a, b⟩ := h1 hh
    refine allB_iff.2 ?_
    intro x hx
    rcases List.mem_cons.1 hx with rfl | hx
    · omega
    · exact allB_iff.1 b x hx
  · rw [if_neg hh]; rfl
def headO (timed : Bool) (t : Int) : List Int := if timed = true then 1 :: intB t 3 else [0]
theorem headO_len (timed : Bool) (t : Int) : (headO timed t).length ≤ 4 := by
  have := intB_len3 t 3
  unfold headO; split <;> simp
  omega
theorem headO_bytes (timed : Bool) (t : Int) : allB (headO timed t) = true := by
  unfold headO
  split
  · refine allB_iff.2 ?_
    intro x hx
    rcases List.mem_cons.1 hx with rfl | hx
    · omega
    · exact allB_iff.1 (intB_bytes t 3) x hx
  · rfl
def bodyO (timed : Bool) (t : Int) (ks vs : List Int) (hk miss : Bool) : List Int := headO timed t ++ oldPB hk ks ++ oldPB (!miss) vs
/-- A message's bytes. -/
def oldB (o : Int) (timed : Bool) (t : Int) (ks vs : List Int) (hk miss : Bool) : List Int := intB o 3 ++ (intB (sumL (bodyO timed t ks vs hk miss)) 2 ++ bodyO timed t ks vs hk miss)
def oldR (o : Int) (timed : Bool) (t : Int) (ks vs : List Int) (hk miss : Bool) : List Int × Bool := if oldOk o timed t ks vs hk miss = true then (oldB o timed t ks vs hk miss, true) else ([], false)
theorem oldOk_iff {o : Int} {timed : Bool} {t : Int} {ks vs : List Int} {hk miss : Bool} : oldOk o timed t ks vs hk miss = true ↔ recOk o t hk ks (!miss) vs = true ∧ (timed = true ∨ t = 0) := by unfold oldOk; simp
theorem oldR_len (o : Int) (timed : Bool) (t : Int) (ks vs : List Int) (hk miss : Bool) : (oldR o timed t ks vs hk miss).1.length ≤ ks.length + vs.length + 20 := by
  unfold oldR
  split
  · have a1 := intB_len3 o 3
    have a2 := intB_len3 (sumL (bodyO timed t ks vs hk miss)) 2
    have a3 := headO_len timed t
    have a4 := oldPB_len hk ks
    have a5 := oldPB_len (!miss) vs
    unfold oldB
    simp only [List.length_append]
    unfold bodyO at a2 ⊢
    simp only [List.length_append]
    omega
  · simp

theorem iOldPart_eq (has : Bool) (xs : List Int) (hl : xs.length ≤ 1000000000000) : impl_oldPart.f has xs = some (oldPB has xs) := by
  unfold impl_oldPart.f oldPB
  by_cases h : has = true
  · rw [if_pos h, if_pos h]
    simp only [Option.bind_some, List.length_cons, List.length_nil]
    rw [if_pos (by omega)]
    rfl
  · rw [if_neg h, if_neg h]

theorem sOldPart_eq (has : Bool) (xs : List Int) (hl : xs.length ≤ 1000000000000) : spec_l11Part.f has xs = some (oldPB has xs) := by
  unfold spec_l11Part.f oldPB
  by_cases h : has = true
  · rw [if_pos h, if_pos h]
    simp only [Option.bind_some, List.length_cons, List.length_nil]
    rw [if_pos (by omega)]
    rfl
  · rw [if_neg h, if_neg h]

theorem iBytesOf_ev {o : Int} {timed : Bool} {t : Int} {ks vs : List Int} {hk miss : Bool} (h : oldOk o timed t ks vs hk miss = true) : EvV (fun k => impl_Old_bytesOf.f k o timed t ks vs hk miss) (oldB o timed t ks vs hk miss) := by
  obtain ⟨⟨⟨o0, o1⟩, ⟨t0, t1⟩, pk, pv⟩, _⟩ := (show ((0 ≤ o ∧ o ≤ 99999) ∧ (0 ≤ t ∧ t ≤ 99999) ∧ partOk hk ks = true ∧ partOk (!miss) vs = true) ∧ (timed = true ∨ t = 0) from ⟨recOk_iff.1 (oldOk_iff.1 h).1, (oldOk_iff.1 h).2⟩)
  have lk := (partB_len pk).2
  have lv := (partB_len pv).2
  have a4 := oldPB_len hk ks
  have a5 := oldPB_len (!miss) vs
  have j0 : ∀ hd : List Int, hd = headO timed t → EvV (fun k => impl_Old_bytesOf.j0 k hd o timed t ks vs hk miss) (oldB o timed t ks vs hk miss) := by
    intro hd e
    have hl := headO_len timed t
    have hb := headO_bytes timed t
    have eb : hd ++ oldPB hk ks ++ oldPB (!miss) vs = bodyO timed t ks vs hk miss := by rw [e]; rfl
    have bb : allB (bodyO timed t ks vs hk miss) = true := by unfold bodyO; rw [allB_append, allB_append, hb, oldPB_bytes pk, oldPB_bytes pv]; rfl
    have bl : (bodyO timed t ks vs hk miss).length ≤ 100 := by unfold bodyO; simp only [List.length_append]; omega
    rw [← e] at hl
    refine EvP.succ ?_
    simp only [impl_Old_bytesOf.j0, iOldPart_eq hk ks (by omega), iOldPart_eq (!miss) vs (by omega), Option.bind_some]
    refine EvP.pos (by omega) (EvP.pos (by simp only [List.length_append]; omega) ?_)
    rw [eb]
    have sr := sumL_rng (bodyO timed t ks vs hk miss)
    refine EvV.bind (intOf_ev (by decide) (by decide) o0 (by omega)) (EvV.bind (over_ev _ (by omega) bb) (EvV.bind (intOf_ev (by decide) (by decide) sr.1 (by omega)) ?_))
    have c1 := intB_len3 o 3
    have c2 := intB_len3 (sumL (bodyO timed t ks vs hk miss)) 2
    unfold slices_Concat_int_int.f oldB
    rw [if_pos (by simp only [List.flatten_cons, List.flatten_nil, List.length_append, List.length_nil]; omega)]
    simp only [Option.bind_some, List.flatten_cons, List.flatten_nil, List.append_nil]
    exact EvP.ret rfl
  unfold impl_Old_bytesOf.f
  refine EvP.ite (fun c => ?_) (fun c => j0 [0] (by unfold headO; rw [if_neg c]))
  simp only [Option.bind_some]
  have c1 := intB_len3 t 3
  refine EvV.bind (intOf_ev (by decide) (by decide) t0 (by omega)) (EvP.pos (by simp only [List.length_cons, List.length_nil]; omega) (j0 _ ?_))
  unfold headO; rw [if_pos c]; rfl

theorem sBytesOf_ev {o : Int} {timed : Bool} {t : Int} {ks vs : List Int} {hk miss : Bool} (h : oldOk o timed t ks vs hk miss = true) : EvV (fun k => spec_l11Bytes.f k o timed t ks vs hk miss) (oldB o timed t ks vs hk miss) := by
  obtain ⟨⟨⟨o0, o1⟩, ⟨t0, t1⟩, pk, pv⟩, _⟩ := (show ((0 ≤ o ∧ o ≤ 99999) ∧ (0 ≤ t ∧ t ≤ 99999) ∧ partOk hk ks = true ∧ partOk (!miss) vs = true) ∧ (timed = true ∨ t = 0) from ⟨recOk_iff.1 (oldOk_iff.1 h).1, (oldOk_iff.1 h).2⟩)
  have lk := (partB_len pk).2
  have lv := (partB_len pv).2
  have a4 := oldPB_len hk ks
  have a5 := oldPB_len (!miss) vs
  have j0 : ∀ hd : List Int, hd = headO timed t → EvV (fun k => spec_l11Bytes.j0 k hd o timed t ks vs hk miss) (oldB o timed t ks vs hk miss) := by
    intro hd e
    have hl := headO_len timed t
    have hb := headO_bytes timed t
    have eb : hd ++ oldPB hk ks ++ oldPB (!miss) vs = bodyO timed t ks vs hk miss := by rw [e]; rfl
    have bb : allB (bodyO timed t ks vs hk miss) = true := by unfold bodyO; rw [allB_append, allB_append, hb, oldPB_bytes pk, oldPB_bytes pv]; rfl
    have bl : (bodyO timed t ks vs hk miss).length ≤ 100 := by unfold bodyO; simp only [List.length_append]; omega
    rw [← e] at hl
    refine EvP.succ ?_
    simp only [spec_l11Bytes.j0, sOldPart_eq hk ks (by omega), sOldPart_eq (!miss) vs (by omega), Option.bind_some]
    refine EvP.pos (by omega) (EvP.pos (by simp only [List.length_append]; omega) ?_)
    rw [eb]
    have sr := sumL_rng (bodyO timed t ks vs hk miss)
    have c1 := intB_len3 o 3
    have c2 := intB_len3 (sumL (bodyO timed t ks vs hk miss)) 2
    refine EvV.bind (l2Int_ev (by decide) (by decide) o0 (by omega)) (EvV.bind (l2Sum_ev _ (by omega) bb) (EvV.bind (l2Int_ev (by decide) (by decide) sr.1 (by omega)) (EvP.pos (by omega) ?_)))
    exact EvP.pos (by simp only [List.length_append]; omega) (EvP.ret (by unfold oldB; rw [List.append_assoc]))
  unfold spec_l11Bytes.f
  refine EvP.ite (fun c => ?_) (fun c => j0 [0] (by unfold headO; rw [if_neg c]))
  simp only [Option.bind_some]
  have c1 := intB_len3 t 3
  refine EvV.bind (l2Int_ev (by decide) (by decide) t0 (by omega)) (EvP.pos (by simp only [List.length_cons, List.length_nil]; omega) (j0 _ ?_))
  unfold headO; rw [if_pos c]; rfl

theorem sOldBytes_ev (o : Int) (timed : Bool) (t : Int) (ks vs : List Int) (hk miss : Bool) (h1 : ks.length ≤ 1000000000000) (h2 : vs.length ≤ 1000000000000) : EvV (fun k => spec_OldBytes.f k o timed t ks vs hk miss) (oldR o timed t ks vs hk miss) := by
  unfold spec_OldBytes.f oldR
  refine EvV.bind (sOldValid_ev o timed t ks vs hk miss h1 h2) (EvP.ite (fun a => ?_) (fun a => EvP.ret (by rw [if_neg a])))
  rw [if_pos a]
  exact EvV.bind (sBytesOf_ev a) (EvP.ret rfl)

theorem equalI_l0 (xs ys : List Int) (he : xs.length = ys.length) (hl : xs.length ≤ 1000000000000000000) (d : Nat) : ∀ j : Nat, j ≤ xs.length → xs.length - j = d → EvV (fun k => slices_Equal_int_int.l0 k xs ys (xs.length : Int) (j : Int)) (decide (xs.drop j = ys.drop j)) := by
  induction d with
  | zero =>
    intro j hj hd
    refine EvP.succ ?_
    simp only [slices_Equal_int_int.l0]
    rw [drop_end xs j (by omega), drop_end ys j (by omega)]
    exact EvP.neg (by omega) (EvP.ret (by simp))
  | succ d ih =>
    intro j hj hd
    have hlt : j < xs.length := by omega
    have hlt2 : j < ys.length := by omega
    refine EvP.succ ?_
    simp only [slices_Equal_int_int.l0, rd_nat xs j hlt, rd_nat ys j hlt2, w64_succ hlt hl]
    refine EvP.pos (by omega) (EvP.pos (by omega) (EvP.pos (by omega) (EvP.pos (by omega) ?_)))
    rw [drop_cons xs j hlt, drop_cons ys j hlt2]
    refine EvP.ite (fun h => ?_) (fun h => EvP.ret ?_)
    · exact (ih (j + 1) (by omega) (by omega)).to (dec_cons_t h)
    · exact dec_cons_f h
theorem equalI_ev (xs ys : List Int) (hl : xs.length ≤ 1000000000000000000) : EvV (fun k => slices_Equal_int_int.f k xs ys) (decide (xs = ys)) := by
  unfold slices_Equal_int_int.f
  refine EvP.ite (fun h => ?_) (fun h => EvP.ret ?_)
  · exact equalI_l0 xs ys (by omega) hl xs.length 0 (by omega) (by omega)
  · have : ¬ xs = ys := by rintro rfl; exact h rfl
    simp [this]

theorem intB3_cons (x : Int) : intB x 3 = [x / 65536 % 256, x / 256 % 256, x % 256] := by simp [intB]
theorem intB2_cons (x : Int) : intB x 2 = [x / 256 % 256, x % 256] := by simp [intB]
theorem oldB_cons (o : Int) (td : Bool) (t : Int) (ks vs : List Int) (hk ms : Bool) : oldB o td t ks vs hk ms = o / 65536 % 256 :: o / 256 % 256 :: o % 256 :: sumL (bodyO td t ks vs hk ms) / 256 % 256 :: sumL (bodyO td t ks vs hk ms) % 256 :: bodyO td t ks vs hk ms := by
  unfold oldB
  rw [intB3_cons, intB2_cons]
  rfl
theorem headO_t (t : Int) : headO true t = [1, t / 65536 % 256, t / 256 % 256, t % 256] := by unfold headO; rw [if_pos rfl, intB3_cons]
theorem headO_f (t : Int) : headO false t = [0] := by unfold headO; rw [if_neg (by simp)]
theorem oldOk_all {o : Int} {td : Bool} {t : Int} {ks vs : List Int} {hk ms : Bool} (h : oldOk o td t ks vs hk ms = true) : (0 ≤ o ∧ o ≤ 99999) ∧ (0 ≤ t ∧ t ≤ 99999) ∧ partOk hk ks = true ∧ partOk (!ms) vs = true ∧ (td = true ∨ t = 0) := by
  obtain ⟨h1, h2⟩ := oldOk_iff.1 h
  obtain ⟨a, b, c, d⟩ := recOk_iff.1 h1
  exact ⟨a, b, c, d, h2⟩
theorem oldPB_split {hk hk' : Bool} {ks ks' r r' : List Int} (p : partOk hk ks = true) (p' : partOk hk' ks' = true) (e : oldPB hk ks ++ r = oldPB hk' ks' ++ r') : hk = hk' ∧ ks = ks' ∧ r = r' := by
  obtain ⟨a1, a2⟩ := partOk_iff.1 p
  obtain ⟨b1, b2⟩ := partOk_iff.1 p'
  unfold oldPB at e
  cases hk <;> cases hk'
  · rw [if_neg (by simp), if_neg (by simp)] at e
    rw [a2 rfl, b2 rfl]
    simpa using e
  · rw [if_neg (by simp), if_pos rfl] at e
    have := (b1 rfl).1
    simp only [List.cons_append, List.nil_append, List.cons.injEq] at e
    omega
  · rw [if_pos rfl, if_neg (by simp)] at e
    have := (a1 rfl).1
    simp only [List.cons_append, List.nil_append, List.cons.injEq] at e
    omega
  · rw [if_pos rfl, if_pos rfl] at e
    simp only [List.cons_append, List.cons.injEq] at e
    obtain ⟨e1, e2⟩ := List.append_inj e.2 (by omega)
    exact ⟨rfl, e1, e2⟩
theorem headO_split {td td' : Bool} {t t' : Int} {r r' : List Int} (h : 0 ≤ t ∧ t ≤ 99999) (h' : 0 ≤ t' ∧ t' ≤ 99999) (z : td = true ∨ t = 0) (z' : td' = true ∨ t' = 0) (e : headO td t ++ r = headO td' t' ++ r') : td = td' ∧ t = t' ∧ r = r' := by
  cases td <;> cases td'
  · rw [headO_f, headO_f] at e
    simp at z z' e
    exact ⟨rfl, by omega, e⟩
  · rw [headO_f, headO_t] at e
    simp at e
  · rw [headO_f, headO_t] at e
    simp at e
  · rw [headO_t, headO_t] at e
    simp only [List.cons_append, List.nil_append, List.cons.injEq] at e
    obtain ⟨_, e1, e2, e3, e4⟩ := e
    exact ⟨rfl, by omega, e4⟩
/-- A message's bytes tell where they end, and the message. -/
theorem oldB_split {o o' : Int} {td td' : Bool} {t t' : Int} {ks ks' vs vs' : List Int} {hk hk' ms ms' : Bool} {r r' : List Int} (v : oldOk o td t ks vs hk ms = true) (v' : oldOk o' td' t' ks' vs' hk' ms' = true)
    (e : oldB o td t ks vs hk ms ++ r = oldB o' td' t' ks' vs' hk' ms' ++ r') : o = o' ∧ td = td' ∧ t = t' ∧ ks = ks' ∧ vs = vs' ∧ hk = hk' ∧ ms = ms' ∧ r = r' := by
  obtain ⟨o0, t0, pk, pv, z⟩ := oldOk_all v
  obtain ⟨o0', t0', pk', pv', z'⟩ := oldOk_all v'
  rw [oldB_cons, oldB_cons] at e
  simp only [List.cons_append, List.cons.injEq] at e
  obtain ⟨e1, e2, e3, _, _, e⟩ := e
  unfold bodyO at e
  simp only [List.append_assoc] at e
  obtain ⟨h1, h2, e⟩ := headO_split t0 t0' z z' e
  obtain ⟨h3, h4, e⟩ := oldPB_split pk pk' e
  obtain ⟨h5, h6, e⟩ := oldPB_split pv pv' e
  refine ⟨by omega, h1, h2, h4, h6, h3, ?_, e⟩
  revert h5; cases ms <;> cases ms' <;> simp
theorem oldB_bytes {o : Int} {td : Bool} {t : Int} {ks vs : List Int} {hk ms : Bool} (v : oldOk o td t ks vs hk ms = true) : allB (oldB o td t ks vs hk ms) = true := by
  obtain ⟨_, _, pk, pv, _⟩ := oldOk_all v
  unfold oldB bodyO
  simp only [allB_append]
  rw [intB_bytes, intB_bytes, headO_bytes, oldPB_bytes pk, oldPB_bytes pv]
  rfl
theorem oldB_short {o : Int} {td : Bool} {t : Int} {ks vs : List Int} {hk ms : Bool} (v : oldOk o td t ks vs hk ms = true) : (oldB o td t ks vs hk ms).length ≤ 60 := by
  obtain ⟨_, _, pk, pv, _⟩ := oldOk_all v
  have h1 := headO_len td t
  have h2 := oldPB_len hk ks
  have h3 := oldPB_len (!ms) vs
  have h4 := (partB_len pk).2
  have h5 := (partB_len pv).2
  rw [oldB_cons]
  unfold bodyO
  simp only [List.length_cons, List.length_append]
  omega
theorem oldPB_pos (hk : Bool) (ks : List Int) : 1 ≤ (oldPB hk ks).length := by unfold oldPB; split <;> simp
abbrev OMsg := Int × Bool × Int × List Int × List Int × Bool × Bool × Bool
/-- What is read: a valid message that has just these bytes; else nothing. -/
def OldRead (xs : List Int) (r : OMsg) : Prop := (∃ o td t ks vs hk ms, oldOk o td t ks vs hk ms = true ∧ oldB o td t ks vs hk ms = xs ∧ r = (o, td, t, ks, vs, hk, ms, true)) ∨
  (r = (0, false, 0, ([] : List Int), ([] : List Int), false, false, false) ∧ ∀ o td t ks vs hk ms, oldOk o td t ks vs hk ms = true → oldB o td t ks vs hk ms ≠ xs)
theorem OldRead.one {xs : List Int} {r r' : OMsg} (h : OldRead xs r) (h' : OldRead xs r') : r = r' := by
  rcases h with ⟨o, td, t, ks, vs, hk, ms, v, e, rfl⟩ | ⟨rfl, h⟩
  · rcases h' with ⟨o', td', t', ks', vs', hk', ms', v', e', rfl⟩ | ⟨_, h'⟩
    · obtain ⟨rfl, rfl, rfl, rfl, rfl, rfl, rfl, _⟩ := oldB_split (r := []) (r' := []) v v' (by rw [e, e'])
      rfl
    · exact absurd e (h' _ _ _ _ _ _ _ v)
  · rcases h' with ⟨o', td', t', ks', vs', hk', ms', v', e', rfl⟩ | ⟨rfl, _⟩
    · exact absurd e' (h _ _ _ _ _ _ _ v')
    · rfl
theorem OldRead.len {xs : List Int} {r : OMsg} (h : OldRead xs r) : r.2.2.2.1.length ≤ 12 ∧ r.2.2.2.2.1.length ≤ 12 := by
  rcases h with ⟨o, td, t, ks, vs, hk, ms, v, e, rfl⟩ | ⟨rfl, h⟩
  · obtain ⟨_, _, pk, pv, _⟩ := oldOk_all v
    exact ⟨(partB_len pk).2, (partB_len pv).2⟩
  · exact ⟨by simp, by simp⟩
theorem iPart_eq {hk : Bool} {ks : List Int} (p : partOk hk ks = true) (r : List Int) : impl_oldPartFrom.f (oldPB hk ks ++ r) = some (hk, ks, r, true) := by
  obtain ⟨a1, a2⟩ := partOk_iff.1 p
  unfold impl_oldPartFrom.f oldPB
  cases hk
  · rw [if_neg (by simp), a2 rfl]
    simp [rd]
  · rw [if_pos rfl]
    have l := (a1 rfl).1
    have e : rd ((ks.length : Int) :: ks ++ r) 0 = (ks.length : Int) := by simp [rd]
    have e2 : ((ks.length : Int) :: ks ++ r).drop 1 = ks ++ r := rfl
    rw [e, e2, if_neg (by simp), if_neg (by omega), if_neg (by omega), if_neg (by simp only [List.length_append]; omega), if_pos (by omega)]
    simp
theorem iPart_any {xs : List Int} (hb : allB xs = true) : ∃ q ks r ok, impl_oldPartFrom.f xs = some (q, ks, r, ok) ∧ ks.length ≤ 12 ∧ allB r = true ∧ (ok = true → partOk q ks = true ∧ xs = oldPB q ks ++ r) := by
  unfold impl_oldPartFrom.f
  by_cases c1 : xs.length = 0
  · rw [if_pos c1]; exact ⟨_, _, _, _, rfl, by simp, rfl, by simp⟩
  rw [if_neg c1]
  obtain ⟨x, ys, rfl⟩ : ∃ x ys, xs = x :: ys := by
    cases xs with
    | nil => simp at c1
    | cons x ys => exact ⟨x, ys, rfl⟩
  have hx := allB_iff.1 hb x (by simp)
  have hy : allB ys = true := allB_iff.2 fun z hz => allB_iff.1 hb z (List.mem_cons_of_mem _ hz)
  have e : rd (x :: ys) 0 = x := by simp [rd]
  have e2 : (x :: ys).drop 1 = ys := rfl
  rw [e, e2]
  by_cases c2 : x = 255
  · rw [if_pos c2]; subst c2; exact ⟨_, _, _, _, rfl, by simp, hy, fun _ => ⟨by simp [partOk], by simp [oldPB]⟩⟩
  rw [if_neg c2]
  by_cases c3 : x > 12
  · rw [if_pos c3]; exact ⟨_, _, _, _, rfl, by simp, rfl, by simp⟩
  rw [if_neg c3]
  by_cases c4 : x > (ys.length : Int)
  · rw [if_pos c4]; exact ⟨_, _, _, _, rfl, by simp, rfl, by simp⟩
  rw [if_neg c4, if_pos hx.1]
  have ht : ((ys.take x.toNat).length : Int) = x := by simp; omega
  refine ⟨_, _, _, _, rfl, by omega, allB_iff.2 fun z hz => allB_iff.1 hy z (List.mem_of_mem_drop hz), fun _ => ⟨partOk_iff.2 ⟨fun _ => ⟨by omega, allB_take hy _⟩, by simp⟩, ?_⟩⟩
  unfold oldPB
  rw [if_pos rfl, ht, List.cons_append, List.take_append_drop]
theorem iOld_t2 {xs : List Int} (hl : xs.length ≤ 1000000000000) {o : Int} {td : Bool} {t : Int} {hk : Bool} {ks rest : List Int} (hks : ks.length ≤ 12) (hb : allB rest = true) (hn : ∀ o td t ks vs hk ms, oldOk o td t ks vs hk ms = true → oldB o td t ks vs hk ms ≠ xs) :
    EvV (fun k => impl_OldFrom.t2 k xs o td t hk ks rest) impl_OldFrom.z := by
  unfold impl_OldFrom.t2
  obtain ⟨q, vs, r, ok, e, hv, _, _⟩ := iPart_any hb
  rw [e]
  simp only [Option.bind_some]
  refine EvP.ite (fun _ => EvP.ite (fun _ => ?_) (fun _ => EvP.ret rfl)) (fun _ => EvP.ret rfl)
  refine EvV.bind (iOldValid_ev o td t ks vs hk (!q) (by omega) (by omega)) (EvP.ite (fun v => ?_) (fun _ => EvP.ret rfl))
  have ne := hn _ _ _ _ _ _ _ v
  have sl := oldB_short v
  refine EvV.bind (iBytesOf_ev v) (EvV.bind (equalI_ev _ _ (by omega)) (EvP.neg (by simpa using ne) (EvP.ret rfl)))
theorem iOld_t1 {xs : List Int} (hl : xs.length ≤ 1000000000000) {o : Int} {td : Bool} {t : Int} {rest : List Int} (hb : allB rest = true) (hn : ∀ o td t ks vs hk ms, oldOk o td t ks vs hk ms = true → oldB o td t ks vs hk ms ≠ xs) :
    EvV (fun k => impl_OldFrom.t1 k xs o td t rest) impl_OldFrom.z := by
  unfold impl_OldFrom.t1
  obtain ⟨q, ks, r, ok, e, hv, hr, _⟩ := iPart_any hb
  rw [e]
  simp only [Option.bind_some]
  exact EvP.ite (fun _ => iOld_t2 hl hv hr hn) (fun _ => EvP.ret rfl)
theorem allB_drop {xs : List Int} (h : allB xs = true) (n : Nat) : allB (xs.drop n) = true := allB_iff.2 fun z hz => allB_iff.1 h z (List.mem_of_mem_drop hz)
theorem iOld_no {xs : List Int} (hl : xs.length ≤ 1000000000000) (hn : ∀ o td t ks vs hk ms, oldOk o td t ks vs hk ms = true → oldB o td t ks vs hk ms ≠ xs) : EvV (fun k => impl_OldFrom.f k xs) impl_OldFrom.z := by
  unfold impl_OldFrom.f
  refine EvV.bind (allBytes_ev xs (by omega)) (EvP.ite (fun hb => ?_) (fun _ => EvP.ret rfl))
  refine EvP.ite (fun _ => EvP.ret rfl) (fun c1 => EvP.ite (fun _ => EvP.ret rfl) (fun c2 => ?_))
  unfold impl_OldFrom.t0
  refine EvV.bind (intAt_ev (by omega) hb (by decide) (by decide) (by decide) (by decide)) ?_
  refine EvP.ite (fun c3 => ?_) (fun c3 => iOld_t1 hl (allB_drop hb _) hn)
  refine EvV.bind (intAt_ev (by omega) hb (by decide) (by decide) (by decide) (by decide)) ?_
  by_cases c4 : 0 ≤ (6 : Int) ∧ (6 : Int) ≤ xs.length - 3
  · rw [if_pos c4]
    exact EvP.pos rfl (EvP.pos (by omega) (iOld_t1 hl (allB_drop hb _) hn))
  · rw [if_neg c4]
    exact EvP.neg (by simp) (EvP.ret rfl)
theorem iOld_yes_t1 {o : Int} {td : Bool} {t : Int} {ks vs : List Int} {hk ms : Bool} (v : oldOk o td t ks vs hk ms = true) : EvV (fun k => impl_OldFrom.t1 k (oldB o td t ks vs hk ms) o td t (oldPB hk ks ++ oldPB (!ms) vs)) (o, td, t, ks, vs, hk, ms, true) := by
  obtain ⟨_, _, pk, pv, _⟩ := oldOk_all v
  unfold impl_OldFrom.t1
  rw [iPart_eq pk]
  simp only [Option.bind_some]
  refine EvP.pos (by simp) ?_
  unfold impl_OldFrom.t2
  have e := iPart_eq pv []
  rw [List.append_nil] at e
  rw [e]
  simp only [Option.bind_some]
  refine EvP.pos (by simp) (EvP.pos (by simp) ?_)
  have l1 := (partB_len pk).2
  have l2 := (partB_len pv).2
  have sl := oldB_short v
  have em : (!(!ms)) = ms := by simp
  rw [em]
  refine EvV.bind ((iOldValid_ev o td t ks vs hk ms (by omega) (by omega)).to v) (EvP.pos rfl (EvV.bind (iBytesOf_ev v) (EvV.bind ((equalI_ev _ _ (by omega)).to (w := true) (by simp)) (EvP.pos rfl (EvP.ret rfl)))))
theorem iOld_yes {o : Int} {td : Bool} {t : Int} {ks vs : List Int} {hk ms : Bool} (v : oldOk o td t ks vs hk ms = true) : EvV (fun k => impl_OldFrom.f k (oldB o td t ks vs hk ms)) (o, td, t, ks, vs, hk, ms, true) := by
  obtain ⟨o0, t0, pk, pv, z⟩ := oldOk_all v
  have sl := oldB_short v
  have hb := oldB_bytes v
  have T := iOld_yes_t1 v
  unfold impl_OldFrom.f
  refine EvV.bind ((allBytes_ev _ (by omega)).to hb) (EvP.pos rfl ?_)
  have p1 := oldPB_pos hk ks
  have I0 := intAt_ev (xs := oldB o td t ks vs hk ms) (a := 0) (m := 3) (by omega) hb (by decide) (by decide) (by decide) (by decide)
  have I6 := intAt_ev (xs := oldB o td t ks vs hk ms) (a := 6) (m := 3) (by omega) hb (by decide) (by decide) (by decide) (by decide)
  generalize hX : oldB o td t ks vs hk ms = X at *
  rw [oldB_cons] at hX
  unfold bodyO at hX
  generalize sumL _ = s at hX
  have j0 : joinB ((X.take ((0 : Int) + 3).toNat).drop (0 : Int).toNat) = o := by
    rw [← hX]; simp [joinB]; omega
  unfold impl_OldFrom.t0
  cases td
  · rw [headO_f] at hX
    have e5 : rd X 5 = 0 := by rw [← hX]; simp [rd]
    have d6 : X.drop 6 = oldPB hk ks ++ oldPB (!ms) vs := by rw [← hX]; simp
    have hlen : 6 ≤ (X.length : Int) := by rw [← hX]; simp only [List.length_cons, List.length_append]; omega
    have t00 : t = 0 := by simpa using z
    rw [if_pos (by omega), j0] at I0
    rw [e5, d6]
    subst t00
    exact EvP.neg (by omega) (EvP.neg (by omega) (EvV.bind I0 (EvP.neg (by decide) T)))
  · rw [headO_t] at hX
    have e5 : rd X 5 = 1 := by rw [← hX]; simp [rd]
    have d9 : X.drop 9 = oldPB hk ks ++ oldPB (!ms) vs := by rw [← hX]; simp
    have hlen : 9 ≤ (X.length : Int) := by rw [← hX]; simp only [List.length_cons, List.length_append]; omega
    have j6 : joinB ((X.take ((6 : Int) + 3).toNat).drop (6 : Int).toNat) = t := by
      rw [← hX]; simp [joinB]; omega
    rw [if_pos (by omega), j0] at I0
    rw [if_pos (by omega), j6] at I6
    rw [e5, d9]
    exact EvP.neg (by omega) (EvP.neg (by omega) (EvV.bind I0 (EvP.pos rfl (EvV.bind I6 (EvP.pos rfl (EvP.pos hlen T))))))
theorem iOldFrom_ev (xs : List Int) (hl : xs.length ≤ 1000000000000) : EvP (fun k => impl_OldFrom.f k xs) (OldRead xs) := by
  by_cases h : ∃ o td t ks vs hk ms, oldOk o td t ks vs hk ms = true ∧ oldB o td t ks vs hk ms = xs
  · obtain ⟨o, td, t, ks, vs, hk, ms, v, rfl⟩ := h
    exact (iOld_yes v).mono (fun r hr => .inl ⟨o, td, t, ks, vs, hk, ms, v, rfl, hr.symm⟩)
  · have hn : ∀ o td t ks vs hk ms, oldOk o td t ks vs hk ms = true → oldB o td t ks vs hk ms ≠ xs := fun o td t ks vs hk ms v e => h ⟨o, td, t, ks, vs, hk, ms, v, e⟩
    exact (iOld_no hl hn).mono (fun r hr => .inr ⟨hr.symm, hn⟩)

theorem sameOld_same (o : Int) (td : Bool) (t : Int) (ks vs : List Int) (hk ms : Bool) (h1 : ks.length ≤ 1000000000000) (h2 : vs.length ≤ 1000000000000) : EvV (fun k => laws_sameOld.f k o td t ks vs hk ms o td t ks vs hk ms) true := by
  unfold laws_sameOld.f
  exact EvP.pos rfl (EvP.pos (by simp) (EvP.pos rfl (EvP.pos (by simp) (EvP.pos (by simp) (EvV.bind (sameInts_same ks (by omega)) (EvP.pos rfl (EvV.bind (sameInts_same vs (by omega)) (EvP.ret rfl))))))))

theorem sGet_eq {hk : Bool} {ks : List Int} (p : partOk hk ks = true) (pre r : List Int) (hl : pre.length + r.length ≤ 1000000000000) : spec_l11Get.f (pre ++ (oldPB hk ks ++ r)) (pre.length : Int) = some (hk, ks, ((pre.length + (oldPB hk ks).length : Nat) : Int), true) := by
  obtain ⟨a1, a2⟩ := partOk_iff.1 p
  have hr : rd (pre ++ (oldPB hk ks ++ r)) (pre.length : Int) = (oldPB hk ks ++ r).headD 0 := by
    unfold rd
    rw [List.getD_eq_getElem?_getD, show ((pre.length : Int)).toNat = pre.length by omega, List.getElem?_append_right (Nat.le_refl _), Nat.sub_self]
    have := oldPB_pos hk ks
    cases h : oldPB hk ks with
    | nil => rw [h] at this; simp at this
    | cons a b => rfl
  have hp := oldPB_pos hk ks
  unfold spec_l11Get.f
  rw [hr, if_neg (by simp only [List.length_append]; omega), if_pos (by omega), if_pos (by simp only [List.length_append]; omega)]
  cases hk
  · have e : oldPB false ks = [255] := by unfold oldPB; rw [if_neg (by simp)]
    rw [e, a2 rfl, if_pos (show ([(255 : Int)] ++ r).headD 0 = 255 from rfl), w64 (by omega) (by omega)]
    rfl
  · have e : oldPB true ks = (ks.length : Int) :: ks := by unfold oldPB; rw [if_pos rfl]
    have l := (a1 rfl).1
    rw [e]
    simp only [List.cons_append, List.headD_cons, List.length_append, List.length_cons]
    have w1 : wrap64 ((pre.length : Int) + 1) = ((pre.length + 1 : Nat) : Int) := by rw [w64 (by omega) (by omega)]; omega
    simp only [w1]
    have w2 : wrap64 (((pre.length + 1 : Nat) : Int) + (ks.length : Int)) = ((pre.length + 1 + ks.length : Nat) : Int) := by clear w1; rw [w64 (by omega) (by omega)]; omega
    simp only [w2]
    clear w1 w2
    rw [if_neg (by omega), if_neg (by omega)]
    simp only [Option.bind_some, List.length_nil, Nat.zero_add, List.nil_append]
    have t1 : (((pre.length + 1 : Nat) : Int)).toNat = pre.length + 1 := by omega
    have t2 : (((pre.length + 1 + ks.length : Nat) : Int)).toNat = pre.length + 1 + ks.length := by omega
    rw [t1, t2]
    have cut : (List.take (pre.length + 1 + ks.length) (pre ++ (ks.length : Int) :: (ks ++ r))).drop (pre.length + 1) = ks := by
      have e1 : pre ++ (ks.length : Int) :: (ks ++ r) = (pre ++ [(ks.length : Int)]) ++ ks ++ r := by simp
      have e2 : pre.length + 1 + ks.length = ((pre ++ [(ks.length : Int)]) ++ ks).length := by simp; omega
      have e3 : pre.length + 1 = (pre ++ [(ks.length : Int)]).length := by simp
      rw [e1, e2, List.take_left, e3, List.drop_left]
    rw [cut, if_pos (by omega), if_pos (by omega), if_pos (by omega), if_pos (by omega)]
    congr 1
    simp only [Prod.mk.injEq, and_true, true_and]
    omega
theorem sGet_any {xs : List Int} (hb : allB xs = true) (hl : xs.length ≤ 1000000000000) {a : Int} (h0 : 0 ≤ a) : ∃ q ks n ok, spec_l11Get.f xs a = some (q, ks, n, ok) ∧ ks.length ≤ xs.length ∧ 0 ≤ n := by
  unfold spec_l11Get.f
  by_cases c1 : a ≥ (xs.length : Int)
  · rw [if_pos c1]; exact ⟨_, _, _, _, rfl, by simp, by decide⟩
  rw [if_neg c1, if_pos h0, if_pos (by omega)]
  have hx := rd_rng (allB_iff.1 hb) a
  generalize rd xs a = x at hx
  have w1 : wrap64 (a + 1) = a + 1 := w64 (by omega) (by omega)
  rw [w1]
  have w2 : wrap64 (a + 1 + x) = a + 1 + x := by clear w1; exact w64 (by omega) (by omega)
  rw [w2]
  clear w1 w2
  by_cases c2 : x = 255
  · rw [if_pos c2]; exact ⟨_, _, _, _, rfl, by simp, by omega⟩
  rw [if_neg c2]
  by_cases c3 : a + 1 + x > (xs.length : Int)
  · rw [if_pos c3]; exact ⟨_, _, _, _, rfl, by simp, by decide⟩
  rw [if_neg c3]
  simp only [Option.bind_some, List.length_nil, Nat.zero_add, List.nil_append]
  have ll : ((xs.take (a + 1 + x).toNat).drop (a + 1).toNat).length ≤ xs.length := by simp; omega
  rw [if_pos (by omega), if_pos (by omega), if_pos (by omega), if_pos (by omega)]
  exact ⟨_, _, _, _, rfl, ll, by omega⟩

theorem l3Same_ev (xs ys : List Int) (hl : xs.length ≤ 1000000000000) (hy : ys.length ≤ 1000000000000) : EvV (fun k => spec_l3Same.f k xs 0 ys) (decide (ys.length ≤ xs.length ∧ xs.take ys.length = ys)) := by
  unfold spec_l3Same.f
  have w0 : wrap64 (0 + (ys.length : Int)) = ys.length := by rw [w64 (by omega) (by omega)]; omega
  rw [w0]
  refine EvP.ite (fun h => EvP.ret ?_) (fun h => ?_)
  · have : ¬ ys.length ≤ xs.length := by omega
    simp [this]
  · have hle : ys.length ≤ xs.length := by omega
    have key : ∀ (d j : Nat), j + d = ys.length → EvV (fun k => spec_l3Same.l0 k xs 0 ys (j : Int)) (decide ((xs.take ys.length).drop j = ys.drop j)) := by
      intro d
      induction d with
      | zero =>
        intro j hj
        refine EvP.succ ?_
        simp only [spec_l3Same.l0]
        rw [drop_end (xs.take ys.length) j (by simp; omega), drop_end ys j (by omega)]
        exact EvP.neg (by omega) (EvP.ret (by simp))
      | succ d ih =>
        intro j hj
        have hlt : j < ys.length := by omega
        have hlx : j < xs.length := by omega
        have hlt2 : j < (xs.take ys.length).length := by simp; omega
        have w1 : wrap64 (0 + (j : Int)) = (j : Int) := by rw [w64 (by omega) (by omega)]; omega
        have e : (xs.take ys.length)[j] = xs[j] := by simp
        refine EvP.succ ?_
        simp only [spec_l3Same.l0, w1, rd_nat xs j hlx, rd_nat ys j hlt, w64_succ hlt (by omega : ys.length ≤ 1000000000000000000)]
        refine EvP.pos (by omega) (EvP.pos (by omega) (EvP.pos (by omega) (EvP.pos (by omega) ?_)))
        rw [drop_cons (xs.take ys.length) j hlt2, drop_cons ys j hlt, e]
        refine EvP.ite (fun h => ?_) (fun h => EvP.ret ?_)
        · exact (ih (j + 1) (by omega)).to (dec_cons_t h)
        · exact dec_cons_f h
    refine (key ys.length 0 (by omega)).to ?_
    rw [List.drop_zero, List.drop_zero]
    simp [hle]

theorem sOld_t1_no {xs : List Int} (hl : xs.length ≤ 1000000000000) (hb : allB xs = true) {a o : Int} (ha : 0 ≤ a) {td : Bool} {t : Int} (hn : ∀ o td t ks vs hk ms, oldOk o td t ks vs hk ms = true → oldB o td t ks vs hk ms ≠ xs) :
    EvV (fun k => spec_OldFrom.t1 k xs o td t a) spec_OldFrom.z := by
  unfold spec_OldFrom.t1
  obtain ⟨q, ks, n, ok, e, hk, hn0⟩ := sGet_any hb hl ha
  rw [e]
  simp only [Option.bind_some]
  refine EvP.ite (fun _ => ?_) (fun _ => EvP.ret rfl)
  unfold spec_OldFrom.t2
  obtain ⟨q2, vs, n2, ok2, e2, hv, hn2⟩ := sGet_any hb hl hn0
  rw [e2]
  simp only [Option.bind_some]
  refine EvP.ite (fun _ => ?_) (fun _ => EvP.ret rfl)
  refine EvV.bind (sOldValid_ev o td t ks vs q (!q2) (by omega) (by omega)) (EvP.ite (fun v => ?_) (fun _ => EvP.ret rfl))
  have ne := hn _ _ _ _ _ _ _ v
  have sl := oldB_short v
  refine EvV.bind (sBytesOf_ev v) (EvV.bind (l3Same_ev xs _ hl (by omega)) (EvP.ite (fun h => ?_) (fun _ => EvP.ret rfl)))
  have h' : (oldB o td t ks vs q (!q2)).length ≤ xs.length ∧ xs.take (oldB o td t ks vs q (!q2)).length = oldB o td t ks vs q (!q2) := by simpa using h
  refine EvV.bind (sBytesOf_ev v) (EvP.neg (fun hl2 => ne ?_) (EvP.ret rfl))
  have e3 : xs.take (oldB o td t ks vs q (!q2)).length = xs := List.take_of_length_le (by omega)
  rw [← h'.2, e3]
theorem sOld_no {xs : List Int} (hl : xs.length ≤ 1000000000000) (hn : ∀ o td t ks vs hk ms, oldOk o td t ks vs hk ms = true → oldB o td t ks vs hk ms ≠ xs) : EvV (fun k => spec_OldFrom.f k xs) spec_OldFrom.z := by
  unfold spec_OldFrom.f
  refine EvV.bind (l1Ok_ev xs (by omega)) (EvP.ite (fun hb => ?_) (fun _ => EvP.ret rfl))
  refine EvP.ite (fun _ => EvP.ret rfl) (fun c1 => ?_)
  have j0 : ((rd xs 5 = 1) → 11 ≤ xs.length) → EvV (fun k => spec_OldFrom.t0 k xs) spec_OldFrom.z := by
    intro c
    unfold spec_OldFrom.t0
    refine EvV.bind (l2From_ev (by omega) hb (by decide) (by decide) (by decide) (by omega)) (EvP.ite (fun g => ?_) (fun g => sOld_t1_no hl hb (by decide) hn))
    have := c g
    exact EvV.bind (l2From_ev (by omega) hb (by decide) (by decide) (by decide) (by omega)) (sOld_t1_no hl hb (by decide) hn)
  refine EvP.ite (fun c2 => EvP.ite (fun _ => EvP.ret rfl) (fun c3 => j0 (fun _ => by omega))) (fun c2 => j0 (fun g => absurd g c2))
theorem sOld_yes {o : Int} {td : Bool} {t : Int} {ks vs : List Int} {hk ms : Bool} (v : oldOk o td t ks vs hk ms = true) : EvV (fun k => spec_OldFrom.f k (oldB o td t ks vs hk ms)) (o, td, t, ks, vs, hk, ms, true) := by
  obtain ⟨o0, t0, pk, pv, z⟩ := oldOk_all v
  have sl := oldB_short v
  have hb := oldB_bytes v
  have l1 := (partB_len pk).2
  have l2 := (partB_len pv).2
  have p1 := oldPB_pos hk ks
  have p2 := oldPB_pos (!ms) vs
  have B := sBytesOf_ev v
  have V := (sOldValid_ev o td t ks vs hk ms (by omega) (by omega)).to v
  generalize hX : oldB o td t ks vs hk ms = X at *
  have j1 : ∀ pre : List Int, X = pre ++ (oldPB hk ks ++ oldPB (!ms) vs) → EvV (fun k => spec_OldFrom.t1 k X o td t (pre.length : Int)) (o, td, t, ks, vs, hk, ms, true) := by
    intro pre e
    unfold spec_OldFrom.t1
    have lx := congrArg List.length e
    simp only [List.length_append] at lx
    have g1 := sGet_eq pk pre (oldPB (!ms) vs) (by omega)
    rw [← e] at g1
    have e2 : X = (pre ++ oldPB hk ks) ++ (oldPB (!ms) vs ++ []) := by rw [e]; simp
    have g2 := sGet_eq pv (pre ++ oldPB hk ks) [] (by simp; omega)
    rw [← e2, List.length_append] at g2
    have em : (!(!ms)) = ms := by simp
    rw [g1]
    simp only [Option.bind_some]
    refine EvP.pos (by simp) ?_
    unfold spec_OldFrom.t2
    rw [g2]
    simp only [Option.bind_some, em]
    exact EvP.pos (by simp) (EvV.bind V (EvP.pos rfl (EvV.bind B (EvV.bind ((l3Same_ev X X (by omega) (by omega)).to (w := true) (by simp)) (EvP.pos rfl (EvV.bind B (EvP.pos rfl (EvP.ret rfl))))))))
  have I0 := fun h => l2From_ev (xs := X) (a := 0) (m := 3) (by omega) hb (by decide) (by decide) (by decide) h
  have I6 := fun h => l2From_ev (xs := X) (a := 6) (m := 3) (by omega) hb (by decide) (by decide) (by decide) h
  clear B V
  rw [oldB_cons] at hX
  unfold bodyO at hX
  generalize sumL _ = s at hX
  have j0 : joinB ((X.take ((0 : Int) + 3).toNat).drop (0 : Int).toNat) = o := by
    rw [← hX]; simp [joinB]; omega
  rw [j0] at I0
  unfold spec_OldFrom.f
  refine EvV.bind ((l1Ok_ev _ (by omega)).to hb) (EvP.pos rfl ?_)
  unfold spec_OldFrom.t0
  cases td
  · rw [headO_f] at hX
    have e5 : rd X 5 = 0 := by rw [← hX]; simp [rd]
    have t00 : t = 0 := by simpa using z
    have lx : 8 ≤ (X.length : Int) := by rw [← hX]; simp only [List.length_cons, List.length_append, List.length_nil]; omega
    have J := j1 [o / 65536 % 256, o / 256 % 256, o % 256, s / 256 % 256, s % 256, 0] (by rw [← hX]; simp)
    subst t00
    rw [e5]
    exact EvP.neg (by omega) (EvP.neg (by decide) (EvV.bind (I0 (by omega)) (EvP.neg (by decide) J)))
  · rw [headO_t] at hX
    have e5 : rd X 5 = 1 := by rw [← hX]; simp [rd]
    have lx : 11 ≤ (X.length : Int) := by rw [← hX]; simp only [List.length_cons, List.length_append, List.length_nil]; omega
    have j6 : joinB ((X.take ((6 : Int) + 3).toNat).drop (6 : Int).toNat) = t := by
      rw [← hX]; simp [joinB]; omega
    rw [j6] at I6
    have J := j1 [o / 65536 % 256, o / 256 % 256, o % 256, s / 256 % 256, s % 256, 1, t / 65536 % 256, t / 256 % 256, t % 256] (by rw [← hX]; simp)
    rw [e5]
    exact EvP.neg (by omega) (EvP.pos rfl (EvP.neg (by omega) (EvV.bind (I0 (by omega)) (EvP.pos rfl (EvV.bind (I6 (by omega)) J)))))
theorem sOldFrom_ev (xs : List Int) (hl : xs.length ≤ 1000000000000) : EvP (fun k => spec_OldFrom.f k xs) (OldRead xs) := by
  by_cases h : ∃ o td t ks vs hk ms, oldOk o td t ks vs hk ms = true ∧ oldB o td t ks vs hk ms = xs
  · obtain ⟨o, td, t, ks, vs, hk, ms, v, rfl⟩ := h
    exact (sOld_yes v).mono (fun r hr => .inl ⟨o, td, t, ks, vs, hk, ms, v, rfl, hr.symm⟩)
  · have hn : ∀ o td t ks vs hk ms, oldOk o td t ks vs hk ms = true → oldB o td t ks vs hk ms ≠ xs := fun o td t ks vs hk ms v e => h ⟨o, td, t, ks, vs, hk, ms, v, e⟩
    exact (sOld_no hl hn).mono (fun r hr => .inr ⟨hr.symm, hn⟩)

theorem drawOldFrom_ev (l : List Int) (hl : ∀ x ∈ l, (Lit.int .u8 x).wf = true) : EvP (fun k => spec_DrawOldFrom.f k l) (fun xs => xs.length ≤ 100) := by
  unfold spec_DrawOldFrom.f
  refine EvP.bind (open_ev l hl) ?_
  rintro ⟨b, p⟩ ⟨h, hp⟩
  obtain rfl : p = 0 := hp
  have hR : ∀ q : Int, 0 ≤ q → Rdr b q := fun q hq => ⟨h.1, h.2.1, hq⟩
  dsimp only at h ⊢
  refine EvP.bind (pick_ev h (by decide) (by decide) (by decide)) ?_
  rintro ⟨v, q⟩ ⟨a1, a2, a3⟩
  dsimp only at a1 a2 a3 ⊢
  refine EvP.bind (l91Old_ev (hR q (by omega)) (by omega) v) ?_
  rintro ⟨o, timed, t, ks, vs, hk, miss, q2⟩ ⟨h1, h2, _, _, _, hq, hq2⟩
  have q0 := hq.2.2
  dsimp only at h1 h2 hq hq2 q0 ⊢
  refine EvV.bind (sOldBytes_ev o timed t ks vs hk miss (by omega) (by omega)) ?_
  have L := oldR_len o timed t ks vs hk miss
  by_cases c : oldOk o timed t ks vs hk miss = true
  · have e : oldR o timed t ks vs hk miss = (oldB o timed t ks vs hk miss, true) := by unfold oldR; rw [if_pos c]
    have lo : 8 ≤ (oldB o timed t ks vs hk miss).length := by
      have p1 := oldPB_pos hk ks
      have p2 := oldPB_pos (!miss) vs
      have p3 : 1 ≤ (headO timed t).length := by unfold headO; split <;> simp
      rw [oldB_cons]
      unfold bodyO
      simp only [List.length_cons, List.length_append]
      omega
    rw [e] at L ⊢
    generalize oldB o timed t ks vs hk miss = X at L lo
    dsimp only at L
    refine EvP.pos rfl ?_
    dsimp only
    refine EvP.bind (pick_ev hq (by omega) (by omega) (by omega)) ?_
    rintro ⟨w, q3⟩ ⟨b1, b2, b3⟩
    dsimp only at b1 b2 b3 ⊢
    refine EvP.bind (pick_ev (hR q3 (by omega)) (by omega) (by decide) (by decide)) ?_
    rintro ⟨u, q4⟩ ⟨c1, c2, c3⟩
    dsimp only at c1 c2 c3 ⊢
    refine EvP.ite (fun _ => ?_) (fun _ => EvP.ite (fun _ => EvP.pos b1 (EvP.pos (by omega) (EvP.ret (by simp; omega)))) (fun _ => EvP.ret (by omega)))
    refine EvP.bind (pick_ev (hR q4 (by omega)) (by omega) (by decide) (by decide)) ?_
    rintro ⟨x, q5⟩ ⟨d1, d2, d3⟩
    dsimp only at d1 d2 d3 ⊢
    exact EvP.pos b1 (EvP.pos b2 (EvP.ret (by simp; omega)))
  · have e : oldR o timed t ks vs hk miss = ([], false) := by unfold oldR; rw [if_neg c]
    rw [e]
    exact EvP.neg (by simp) (EvP.ret (by decide))

theorem FnOldTorn : laws_FnOldTorn.Pure := by
  intro l _ _ hl
  refine EvP.done ?_
  unfold laws_FnOldTorn.f
  refine EvP.ite (fun _ => EvP.ret rfl) (fun _ => ?_)
  refine EvP.bind (drawOldFrom_ev l hl) ?_
  intro xs hx
  refine EvP.bind (iOldFrom_ev xs (by omega)) ?_
  intro r hr
  refine EvP.bind (sOldFrom_ev xs (by omega)) ?_
  intro r' hr'
  obtain rfl := hr.one hr'
  have ll := hr.len
  obtain ⟨o, td, t, ks, vs, hk, ms, ok⟩ := r
  dsimp only at ll ⊢
  have S := sameOld_same o td t ks vs hk ms (by omega) (by omega)
  refine EvP.pos (by simp) (EvV.bind S (EvP.pos rfl ?_))
  rcases hr with ⟨o', td', t', ks', vs', hk', ms', v, e, h⟩ | ⟨h, _⟩
  · simp only [Prod.mk.injEq] at h
    obtain ⟨rfl, rfl, rfl, rfl, rfl, rfl, rfl, rfl⟩ := h
    have h1 : 1 ≤ xs.length := by rw [← e, oldB_cons]; simp
    have n1 : ∀ o2 td2 t2 ks2 vs2 hk2 ms2, oldOk o2 td2 t2 ks2 vs2 hk2 ms2 = true → oldB o2 td2 t2 ks2 vs2 hk2 ms2 ≠ xs.take (xs.length - 1) := fun o2 td2 t2 ks2 vs2 hk2 ms2 v2 e2 => by
      obtain ⟨_, _, _, _, _, _, _, z⟩ := oldB_split v2 v (r := xs.drop (xs.length - 1)) (r' := []) (by rw [e2, e, List.take_append_drop, List.append_nil])
      have z' := congrArg List.length z
      simp only [List.length_drop, List.length_nil] at z'
      omega
    have n2 : ∀ o2 td2 t2 ks2 vs2 hk2 ms2, oldOk o2 td2 t2 ks2 vs2 hk2 ms2 = true → oldB o2 td2 t2 ks2 vs2 hk2 ms2 ≠ xs ++ [0] := fun o2 td2 t2 ks2 vs2 hk2 ms2 v2 e2 => by
      obtain ⟨_, _, _, _, _, _, _, z⟩ := oldB_split v2 v (r := []) (r' := [0]) (by rw [e2, e, List.append_nil])
      cases z
    exact EvP.pos rfl (EvP.pos ⟨h1, by omega⟩ (EvV.bind (iOld_no (by simp; omega) n1) (EvV.bind (iOld_no (by simp; omega) n2) (EvP.ret rfl))))
  · simp only [Prod.mk.injEq] at h
    obtain ⟨rfl, rfl, rfl, rfl, rfl, rfl, rfl, rfl⟩ := h
    exact EvP.neg (by simp) (EvP.ret rfl)

end Go.Proofs.Ytmpnedpokdaejaa.Pure
