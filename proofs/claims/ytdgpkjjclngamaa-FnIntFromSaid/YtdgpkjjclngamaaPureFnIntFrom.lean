/- What is read is written so again, at whatever bytes the code draws; there is no condition. -/
import Derived.Test.YtdgpkjjclngamaaQFnIntFromx3
import Derived.Test.YtdgpkjjclngamaaMath
import Derived.Test.YtdgpkjjclngamaaMath2
import Derived.Test.YtdgpkjjclngamaaMath3
import Derived.Test.YtdgpkjjclngamaaMath4
set_option linter.unusedVariables false
set_option linter.unusedSimpArgs false
namespace Go.Proofs.Ytdgpkjjclngamaa.Pure
open Go.RowKit Go.Proofs.Ytdgpkjjclngamaa.QFnIntFrom Go.Proofs.YtdgpkjjclngamaaW.PrintWords Go.Proofs.YtdgpkjjclngamaaW.PrintLast Go.Proofs.YtdgpkjjclngamaaW.PrintMore Go.Proofs.Ytdgpkjjclngamaa.M

theorem l6In_eq (a b c : Int) : spec_l6In.f a b c = some (decide (b ≤ a ∧ a ≤ c)) := by
  unfold spec_l6In.f
  by_cases h : a ≥ b
  · rw [if_pos h]; congr 1; simp only [decide_eq_decide]; omega
  · rw [if_neg h]; congr 1; symm; simp only [decide_eq_false_iff_not]; omega

theorem pick_ev {b : List Int} {p : Int} (hb : Rdr b p) (hp : p ≤ 1000000000) {n : Int} (hn : 1 ≤ n) (hn2 : n ≤ 1000000000) :
    EvP (fun k => spec_l6Rd_pick.f k b p n) (fun r => 0 ≤ r.1 ∧ r.1 < n ∧ r.2 = p + 1) := by
  obtain ⟨hl, hx, hp0⟩ := hb
  have w1 : wrap64 (p + 1) = p + 1 := w64 (by omega) (by omega)
  have w2 : wrap64 (p + 1 - 1) = p := by rw [w64 (by omega) (by omega)]; omega
  unfold spec_l6Rd_pick.f
  refine EvP.neg (by omega) ?_
  rw [w1]
  refine EvP.succ ?_
  simp only [spec_l6Rd_pick.j0, w2]
  refine EvP.ite (fun h => EvP.ret ⟨by omega, by omega, rfl⟩) (fun h => ?_)
  have hlen : ((b.length : Int) == 0) = false := by simpa using h
  have hne : ¬ (b.length : Int) = 0 := by simpa using hlen
  have tm : ∀ x : Int, 0 ≤ x → 0 ≤ Int.tmod x n ∧ Int.tmod x n < n := fun x hx => by
    rw [tmod_pos hx]; exact ⟨Int.emod_nonneg _ (by omega), Int.emod_lt_of_pos _ (by omega)⟩
  have rr : ∀ i, 0 ≤ rd b i ∧ rd b i ≤ 255 := rd_rng hx
  refine EvP.ite (fun h1 => ?_) (fun h1 => ?_)
  · refine EvP.pos hp0 (EvP.neg (by omega) (EvP.ret ?_))
    have := rr p
    have t := tm (wrap64 (rd b p)) (by rw [w64 (by omega) (by omega)]; omega)
    exact ⟨t.1, t.2, rfl⟩
  · have t1 : Int.tmod p (b.length : Int) = p % (b.length : Int) := tmod_pos hp0
    have w3 : wrap64 (wrap64 (p * 7) + 3) = p * 7 + 3 := by rw [w64 (x := p * 7) (by omega) (by omega), w64 (by omega) (by omega)]
    have t2 : Int.tmod (p * 7 + 3) (b.length : Int) = (p * 7 + 3) % (b.length : Int) := tmod_pos (by omega)
    have a1 := Int.emod_nonneg p hne
    have a2 := Int.emod_lt_of_pos p (by omega : 0 < (b.length : Int))
    have a3 := Int.emod_nonneg (p * 7 + 3) hne
    have a4 := Int.emod_lt_of_pos (p * 7 + 3) (by omega : 0 < (b.length : Int))
    have d1 : Int.tdiv p (b.length : Int) = p / (b.length : Int) := tdiv_pos hp0
    have d2 : 0 ≤ p / (b.length : Int) := Int.ediv_nonneg hp0 (by omega)
    have d3 : p / (b.length : Int) ≤ p := Int.ediv_le_self _ hp0
    simp only [w3, t1, t2, d1]
    refine EvP.neg hne (EvP.pos a1 (EvP.pos a2 (EvP.pos a3 (EvP.pos a4 (EvP.neg (by omega) (EvP.ret ?_))))))
    have r1 := rr (p % (b.length : Int))
    have r2 := rr ((p * 7 + 3) % (b.length : Int))
    generalize rd b (p % (b.length : Int)) = x1 at r1 ⊢
    generalize rd b ((p * 7 + 3) % (b.length : Int)) = x2 at r2 ⊢
    generalize p / (b.length : Int) = q at d2 d3 ⊢
    have wx : ∀ x : Int, 0 ≤ x → x ≤ 1000000000000 → wrap64 x = x := fun x h0 h1 => w64 (by omega) (by omega)
    have e : wrap64 (wrap64 (wrap64 (wrap64 (wrap64 x1 * 131) + wrap64 (wrap64 x2 * 1117)) + wrap64 (p * 29)) + wrap64 (wrap64 q * 53)) = x1 * 131 + x2 * 1117 + p * 29 + q * 53 := by
      rw [wx x1 (by omega) (by omega), wx x2 (by omega) (by omega), wx q (by omega) (by omega), wx (x1 * 131) (by omega) (by omega), wx (x2 * 1117) (by omega) (by omega), wx (p * 29) (by omega) (by omega), wx (q * 53) (by omega) (by omega),
        wx (x1 * 131 + x2 * 1117) (by omega) (by omega), wx (x1 * 131 + x2 * 1117 + p * 29) (by omega) (by omega), wx _ (by omega) (by omega)]
    rw [e]
    generalize hz : x1 * 131 + x2 * 1117 + p * 29 + q * 53 = z
    have z0 : 0 ≤ z := by omega
    have z1 : z ≤ 1000000000000 := by omega
    rw [tdiv_pos z0, wx (z / 64) (by omega) (by omega)]
    have t := tm _ (xor_nonneg (x := z) (y := z / 64) (by omega) (by omega) (by omega) (by omega))
    exact ⟨t.1, t.2, rfl⟩

theorem open_ev (l : List Int) (hl : ∀ x ∈ l, (Lit.int .u8 x).wf = true) : EvP (fun _ => spec_l6Open.f l) (fun r => Rdr r.1 r.2 ∧ r.2 = 0) := by
  have hx : ∀ x ∈ l, 0 ≤ x ∧ x ≤ 255 := fun x hx => wf_u8 (hl x hx)
  unfold spec_l6Open.f
  refine EvP.ite (fun h => ?_) (fun h => ?_)
  · refine EvP.pos (by omega) (EvP.ret ⟨⟨by simp; omega, fun x hm => hx x (List.mem_of_mem_take hm), Int.le_refl 0⟩, rfl⟩)
  · exact EvP.ret ⟨⟨by dsimp only; omega, hx, Int.le_refl 0⟩, rfl⟩

theorem l1Ok_l0 (xs : List Int) (hl : xs.length ≤ 1000000000000000000) (d : Nat) : ∀ j : Nat, j ≤ xs.length → xs.length - j = d → EvV (fun k => spec_l1Ok.l0 k xs (j : Int)) (allB (xs.drop j)) := by
  induction d with
  | zero =>
    intro j hj hd
    refine EvP.succ ?_
    simp only [spec_l1Ok.l0]
    rw [drop_end xs j (by omega)]
    exact EvP.neg (by omega) (EvP.ret rfl)
  | succ d ih =>
    intro j hj hd
    have hlt : j < xs.length := by omega
    refine EvP.succ ?_
    simp only [spec_l1Ok.l0, l6In_eq, Option.bind_some, rd_nat xs j hlt, w64_succ hlt hl]
    refine EvP.pos (by omega) (EvP.pos (by omega) ?_)
    rw [drop_cons xs j hlt]
    refine EvP.ite (fun h => ?_) (fun h => EvP.ret ?_)
    · have hb : isB xs[j] = true := h
      exact (ih (j + 1) (by omega) (by omega)).to (allB_cons_t hb)
    · have hb : isB xs[j] = false := by simpa [isB] using h
      exact allB_cons_f hb
theorem l1Ok_ev (xs : List Int) (hl : xs.length ≤ 1000000000000000000) : EvV (fun k => spec_l1Ok.f k xs) (allB xs) := by
  unfold spec_l1Ok.f; exact l1Ok_l0 xs hl xs.length 0 (by omega) (by omega)

theorem isByte_eq (x : Int) : impl_isByte.f x = some (isB x) := by
  unfold impl_isByte.f isB
  by_cases h : x ≥ 0
  · rw [if_pos h]; congr 1; simp only [decide_eq_decide]; omega
  · rw [if_neg h]; congr 1; symm; simp only [decide_eq_false_iff_not]; omega

theorem allBytes_l0 (xs : List Int) (hl : xs.length ≤ 1000000000000000000) (d : Nat) : ∀ j : Nat, j ≤ xs.length → xs.length - j = d → EvV (fun k => impl_allBytes.l0 k xs (xs.length : Int) (j : Int)) (allB (xs.drop j)) := by
  induction d with
  | zero =>
    intro j hj hd
    refine EvP.succ ?_
    simp only [impl_allBytes.l0]
    rw [drop_end xs j (by omega)]
    exact EvP.neg (by omega) (EvP.ret rfl)
  | succ d ih =>
    intro j hj hd
    have hlt : j < xs.length := by omega
    refine EvP.succ ?_
    simp only [impl_allBytes.l0, isByte_eq, Option.bind_some, rd_nat xs j hlt, w64_succ hlt hl]
    refine EvP.pos (by omega) (EvP.pos (by omega) (EvP.pos (by omega) ?_))
    rw [drop_cons xs j hlt]
    refine EvP.ite (fun h => ?_) (fun h => EvP.ret ?_)
    · exact (ih (j + 1) (by omega) (by omega)).to (allB_cons_t h)
    · exact allB_cons_f (by simpa using h)
theorem allBytes_ev (xs : List Int) (hl : xs.length ≤ 1000000000000000000) : EvV (fun k => impl_allBytes.f k xs) (allB xs) := by
  unfold impl_allBytes.f; exact allBytes_l0 xs hl xs.length 0 (by omega) (by omega)

theorem intOf_ev {n m : Int} (h0 : 1 ≤ m) (h1 : m ≤ 3) (hn : 0 ≤ n) (hn1 : n < 4611686018427387904) : EvV (fun k => impl_intOf.f k n m) (intB n m) := by
  have s0 : shr .i64 n 0 = n := by unfold shr; simp
  have s1 : shr .i64 n 8 = n / 256 := by unfold shr; rfl
  have s2 : shr .i64 n 16 = n / 65536 := by unfold shr; rfl
  have r0 : Go.bits .and .i64 n 255 = n % 256 := and255 hn (by omega)
  have r1 : Go.bits .and .i64 (n / 256) 255 = n / 256 % 256 := and255 (by omega) (by omega)
  have r2 : Go.bits .and .i64 (n / 65536) 255 = n / 65536 % 256 := and255 (by omega) (by omega)
  refine EvV.of_add 4 fun k => ?_
  rcases m123 h0 h1 with rfl | rfl | rfl <;> simp [impl_intOf.f, impl_intOf.l0, w64, intB, s0, s1, s2, r0, r1, r2, List.replicate, List.set]

theorem iIntBytes_ev (n m : Int) : EvV (fun k => impl_IntBytes.f k n m) (intBC n m) := by
  unfold impl_IntBytes.f intBC
  refine EvP.ite (fun h => EvP.ret (by rw [if_neg (by omega)])) (fun a => ?_)
  refine EvP.ite (fun h => EvP.ret (by rw [if_neg (by omega)])) (fun b => ?_)
  refine EvP.ite (fun h => EvP.ret (by rw [if_neg (by omega)])) (fun c => ?_)
  have e : shl .i64 1 (wrap64 (8 * m)) = pow256 m := by
    rw [w64 (by omega) (by omega)]
    rcases m123 (by omega : 1 ≤ m) (by omega) with rfl | rfl | rfl <;> (unfold shl; rw [wrap_i64_eq]; exact w64 (by decide) (by decide))
  rw [e]
  have w : wrap64 (8 * m) = 8 * m := w64 (by omega) (by omega)
  have hp := pow256_pos m
  rw [w]
  refine EvP.pos (by omega) ?_
  refine EvP.ite (fun h => EvP.ret (by rw [if_neg (by omega)])) (fun d => ?_)
  rw [if_pos ⟨by omega, by omega, by omega, by omega⟩]
  exact EvV.bind (intOf_ev (by omega) (by omega) (by omega) (by omega)) (EvP.ret rfl)

theorem l2From_ev {xs : List Int} {a m : Int} (hl : xs.length ≤ 1000000000000000000) (hb : allB xs = true) (h0 : 1 ≤ m) (h1 : m ≤ 3) (ha : 0 ≤ a) (hm : a + m ≤ xs.length) :
    EvV (fun k => spec_l2From.f k xs a m) (joinB ((xs.take (a + m).toNat).drop a.toNat)) := by
  obtain ⟨j, rfl⟩ := Int.eq_ofNat_of_zero_le ha
  obtain ⟨q, rfl⟩ := Int.eq_ofNat_of_zero_le (by omega : 0 ≤ m)
  have ew : wrap64 ((j : Int) + (q : Int)) = ((j + q : Nat) : Int) := by rw [w64 (by omega) (by omega)]; omega
  have e1 : ((j : Int) + (q : Int)).toNat = j + q := by omega
  have e2 : ((j : Int)).toNat = j := by omega
  rw [e1, e2]
  have key : ∀ (d i : Nat) (n : Int), j ≤ i → i + d = j + q → 0 ≤ n → n < 256 ^ (q - d) → EvV (fun k => spec_l2From.l0 k xs (j : Int) (q : Int) n (i : Int)) (((xs.take (j + q)).drop i).foldl (fun n b => 256 * n + b) n) := by
    intro d
    induction d with
    | zero =>
      intro i n _ hi _ _
      refine EvP.succ ?_
      simp only [spec_l2From.l0, ew]
      rw [drop_end _ i (by simp; omega)]
      exact EvP.neg (by omega) (EvP.ret rfl)
    | succ d ih =>
      intro i n hji hi hn hn2
      have hlt : i < xs.length := by omega
      have hx := allB_get hb i hlt
      by_cases hqd : d + 1 ≤ q
      · have hc : (256 : Int) ^ (q - (d + 1)) ≤ 65536 := by
          have : q - (d + 1) = 0 ∨ q - (d + 1) = 1 ∨ q - (d + 1) = 2 := by omega
          rcases this with h | h | h <;> rw [h] <;> decide
        have hs : (256 : Int) ^ (q - d) = 256 * 256 ^ (q - (d + 1)) := by
          have : q - d = (q - (d + 1)) + 1 := by omega
          rw [this, Int.pow_succ]; omega
        refine EvP.succ ?_
        simp only [spec_l2From.l0, ew, rd_nat xs i hlt, w64_succ hlt hl]
        refine EvP.pos (by omega) (EvP.pos (by omega) (EvP.pos (by omega) ?_))
        rw [w64 (x := 256 * n) (by omega) (by omega), w64 (by omega) (by omega)]
        have hlt2 : i < (xs.take (j + q)).length := by simp; omega
        rw [drop_cons _ i hlt2]
        have : (xs.take (j + q))[i] = xs[i] := by simp
        rw [this]
        exact ih (i + 1) _ (by omega) (by omega) (by omega) (by omega)
      · exfalso; omega
  unfold spec_l2From.f
  exact key q j 0 (Nat.le_refl _) rfl (by decide) (by simp)

theorem sIntFrom_ev (xs : List Int) (a m : Int) (hl : xs.length ≤ 1000000000000000000) : EvV (fun k => spec_IntFrom.f k xs a m) (intFC xs a m) := by
  unfold spec_IntFrom.f intFC
  simp only [l6In_eq, Option.bind_some]
  refine EvP.ite (fun h => ?_) (fun h => EvP.ret ?_)
  · have h' : 1 ≤ m ∧ m ≤ 3 := by simpa using h
    refine EvV.bind (l1Ok_ev xs hl) (EvP.ite (fun hb => ?_) (fun hb => EvP.ret ?_))
    · rw [w64 (by omega) (by omega)]
      refine EvP.ite (fun g => ?_) (fun g => EvP.ret ?_)
      · have g' : 0 ≤ a ∧ a ≤ xs.length - m := by simpa using g
        rw [if_pos ⟨h'.1, h'.2, hb, g'.1, g'.2⟩]
        exact EvV.bind (l2From_ev hl hb h'.1 h'.2 g'.1 (by omega)) (EvP.ret rfl)
      · have g' : ¬ (0 ≤ a ∧ a ≤ xs.length - m) := by simpa using g
        rw [if_neg (fun x => g' x.2.2.2)]
    · rw [if_neg (fun x => hb x.2.2.1)]
  · have h' : ¬ (1 ≤ m ∧ m ≤ 3) := by simpa using h
    rw [if_neg (fun x => h' ⟨x.1, x.2.1⟩)]

theorem intAt_ev {xs : List Int} {a m : Int} (hl : xs.length ≤ 1000000000000000000) (hb : allB xs = true) (h0 : 1 ≤ m) (h1 : m ≤ 3) (ha1 : -9223372036854775808 ≤ a) (ha2 : a ≤ 9223372036854775807) :
    EvV (fun k => impl_intAt.f k xs a m) (if 0 ≤ a ∧ a ≤ xs.length - m then (joinB ((xs.take (a + m).toNat).drop a.toNat), true) else (0, false)) := by
  have wl : wrap64 ((xs.length : Int) - m) = xs.length - m := w64 (by omega) (by omega)
  unfold impl_intAt.f
  rw [wl]
  refine EvP.ite (fun h => ?_) (fun h => ?_)
  · rw [if_neg (by omega)]
    refine EvP.succ ?_
    simp only [impl_intAt.j0]
    exact EvP.pos (by simp) (EvP.ret rfl)
  · refine EvP.succ ?_
    simp only [impl_intAt.j0]
    refine EvP.ite (fun g => EvP.ret ?_) (fun g => ?_)
    · have : a > xs.length - m := by simpa using g
      rw [if_neg (by omega)]
    · have g' : ¬ a > xs.length - m := by simpa using g
      rw [if_pos ⟨by omega, by omega⟩]
      have wam : wrap64 (a + m) = a + m := w64 (by omega) (by omega)
      rw [wam]
      refine EvP.pos (by omega) (EvP.pos (by omega) (EvP.pos (by omega) ?_))
      generalize hys : (xs.take (a + m).toNat).drop a.toNat = ys
      have hyl : ys.length = m := by rw [← hys]; simp; omega
      have hyb : allB ys = true := by
        rw [allB_iff]; intro x hx; rw [← hys] at hx
        exact allB_iff.1 hb x (List.mem_of_mem_take (List.mem_of_mem_drop hx))
      have key : ∀ (d i : Nat) (n : Int), i + d = ys.length → 0 ≤ n → n < 256 ^ i → EvV (fun k => impl_intAt.l0 k n ys (ys.length : Int) (i : Int)) ((ys.drop i).foldl (fun n b => 256 * n + b) n, true) := by
        intro d
        induction d with
        | zero =>
          intro i n hi _ _
          refine EvP.succ ?_
          simp only [impl_intAt.l0]
          rw [drop_end _ i (by omega)]
          exact EvP.neg (by omega) (EvP.ret rfl)
        | succ d ih =>
          intro i n hi hn hn2
          have hlt : i < ys.length := by omega
          have hx := allB_get hyb i hlt
          have hc : (256 : Int) ^ i ≤ 65536 := by
            have : i = 0 ∨ i = 1 ∨ i = 2 := by omega
            rcases this with h | h | h <;> rw [h] <;> decide
          refine EvP.succ ?_
          simp only [impl_intAt.l0, rd_nat ys i hlt, w64_succ hlt (by omega : ys.length ≤ 1000000000000000000)]
          refine EvP.pos (by omega) (EvP.pos (by omega) (EvP.pos (by omega) ?_))
          rw [w64 (x := n * 256) (by omega) (by omega), or_join 8 (n * 256) ys[i] (by omega) (by omega) (by omega) hx.1 (by omega) (by omega)]
          rw [drop_cons _ i hlt]
          have e : n * 256 + ys[i] = 256 * n + ys[i] := by omega
          rw [e]
          have hs : (256 : Int) ^ (i + 1) = 256 * 256 ^ i := by rw [Int.pow_succ]; omega
          exact ih (i + 1) _ (by omega) (by omega) (by omega)
      exact key ys.length 0 0 (by omega) (by decide) (by simp)

theorem iIntFrom_ev (xs : List Int) (a m : Int) (hl : xs.length ≤ 1000000000000000000) (ha1 : -9223372036854775808 ≤ a) (ha2 : a ≤ 9223372036854775807) : EvV (fun k => impl_IntFrom.f k xs a m) (intFC xs a m) := by
  unfold impl_IntFrom.f intFC
  refine EvP.ite (fun h => EvP.ret (by rw [if_neg (by omega)])) (fun h => ?_)
  refine EvP.ite (fun g => EvP.ret (by rw [if_neg (by omega)])) (fun g => ?_)
  refine EvV.bind (allBytes_ev xs hl) (EvP.ite (fun hb => ?_) (fun hb => EvP.ret ?_))
  · refine EvV.bind (intAt_ev hl hb (by omega) (by omega) ha1 ha2) (EvP.ret ?_)
    by_cases c : 0 ≤ a ∧ a ≤ xs.length - m
    · rw [if_pos c, if_pos ⟨by omega, by omega, hb, c.1, c.2⟩]
    · rw [if_neg c, if_neg (fun x => c x.2.2.2)]
  · rw [if_neg (fun x => hb x.2.2.1)]

theorem sameInts_l0 (xs ys : List Int) (he : xs.length = ys.length) (hl : xs.length ≤ 1000000000000000000) (d : Nat) : ∀ j : Nat, j ≤ xs.length → xs.length - j = d → EvV (fun k => laws_sameInts.l0 k xs ys (j : Int)) (decide (xs.drop j = ys.drop j)) := by
  induction d with
  | zero =>
    intro j hj hd
    refine EvP.succ ?_
    simp only [laws_sameInts.l0]
    rw [drop_end xs j (by omega), drop_end ys j (by omega)]
    exact EvP.neg (by omega) (EvP.ret (by simp))
  | succ d ih =>
    intro j hj hd
    have hlt : j < xs.length := by omega
    have hlt2 : j < ys.length := by omega
    refine EvP.succ ?_
    simp only [laws_sameInts.l0, rd_nat xs j hlt, rd_nat ys j hlt2, w64_succ hlt hl]
    refine EvP.pos (by omega) (EvP.pos (by omega) (EvP.pos (by omega) ?_))
    rw [drop_cons xs j hlt, drop_cons ys j hlt2]
    refine EvP.ite (fun h => ?_) (fun h => EvP.ret ?_)
    · exact (ih (j + 1) (by omega) (by omega)).to (dec_cons_t h)
    · exact dec_cons_f h
theorem sameInts_ev (xs ys : List Int) (hl : xs.length ≤ 1000000000000000000) : EvV (fun k => laws_sameInts.f k xs ys) (decide (xs = ys)) := by
  unfold laws_sameInts.f
  refine EvP.ite (fun h => ?_) (fun h => EvP.ret ?_)
  · exact sameInts_l0 xs ys (by omega) hl xs.length 0 (by omega) (by omega)
  · have : ¬ xs = ys := by rintro rfl; exact h rfl
    simp [this]
theorem sameInts_same (xs : List Int) (hl : xs.length ≤ 1000000000000000000) : EvV (fun k => laws_sameInts.f k xs xs) true := (sameInts_ev xs xs hl).to (by simp)

theorem l91Some_ev {b : List Int} {p : Int} (hb : Rdr b p) (hp : p ≤ 1000000) {m : Int} (hm0 : 0 ≤ m) (hm : m ≤ 100) :
    EvP (fun k => spec_l91Some.f k b p m) (fun r => r.1.length ≤ 100 ∧ Rdr b r.2 ∧ r.2 ≤ p + 200) := by
  have hR : ∀ q : Int, p ≤ q → Rdr b q := fun q hq => ⟨hb.1, hb.2.1, by have := hb.2.2; omega⟩
  unfold spec_l91Some.f
  rw [w64 (x := m + 1) (by omega) (by omega)]
  refine EvP.bind (pick_ev hb (by omega) (by omega) (by omega)) ?_
  rintro ⟨n, q0⟩ ⟨a1, a2, a3⟩
  dsimp only at a1 a2 a3 ⊢
  have key : ∀ (d : Nat) (xs : List Int) (i q : Int), 0 ≤ i → i + d = n → xs.length = i → p ≤ q → q ≤ p + 1 + i → EvP (fun k => spec_l91Some.l0 k xs n i b q) (fun r => r.1.length ≤ 100 ∧ Rdr b r.2 ∧ r.2 ≤ p + 200) := by
    intro d
    induction d with
    | zero =>
      intro xs i q hi hd hx hq0 hq
      refine EvP.succ ?_
      simp only [spec_l91Some.l0]
      refine EvP.neg (by omega) (EvP.ite (fun hn => ?_) (fun hn => ?_))
      · refine EvP.bind (pick_ev (hR q hq0) (by omega) (by decide) (by decide)) ?_
        rintro ⟨v, q1⟩ ⟨b1, b2, b3⟩
        dsimp only at b1 b2 b3 ⊢
        refine EvP.succ ?_
        simp only [spec_l91Some.j1]
        refine EvP.ite (fun _ => ?_) (fun _ => EvP.ret ⟨by dsimp only; omega, hR _ (by dsimp only; omega), by dsimp only; omega⟩)
        refine EvP.bind (pick_ev (hR q1 (by omega)) (by omega) (by omega) (by omega)) ?_
        rintro ⟨w, q2⟩ ⟨c1, c2, c3⟩
        dsimp only at c1 c2 c3 ⊢
        simp only [Option.bind_some]
        refine EvP.bind (pick_ev (hR q2 (by omega)) (by omega) (by decide) (by decide)) ?_
        rintro ⟨u, q3⟩ ⟨d1, d2, d3⟩
        dsimp only at d1 d2 d3 ⊢
        exact EvP.pos d1 (EvP.pos (by simpa using d2) (EvP.pos c1 (EvP.pos (by omega) (EvP.ret ⟨by simp; omega, hR _ (by dsimp only; omega), by dsimp only; omega⟩))))
      · refine EvP.succ ?_
        simp only [spec_l91Some.j1]
        exact EvP.neg (by decide) (EvP.ret ⟨by dsimp only; omega, hR _ (by dsimp only; omega), by dsimp only; omega⟩)
    | succ d ih =>
      intro xs i q hi hd hx hq0 hq
      refine EvP.succ ?_
      simp only [spec_l91Some.l0]
      refine EvP.pos (by omega) ?_
      refine EvP.bind (pick_ev (hR q hq0) (by omega) (by decide) (by decide)) ?_
      rintro ⟨v, q1⟩ ⟨b1, b2, b3⟩
      dsimp only at b1 b2 b3 ⊢
      rw [w64 (x := i + 1) (by omega) (by omega)]
      exact EvP.pos (by omega) (ih _ (i + 1) q1 (by omega) (by omega) (by simp; omega) (by omega) (by omega))
  exact key n.toNat [] 0 q0 (by omega) (by omega) rfl (by omega) (by omega)

theorem drawIntFrom_ev (l : List Int) (hl : ∀ x ∈ l, (Lit.int .u8 x).wf = true) : EvP (fun k => spec_DrawIntFrom.f k l) (fun r => r.1.length ≤ 100 ∧ -1000 ≤ r.2.1 ∧ r.2.1 ≤ 1000) := by
  unfold spec_DrawIntFrom.f
  refine EvP.bind (open_ev l hl) ?_
  rintro ⟨b, p⟩ ⟨h, hp⟩
  obtain rfl : p = 0 := hp
  have hR : ∀ q : Int, 0 ≤ q → Rdr b q := fun q hq => ⟨h.1, h.2.1, hq⟩
  dsimp only at h ⊢
  refine EvP.bind (l91Some_ev h (by decide) (by decide) (by decide)) ?_
  rintro ⟨xs, q⟩ ⟨h1, hq, hq2⟩
  have hq0 : 0 ≤ q := hq.2.2
  dsimp only at h1 hq hq2 hq0 ⊢
  refine EvP.bind (pick_ev hq (by omega) (by decide) (by decide)) ?_
  rintro ⟨v1, q1⟩ ⟨a1, a2, a3⟩
  dsimp only at a1 a2 a3 ⊢
  refine EvP.bind (pick_ev (hR q1 (by omega)) (by omega) (by decide) (by decide)) ?_
  rintro ⟨v2, q2⟩ ⟨b1, b2, b3⟩
  dsimp only at b1 b2 b3 ⊢
  have tail : ∀ (m q : Int), 0 ≤ m → m ≤ 4 → 0 ≤ q → q ≤ 100000 →
      1 ≤ mx (wrap64 ((wrap64 ((xs.length : Int) - m)) + 1)) 1 ∧ mx (wrap64 ((wrap64 ((xs.length : Int) - m)) + 1)) 1 ≤ 1000 := by
    intro m q _ _ _ _
    rw [w64 (x := (xs.length : Int) - m) (by omega) (by omega), w64 (by omega) (by omega)]
    unfold mx
    split <;> omega
  have fin : ∀ (v w u : Int), 0 ≤ v → v < 1000 → 0 ≤ w → w < 8 → 0 ≤ u → u < 12 → -1000 ≤ wrap64 ((wrap64 (v + (wrap64 (Int.tdiv w 7)))) - (wrap64 ((wrap64 (Int.tdiv u 11)) * 2))) ∧ wrap64 ((wrap64 (v + (wrap64 (Int.tdiv w 7)))) - (wrap64 ((wrap64 (Int.tdiv u 11)) * 2))) ≤ 1000 := by
    intro v w u c1 c2 c3 c4 c5 c6
    rw [tdiv_pos c3, tdiv_pos c5, w64 (x := w / 7) (by omega) (by omega), w64 (x := u / 11) (by omega) (by omega), w64 (x := v + w / 7) (by omega) (by omega), w64 (x := u / 11 * 2) (by omega) (by omega), w64 (by omega) (by omega)]
    omega
  refine EvP.ite (fun _ => ?_) (fun _ => ?_)
  · simp only [Option.bind_some]
    refine EvP.bind (pick_ev (hR q2 (by omega)) (by omega) (by decide) (by decide)) ?_
    rintro ⟨v3, q3⟩ ⟨c1, c2, c3⟩
    dsimp only at c1 c2 c3 ⊢
    refine EvP.pos c1 (EvP.pos (by simpa using c2) ?_)
    have hm : 0 ≤ rd [0, 4] v3 ∧ rd [0, 4] v3 ≤ 4 := by
      have : v3 = 0 ∨ v3 = 1 := by omega
      rcases this with rfl | rfl <;> decide
    have t := tail (rd [0, 4] v3) q3 hm.1 hm.2 (by omega) (by omega)
    refine EvP.bind (pick_ev (hR q3 (by omega)) (by omega) t.1 (by omega)) ?_
    rintro ⟨v4, q4⟩ ⟨d1, d2, d3⟩
    dsimp only at d1 d2 d3 ⊢
    refine EvP.bind (pick_ev (hR q4 (by omega)) (by omega) (by decide) (by decide)) ?_
    rintro ⟨v5, q5⟩ ⟨e1, e2, e3⟩
    dsimp only at e1 e2 e3 ⊢
    refine EvP.bind (pick_ev (hR q5 (by omega)) (by omega) (by decide) (by decide)) ?_
    rintro ⟨v6, q6⟩ ⟨f1, f2, f3⟩
    dsimp only at f1 f2 f3 ⊢
    have z := fin v4 v5 v6 d1 (by omega) e1 e2 f1 f2
    exact EvP.ret ⟨h1, z.1, z.2⟩
  · have hm : wrap64 (1 + v1) = 1 + v1 := w64 (by omega) (by omega)
    rw [hm]
    have t := tail (1 + v1) q2 (by omega) (by omega) (by omega) (by omega)
    refine EvP.bind (pick_ev (hR q2 (by omega)) (by omega) t.1 (by omega)) ?_
    rintro ⟨v4, q4⟩ ⟨d1, d2, d3⟩
    dsimp only at d1 d2 d3 ⊢
    refine EvP.bind (pick_ev (hR q4 (by omega)) (by omega) (by decide) (by decide)) ?_
    rintro ⟨v5, q5⟩ ⟨e1, e2, e3⟩
    dsimp only at e1 e2 e3 ⊢
    refine EvP.bind (pick_ev (hR q5 (by omega)) (by omega) (by decide) (by decide)) ?_
    rintro ⟨v6, q6⟩ ⟨f1, f2, f3⟩
    dsimp only at f1 f2 f3 ⊢
    have z := fin v4 v5 v6 d1 (by omega) e1 e2 f1 f2
    exact EvP.ret ⟨h1, z.1, z.2⟩

theorem joinB_int {ys : List Int} (hb : allB ys = true) {m : Int} (h0 : 1 ≤ m) (h1 : m ≤ 3) (hl : ys.length = m) : intB (joinB ys) m = ys ∧ 0 ≤ joinB ys ∧ joinB ys < pow256 m := by
  have hx := allB_iff.1 hb
  rcases m123 h0 h1 with rfl | rfl | rfl
  · match ys, hl with
    | [a], _ =>
      have := hx a (by simp)
      simp [joinB, intB, pow256]; omega
  · match ys, hl with
    | [a, b], _ =>
      have := hx a (by simp)
      have := hx b (by simp)
      simp [joinB, intB, pow256]; omega
  · match ys, hl with
    | [a, b, c], _ =>
      have := hx a (by simp)
      have := hx b (by simp)
      have := hx c (by simp)
      simp [joinB, intB, pow256]; omega
theorem FnIntFrom : laws_FnIntFrom.Pure := by
  intro l _ _ hl
  refine EvP.done ?_
  unfold laws_FnIntFrom.f
  refine EvP.ite (fun _ => EvP.ret rfl) (fun _ => ?_)
  refine EvP.bind (drawIntFrom_ev l hl) ?_
  rintro ⟨xs, a, m⟩ ⟨h1, h2, h3⟩
  dsimp only at h1 h2 h3
  have s := sIntFrom_ev xs a m (by omega)
  have i := iIntFrom_ev xs a m (by omega) (by omega) (by omega)
  by_cases c : 1 ≤ m ∧ m ≤ 3 ∧ allB xs = true ∧ 0 ≤ a ∧ a ≤ xs.length - m
  · have e : intFC xs a m = (joinB ((xs.take (a + m).toNat).drop a.toNat), true) := by unfold intFC; rw [if_pos c]
    rw [e] at s i
    refine EvV.bind i (EvV.bind s (EvP.neg (by simp) (EvP.pos (by simp) (EvP.succ ?_))))
    simp only [laws_FnIntFrom.j0]
    have wa : wrap64 (a + m) = a + m := w64 (by omega) (by omega)
    rw [wa]
    generalize hy : (xs.take (a + m).toNat).drop a.toNat = ys
    have hyl : ys.length = m := by rw [← hy]; simp; omega
    have hyb : allB ys = true := allB_iff.2 fun x hx => allB_iff.1 c.2.2.1 x (by rw [← hy] at hx; exact List.mem_of_mem_take (List.mem_of_mem_drop hx))
    have j := joinB_int hyb c.1 c.2.1 hyl
    have ib := (iIntBytes_ev (joinB ys) m).to (intBC_pos c.1 c.2.1 j.2.1 j.2.2)
    rw [j.1] at ib
    exact EvP.neg (by decide) (EvV.bind ib (EvP.pos (by simp) (EvP.pos c.2.2.2.1 (EvP.pos (by omega) (EvP.pos (by omega) (EvV.bind (sameInts_same ys (by omega)) (EvP.ret rfl)))))))
  · have e : intFC xs a m = (0, false) := by unfold intFC; rw [if_neg c]
    rw [e] at s i
    refine EvV.bind i (EvV.bind s (EvP.neg (by simp) (EvP.pos (by simp) (EvP.succ ?_))))
    simp only [laws_FnIntFrom.j0]
    exact EvP.pos (by simp) (EvP.pos (by simp) (EvP.ret rfl))

end Go.Proofs.Ytdgpkjjclngamaa.Pure
