/- A part of a number's bytes is no number, at whatever bytes the code draws; there is no condition. -/
import Derived.Test.YtdgpkjjclngamaaQFnVarTornx3
import Derived.Test.YtdgpkjjclngamaaMath
import Derived.Test.YtdgpkjjclngamaaMath2
import Derived.Test.YtdgpkjjclngamaaMath3
import Derived.Test.YtdgpkjjclngamaaMath4
set_option linter.unusedVariables false
set_option linter.unusedSimpArgs false
namespace Go.Proofs.Ytdgpkjjclngamaa.Pure
open Go.RowKit Go.Proofs.Ytdgpkjjclngamaa.QFnVarTorn Go.Proofs.YtdgpkjjclngamaaW.PrintWords Go.Proofs.YtdgpkjjclngamaaW.PrintLast Go.Proofs.YtdgpkjjclngamaaW.PrintMore Go.Proofs.Ytdgpkjjclngamaa.M

theorem l6In_eq (a b c : Int) : spec_l6In.f a b c = some (decide (b ≤ a ∧ a ≤ c)) := by
  unfold spec_l6In.f
  by_cases h : a ≥ b
  · rw [if_pos h]; congr 1; simp only [decide_eq_decide]; omega
  · rw [if_neg h]; congr 1; symm; simp only [decide_eq_false_iff_not]; omega

theorem l1Fold_eq {n : Int} (h0 : -1000000 ≤ n) (h1 : n ≤ 1000000) : spec_l1Fold.f n = some (fold n) := by
  unfold spec_l1Fold.f fold
  rw [if_neg (by omega : ¬ (n < -1000000 ∨ 1000000 < n))]
  split
  · rw [w64 (x := -2 * n) (by omega) (by omega), w64 (by omega) (by omega)]
  · rw [w64 (by omega) (by omega)]

theorem l1Unfold_eq {n : Int} (h0 : 0 ≤ n) (h1 : n ≤ 2000000) : spec_l1Unfold.f n = some (unf n) := by
  unfold spec_l1Unfold.f unf
  rw [tmod_pos h0]
  split
  · rw [w64 (x := n + 1) (by omega) (by omega), w64 (x := -(n + 1)) (by omega) (by omega)]
    have e : Int.tdiv (-(n + 1)) 2 = -((n + 1) / 2) := by rw [Int.neg_tdiv, tdiv_pos (by omega)]
    rw [e, w64 (by omega) (by omega)]; congr 1; omega
  · rw [tdiv_pos h0, w64 (by omega) (by omega)]

theorem iUnfold_eq (k : Nat) (n : Int) : impl_UnfoldNumber.f (k + 1) n = some (unfC n) := by
  unfold impl_UnfoldNumber.f
  simp only [impl_UnfoldNumber.j0]
  unfold unfC
  by_cases h1 : n < 0
  · simp [h1]
  · by_cases h2 : n > 2000000
    · simp [h1, h2]
    · rw [if_neg h1, if_neg (by simpa using h2), if_neg (show ¬ (n < 0 ∨ 2000000 < n) by omega), and1 (by omega) (by omega)]
      unfold unf
      split
      · rw [w64 (x := -(n / 2)) (by omega) (by omega), w64 (by omega) (by omega)]
      · rfl
theorem iUnfold_ev (n : Int) : EvV (fun k => impl_UnfoldNumber.f k n) (unfC n) := EvV.of_succ fun k => iUnfold_eq k n

theorem l1Bytes_ev {n : Int} (h0 : -1000000 ≤ n) (h1 : n ≤ 1000000) : EvV (fun k => spec_l1Bytes.f k n) (varL (fold n)) := by
  obtain ⟨f0, f1⟩ := fold_rng h0 h1
  refine EvV.of_add 3 fun k => ?_
  unfold spec_l1Bytes.f
  rw [l1Fold_eq h0 h1]
  simp only [Option.bind_some]
  generalize fold n = f at f0 f1 ⊢
  unfold varL
  by_cases a : f < 128
  · simp only [spec_l1Bytes.l0]; rw [if_neg (by omega), if_pos (by simp), if_pos a]; rfl
  · rw [if_neg a]
    have e1 : wrap64 (Int.tdiv f 128) = f / 128 := by rw [tdiv_pos f0, w64 (by omega) (by omega)]
    have e2 : wrap64 (128 + Int.tmod f 128) = f % 128 + 128 := by rw [tmod_pos f0, w64 (by omega) (by omega)]; omega
    by_cases b : f < 16384
    · simp only [spec_l1Bytes.l0]; rw [if_pos (by omega), if_pos (by simp), e1, e2, if_neg (by omega), if_pos (by simp), if_pos b]; rfl
    · have e3 : wrap64 (Int.tdiv (f / 128) 128) = f / 16384 := by rw [tdiv_pos (by omega), w64 (by omega) (by omega)]; omega
      have e4 : wrap64 (128 + Int.tmod (f / 128) 128) = f / 128 % 128 + 128 := by rw [tmod_pos (by omega), w64 (by omega) (by omega)]; omega
      simp only [spec_l1Bytes.l0]
      rw [if_pos (by omega), if_pos (by simp), e1, e2, if_pos (by omega), if_pos (by simp), e3, e4, if_neg (by omega), if_pos (by simp), if_neg b]; rfl

theorem sVarBytes_ev (n : Int) : EvV (fun k => spec_VarBytes.f k n) (varR n) := by
  unfold varR spec_VarBytes.f
  simp only [l6In_eq, Option.bind_some]
  by_cases h : -1000000 ≤ n ∧ n ≤ 1000000
  · have := fold_rng h.1 h.2
    refine EvP.pos (by simpa using h) (EvV.bind (l1Bytes_ev h.1 h.2) (EvP.ret ?_))
    rw [if_neg (by omega)]
  · refine EvP.neg (by simpa using h) (EvP.ret ?_)
    rw [if_pos (by unfold fold; rw [if_pos (by omega)]; decide)]

theorem pick_ev {b : List Int} {p : Int} (hb : Rdr b p) (hp : p ≤ 1000000000) {n : Int} (hn : 1 ≤ n) (hn2 : n ≤ 1000000000) :
    EvP (fun k => spec_l6Rd_pick.f k b p n) (fun r => 0 ≤ r.1 ∧ r.1 < n ∧ r.2 = p + 1) := by
  obtain ⟨hl, hx, hp0⟩ := hb
  have w1 : wrap64 (p + 1) = p + 1 := w64 (by omega) (by omega)
  have w2 : wrap64 (p + 1 - 1) = p := by rw [w64 (by omega) (by omega)]; omega
  unfold spec_l6Rd_pick.f
  refine EvP.neg (by omega) ?_
  rw [w1]
  refine EvP.succ ?_
  simp only [spec_l6Rd_pick.j0, w2]
  refine EvP.ite (fun h => EvP.ret ⟨by omega, by omega, rfl⟩) (fun h => ?_)
  have hlen : ((b.length : Int) == 0) = false := by simpa using h
  have hne : ¬ (b.length : Int) = 0 := by simpa using hlen
  have tm : ∀ x : Int, 0 ≤ x → 0 ≤ Int.tmod x n ∧ Int.tmod x n < n := fun x hx => by
    rw [tmod_pos hx]; exact ⟨Int.emod_nonneg _ (by omega), Int.emod_lt_of_pos _ (by omega)⟩
  have rr : ∀ i, 0 ≤ rd b i ∧ rd b i ≤ 255 := rd_rng hx
  refine EvP.ite (fun h1 => ?_) (fun h1 => ?_)
  · refine EvP.pos hp0 (EvP.neg (by omega) (EvP.ret ?_))
    have := rr p
    have t := tm (wrap64 (rd b p)) (by rw [w64 (by omega) (by omega)]; omega)
    exact ⟨t.1, t.2, rfl⟩
  · have t1 : Int.tmod p (b.length : Int) = p % (b.length : Int) := tmod_pos hp0
    have w3 : wrap64 (wrap64 (p * 7) + 3) = p * 7 + 3 := by rw [w64 (x := p * 7) (by omega) (by omega), w64 (by omega) (by omega)]
    have t2 : Int.tmod (p * 7 + 3) (b.length : Int) = (p * 7 + 3) % (b.length : Int) := tmod_pos (by omega)
    have a1 := Int.emod_nonneg p hne
    have a2 := Int.emod_lt_of_pos p (by omega : 0 < (b.length : Int))
    have a3 := Int.emod_nonneg (p * 7 + 3) hne
    have a4 := Int.emod_lt_of_pos (p * 7 + 3) (by omega : 0 < (b.length : Int))
    have d1 : Int.tdiv p (b.length : Int) = p / (b.length : Int) := tdiv_pos hp0
    have d2 : 0 ≤ p / (b.length : Int) := Int.ediv_nonneg hp0 (by omega)
    have d3 : p / (b.length : Int) ≤ p := Int.ediv_le_self _ hp0
    simp only [w3, t1, t2, d1]
    refine EvP.neg hne (EvP.pos a1 (EvP.pos a2 (EvP.pos a3 (EvP.pos a4 (EvP.neg (by omega) (EvP.ret ?_))))))
    have r1 := rr (p % (b.length : Int))
    have r2 := rr ((p * 7 + 3) % (b.length : Int))
    generalize rd b (p % (b.length : Int)) = x1 at r1 ⊢
    generalize rd b ((p * 7 + 3) % (b.length : Int)) = x2 at r2 ⊢
    generalize p / (b.length : Int) = q at d2 d3 ⊢
    have wx : ∀ x : Int, 0 ≤ x → x ≤ 1000000000000 → wrap64 x = x := fun x h0 h1 => w64 (by omega) (by omega)
    have e : wrap64 (wrap64 (wrap64 (wrap64 (wrap64 x1 * 131) + wrap64 (wrap64 x2 * 1117)) + wrap64 (p * 29)) + wrap64 (wrap64 q * 53)) = x1 * 131 + x2 * 1117 + p * 29 + q * 53 := by
      rw [wx x1 (by omega) (by omega), wx x2 (by omega) (by omega), wx q (by omega) (by omega), wx (x1 * 131) (by omega) (by omega), wx (x2 * 1117) (by omega) (by omega), wx (p * 29) (by omega) (by omega), wx (q * 53) (by omega) (by omega),
        wx (x1 * 131 + x2 * 1117) (by omega) (by omega), wx (x1 * 131 + x2 * 1117 + p * 29) (by omega) (by omega), wx _ (by omega) (by omega)]
    rw [e]
    generalize hz : x1 * 131 + x2 * 1117 + p * 29 + q * 53 = z
    have z0 : 0 ≤ z := by omega
    have z1 : z ≤ 1000000000000 := by omega
    rw [tdiv_pos z0, wx (z / 64) (by omega) (by omega)]
    have t := tm _ (xor_nonneg (x := z) (y := z / 64) (by omega) (by omega) (by omega) (by omega))
    exact ⟨t.1, t.2, rfl⟩

theorem open_ev (l : List Int) (hl : ∀ x ∈ l, (Lit.int .u8 x).wf = true) : EvP (fun _ => spec_l6Open.f l) (fun r => Rdr r.1 r.2 ∧ r.2 = 0) := by
  have hx : ∀ x ∈ l, 0 ≤ x ∧ x ≤ 255 := fun x hx => wf_u8 (hl x hx)
  unfold spec_l6Open.f
  refine EvP.ite (fun h => ?_) (fun h => ?_)
  · refine EvP.pos (by omega) (EvP.ret ⟨⟨by simp; omega, fun x hm => hx x (List.mem_of_mem_take hm), Int.le_refl 0⟩, rfl⟩)
  · exact EvP.ret ⟨⟨by dsimp only; omega, hx, Int.le_refl 0⟩, rfl⟩

theorem l91Number_ev {b : List Int} {p : Int} (hb : Rdr b p) (hp : p ≤ 100000000) :
    EvP (fun k => spec_l91Number.f k b p) (fun r => -10000000 ≤ r.1 ∧ r.1 ≤ 10000000 ∧ Rdr b r.2 ∧ r.2 ≤ p + 10) := by
  have hR : ∀ q : Int, p ≤ q → Rdr b q := fun q hq => ⟨hb.1, hb.2.1, by have := hb.2.2; omega⟩
  unfold spec_l91Number.f
  refine EvP.bind (pick_ev hb (by omega) (by decide) (by decide)) ?_
  rintro ⟨v1, q1⟩ ⟨a1, a2, a3⟩
  dsimp only at a1 a2 a3 ⊢
  refine EvP.ite (fun _ => ?_) (fun _ => EvP.ite (fun _ => ?_) (fun _ => ?_))
  · simp only [Option.bind_some]
    refine EvP.bind (pick_ev (hR q1 (by omega)) (by omega) (by decide) (by decide)) ?_
    rintro ⟨v2, q2⟩ ⟨b1, b2, b3⟩
    dsimp only at b1 b2 b3 ⊢
    refine EvP.pos b1 (EvP.pos (by simpa using b2) (EvP.ret ⟨?_, ?_, hR _ (by omega), by omega⟩))
    all_goals
      have c : v2 = 0 ∨ v2 = 1 ∨ v2 = 2 ∨ v2 = 3 ∨ v2 = 4 ∨ v2 = 5 := by omega
      rcases c with rfl | rfl | rfl | rfl | rfl | rfl <;> dsimp only <;> decide
  · simp only [Option.bind_some]
    refine EvP.bind (pick_ev (hR q1 (by omega)) (by omega) (by decide) (by decide)) ?_
    rintro ⟨v2, q2⟩ ⟨b1, b2, b3⟩
    dsimp only at b1 b2 b3 ⊢
    refine EvP.pos b1 (EvP.pos (by simpa using b2) (EvP.ret ⟨?_, ?_, hR _ (by omega), by omega⟩))
    all_goals
      have c : v2 = 0 ∨ v2 = 1 ∨ v2 = 2 ∨ v2 = 3 ∨ v2 = 4 ∨ v2 = 5 ∨ v2 = 6 ∨ v2 = 7 := by omega
      rcases c with rfl | rfl | rfl | rfl | rfl | rfl | rfl | rfl <;> dsimp only <;> decide
  · refine EvP.bind (pick_ev (hR q1 (by omega)) (by omega) (by decide) (by decide)) ?_
    rintro ⟨v2, q2⟩ ⟨b1, b2, b3⟩
    dsimp only at b1 b2 b3 ⊢
    refine EvP.bind (pick_ev (hR q2 (by omega)) (by omega) (by decide) (by decide)) ?_
    rintro ⟨v3, q3⟩ ⟨c1, c2, c3⟩
    dsimp only at c1 c2 c3 ⊢
    refine EvP.bind (pick_ev (hR q3 (by omega)) (by omega) (by decide) (by decide)) ?_
    rintro ⟨v4, q4⟩ ⟨d1, d2, d3⟩
    dsimp only at d1 d2 d3 ⊢
    refine EvP.bind (pick_ev (hR q4 (by omega)) (by omega) (by decide) (by decide)) ?_
    rintro ⟨v5, q5⟩ ⟨e1, e2, e3⟩
    dsimp only at e1 e2 e3 ⊢
    have m1 : 0 ≤ v3 * v4 := Int.mul_nonneg c1 d1
    have m2 : v3 * v4 ≤ 3 * 249 := Int.mul_le_mul (by omega) (by omega) d1 (by omega)
    have m3 : 0 ≤ v2 * (1 + v3 * v4) := Int.mul_nonneg b1 (by omega)
    have m4 : v2 * (1 + v3 * v4) ≤ 255 * 748 := Int.mul_le_mul (by omega) (by omega) (by omega) (by omega)
    have x1 : wrap64 (v3 * v4) = v3 * v4 := w64 (by omega) (by omega)
    have x2 : wrap64 (1 + v3 * v4) = 1 + v3 * v4 := w64 (by omega) (by omega)
    have x3 : wrap64 (v2 * (1 + v3 * v4)) = v2 * (1 + v3 * v4) := w64 (by omega) (by omega)
    simp only [x1, x2, x3]
    generalize v2 * (1 + v3 * v4) = y at *
    have x4 : wrap64 (-y) = -y := w64 (by omega) (by omega)
    refine EvP.ite (fun _ => EvP.ret ⟨?_, ?_, hR _ (by dsimp only; omega), by dsimp only; omega⟩) (fun _ => EvP.ret ⟨?_, ?_, hR _ (by dsimp only; omega), by dsimp only; omega⟩) <;> dsimp only <;> omega

theorem l1Ok_l0 (xs : List Int) (hl : xs.length ≤ 1000000000000000000) (d : Nat) : ∀ j : Nat, j ≤ xs.length → xs.length - j = d → EvV (fun k => spec_l1Ok.l0 k xs (j : Int)) (allB (xs.drop j)) := by
  induction d with
  | zero =>
    intro j hj hd
    refine EvP.succ ?_
    simp only [spec_l1Ok.l0]
    rw [drop_end xs j (by omega)]
    exact EvP.neg (by omega) (EvP.ret rfl)
  | succ d ih =>
    intro j hj hd
    have hlt : j < xs.length := by omega
    refine EvP.succ ?_
    simp only [spec_l1Ok.l0, l6In_eq, Option.bind_some, rd_nat xs j hlt, w64_succ hlt hl]
    refine EvP.pos (by omega) (EvP.pos (by omega) ?_)
    rw [drop_cons xs j hlt]
    refine EvP.ite (fun h => ?_) (fun h => EvP.ret ?_)
    · have hb : isB xs[j] = true := h
      exact (ih (j + 1) (by omega) (by omega)).to (allB_cons_t hb)
    · have hb : isB xs[j] = false := by simpa [isB] using h
      exact allB_cons_f hb
theorem l1Ok_ev (xs : List Int) (hl : xs.length ≤ 1000000000000000000) : EvV (fun k => spec_l1Ok.f k xs) (allB xs) := by
  unfold spec_l1Ok.f; exact l1Ok_l0 xs hl xs.length 0 (by omega) (by omega)

theorem isByte_eq (x : Int) : impl_isByte.f x = some (isB x) := by
  unfold impl_isByte.f isB
  by_cases h : x ≥ 0
  · rw [if_pos h]; congr 1; simp only [decide_eq_decide]; omega
  · rw [if_neg h]; congr 1; symm; simp only [decide_eq_false_iff_not]; omega

theorem allBytes_l0 (xs : List Int) (hl : xs.length ≤ 1000000000000000000) (d : Nat) : ∀ j : Nat, j ≤ xs.length → xs.length - j = d → EvV (fun k => impl_allBytes.l0 k xs (xs.length : Int) (j : Int)) (allB (xs.drop j)) := by
  induction d with
  | zero =>
    intro j hj hd
    refine EvP.succ ?_
    simp only [impl_allBytes.l0]
    rw [drop_end xs j (by omega)]
    exact EvP.neg (by omega) (EvP.ret rfl)
  | succ d ih =>
    intro j hj hd
    have hlt : j < xs.length := by omega
    refine EvP.succ ?_
    simp only [impl_allBytes.l0, isByte_eq, Option.bind_some, rd_nat xs j hlt, w64_succ hlt hl]
    refine EvP.pos (by omega) (EvP.pos (by omega) (EvP.pos (by omega) ?_))
    rw [drop_cons xs j hlt]
    refine EvP.ite (fun h => ?_) (fun h => EvP.ret ?_)
    · exact (ih (j + 1) (by omega) (by omega)).to (allB_cons_t h)
    · exact allB_cons_f (by simpa using h)
theorem allBytes_ev (xs : List Int) (hl : xs.length ≤ 1000000000000000000) : EvV (fun k => impl_allBytes.f k xs) (allB xs) := by
  unfold impl_allBytes.f; exact allBytes_l0 xs hl xs.length 0 (by omega) (by omega)

theorem l1From_hit {xs : List Int} {a n u i : Int} (hb : allB xs = true) (hl : xs.length ≤ 1000000000000000) (h0 : 0 ≤ i) (h1 : i < xs.length) (ha0 : 0 ≤ a) (ha : i < a + 3) (hai : a ≤ i) (hn : 0 ≤ n) (hn1 : n ≤ 1000000000) (hu : 0 ≤ u) (hu1 : u ≤ 1000000) (hlt : rd xs i < 128) :
    EvV (fun k => spec_l1From.l0 k xs a n u i) (if rd xs i = 0 ∧ i > a then (0, 0, false) else if 2000000 < n + u * rd xs i then (0, 0, false) else (unf (n + u * rd xs i), i + 1, true)) := by
  have hx := rd_byte hb i
  have w3 : wrap64 (a + 3) = a + 3 := w64 (by omega) (by omega)
  have wi : wrap64 (i + 1) = i + 1 := w64 (by omega) (by omega)
  have m1 : 0 ≤ u * rd xs i := Int.mul_nonneg hu hx.1
  have m2 : u * rd xs i ≤ 1000000 * 255 := Int.mul_le_mul hu1 hx.2 hx.1 (by omega)
  have e : wrap64 (n + wrap64 (u * Int.tmod (rd xs i) 128)) = n + u * rd xs i := by
    rw [tmod_pos hx.1, Int.emod_eq_of_lt hx.1 hlt, w64 (x := u * rd xs i) (by omega) (by omega), w64 (by omega) (by omega)]
  refine EvP.succ ?_
  simp only [spec_l1From.l0]
  refine EvP.pos h1 (EvP.succ ?_)
  simp only [spec_l1From.j1, w3, e, wi]
  refine EvP.pos (by simpa using ha) (EvP.pos h0 (EvP.pos h1 (EvP.pos hlt ?_)))
  have fin : EvV (fun _ : Nat => if n + u * rd xs i > 2000000 then some (0, 0, false) else (spec_l1Unfold.f (n + u * rd xs i)).bind fun t => some (t, i + 1, true)) (if 2000000 < n + u * rd xs i then ((0, 0, false) : Int × Int × Bool) else (unf (n + u * rd xs i), i + 1, true)) := by
    refine EvP.ite (fun g => EvP.ret (by rw [if_pos g])) (fun g => ?_)
    rw [l1Unfold_eq (by omega) (by omega), if_neg g]
    exact EvP.ret rfl
  refine EvP.ite (fun z => EvP.ite (fun g => EvP.ret (by rw [if_pos ⟨z, g⟩])) (fun g => ?_)) (fun z => ?_)
  · rw [if_neg (show ¬ (rd xs i = 0 ∧ i > a) from fun x => g x.2)]; exact fin
  · rw [if_neg (show ¬ (rd xs i = 0 ∧ i > a) from fun x => z x.1)]; exact fin
theorem l1From_go {xs : List Int} {a n u i : Int} {v : Int × Int × Bool} (hb : allB xs = true) (hl : xs.length ≤ 1000000000000000) (h0 : 0 ≤ i) (h1 : i < xs.length) (ha0 : 0 ≤ a) (ha : i < a + 3) (hai : a ≤ i) (hn : 0 ≤ n) (hn1 : n ≤ 1000000000) (hu : 0 ≤ u) (hu1 : u ≤ 1000000) (hlt : ¬ rd xs i < 128)
    (h : EvV (fun k => spec_l1From.l0 k xs a (n + u * (rd xs i - 128)) (128 * u) (i + 1)) v) : EvV (fun k => spec_l1From.l0 k xs a n u i) v := by
  have hx := rd_byte hb i
  have w3 : wrap64 (a + 3) = a + 3 := w64 (by omega) (by omega)
  have wi : wrap64 (i + 1) = i + 1 := w64 (by omega) (by omega)
  have wu : wrap64 (128 * u) = 128 * u := w64 (by omega) (by omega)
  have m1 : 0 ≤ u * (rd xs i - 128) := Int.mul_nonneg hu (by omega)
  have m2 : u * (rd xs i - 128) ≤ 1000000 * 255 := Int.mul_le_mul hu1 (by omega) (by omega) (by omega)
  have e : wrap64 (n + wrap64 (u * Int.tmod (rd xs i) 128)) = n + u * (rd xs i - 128) := by
    have : rd xs i % 128 = rd xs i - 128 := by omega
    rw [tmod_pos hx.1, this, w64 (x := u * (rd xs i - 128)) (by omega) (by omega), w64 (by omega) (by omega)]
  refine EvP.succ ?_
  simp only [spec_l1From.l0]
  refine EvP.pos h1 (EvP.succ ?_)
  simp only [spec_l1From.j1, w3, e, wi, wu]
  exact EvP.pos (by simpa using ha) (EvP.pos h0 (EvP.pos h1 (EvP.neg hlt h)))
theorem l1From_end {xs : List Int} {a n u i : Int} (h : ¬ i < xs.length) : EvV (fun k => spec_l1From.l0 k xs a n u i) (0, 0, false) := by
  refine EvP.succ ?_
  simp only [spec_l1From.l0]
  refine EvP.neg h (EvP.succ ?_)
  simp only [spec_l1From.j1]
  exact EvP.neg (by decide) (EvP.ret rfl)
theorem l1From_three {xs : List Int} {a n u i : Int} (ha : i = a + 3) (h0 : 0 ≤ a) (h1 : a ≤ 1000000000000000000) : EvV (fun k => spec_l1From.l0 k xs a n u i) (0, 0, false) := by
  have w3 : wrap64 (a + 3) = a + 3 := w64 (by omega) (by omega)
  refine EvP.succ ?_
  simp only [spec_l1From.l0, w3]
  refine EvP.ite (fun _ => EvP.succ ?_) (fun _ => EvP.succ ?_)
  · simp only [spec_l1From.j1]
    exact EvP.neg (by simp; omega) (EvP.ret rfl)
  · simp only [spec_l1From.j1]
    exact EvP.neg (by decide) (EvP.ret rfl)
theorem l1From_ev {xs : List Int} {a : Int} (hb : allB xs = true) (hl : xs.length ≤ 1000000000000000) (h0 : 0 ≤ a) : EvV (fun k => spec_l1From.f k xs a) (vAt xs a) := by
  unfold spec_l1From.f vAt
  rw [if_neg (by omega : ¬ a < 0)]
  by_cases c0 : (xs.length : Int) ≤ a
  · rw [if_pos c0]; exact l1From_end (by omega)
  rw [if_neg c0]
  have x0 := rd_byte hb a
  by_cases d0 : rd xs a < 128
  · rw [if_pos d0]
    refine (l1From_hit hb hl h0 (by omega) h0 (by omega) (by omega) (by decide) (by decide) (by decide) (by decide) d0).to ?_
    rw [if_neg (by omega), if_neg (by omega)]
    have : 0 + 1 * rd xs a = rd xs a := by omega
    rw [this]
  rw [if_neg d0]
  refine l1From_go hb hl h0 (by omega) h0 (by omega) (by omega) (by decide) (by decide) (by decide) (by decide) d0 ?_
  by_cases c1 : (xs.length : Int) ≤ a + 1
  · rw [if_pos c1]; exact l1From_end (by omega)
  rw [if_neg c1]
  have x1 := rd_byte hb (a + 1)
  by_cases d1 : rd xs (a + 1) < 128
  · rw [if_pos d1]
    refine (l1From_hit hb hl (by omega) (by omega) h0 (by omega) (by omega) (by omega) (by omega) (by decide) (by decide) d1).to ?_
    by_cases z : rd xs (a + 1) = 0
    · rw [if_pos ⟨z, by omega⟩, if_pos z]
    · have e : 0 + 1 * (rd xs a - 128) + 128 * 1 * rd xs (a + 1) = rd xs a - 128 + 128 * rd xs (a + 1) := by omega
      have e2 : a + 1 + 1 = a + 2 := by omega
      rw [if_neg (fun x => z x.1), if_neg z, e, if_neg (by omega), e2]
  rw [if_neg d1]
  refine l1From_go hb hl (by omega) (by omega) h0 (by omega) (by omega) (by omega) (by omega) (by decide) (by decide) d1 ?_
  have e2 : a + 1 + 1 = a + 2 := by omega
  rw [e2]
  by_cases c2 : (xs.length : Int) ≤ a + 2
  · rw [if_pos c2]; exact l1From_end (by omega)
  rw [if_neg c2]
  have x2 := rd_byte hb (a + 2)
  by_cases d2 : rd xs (a + 2) < 128
  · rw [if_pos d2]
    refine (l1From_hit hb hl (by omega) (by omega) h0 (by omega) (by omega) (by omega) (by omega) (by decide) (by decide) d2).to ?_
    by_cases z : rd xs (a + 2) = 0
    · rw [if_pos ⟨z, by omega⟩, if_pos z]
    · have e : 0 + 1 * (rd xs a - 128) + 128 * 1 * (rd xs (a + 1) - 128) + 128 * (128 * 1) * rd xs (a + 2) = rd xs a - 128 + 128 * (rd xs (a + 1) - 128) + 16384 * rd xs (a + 2) := by omega
      have e3 : a + 2 + 1 = a + 3 := by omega
      unfold okV
      rw [if_neg (fun x => z x.1), if_neg z, e, e3]
  rw [if_neg d2]
  refine l1From_go hb hl (by omega) (by omega) h0 (by omega) (by omega) (by omega) (by omega) (by decide) (by decide) d2 ?_
  exact l1From_three (by omega) h0 (by omega)

theorem sVarFrom_ev (xs : List Int) (a : Int) (hl : xs.length ≤ 1000000000000000) : EvV (fun k => spec_VarFrom.f k xs a) (vFrom xs a) := by
  unfold spec_VarFrom.f vFrom
  refine EvV.bind (l1Ok_ev xs (by omega)) (EvP.ite (fun hb => ?_) (fun hb => EvP.ret (by rw [if_neg hb])))
  rw [if_pos hb]
  refine EvP.ite (fun h => EvP.ret (by unfold vAt; rw [if_pos h])) (fun h => ?_)
  exact EvV.bind (l1From_ev hb hl (by omega)) (EvP.ret rfl)

theorem orShl {f c : Int} (j : Nat) (hj : j ≤ 2) (hf : 0 ≤ f) (hf1 : f < 128 ^ j) (hc : 0 ≤ c) (hc1 : c < 128) : Go.bits .or .i64 f (shl .i64 c (wrap64 (7 * (j : Int)))) = f + 128 ^ j * c := by
  have hj' : j = 0 ∨ j = 1 ∨ j = 2 := by omega
  rcases hj' with rfl | rfl | rfl
  · have e : shl .i64 c (wrap64 (7 * ((0 : Nat) : Int))) = c := by
      rw [w64 (by decide) (by decide)]; unfold shl
      have : c * 2 ^ min (7 * ((0 : Nat) : Int)).toNat (IntKind.bits .i64) = c := by show c * 2 ^ 0 = c; omega
      rw [this, wrap_i64_eq, w64 (by omega) (by omega)]
    have hf0 : f = 0 := by simp at hf1; omega
    rw [e, hf0, or_join 7 0 c (by decide) (by decide) (by decide) hc (by omega) (by omega)]
    simp
  · have e : shl .i64 c (wrap64 (7 * ((1 : Nat) : Int))) = c * 128 := by
      rw [w64 (by decide) (by decide)]; unfold shl
      have : c * 2 ^ min (7 * ((1 : Nat) : Int)).toNat (IntKind.bits .i64) = c * 128 := rfl
      rw [this, wrap_i64_eq, w64 (by omega) (by omega)]
    rw [e, bits_swap, or_join 7 (c * 128) f (by omega) (by omega) (by omega) hf (by simpa using hf1) (by omega)]
    omega
  · have e : shl .i64 c (wrap64 (7 * ((2 : Nat) : Int))) = c * 16384 := by
      rw [w64 (by decide) (by decide)]; unfold shl
      have : c * 2 ^ min (7 * ((2 : Nat) : Int)).toNat (IntKind.bits .i64) = c * 16384 := rfl
      rw [this, wrap_i64_eq, w64 (by omega) (by omega)]
    rw [e, bits_swap, or_join 14 (c * 16384) f (by omega) (by omega) (by omega) hf (by simpa using hf1) (by omega)]
    omega
theorem varAt_end {xs : List Int} {a f : Int} (j : Nat) (hj : j ≤ 2) (h : (xs.length : Int) ≤ a) : EvV (fun k => impl_varAt.l0 k xs a f (j : Int)) (0, 0, false) := by
  refine EvP.succ ?_
  simp only [impl_varAt.l0]
  exact EvP.pos (by omega) (EvP.pos h (EvP.ret rfl))
theorem w7_nonneg (j : Nat) (hj : j ≤ 2) : 0 ≤ wrap64 (7 * (j : Int)) := by rw [w64 (by omega) (by omega)]; omega
theorem wj_succ (j : Nat) (hj : j ≤ 2) : wrap64 ((j : Int) + 1) = ((j + 1 : Nat) : Int) := by rw [w64 (by omega) (by omega)]; omega
theorem varAt_go {xs : List Int} {a f : Int} {v : Int × Int × Bool} (j : Nat) (hj : j ≤ 2) (hb : allB xs = true) (hl : xs.length ≤ 1000000000000000) (h0 : 0 ≤ a) (h1 : a < xs.length) (hf : 0 ≤ f) (hf1 : f < 128 ^ j) (hge : ¬ rd xs a < 128)
    (h : EvV (fun k => impl_varAt.l0 k xs (a + 1) (f + 128 ^ j * (rd xs a - 128)) ((j + 1 : Nat) : Int)) v) : EvV (fun k => impl_varAt.l0 k xs a f (j : Int)) v := by
  have hx := rd_byte hb a
  have q1 : (j : Int) < 3 := by omega
  have q2 : ¬ a ≥ (xs.length : Int) := by omega
  have q3 : rd xs a ≥ 128 := by omega
  have q4 : rd xs a % 128 = rd xs a - 128 := by omega
  have q5 : rd xs a < 2 ^ 62 := by omega
  have q6 : 0 ≤ rd xs a - 128 := by omega
  have q7 : rd xs a - 128 < 128 := by omega
  have wa : wrap64 (a + 1) = a + 1 := w64 (by omega) (by omega)
  have e1 : Go.bits .and .i64 (rd xs a) 127 = rd xs a - 128 := (and127 hx.1 q5).trans q4
  have e2 := orShl (c := rd xs a - 128) j hj hf hf1 q6 q7
  refine EvP.succ ?_
  simp only [impl_varAt.l0, e1, e2, wa, wj_succ j hj]
  exact EvP.pos q1 (EvP.neg q2 (EvP.pos h0 (EvP.pos h1 (EvP.pos (w7_nonneg j hj) (EvP.pos q3 h)))))
theorem varAt_hit {xs : List Int} {a f : Int} (j : Nat) (hj : j ≤ 2) (hb : allB xs = true) (hl : xs.length ≤ 1000000000000000) (h0 : 0 ≤ a) (h1 : a < xs.length) (hf : 0 ≤ f) (hf1 : f < 128 ^ j) (hlt : rd xs a < 128) :
    EvV (fun k => impl_varAt.l0 k xs a f (j : Int)) (if 0 < j ∧ rd xs a = 0 then (0, 0, false) else okV (f + 128 ^ j * rd xs a) (a + 1)) := by
  have hx := rd_byte hb a
  have q1 : (j : Int) < 3 := by omega
  have q2 : ¬ a ≥ (xs.length : Int) := by omega
  have q3 : ¬ rd xs a ≥ 128 := by omega
  have q4 : rd xs a % 128 = rd xs a := by omega
  have q5 : rd xs a < 2 ^ 62 := by omega
  have wa : wrap64 (a + 1) = a + 1 := w64 (by omega) (by omega)
  have nn : 0 ≤ f + 128 ^ j * rd xs a := Int.add_nonneg hf (Int.mul_nonneg (Int.pow_nonneg (by decide)) hx.1)
  have fin : EvV (fun k => if f + 128 ^ j * rd xs a > 2000000 then some (0, 0, false) else (impl_UnfoldNumber.f k (f + 128 ^ j * rd xs a)).bind fun t => some (t, a + 1, true)) (okV (f + 128 ^ j * rd xs a) (a + 1)) := by
    generalize f + 128 ^ j * rd xs a = F at nn
    unfold okV
    refine EvP.ite (fun g => EvP.ret (by rw [if_pos g])) (fun g => EvV.bind (iUnfold_ev _) (EvP.ret ?_))
    rw [if_neg g]
    unfold unfC
    rw [if_neg (by omega)]
  have p1 : (j : Int) > 0 → 0 < j := by omega
  have p2 : 0 < j → (j : Int) > 0 := by omega
  have e1 : Go.bits .and .i64 (rd xs a) 127 = rd xs a := (and127 hx.1 q5).trans q4
  have e2 := orShl (c := rd xs a) j hj hf hf1 hx.1 hlt
  refine EvP.succ ?_
  simp only [impl_varAt.l0, e1, e2, wa]
  refine EvP.pos q1 (EvP.neg q2 (EvP.pos h0 (EvP.pos h1 (EvP.pos (w7_nonneg j hj) (EvP.neg q3 ?_)))))
  refine EvP.ite (fun c => EvP.ite (fun z => EvP.ret (by rw [if_pos ⟨p1 c, z⟩])) (fun z => ?_)) (fun c => ?_)
  · rw [if_neg (show ¬ (0 < j ∧ rd xs a = 0) from fun x => z x.2)]; exact fin
  · rw [if_neg (show ¬ (0 < j ∧ rd xs a = 0) from fun x => c (p2 x.1))]; exact fin
theorem varAt_ev {xs : List Int} {a : Int} (hb : allB xs = true) (hl : xs.length ≤ 1000000000000000) : EvV (fun k => impl_varAt.f k xs a) (vAt xs a) := by
  unfold impl_varAt.f vAt
  refine EvP.ite (fun h => EvP.ret (by rw [if_pos h])) (fun hn => ?_)
  have h0 : 0 ≤ a := by omega
  rw [if_neg hn]
  have x0 := rd_byte hb a
  by_cases c0 : (xs.length : Int) ≤ a
  · rw [if_pos c0]; exact varAt_end 0 (by decide) c0
  rw [if_neg c0]
  by_cases d0 : rd xs a < 128
  · rw [if_pos d0]
    refine (varAt_hit (f := 0) 0 (by decide) hb hl h0 (by omega) (by decide) (by decide) d0).to ?_
    have e : 0 + 128 ^ 0 * rd xs a = rd xs a := by simp
    unfold okV
    rw [if_neg (by omega), e, if_neg (by omega)]
  rw [if_neg d0]
  refine varAt_go (f := 0) 0 (by decide) hb hl h0 (by omega) (by decide) (by decide) d0 ?_
  have e0 : 0 + 128 ^ 0 * (rd xs a - 128) = rd xs a - 128 := by simp
  rw [e0]
  by_cases c1 : (xs.length : Int) ≤ a + 1
  · rw [if_pos c1]; exact varAt_end 1 (by decide) c1
  rw [if_neg c1]
  have x1 := rd_byte hb (a + 1)
  by_cases d1 : rd xs (a + 1) < 128
  · rw [if_pos d1]
    refine (varAt_hit 1 (by decide) hb hl (by omega) (by omega) (by omega) (by omega) d1).to ?_
    by_cases z : rd xs (a + 1) = 0
    · rw [if_pos ⟨by decide, z⟩, if_pos z]
    · have e : rd xs a - 128 + 128 ^ 1 * rd xs (a + 1) = rd xs a - 128 + 128 * rd xs (a + 1) := by omega
      have e2 : a + 1 + 1 = a + 2 := by omega
      unfold okV
      rw [if_neg (fun x => z x.2), if_neg z, e, if_neg (by omega), e2]
  rw [if_neg d1]
  refine varAt_go 1 (by decide) hb hl (by omega) (by omega) (by omega) (by omega) d1 ?_
  have e1 : rd xs a - 128 + 128 ^ 1 * (rd xs (a + 1) - 128) = rd xs a - 128 + 128 * (rd xs (a + 1) - 128) := by omega
  have e2 : a + 1 + 1 = a + 2 := by omega
  rw [e1, e2]
  by_cases c2 : (xs.length : Int) ≤ a + 2
  · rw [if_pos c2]; exact varAt_end 2 (by decide) c2
  rw [if_neg c2]
  have x2 := rd_byte hb (a + 2)
  by_cases d2 : rd xs (a + 2) < 128
  · rw [if_pos d2]
    refine (varAt_hit 2 (by decide) hb hl (by omega) (by omega) (by omega) (by omega) d2).to ?_
    by_cases z : rd xs (a + 2) = 0
    · rw [if_pos ⟨by decide, z⟩, if_pos z]
    · have e : rd xs a - 128 + 128 * (rd xs (a + 1) - 128) + 128 ^ 2 * rd xs (a + 2) = rd xs a - 128 + 128 * (rd xs (a + 1) - 128) + 16384 * rd xs (a + 2) := by omega
      have e3 : a + 2 + 1 = a + 3 := by omega
      rw [if_neg (fun x => z x.2), if_neg z, e, e3]
  rw [if_neg d2]
  refine varAt_go 2 (by decide) hb hl (by omega) (by omega) (by omega) (by omega) d2 ?_
  refine EvP.succ ?_
  simp only [impl_varAt.l0]
  exact EvP.neg (by decide) (EvP.ret rfl)

theorem iVarFrom_ev (xs : List Int) (a : Int) (hl : xs.length ≤ 1000000000000000) : EvV (fun k => impl_VarFrom.f k xs a) (vFrom xs a) := by
  unfold impl_VarFrom.f vFrom
  refine EvV.bind (allBytes_ev xs (by omega)) (EvP.ite (fun hb => ?_) (fun hb => EvP.ret (by rw [if_neg hb])))
  rw [if_pos hb]
  exact EvV.bind (varAt_ev hb hl) (EvP.ret rfl)

theorem drawVarFrom_ev (l : List Int) (hl : ∀ x ∈ l, (Lit.int .u8 x).wf = true) : EvP (fun k => spec_DrawVarFrom.f k l) (fun r => r.1.length ≤ 100 ∧ 0 ≤ r.2 ∧ r.2 ≤ 100) := by
  unfold spec_DrawVarFrom.f
  refine EvP.bind (open_ev l hl) ?_
  rintro ⟨b, p⟩ ⟨h, hp⟩
  obtain rfl : p = 0 := hp
  have hR : ∀ q : Int, 0 ≤ q → Rdr b q := fun q hq => ⟨h.1, h.2.1, hq⟩
  dsimp only at h ⊢
  refine EvP.bind (pick_ev h (by decide) (by decide) (by decide)) ?_
  rintro ⟨n, q0⟩ ⟨a1, a2, a3⟩
  dsimp only at a1 a2 a3 ⊢
  have key : ∀ (d : Nat) (xs : List Int) (i q : Int), 0 ≤ i → i + d = n → xs.length = i → 0 ≤ q → q ≤ 10 + i → EvP (fun k => spec_DrawVarFrom.l0 k n xs i b q) (fun r => r.1.length ≤ 100 ∧ 0 ≤ r.2 ∧ r.2 ≤ 100) := by
    intro d
    induction d with
    | succ d ih =>
      intro xs i q hi hd hx hq0 hq
      refine EvP.succ ?_
      simp only [spec_DrawVarFrom.l0]
      refine EvP.pos (by omega) ?_
      refine EvP.bind (pick_ev (hR q hq0) (by omega) (by decide) (by decide)) ?_
      rintro ⟨v, q1⟩ ⟨b1, b2, b3⟩
      dsimp only at b1 b2 b3 ⊢
      rw [w64 (x := i + 1) (by omega) (by omega)]
      exact EvP.pos (by omega) (ih _ (i + 1) q1 (by omega) (by omega) (by simp; omega) (by omega) (by omega))
    | zero =>
      intro xs i q hi hd hx hq0 hq
      refine EvP.succ ?_
      simp only [spec_DrawVarFrom.l0]
      refine EvP.neg (by omega) ?_
      refine EvP.bind (l91Number_ev (hR q hq0) (by omega)) ?_
      rintro ⟨v, q1⟩ ⟨b1, b2, b3, b4⟩
      have q10 := b3.2.2
      dsimp only at b1 b2 b3 b4 q10 ⊢
      refine EvV.bind (sVarBytes_ev v) ?_
      have L := varR_len v
      refine EvP.pos (by omega) ?_
      simp only [Option.bind_some]
      generalize hy : xs ++ (varR v).1 = ys
      have hyl : ys.length ≤ 10 := by rw [← hy]; simp; omega
      refine EvP.bind (pick_ev (hR q1 q10) (by omega) (by decide) (by decide)) ?_
      rintro ⟨w, q2⟩ ⟨c1, c2, c3⟩
      dsimp only at c1 c2 c3 ⊢
      refine EvP.pos (by omega) ?_
      generalize hz : ys ++ [w] = zs
      have hzl : zs.length ≤ 11 ∧ 1 ≤ zs.length := by rw [← hz]; simp; omega
      refine EvP.bind (pick_ev (hR q2 (by omega)) (by omega) (by decide) (by decide)) ?_
      rintro ⟨u, q3⟩ ⟨d1, d2, d3⟩
      dsimp only at d1 d2 d3 ⊢
      refine EvP.ite (fun _ => ?_) (fun _ => EvP.ite (fun _ => ?_) (fun _ => EvP.ite (fun _ => ?_) (fun _ => ?_)))
      · rw [w64 (x := n + 1) (by omega) (by omega)]
        exact EvP.ret ⟨by dsimp only; omega, by dsimp only; omega, by dsimp only; omega⟩
      · refine EvP.bind (pick_ev (hR q3 (by omega)) (by omega) (by omega) (by omega)) ?_
        rintro ⟨s, q4⟩ ⟨e1, e2, e3⟩
        dsimp only at e1 e2 e3 ⊢
        refine EvP.bind (pick_ev (hR q4 (by omega)) (by omega) (by decide) (by decide)) ?_
        rintro ⟨t, q5⟩ ⟨f1, f2, f3⟩
        dsimp only at f1 f2 f3 ⊢
        exact EvP.pos e1 (EvP.pos e2 (EvP.ret ⟨by simp; omega, by dsimp only; omega, by dsimp only; omega⟩))
      · refine EvP.bind (pick_ev (hR q3 (by omega)) (by omega) (by omega) (by omega)) ?_
        rintro ⟨s, q4⟩ ⟨e1, e2, e3⟩
        dsimp only at e1 e2 e3 ⊢
        exact EvP.pos e1 (EvP.pos (by omega) (EvP.ret ⟨by simp; omega, by dsimp only; omega, by dsimp only; omega⟩))
      · exact EvP.ret ⟨by dsimp only; omega, by dsimp only; omega, by dsimp only; omega⟩
  exact key n.toNat [] 0 q0 (by decide) (by omega) rfl (by omega) (by omega)

theorem FnVarTorn : laws_FnVarTorn.Pure := by
  intro l _ _ hl
  refine EvP.done ?_
  unfold laws_FnVarTorn.f
  refine EvP.ite (fun _ => EvP.ret rfl) (fun _ => ?_)
  refine EvP.bind (drawVarFrom_ev l hl) ?_
  rintro ⟨xs, a⟩ ⟨h1, h2, h3⟩
  dsimp only at h1 h2 h3
  have s := sVarFrom_ev xs a (by omega)
  have i := iVarFrom_ev xs a (by omega)
  rcases hr : vFrom xs a with ⟨v, nx, ok⟩
  rw [hr] at s i
  refine EvV.bind i (EvV.bind s (EvP.neg (by simp) (EvP.pos (by simp) (EvP.pos (by simp) ?_))))
  cases ok with
  | false => exact EvP.neg (by simp) (EvP.pos (by simp) (EvP.ret (by simp)))
  | true =>
    obtain ⟨t, f⟩ := vFrom_told hr
    obtain ⟨t1, t2, t3, _⟩ := t
    have w : wrap64 (nx - 1) = nx - 1 := w64 (by omega) (by omega)
    rw [w]
    refine EvP.pos (by simp) (EvP.pos (by omega) (EvP.pos (by dsimp only; omega) (EvV.bind (iVarFrom_ev _ a (by simp; omega)) (EvP.ret ?_))))
    rw [f]; rfl

end Go.Proofs.Ytdgpkjjclngamaa.Pure
