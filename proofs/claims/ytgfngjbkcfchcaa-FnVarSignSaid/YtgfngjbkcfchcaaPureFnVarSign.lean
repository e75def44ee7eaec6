/- A number and its opposite have other bytes, unless it is 0, at whatever number the code draws; there is no condition. -/
import Derived.Test.YtgfngjbkcfchcaaPFnVarSignx2
import Derived.Test.YtgfngjbkcfchcaaMath
import Derived.Test.YtgfngjbkcfchcaaMath2
import Derived.Test.YtgfngjbkcfchcaaMath3
set_option linter.unusedVariables false
set_option linter.unusedSimpArgs false
namespace Go.Proofs.Ytgfngjbkcfchcaa.Pure
open Go.RowKit Go.Proofs.Ytgfngjbkcfchcaa.PFnVarSign Go.Proofs.YtgfngjbkcfchcaaW.PrintWords Go.Proofs.YtgfngjbkcfchcaaW.PrintLast Go.Proofs.YtgfngjbkcfchcaaW.PrintMore Go.Proofs.Ytgfngjbkcfchcaa.M

theorem l6In_eq (a b c : Int) : spec_l6In.f a b c = some (decide (b ≤ a ∧ a ≤ c)) := by
  unfold spec_l6In.f
  by_cases h : a ≥ b
  · rw [if_pos h]; congr 1; simp only [decide_eq_decide]; omega
  · rw [if_neg h]; congr 1; symm; simp only [decide_eq_false_iff_not]; omega

theorem l1Fold_eq {n : Int} (h0 : -1000000 ≤ n) (h1 : n ≤ 1000000) : spec_l1Fold.f n = some (fold n) := by
  unfold spec_l1Fold.f fold
  rw [if_neg (by omega : ¬ (n < -1000000 ∨ 1000000 < n))]
  split
  · rw [w64 (x := -2 * n) (by omega) (by omega), w64 (by omega) (by omega)]
  · rw [w64 (by omega) (by omega)]

theorem iFold_eq (k : Nat) (n : Int) : impl_FoldNumber.f (k + 1) n = some (fold n) := by
  unfold impl_FoldNumber.f
  simp only [impl_FoldNumber.j0]
  unfold fold
  by_cases h1 : n < -1000000
  · simp [h1]
  · by_cases h2 : n > 1000000
    · simp [h1, h2]
    · by_cases h3 : n < 0
      · rw [if_neg h1, if_neg (by simpa using h2), if_pos h3, if_neg (by omega), if_pos h3, w64 (x := -2 * n) (by omega) (by omega), w64 (by omega) (by omega)]
      · rw [if_neg h1, if_neg (by simpa using h2), if_neg h3, if_neg (by omega), if_neg h3, w64 (by omega) (by omega)]
theorem iFold_ev (n : Int) : EvV (fun k => impl_FoldNumber.f k n) (fold n) := EvV.of_succ fun k => iFold_eq k n

theorem l1Bytes_ev {n : Int} (h0 : -1000000 ≤ n) (h1 : n ≤ 1000000) : EvV (fun k => spec_l1Bytes.f k n) (varL (fold n)) := by
  obtain ⟨f0, f1⟩ := fold_rng h0 h1
  refine EvV.of_add 3 fun k => ?_
  unfold spec_l1Bytes.f
  rw [l1Fold_eq h0 h1]
  simp only [Option.bind_some]
  generalize fold n = f at f0 f1 ⊢
  unfold varL
  by_cases a : f < 128
  · simp only [spec_l1Bytes.l0]; rw [if_neg (by omega), if_pos (by simp), if_pos a]; rfl
  · rw [if_neg a]
    have e1 : wrap64 (Int.tdiv f 128) = f / 128 := by rw [tdiv_pos f0, w64 (by omega) (by omega)]
    have e2 : wrap64 (128 + Int.tmod f 128) = f % 128 + 128 := by rw [tmod_pos f0, w64 (by omega) (by omega)]; omega
    by_cases b : f < 16384
    · simp only [spec_l1Bytes.l0]; rw [if_pos (by omega), if_pos (by simp), e1, e2, if_neg (by omega), if_pos (by simp), if_pos b]; rfl
    · have e3 : wrap64 (Int.tdiv (f / 128) 128) = f / 16384 := by rw [tdiv_pos (by omega), w64 (by omega) (by omega)]; omega
      have e4 : wrap64 (128 + Int.tmod (f / 128) 128) = f / 128 % 128 + 128 := by rw [tmod_pos (by omega), w64 (by omega) (by omega)]; omega
      simp only [spec_l1Bytes.l0]
      rw [if_pos (by omega), if_pos (by simp), e1, e2, if_pos (by omega), if_pos (by simp), e3, e4, if_neg (by omega), if_pos (by simp), if_neg b]; rfl

theorem sVarBytes_ev (n : Int) : EvV (fun k => spec_VarBytes.f k n) (varR n) := by
  unfold varR spec_VarBytes.f
  simp only [l6In_eq, Option.bind_some]
  by_cases h : -1000000 ≤ n ∧ n ≤ 1000000
  · have := fold_rng h.1 h.2
    refine EvP.pos (by simpa using h) (EvV.bind (l1Bytes_ev h.1 h.2) (EvP.ret ?_))
    rw [if_neg (by omega)]
  · refine EvP.neg (by simpa using h) (EvP.ret ?_)
    rw [if_pos (by unfold fold; rw [if_pos (by omega)]; decide)]

theorem varOf_ev {n : Int} (h0 : -1000000 ≤ n) (h1 : n ≤ 1000000) : EvV (fun k => impl_varOf.f k n) (varL (fold n)) := by
  obtain ⟨f0, f1⟩ := fold_rng h0 h1
  unfold impl_varOf.f
  refine EvV.bind (iFold_ev n) ?_
  refine EvV.of_add 3 fun k => ?_
  generalize fold n = f at f0 f1 ⊢
  unfold varL
  have orr : ∀ y : Int, 0 ≤ y → y < 128 → Go.bits .or .i64 y 128 = y + 128 := fun y a b => by
    rw [bits_swap, or_join 7 128 y (by omega) (by decide) (by omega) a (by omega) (by omega)]; omega
  by_cases a : f < 128
  · simp only [impl_varOf.l0]; rw [if_pos a, if_pos (by simp), if_pos a]; rfl
  · rw [if_neg a]
    have e2 : Go.bits .or .i64 (Go.bits .and .i64 f 127) 128 = f % 128 + 128 := by rw [and127 f0 (by omega), orr _ (by omega) (by omega)]
    by_cases b : f < 16384
    · simp only [impl_varOf.l0]; rw [if_neg a, if_pos (by simp), e2, if_pos (by omega), if_pos (by simp), if_pos b]; rfl
    · have e3 : f / 128 / 128 = f / 16384 := by omega
      have e4 : Go.bits .or .i64 (Go.bits .and .i64 (f / 128) 127) 128 = f / 128 % 128 + 128 := by rw [and127 (by omega) (by omega), orr _ (by omega) (by omega)]
      simp only [impl_varOf.l0]
      rw [if_neg a, if_pos (by simp), e2, if_neg (by omega), if_pos (by simp), e3, e4, if_pos (by omega), if_pos (by simp), if_neg b]; rfl

theorem iVarBytes_ev (n : Int) : EvV (fun k => impl_VarBytes.f k n) (varR n) := by
  unfold varR impl_VarBytes.f
  refine EvV.bind (iFold_ev n) ?_
  refine EvP.ite (fun h => EvP.ret ?_) (fun h => ?_)
  · rw [if_pos h]
  · have h' : -1000000 ≤ n ∧ n ≤ 1000000 := by unfold fold at h; split at h <;> omega
    refine EvV.bind (varOf_ev h'.1 h'.2) (EvP.ret ?_)
    rw [if_neg h]

theorem pick_ev {b : List Int} {p : Int} (hb : Rdr b p) (hp : p ≤ 1000000000) {n : Int} (hn : 1 ≤ n) (hn2 : n ≤ 1000000000) :
    EvP (fun k => spec_l6Rd_pick.f k b p n) (fun r => 0 ≤ r.1 ∧ r.1 < n ∧ r.2 = p + 1) := by
  obtain ⟨hl, hx, hp0⟩ := hb
  have w1 : wrap64 (p + 1) = p + 1 := w64 (by omega) (by omega)
  have w2 : wrap64 (p + 1 - 1) = p := by rw [w64 (by omega) (by omega)]; omega
  unfold spec_l6Rd_pick.f
  refine EvP.neg (by omega) ?_
  rw [w1]
  refine EvP.succ ?_
  simp only [spec_l6Rd_pick.j0, w2]
  refine EvP.ite (fun h => EvP.ret ⟨by omega, by omega, rfl⟩) (fun h => ?_)
  have hlen : ((b.length : Int) == 0) = false := by simpa using h
  have hne : ¬ (b.length : Int) = 0 := by simpa using hlen
  have tm : ∀ x : Int, 0 ≤ x → 0 ≤ Int.tmod x n ∧ Int.tmod x n < n := fun x hx => by
    rw [tmod_pos hx]; exact ⟨Int.emod_nonneg _ (by omega), Int.emod_lt_of_pos _ (by omega)⟩
  have rr : ∀ i, 0 ≤ rd b i ∧ rd b i ≤ 255 := rd_rng hx
  refine EvP.ite (fun h1 => ?_) (fun h1 => ?_)
  · refine EvP.pos hp0 (EvP.neg (by omega) (EvP.ret ?_))
    have := rr p
    have t := tm (wrap64 (rd b p)) (by rw [w64 (by omega) (by omega)]; omega)
    exact ⟨t.1, t.2, rfl⟩
  · have t1 : Int.tmod p (b.length : Int) = p % (b.length : Int) := tmod_pos hp0
    have w3 : wrap64 (wrap64 (p * 7) + 3) = p * 7 + 3 := by rw [w64 (x := p * 7) (by omega) (by omega), w64 (by omega) (by omega)]
    have t2 : Int.tmod (p * 7 + 3) (b.length : Int) = (p * 7 + 3) % (b.length : Int) := tmod_pos (by omega)
    have a1 := Int.emod_nonneg p hne
    have a2 := Int.emod_lt_of_pos p (by omega : 0 < (b.length : Int))
    have a3 := Int.emod_nonneg (p * 7 + 3) hne
    have a4 := Int.emod_lt_of_pos (p * 7 + 3) (by omega : 0 < (b.length : Int))
    have d1 : Int.tdiv p (b.length : Int) = p / (b.length : Int) := tdiv_pos hp0
    have d2 : 0 ≤ p / (b.length : Int) := Int.ediv_nonneg hp0 (by omega)
    have d3 : p / (b.length : Int) ≤ p := Int.ediv_le_self _ hp0
    simp only [w3, t1, t2, d1]
    refine EvP.neg hne (EvP.pos a1 (EvP.pos a2 (EvP.pos a3 (EvP.pos a4 (EvP.neg (by omega) (EvP.ret ?_))))))
    have r1 := rr (p % (b.length : Int))
    have r2 := rr ((p * 7 + 3) % (b.length : Int))
    generalize rd b (p % (b.length : Int)) = x1 at r1 ⊢
    generalize rd b ((p * 7 + 3) % (b.length : Int)) = x2 at r2 ⊢
    generalize p / (b.length : Int) = q at d2 d3 ⊢
    have wx : ∀ x : Int, 0 ≤ x → x ≤ 1000000000000 → wrap64 x = x := fun x h0 h1 => w64 (by omega) (by omega)
    have e : wrap64 (wrap64 (wrap64 (wrap64 (wrap64 x1 * 131) + wrap64 (wrap64 x2 * 1117)) + wrap64 (p * 29)) + wrap64 (wrap64 q * 53)) = x1 * 131 + x2 * 1117 + p * 29 + q * 53 := by
      rw [wx x1 (by omega) (by omega), wx x2 (by omega) (by omega), wx q (by omega) (by omega), wx (x1 * 131) (by omega) (by omega), wx (x2 * 1117) (by omega) (by omega), wx (p * 29) (by omega) (by omega), wx (q * 53) (by omega) (by omega),
        wx (x1 * 131 + x2 * 1117) (by omega) (by omega), wx (x1 * 131 + x2 * 1117 + p * 29) (by omega) (by omega), wx _ (by omega) (by omega)]
    rw [e]
    generalize hz : x1 * 131 + x2 * 1117 + p * 29 + q * 53 = z
    have z0 : 0 ≤ z := by omega
    have z1 : z ≤ 1000000000000 := by omega
    rw [tdiv_pos z0, wx (z / 64) (by omega) (by omega)]
    have t := tm _ (xor_nonneg (x := z) (y := z / 64) (by omega) (by omega) (by omega) (by omega))
    exact ⟨t.1, t.2, rfl⟩

theorem open_ev (l : List Int) (hl : ∀ x ∈ l, (Lit.int .u8 x).wf = true) : EvP (fun _ => spec_l6Open.f l) (fun r => Rdr r.1 r.2 ∧ r.2 = 0) := by
  have hx : ∀ x ∈ l, 0 ≤ x ∧ x ≤ 255 := fun x hx => wf_u8 (hl x hx)
  unfold spec_l6Open.f
  refine EvP.ite (fun h => ?_) (fun h => ?_)
  · refine EvP.pos (by omega) (EvP.ret ⟨⟨by simp; omega, fun x hm => hx x (List.mem_of_mem_take hm), Int.le_refl 0⟩, rfl⟩)
  · exact EvP.ret ⟨⟨by dsimp only; omega, hx, Int.le_refl 0⟩, rfl⟩

theorem l91Number_ev {b : List Int} {p : Int} (hb : Rdr b p) (hp : p ≤ 100000000) :
    EvP (fun k => spec_l91Number.f k b p) (fun r => -10000000 ≤ r.1 ∧ r.1 ≤ 10000000 ∧ Rdr b r.2 ∧ r.2 ≤ p + 10) := by
  have hR : ∀ q : Int, p ≤ q → Rdr b q := fun q hq => ⟨hb.1, hb.2.1, by have := hb.2.2; omega⟩
  unfold spec_l91Number.f
  refine EvP.bind (pick_ev hb (by omega) (by decide) (by decide)) ?_
  rintro ⟨v1, q1⟩ ⟨a1, a2, a3⟩
  dsimp only at a1 a2 a3 ⊢
  refine EvP.ite (fun _ => ?_) (fun _ => EvP.ite (fun _ => ?_) (fun _ => ?_))
  · simp only [Option.bind_some]
    refine EvP.bind (pick_ev (hR q1 (by omega)) (by omega) (by decide) (by decide)) ?_
    rintro ⟨v2, q2⟩ ⟨b1, b2, b3⟩
    dsimp only at b1 b2 b3 ⊢
    refine EvP.pos b1 (EvP.pos (by simpa using b2) (EvP.ret ⟨?_, ?_, hR _ (by omega), by omega⟩))
    all_goals
      have c : v2 = 0 ∨ v2 = 1 ∨ v2 = 2 ∨ v2 = 3 ∨ v2 = 4 ∨ v2 = 5 := by omega
      rcases c with rfl | rfl | rfl | rfl | rfl | rfl <;> dsimp only <;> decide
  · simp only [Option.bind_some]
    refine EvP.bind (pick_ev (hR q1 (by omega)) (by omega) (by decide) (by decide)) ?_
    rintro ⟨v2, q2⟩ ⟨b1, b2, b3⟩
    dsimp only at b1 b2 b3 ⊢
    refine EvP.pos b1 (EvP.pos (by simpa using b2) (EvP.ret ⟨?_, ?_, hR _ (by omega), by omega⟩))
    all_goals
      have c : v2 = 0 ∨ v2 = 1 ∨ v2 = 2 ∨ v2 = 3 ∨ v2 = 4 ∨ v2 = 5 ∨ v2 = 6 ∨ v2 = 7 := by omega
      rcases c with rfl | rfl | rfl | rfl | rfl | rfl | rfl | rfl <;> dsimp only <;> decide
  · refine EvP.bind (pick_ev (hR q1 (by omega)) (by omega) (by decide) (by decide)) ?_
    rintro ⟨v2, q2⟩ ⟨b1, b2, b3⟩
    dsimp only at b1 b2 b3 ⊢
    refine EvP.bind (pick_ev (hR q2 (by omega)) (by omega) (by decide) (by decide)) ?_
    rintro ⟨v3, q3⟩ ⟨c1, c2, c3⟩
    dsimp only at c1 c2 c3 ⊢
    refine EvP.bind (pick_ev (hR q3 (by omega)) (by omega) (by decide) (by decide)) ?_
    rintro ⟨v4, q4⟩ ⟨d1, d2, d3⟩
    dsimp only at d1 d2 d3 ⊢
    refine EvP.bind (pick_ev (hR q4 (by omega)) (by omega) (by decide) (by decide)) ?_
    rintro ⟨v5, q5⟩ ⟨e1, e2, e3⟩
    dsimp only at e1 e2 e3 ⊢
    have m1 : 0 ≤ v3 * v4 := Int.mul_nonneg c1 d1
    have m2 : v3 * v4 ≤ 3 * 249 := Int.mul_le_mul (by omega) (by omega) d1 (by omega)
    have m3 : 0 ≤ v2 * (1 + v3 * v4) := Int.mul_nonneg b1 (by omega)
    have m4 : v2 * (1 + v3 * v4) ≤ 255 * 748 := Int.mul_le_mul (by omega) (by omega) (by omega) (by omega)
    have x1 : wrap64 (v3 * v4) = v3 * v4 := w64 (by omega) (by omega)
    have x2 : wrap64 (1 + v3 * v4) = 1 + v3 * v4 := w64 (by omega) (by omega)
    have x3 : wrap64 (v2 * (1 + v3 * v4)) = v2 * (1 + v3 * v4) := w64 (by omega) (by omega)
    simp only [x1, x2, x3]
    generalize v2 * (1 + v3 * v4) = y at *
    have x4 : wrap64 (-y) = -y := w64 (by omega) (by omega)
    refine EvP.ite (fun _ => EvP.ret ⟨?_, ?_, hR _ (by dsimp only; omega), by dsimp only; omega⟩) (fun _ => EvP.ret ⟨?_, ?_, hR _ (by dsimp only; omega), by dsimp only; omega⟩) <;> dsimp only <;> omega

theorem drawVarBytes_ev (l : List Int) (hl : ∀ x ∈ l, (Lit.int .u8 x).wf = true) : EvP (fun k => spec_DrawVarBytes.f k l) (fun n => -10000000 ≤ n ∧ n ≤ 10000000) := by
  unfold spec_DrawVarBytes.f
  refine EvP.bind (open_ev l hl) ?_
  rintro ⟨b, p⟩ ⟨h, hp⟩
  obtain rfl : p = 0 := hp
  dsimp only at h ⊢
  refine EvP.bind (l91Number_ev h (by decide)) ?_
  rintro ⟨n, q⟩ ⟨h1, h2, _⟩
  exact EvP.ret ⟨h1, h2⟩

theorem sameInts_l0 (xs ys : List Int) (he : xs.length = ys.length) (hl : xs.length ≤ 1000000000000000000) (d : Nat) : ∀ j : Nat, j ≤ xs.length → xs.length - j = d → EvV (fun k => laws_sameInts.l0 k xs ys (j : Int)) (decide (xs.drop j = ys.drop j)) := by
  induction d with
  | zero =>
    intro j hj hd
    refine EvP.succ ?_
    simp only [laws_sameInts.l0]
    rw [drop_end xs j (by omega), drop_end ys j (by omega)]
    exact EvP.neg (by omega) (EvP.ret (by simp))
  | succ d ih =>
    intro j hj hd
    have hlt : j < xs.length := by omega
    have hlt2 : j < ys.length := by omega
    refine EvP.succ ?_
    simp only [laws_sameInts.l0, rd_nat xs j hlt, rd_nat ys j hlt2, w64_succ hlt hl]
    refine EvP.pos (by omega) (EvP.pos (by omega) (EvP.pos (by omega) ?_))
    rw [drop_cons xs j hlt, drop_cons ys j hlt2]
    refine EvP.ite (fun h => ?_) (fun h => EvP.ret ?_)
    · exact (ih (j + 1) (by omega) (by omega)).to (dec_cons_t h)
    · exact dec_cons_f h
theorem sameInts_ev (xs ys : List Int) (hl : xs.length ≤ 1000000000000000000) : EvV (fun k => laws_sameInts.f k xs ys) (decide (xs = ys)) := by
  unfold laws_sameInts.f
  refine EvP.ite (fun h => ?_) (fun h => EvP.ret ?_)
  · exact sameInts_l0 xs ys (by omega) hl xs.length 0 (by omega) (by omega)
  · have : ¬ xs = ys := by rintro rfl; exact h rfl
    simp [this]
theorem sameInts_same (xs : List Int) (hl : xs.length ≤ 1000000000000000000) : EvV (fun k => laws_sameInts.f k xs xs) true := (sameInts_ev xs xs hl).to (by simp)

theorem FnVarSign : laws_FnVarSign.Pure := by
  intro l _ _ hl
  refine EvP.done ?_
  unfold laws_FnVarSign.f
  refine EvP.ite (fun _ => EvP.ret rfl) (fun _ => ?_)
  refine EvP.bind (drawVarBytes_ev l hl) ?_
  rintro n _
  have s := sVarBytes_ev n
  have i := iVarBytes_ev n
  have hl := varR_len n
  by_cases hf : fold n < 0
  · have e : varR n = ([], false) := by unfold varR; rw [if_pos hf]
    rw [e] at s i
    have q := sameInts_same [] (by decide)
    refine EvV.bind i (EvV.bind s (EvP.neg (by simp) (EvV.bind q (EvP.pos (by simp) (EvP.neg (by decide) (EvP.succ ?_))))))
    simp only [laws_FnVarSign.j0]
    exact EvP.pos (by simp) (EvP.pos (by simp) (EvV.bind q (EvP.ret rfl)))
  · have e : varR n = (varL (fold n), true) := by unfold varR; rw [if_neg hf]
    rw [e] at s i hl
    have hn : -1000000 ≤ n ∧ n ≤ 1000000 := by unfold fold at hf; split at hf <;> omega
    have hr := fold_rng hn.1 hn.2
    have hlen : (varL (fold n)).length ≤ 3 := hl
    have q := sameInts_same (varL (fold n)) (by omega)
    refine EvV.bind i (EvV.bind s (EvP.neg (by simp) (EvV.bind q (EvP.pos (by simp) (EvP.pos (by simp) (EvP.succ ?_))))))
    simp only [laws_FnVarSign.j0]
    refine EvP.ite (fun _ => EvP.pos (by simp) (EvV.bind q (EvP.ret rfl))) (fun h => ?_)
    have hz : ¬ n = 0 := by simpa using h
    have hr2 := fold_rng (n := -n) (by omega) (by omega)
    have e2 : varR (-n) = (varL (fold (-n)), true) := by unfold varR; rw [if_neg (by omega)]
    rw [w64 (x := -n) (by omega) (by omega)]
    have hne : ¬ varL (fold (-n)) = varL (fold n) := by
      intro c
      have a1 := vAt_varL hr2.1 hr2.2 []
      have a2 := vAt_varL hr.1 hr.2 []
      rw [c] at a1
      have := a1.symm.trans a2
      simp only [Prod.mk.injEq] at this
      have u1 := unf_fold (n := -n) (by omega) (by omega)
      have u2 := unf_fold hn.1 hn.2
      omega
    refine EvV.bind ((iVarBytes_ev (-n)).to e2) (EvP.pos (by simp) (EvV.bind (sameInts_ev _ _ (Nat.le_trans (varL_len (fold (-n))).1 (by decide))) (EvP.ret ?_)))
    simp [hne]

end Go.Proofs.Ytgfngjbkcfchcaa.Pure
