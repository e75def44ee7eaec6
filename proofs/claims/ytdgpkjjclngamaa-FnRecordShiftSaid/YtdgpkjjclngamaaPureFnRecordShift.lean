/- A record and a base that go on by one have the same bytes, at whatever record the code draws; there is no condition. -/
import Derived.Test.YtdgpkjjclngamaaQFnRecordShiftx6
import Derived.Test.YtdgpkjjclngamaaMath
import Derived.Test.YtdgpkjjclngamaaMath2
import Derived.Test.YtdgpkjjclngamaaMath3
import Derived.Test.YtdgpkjjclngamaaMath4
set_option linter.unusedVariables false
set_option linter.unusedSimpArgs false
namespace Go.Proofs.Ytdgpkjjclngamaa.Pure
open Go.RowKit Go.Proofs.Ytdgpkjjclngamaa.QFnRecordShift Go.Proofs.YtdgpkjjclngamaaW.PrintWords Go.Proofs.YtdgpkjjclngamaaW.PrintLast Go.Proofs.YtdgpkjjclngamaaW.PrintMore Go.Proofs.Ytdgpkjjclngamaa.M

theorem l6In_eq (a b c : Int) : spec_l6In.f a b c = some (decide (b ≤ a ∧ a ≤ c)) := by
  unfold spec_l6In.f
  by_cases h : a ≥ b
  · rw [if_pos h]; congr 1; simp only [decide_eq_decide]; omega
  · rw [if_neg h]; congr 1; symm; simp only [decide_eq_false_iff_not]; omega

theorem l1Fold_eq {n : Int} (h0 : -1000000 ≤ n) (h1 : n ≤ 1000000) : spec_l1Fold.f n = some (fold n) := by
  unfold spec_l1Fold.f fold
  rw [if_neg (by omega : ¬ (n < -1000000 ∨ 1000000 < n))]
  split
  · rw [w64 (x := -2 * n) (by omega) (by omega), w64 (by omega) (by omega)]
  · rw [w64 (by omega) (by omega)]

theorem iFold_eq (k : Nat) (n : Int) : impl_FoldNumber.f (k + 1) n = some (fold n) := by
  unfold impl_FoldNumber.f
  simp only [impl_FoldNumber.j0]
  unfold fold
  by_cases h1 : n < -1000000
  · simp [h1]
  · by_cases h2 : n > 1000000
    · simp [h1, h2]
    · by_cases h3 : n < 0
      · rw [if_neg h1, if_neg (by simpa using h2), if_pos h3, if_neg (by omega), if_pos h3, w64 (x := -2 * n) (by omega) (by omega), w64 (by omega) (by omega)]
      · rw [if_neg h1, if_neg (by simpa using h2), if_neg h3, if_neg (by omega), if_neg h3, w64 (by omega) (by omega)]
theorem iFold_ev (n : Int) : EvV (fun k => impl_FoldNumber.f k n) (fold n) := EvV.of_succ fun k => iFold_eq k n

theorem l1Bytes_ev {n : Int} (h0 : -1000000 ≤ n) (h1 : n ≤ 1000000) : EvV (fun k => spec_l1Bytes.f k n) (varL (fold n)) := by
  obtain ⟨f0, f1⟩ := fold_rng h0 h1
  refine EvV.of_add 3 fun k => ?_
  unfold spec_l1Bytes.f
  rw [l1Fold_eq h0 h1]
  simp only [Option.bind_some]
  generalize fold n = f at f0 f1 ⊢
  unfold varL
  by_cases a : f < 128
  · simp only [spec_l1Bytes.l0]; rw [if_neg (by omega), if_pos (by simp), if_pos a]; rfl
  · rw [if_neg a]
    have e1 : wrap64 (Int.tdiv f 128) = f / 128 := by rw [tdiv_pos f0, w64 (by omega) (by omega)]
    have e2 : wrap64 (128 + Int.tmod f 128) = f % 128 + 128 := by rw [tmod_pos f0, w64 (by omega) (by omega)]; omega
    by_cases b : f < 16384
    · simp only [spec_l1Bytes.l0]; rw [if_pos (by omega), if_pos (by simp), e1, e2, if_neg (by omega), if_pos (by simp), if_pos b]; rfl
    · have e3 : wrap64 (Int.tdiv (f / 128) 128) = f / 16384 := by rw [tdiv_pos (by omega), w64 (by omega) (by omega)]; omega
      have e4 : wrap64 (128 + Int.tmod (f / 128) 128) = f / 128 % 128 + 128 := by rw [tmod_pos (by omega), w64 (by omega) (by omega)]; omega
      simp only [spec_l1Bytes.l0]
      rw [if_pos (by omega), if_pos (by simp), e1, e2, if_pos (by omega), if_pos (by simp), e3, e4, if_neg (by omega), if_pos (by simp), if_neg b]; rfl

theorem varOf_ev {n : Int} (h0 : -1000000 ≤ n) (h1 : n ≤ 1000000) : EvV (fun k => impl_varOf.f k n) (varL (fold n)) := by
  obtain ⟨f0, f1⟩ := fold_rng h0 h1
  unfold impl_varOf.f
  refine EvV.bind (iFold_ev n) ?_
  refine EvV.of_add 3 fun k => ?_
  generalize fold n = f at f0 f1 ⊢
  unfold varL
  have orr : ∀ y : Int, 0 ≤ y → y < 128 → Go.bits .or .i64 y 128 = y + 128 := fun y a b => by
    rw [bits_swap, or_join 7 128 y (by omega) (by decide) (by omega) a (by omega) (by omega)]; omega
  by_cases a : f < 128
  · simp only [impl_varOf.l0]; rw [if_pos a, if_pos (by simp), if_pos a]; rfl
  · rw [if_neg a]
    have e2 : Go.bits .or .i64 (Go.bits .and .i64 f 127) 128 = f % 128 + 128 := by rw [and127 f0 (by omega), orr _ (by omega) (by omega)]
    by_cases b : f < 16384
    · simp only [impl_varOf.l0]; rw [if_neg a, if_pos (by simp), e2, if_pos (by omega), if_pos (by simp), if_pos b]; rfl
    · have e3 : f / 128 / 128 = f / 16384 := by omega
      have e4 : Go.bits .or .i64 (Go.bits .and .i64 (f / 128) 127) 128 = f / 128 % 128 + 128 := by rw [and127 (by omega) (by omega), orr _ (by omega) (by omega)]
      simp only [impl_varOf.l0]
      rw [if_neg a, if_pos (by simp), e2, if_neg (by omega), if_pos (by simp), e3, e4, if_pos (by omega), if_pos (by simp), if_neg b]; rfl

theorem pick_ev {b : List Int} {p : Int} (hb : Rdr b p) (hp : p ≤ 1000000000) {n : Int} (hn : 1 ≤ n) (hn2 : n ≤ 1000000000) :
    EvP (fun k => spec_l6Rd_pick.f k b p n) (fun r => 0 ≤ r.1 ∧ r.1 < n ∧ r.2 = p + 1) := by
  obtain ⟨hl, hx, hp0⟩ := hb
  have w1 : wrap64 (p + 1) = p + 1 := w64 (by omega) (by omega)
  have w2 : wrap64 (p + 1 - 1) = p := by rw [w64 (by omega) (by omega)]; omega
  unfold spec_l6Rd_pick.f
  refine EvP.neg (by omega) ?_
  rw [w1]
  refine EvP.succ ?_
  simp only [spec_l6Rd_pick.j0, w2]
  refine EvP.ite (fun h => EvP.ret ⟨by omega, by omega, rfl⟩) (fun h => ?_)
  have hlen : ((b.length : Int) == 0) = false := by simpa using h
  have hne : ¬ (b.length : Int) = 0 := by simpa using hlen
  have tm : ∀ x : Int, 0 ≤ x → 0 ≤ Int.tmod x n ∧ Int.tmod x n < n := fun x hx => by
    rw [tmod_pos hx]; exact ⟨Int.emod_nonneg _ (by omega), Int.emod_lt_of_pos _ (by omega)⟩
  have rr : ∀ i, 0 ≤ rd b i ∧ rd b i ≤ 255 := rd_rng hx
  refine EvP.ite (fun h1 => ?_) (fun h1 => ?_)
  · refine EvP.pos hp0 (EvP.neg (by omega) (EvP.ret ?_))
    have := rr p
    have t := tm (wrap64 (rd b p)) (by rw [w64 (by omega) (by omega)]; omega)
    exact ⟨t.1, t.2, rfl⟩
  · have t1 : Int.tmod p (b.length : Int) = p % (b.length : Int) := tmod_pos hp0
    have w3 : wrap64 (wrap64 (p * 7) + 3) = p * 7 + 3 := by rw [w64 (x := p * 7) (by omega) (by omega), w64 (by omega) (by omega)]
    have t2 : Int.tmod (p * 7 + 3) (b.length : Int) = (p * 7 + 3) % (b.length : Int) := tmod_pos (by omega)
    have a1 := Int.emod_nonneg p hne
    have a2 := Int.emod_lt_of_pos p (by omega : 0 < (b.length : Int))
    have a3 := Int.emod_nonneg (p * 7 + 3) hne
    have a4 := Int.emod_lt_of_pos (p * 7 + 3) (by omega : 0 < (b.length : Int))
    have d1 : Int.tdiv p (b.length : Int) = p / (b.length : Int) := tdiv_pos hp0
    have d2 : 0 ≤ p / (b.length : Int) := Int.ediv_nonneg hp0 (by omega)
    have d3 : p / (b.length : Int) ≤ p := Int.ediv_le_self _ hp0
    simp only [w3, t1, t2, d1]
    refine EvP.neg hne (EvP.pos a1 (EvP.pos a2 (EvP.pos a3 (EvP.pos a4 (EvP.neg (by omega) (EvP.ret ?_))))))
    have r1 := rr (p % (b.length : Int))
    have r2 := rr ((p * 7 + 3) % (b.length : Int))
    generalize rd b (p % (b.length : Int)) = x1 at r1 ⊢
    generalize rd b ((p * 7 + 3) % (b.length : Int)) = x2 at r2 ⊢
    generalize p / (b.length : Int) = q at d2 d3 ⊢
    have wx : ∀ x : Int, 0 ≤ x → x ≤ 1000000000000 → wrap64 x = x := fun x h0 h1 => w64 (by omega) (by omega)
    have e : wrap64 (wrap64 (wrap64 (wrap64 (wrap64 x1 * 131) + wrap64 (wrap64 x2 * 1117)) + wrap64 (p * 29)) + wrap64 (wrap64 q * 53)) = x1 * 131 + x2 * 1117 + p * 29 + q * 53 := by
      rw [wx x1 (by omega) (by omega), wx x2 (by omega) (by omega), wx q (by omega) (by omega), wx (x1 * 131) (by omega) (by omega), wx (x2 * 1117) (by omega) (by omega), wx (p * 29) (by omega) (by omega), wx (q * 53) (by omega) (by omega),
        wx (x1 * 131 + x2 * 1117) (by omega) (by omega), wx (x1 * 131 + x2 * 1117 + p * 29) (by omega) (by omega), wx _ (by omega) (by omega)]
    rw [e]
    generalize hz : x1 * 131 + x2 * 1117 + p * 29 + q * 53 = z
    have z0 : 0 ≤ z := by omega
    have z1 : z ≤ 1000000000000 := by omega
    rw [tdiv_pos z0, wx (z / 64) (by omega) (by omega)]
    have t := tm _ (xor_nonneg (x := z) (y := z / 64) (by omega) (by omega) (by omega) (by omega))
    exact ⟨t.1, t.2, rfl⟩

theorem open_ev (l : List Int) (hl : ∀ x ∈ l, (Lit.int .u8 x).wf = true) : EvP (fun _ => spec_l6Open.f l) (fun r => Rdr r.1 r.2 ∧ r.2 = 0) := by
  have hx : ∀ x ∈ l, 0 ≤ x ∧ x ≤ 255 := fun x hx => wf_u8 (hl x hx)
  unfold spec_l6Open.f
  refine EvP.ite (fun h => ?_) (fun h => ?_)
  · refine EvP.pos (by omega) (EvP.ret ⟨⟨by simp; omega, fun x hm => hx x (List.mem_of_mem_take hm), Int.le_refl 0⟩, rfl⟩)
  · exact EvP.ret ⟨⟨by dsimp only; omega, hx, Int.le_refl 0⟩, rfl⟩

theorem l1Ok_l0 (xs : List Int) (hl : xs.length ≤ 1000000000000000000) (d : Nat) : ∀ j : Nat, j ≤ xs.length → xs.length - j = d → EvV (fun k => spec_l1Ok.l0 k xs (j : Int)) (allB (xs.drop j)) := by
  induction d with
  | zero =>
    intro j hj hd
    refine EvP.succ ?_
    simp only [spec_l1Ok.l0]
    rw [drop_end xs j (by omega)]
    exact EvP.neg (by omega) (EvP.ret rfl)
  | succ d ih =>
    intro j hj hd
    have hlt : j < xs.length := by omega
    refine EvP.succ ?_
    simp only [spec_l1Ok.l0, l6In_eq, Option.bind_some, rd_nat xs j hlt, w64_succ hlt hl]
    refine EvP.pos (by omega) (EvP.pos (by omega) ?_)
    rw [drop_cons xs j hlt]
    refine EvP.ite (fun h => ?_) (fun h => EvP.ret ?_)
    · have hb : isB xs[j] = true := h
      exact (ih (j + 1) (by omega) (by omega)).to (allB_cons_t hb)
    · have hb : isB xs[j] = false := by simpa [isB] using h
      exact allB_cons_f hb
theorem l1Ok_ev (xs : List Int) (hl : xs.length ≤ 1000000000000000000) : EvV (fun k => spec_l1Ok.f k xs) (allB xs) := by
  unfold spec_l1Ok.f; exact l1Ok_l0 xs hl xs.length 0 (by omega) (by omega)

theorem isByte_eq (x : Int) : impl_isByte.f x = some (isB x) := by
  unfold impl_isByte.f isB
  by_cases h : x ≥ 0
  · rw [if_pos h]; congr 1; simp only [decide_eq_decide]; omega
  · rw [if_neg h]; congr 1; symm; simp only [decide_eq_false_iff_not]; omega

theorem allBytes_l0 (xs : List Int) (hl : xs.length ≤ 1000000000000000000) (d : Nat) : ∀ j : Nat, j ≤ xs.length → xs.length - j = d → EvV (fun k => impl_allBytes.l0 k xs (xs.length : Int) (j : Int)) (allB (xs.drop j)) := by
  induction d with
  | zero =>
    intro j hj hd
    refine EvP.succ ?_
    simp only [impl_allBytes.l0]
    rw [drop_end xs j (by omega)]
    exact EvP.neg (by omega) (EvP.ret rfl)
  | succ d ih =>
    intro j hj hd
    have hlt : j < xs.length := by omega
    refine EvP.succ ?_
    simp only [impl_allBytes.l0, isByte_eq, Option.bind_some, rd_nat xs j hlt, w64_succ hlt hl]
    refine EvP.pos (by omega) (EvP.pos (by omega) (EvP.pos (by omega) ?_))
    rw [drop_cons xs j hlt]
    refine EvP.ite (fun h => ?_) (fun h => EvP.ret ?_)
    · exact (ih (j + 1) (by omega) (by omega)).to (allB_cons_t h)
    · exact allB_cons_f (by simpa using h)
theorem allBytes_ev (xs : List Int) (hl : xs.length ≤ 1000000000000000000) : EvV (fun k => impl_allBytes.f k xs) (allB xs) := by
  unfold impl_allBytes.f; exact allBytes_l0 xs hl xs.length 0 (by omega) (by omega)

theorem sameInts_l0 (xs ys : List Int) (he : xs.length = ys.length) (hl : xs.length ≤ 1000000000000000000) (d : Nat) : ∀ j : Nat, j ≤ xs.length → xs.length - j = d → EvV (fun k => laws_sameInts.l0 k xs ys (j : Int)) (decide (xs.drop j = ys.drop j)) := by
  induction d with
  | zero =>
    intro j hj hd
    refine EvP.succ ?_
    simp only [laws_sameInts.l0]
    rw [drop_end xs j (by omega), drop_end ys j (by omega)]
    exact EvP.neg (by omega) (EvP.ret (by simp))
  | succ d ih =>
    intro j hj hd
    have hlt : j < xs.length := by omega
    have hlt2 : j < ys.length := by omega
    refine EvP.succ ?_
    simp only [laws_sameInts.l0, rd_nat xs j hlt, rd_nat ys j hlt2, w64_succ hlt hl]
    refine EvP.pos (by omega) (EvP.pos (by omega) (EvP.pos (by omega) ?_))
    rw [drop_cons xs j hlt, drop_cons ys j hlt2]
    refine EvP.ite (fun h => ?_) (fun h => EvP.ret ?_)
    · exact (ih (j + 1) (by omega) (by omega)).to (dec_cons_t h)
    · exact dec_cons_f h
theorem sameInts_ev (xs ys : List Int) (hl : xs.length ≤ 1000000000000000000) : EvV (fun k => laws_sameInts.f k xs ys) (decide (xs = ys)) := by
  unfold laws_sameInts.f
  refine EvP.ite (fun h => ?_) (fun h => EvP.ret ?_)
  · exact sameInts_l0 xs ys (by omega) hl xs.length 0 (by omega) (by omega)
  · have : ¬ xs = ys := by rintro rfl; exact h rfl
    simp [this]
theorem sameInts_same (xs : List Int) (hl : xs.length ≤ 1000000000000000000) : EvV (fun k => laws_sameInts.f k xs xs) true := (sameInts_ev xs xs hl).to (by simp)

theorem l91Part_ev {b : List Int} {p : Int} (hb : Rdr b p) (hp : p ≤ 10000000) :
    EvP (fun k => spec_l91Part.f k b p) (fun r => r.2.1.length ≤ 12 ∧ Rdr b r.2.2 ∧ r.2.2 ≤ p + 100) := by
  have hR : ∀ q : Int, p ≤ q → Rdr b q := fun q hq => ⟨hb.1, hb.2.1, by have := hb.2.2; omega⟩
  have key : ∀ (n : Int), n ≤ 12 → ∀ (d : Nat) (xs : List Int) (i q : Int), 0 ≤ i → n - i ≤ d → xs.length = i → i ≤ 12 → p ≤ q → q ≤ p + 10 + 2 * i → EvP (fun k => spec_l91Part.l0 k xs n i b q) (fun r => r.2.1.length ≤ 12 ∧ Rdr b r.2.2 ∧ r.2.2 ≤ p + 100) := by
    intro n hn d
    induction d with
    | zero =>
      intro xs i q hi hd hx hi2 hq0 hq
      refine EvP.succ ?_
      simp only [spec_l91Part.l0]
      exact EvP.neg (by omega) (EvP.ret ⟨by dsimp only; omega, hR _ (by dsimp only; omega), by dsimp only; omega⟩)
    | succ d ih =>
      intro xs i q hi hd hx hi2 hq0 hq
      refine EvP.succ ?_
      simp only [spec_l91Part.l0]
      refine EvP.ite (fun hlt => ?_) (fun _ => EvP.ret ⟨by dsimp only; omega, hR _ (by dsimp only; omega), by dsimp only; omega⟩)
      refine EvP.bind (pick_ev (hR q hq0) (by omega) (by decide) (by decide)) ?_
      rintro ⟨v, q1⟩ ⟨b1, b2, b3⟩
      dsimp only at b1 b2 b3 ⊢
      simp only [Option.bind_some]
      refine EvP.bind (pick_ev (hR q1 (by omega)) (by omega) (by decide) (by decide)) ?_
      rintro ⟨u, q2⟩ ⟨c1, c2, c3⟩
      dsimp only at c1 c2 c3 ⊢
      rw [w64 (x := i + 1) (by omega) (by omega)]
      exact EvP.pos c1 (EvP.pos (by simpa using c2) (EvP.pos (by omega) (ih _ (i + 1) q2 (by omega) (by omega) (by simp; omega) (by omega) (by omega) (by omega))))
  have hj : ∀ (n q : Int), n ≤ 12 → p ≤ q → q ≤ p + 10 → EvP (fun k => spec_l91Part.j0 k [] n b q) (fun r => r.2.1.length ≤ 12 ∧ Rdr b r.2.2 ∧ r.2.2 ≤ p + 100) := by
    intro n q hn hq0 hq
    refine EvP.succ ?_
    simp only [spec_l91Part.j0]
    exact key n hn n.toNat [] 0 q (by decide) (by omega) rfl (by decide) hq0 (by omega)
  unfold spec_l91Part.f
  refine EvP.bind (pick_ev hb (by omega) (by decide) (by decide)) ?_
  rintro ⟨v, q1⟩ ⟨a1, a2, a3⟩
  dsimp only at a1 a2 a3 ⊢
  refine EvP.ite (fun _ => EvP.ret ⟨by simp, hR _ (by dsimp only; omega), by dsimp only; omega⟩) (fun _ => ?_)
  simp only [Option.bind_some]
  refine EvP.bind (pick_ev (hR q1 (by omega)) (by omega) (by decide) (by decide)) ?_
  rintro ⟨u, q2⟩ ⟨b1, b2, b3⟩
  dsimp only at b1 b2 b3 ⊢
  refine EvP.bind (pick_ev (hR q2 (by omega)) (by omega) (by decide) (by decide)) ?_
  rintro ⟨w, q3⟩ ⟨c1, c2, c3⟩
  dsimp only at c1 c2 c3 ⊢
  exact EvP.ite (fun _ => hj _ _ (by decide) (by omega) (by omega)) (fun _ => hj _ _ (by omega) (by omega) (by omega))

theorem l91Record_ev {b : List Int} {p : Int} (hb : Rdr b p) (hp : p ≤ 1000000) :
    EvP (fun k => spec_l91Record.f k b p) (fun r => r.2.2.2.1.length ≤ 13 ∧ r.2.2.2.2.2.1.length ≤ 13 ∧ -10000000 ≤ r.1 ∧ r.1 ≤ 10000000 ∧ -10000000 ≤ r.2.1 ∧ r.2.1 ≤ 10000000 ∧ Rdr b r.2.2.2.2.2.2 ∧ r.2.2.2.2.2.2 ≤ p + 1000) := by
  have hR : ∀ q : Int, p ≤ q → Rdr b q := fun q hq => ⟨hb.1, hb.2.1, by have := hb.2.2; omega⟩
  unfold spec_l91Record.f
  refine EvP.bind (pick_ev hb (by omega) (by decide) (by decide)) ?_
  rintro ⟨v1, q1⟩ ⟨a1, a2, a3⟩
  dsimp only at a1 a2 a3 ⊢
  refine EvP.bind (pick_ev (hR q1 (by omega)) (by omega) (by decide) (by decide)) ?_
  rintro ⟨v2, q2⟩ ⟨b1, b2, b3⟩
  dsimp only at b1 b2 b3 ⊢
  refine EvP.bind (pick_ev (hR q2 (by omega)) (by omega) (by decide) (by decide)) ?_
  rintro ⟨v3, q3⟩ ⟨c1, c2, c3⟩
  dsimp only at c1 c2 c3 ⊢
  refine EvP.bind (pick_ev (hR q3 (by omega)) (by omega) (by decide) (by decide)) ?_
  rintro ⟨v4, q4⟩ ⟨d1, d2, d3⟩
  dsimp only at d1 d2 d3 ⊢
  refine EvP.bind (l91Part_ev (hR q4 (by omega)) (by omega)) ?_
  rintro ⟨hk, ks, q5⟩ ⟨e1, e2, e3⟩
  dsimp only at e1 e2 e3 ⊢
  have q50 := e2.2.2
  refine EvP.bind (l91Part_ev e2 (by omega)) ?_
  rintro ⟨hv, vs, q6⟩ ⟨f1, f2, f3⟩
  dsimp only at f1 f2 f3 ⊢
  have q60 := f2.2.2
  have hR0 : ∀ q : Int, 0 ≤ q → Rdr b q := fun q hq => ⟨hb.1, hb.2.1, hq⟩
  refine EvP.bind (pick_ev f2 (by omega) (by decide) (by decide)) ?_
  rintro ⟨v7, q7⟩ ⟨g1, g2, g3⟩
  dsimp only at g1 g2 g3 ⊢
  have m1 : 0 ≤ v3 * v4 := Int.mul_nonneg c1 d1
  have m2 : v3 * v4 ≤ 1 * 99 := Int.mul_le_mul (by omega) (by omega) d1 (by omega)
  have m3 : 0 ≤ v2 * (1 + v3 * v4) := Int.mul_nonneg b1 (by omega)
  have m4 : v2 * (1 + v3 * v4) ≤ 249 * 100 := Int.mul_le_mul (by omega) (by omega) (by omega) (by omega)
  have x1 : wrap64 (v3 * v4) = v3 * v4 := w64 (by omega) (by omega)
  have x2 : wrap64 (1 + v3 * v4) = 1 + v3 * v4 := w64 (by omega) (by omega)
  have x3 : wrap64 (v2 * (1 + v3 * v4)) = v2 * (1 + v3 * v4) := w64 (by omega) (by omega)
  simp only [x1, x2, x3]
  generalize v2 * (1 + v3 * v4) = y at *
  refine EvP.ite (fun _ => ?_) (fun _ => ?_)
  · simp only [Option.bind_some]
    refine EvP.bind (pick_ev (hR0 q7 (by omega)) (by omega) (by decide) (by decide)) ?_
    rintro ⟨v8, q8⟩ ⟨h1, h2, h3⟩
    dsimp only at h1 h2 h3 ⊢
    have hr : -10000000 ≤ rd [-1, 99999, 100000] v8 ∧ rd [-1, 99999, 100000] v8 ≤ 10000000 := by
      have c : v8 = 0 ∨ v8 = 1 ∨ v8 = 2 := by omega
      rcases c with rfl | rfl | rfl <;> decide
    exact EvP.pos h1 (EvP.pos (by simpa using h2) (EvP.ret ⟨by dsimp only; omega, by dsimp only; omega, hr.1, hr.2, by dsimp only; omega, by dsimp only; omega, hR0 _ (by dsimp only; omega), by dsimp only; omega⟩))
  · refine EvP.ite (fun _ => EvP.ret ⟨by dsimp only; omega, by dsimp only; omega, by dsimp only; omega, by dsimp only; omega, by dsimp only; omega, by dsimp only; omega, hR0 _ (by dsimp only; omega), by dsimp only; omega⟩) (fun _ => ?_)
    refine EvP.ite (fun _ => EvP.pos (by omega) (EvP.ret ⟨by dsimp only; omega, by simp; omega, by dsimp only; omega, by dsimp only; omega, by dsimp only; omega, by dsimp only; omega, hR0 _ (by dsimp only; omega), by dsimp only; omega⟩)) (fun _ => EvP.ret ⟨by dsimp only; omega, by dsimp only; omega, by dsimp only; omega, by dsimp only; omega, by dsimp only; omega, by dsimp only; omega, hR0 _ (by dsimp only; omega), by dsimp only; omega⟩)

theorem within_eq (a b c : Int) : impl_within.f a b c = some (decide (b ≤ a ∧ a ≤ c)) := by
  unfold impl_within.f
  by_cases h : a ≥ b
  · rw [if_pos h]; congr 1; simp only [decide_eq_decide]; omega
  · rw [if_neg h]; congr 1; symm; simp only [decide_eq_false_iff_not]; omega

theorem baseValid_eq (o t : Int) : impl_baseValid.f o t = some (baseO o t) := by
  unfold impl_baseValid.f baseO
  simp only [within_eq, Option.bind_some]
  by_cases h : 0 ≤ o ∧ o ≤ 99999
  · rw [if_pos (by simpa using h)]; simp [h]
  · rw [if_neg (by simpa using h)]; simp [h]

theorem partValid_ev (has : Bool) (xs : List Int) (hl : xs.length ≤ 1000000000000000000) : EvV (fun k => impl_partValid.f k has xs) (partOk has xs) := by
  unfold impl_partValid.f partOk
  refine EvP.ite (fun h => ?_) (fun h => EvP.ret ?_)
  · rw [if_pos h]
    refine EvP.ite (fun g => EvV.bind (allBytes_ev xs hl) (EvP.ret ?_)) (fun g => EvP.ret ?_)
    · simp [g]
    · simp [g]
  · rw [if_neg h, Bool.eq_iff_iff]
    simp only [decide_eq_true_eq, beq_iff_eq]

theorem iRecordValid_ev (o t : Int) (hk : Bool) (ks : List Int) (hv : Bool) (vs : List Int) (h1 : ks.length ≤ 1000000000000000000) (h2 : vs.length ≤ 1000000000000000000) : EvV (fun k => impl_RecordValid.f k o t hk ks hv vs) (recOk o t hk ks hv vs) := by
  unfold impl_RecordValid.f recOk
  simp only [baseValid_eq, baseO, Option.bind_some]
  refine EvP.ite (fun a => ?_) (fun a => EvP.ret ?_)
  · have a' := a
    simp only [Bool.and_eq_true, decide_eq_true_eq] at a'
    refine EvV.bind (partValid_ev hk ks h1) (EvP.ite (fun b => EvV.bind (partValid_ev hv vs h2) (EvP.ret ?_)) (fun b => EvP.ret ?_))
    · simp [a', b]
    · simp [a', b]
  · revert a
    cases decide (0 ≤ o ∧ o ≤ 99999) <;> cases decide (0 ≤ t ∧ t ≤ 99999) <;> simp

theorem l3Part_ev (has : Bool) (xs : List Int) (hl : xs.length ≤ 1000000000000000000) : EvV (fun k => spec_l3Part.f k has xs) (partOk has xs) := by
  unfold spec_l3Part.f partOk
  refine EvP.ite (fun h => ?_) (fun h => ?_)
  · rw [if_pos h]
    refine EvV.bind (l1Ok_ev xs hl) (EvP.ite (fun g => EvP.ret ?_) (fun g => EvP.ret ?_))
    · simp [g]
    · simp [g]
  · rw [if_neg h]
    refine EvP.ite (fun c => EvV.bind (l1Ok_ev xs hl) (EvP.ite (fun g => EvP.ret ?_) (fun g => EvP.ret ?_))) (fun c => EvP.ret ?_)
    · have : xs = [] := List.eq_nil_of_length_eq_zero (by omega)
      subst this; rfl
    · have : xs = [] := List.eq_nil_of_length_eq_zero (by omega)
      subst this; exact absurd rfl g
    · rw [decide_eq_false c]

theorem sRecordValid_ev (o t : Int) (hk : Bool) (ks : List Int) (hv : Bool) (vs : List Int) (h1 : ks.length ≤ 1000000000000000000) (h2 : vs.length ≤ 1000000000000000000) : EvV (fun k => spec_RecordValid.f k o t hk ks hv vs) (recOk o t hk ks hv vs) := by
  unfold spec_RecordValid.f recOk
  simp only [l6In_eq, Option.bind_some]
  refine EvP.ite (fun a => ?_) (fun a => EvP.ret (by simp [a]))
  refine EvP.ite (fun c => ?_) (fun c => EvP.ret (by simp [a, c]))
  refine EvV.bind (l3Part_ev hk ks h1) (EvP.ite (fun b => EvV.bind (l3Part_ev hv vs h2) (EvP.ret ?_)) (fun b => EvP.ret ?_))
  · rw [a, c, b]; rfl
  · have b' : partOk hk ks = false := by simpa using b
    rw [a, c, b']; rfl

theorem drawRecordBytes_ev (l : List Int) (hl : ∀ x ∈ l, (Lit.int .u8 x).wf = true) : EvP (fun k => spec_DrawRecordBytes.f k l) (fun r => r.2.2.2.1.length ≤ 13 ∧ r.2.2.2.2.2.1.length ≤ 13) := by
  unfold spec_DrawRecordBytes.f
  refine EvP.bind (open_ev l hl) ?_
  rintro ⟨b, p⟩ ⟨h, hp⟩
  obtain rfl : p = 0 := hp
  have hR : ∀ q : Int, 0 ≤ q → Rdr b q := fun q hq => ⟨h.1, h.2.1, hq⟩
  dsimp only at h ⊢
  refine EvP.bind (l91Record_ev h (by decide)) ?_
  rintro ⟨o, t, hk, ks, hv, vs, q⟩ ⟨h1, h2, _, _, _, _, hq, hq2⟩
  have q0 := hq.2.2
  dsimp only at h1 h2 hq hq2 q0 ⊢
  refine EvP.bind (pick_ev hq (by omega) (by decide) (by decide)) ?_
  rintro ⟨v1, q1⟩ ⟨a1, a2, a3⟩
  dsimp only at a1 a2 a3 ⊢
  refine EvP.ite (fun _ => ?_) (fun _ => ?_)
  · simp only [Option.bind_some]
    refine EvP.bind (pick_ev (hR q1 (by omega)) (by omega) (by decide) (by decide)) ?_
    rintro ⟨v2, q2⟩ ⟨b1, b2, b3⟩
    dsimp only at b1 b2 b3 ⊢
    refine EvP.pos b1 (EvP.pos (by simpa using b2) ?_)
    refine EvP.bind (pick_ev (hR q2 (by omega)) (by omega) (by decide) (by decide)) ?_
    rintro ⟨v3, q3⟩ ⟨c1, c2, c3⟩
    dsimp only at c1 c2 c3 ⊢
    exact EvP.pos c1 (EvP.pos (by simpa using c2) (EvP.ret ⟨h1, h2⟩))
  · refine EvP.bind (pick_ev (hR q1 (by omega)) (by omega) (by decide) (by decide)) ?_
    rintro ⟨v2, q2⟩ ⟨b1, b2, b3⟩
    dsimp only at b1 b2 b3 ⊢
    refine EvP.bind (pick_ev (hR q2 (by omega)) (by omega) (by decide) (by decide)) ?_
    rintro ⟨v3, q3⟩ ⟨c1, c2, c3⟩
    exact EvP.ret ⟨h1, h2⟩

theorem partBytes_ev (has : Bool) (xs : List Int) (hl : xs.length ≤ 1000) : EvV (fun k => impl_partBytes.f k has xs) (partB has xs) := by
  unfold impl_partBytes.f partB
  have L := varL_len (fold (xs.length : Int))
  refine EvP.ite (fun h => ?_) (fun h => ?_)
  · rw [if_pos h]
    exact EvV.bind (varOf_ev (by omega) (by omega)) (EvP.pos (by omega) (EvP.ret rfl))
  · rw [if_neg h]
    exact EvV.bind (varOf_ev (by decide) (by decide)) (EvP.ret rfl)

theorem bytesFor_ev {o t : Int} {hk : Bool} {ks : List Int} {hv : Bool} {vs : List Int} {bo bt : Int} (h : recOk o t hk ks hv vs = true) (hb : baseO bo bt = true) : EvV (fun k => impl_Record_bytesFor.f k o t hk ks hv vs bo bt) (recB o t hk ks hv vs bo bt) := by
  obtain ⟨h1, h2, h3, h4⟩ := recOk_iff.1 h
  obtain ⟨b1, b2⟩ := baseO_iff.1 hb
  have c1 := varL_len (fold (t - bt))
  have c2 := varL_len (fold (o - bo))
  have p1 := partB_len h3
  have p2 := partB_len h4
  have lb := bodyB_len (bo := bo) (bt := bt) h
  have lv := varL_len (fold ((bodyB o t hk ks hv vs bo bt).length : Int))
  unfold impl_Record_bytesFor.f recB
  rw [w64 (x := t - bt) (by omega) (by omega), w64 (x := o - bo) (by omega) (by omega)]
  refine EvV.bind (varOf_ev (by omega) (by omega)) (EvV.bind (varOf_ev (by omega) (by omega)) (EvP.pos (by omega) ?_))
  simp only [Option.bind_some]
  refine EvV.bind (partBytes_ev hk ks (by omega)) (EvP.pos (by simp only [List.length_append]; omega) (EvV.bind (partBytes_ev hv vs (by omega)) (EvP.pos (by simp only [List.length_append]; omega) ?_)))
  exact EvV.bind (varOf_ev (n := ((bodyB o t hk ks hv vs bo bt).length : Int)) (by omega) (by omega)) (EvP.pos (Nat.lt_of_le_of_lt (Nat.add_le_add lv.1 lb) (by decide)) (EvP.ret rfl))

theorem iRecordBytes_ev (o t : Int) (hk : Bool) (ks : List Int) (hv : Bool) (vs : List Int) (bo bt : Int) (h1 : ks.length ≤ 1000000000000000000) (h2 : vs.length ≤ 1000000000000000000) : EvV (fun k => impl_RecordBytes.f k o t hk ks hv vs bo bt) (recR o t hk ks hv vs bo bt) := by
  unfold impl_RecordBytes.f recR
  refine EvV.bind (iRecordValid_ev o t hk ks hv vs h1 h2) ?_
  simp only [baseValid_eq, Option.bind_some]
  refine EvP.ite (fun a => EvP.ite (fun b => ?_) (fun b => EvP.ret ?_)) (fun a => EvP.ret ?_)
  · rw [if_pos ⟨a, b⟩]; exact EvV.bind (bytesFor_ev a b) (EvP.ret rfl)
  · rw [if_neg (fun x => b x.2)]
  · rw [if_neg (fun x => a x.1)]

theorem l3Base_eq (o t : Int) : spec_l3Base.f o t = some (baseO o t) := by
  unfold spec_l3Base.f baseO
  simp only [l6In_eq, Option.bind_some]
  by_cases h : 0 ≤ o ∧ o ≤ 99999
  · rw [if_pos (by simpa using h)]; simp [h]
  · rw [if_neg (by simpa using h)]; simp [h]

theorem l3Put_ev (has : Bool) (xs : List Int) (hl : xs.length ≤ 1000) : EvV (fun k => spec_l3Put.f k has xs) (partB has xs) := by
  unfold spec_l3Put.f partB
  have L := varL_len (fold (xs.length : Int))
  refine EvP.ite (fun h => ?_) (fun h => ?_)
  · rw [if_pos h]
    exact EvV.bind (l1Bytes_ev (by omega) (by omega)) (EvP.pos (by omega) (EvP.ret rfl))
  · rw [if_neg h]
    exact EvV.bind (l1Bytes_ev (by decide) (by decide)) (EvP.ret rfl)

theorem l3Bytes_ev {o t : Int} {hk : Bool} {ks : List Int} {hv : Bool} {vs : List Int} {bo bt : Int} (h : recOk o t hk ks hv vs = true) (hb : baseO bo bt = true) : EvV (fun k => spec_l3Bytes.f k o t hk ks hv vs bo bt) (recB o t hk ks hv vs bo bt) := by
  obtain ⟨h1, h2, h3, h4⟩ := recOk_iff.1 h
  obtain ⟨b1, b2⟩ := baseO_iff.1 hb
  have c1 := varL_len (fold (t - bt))
  have c2 := varL_len (fold (o - bo))
  have p1 := partB_len h3
  have p2 := partB_len h4
  have lb := bodyB_len (bo := bo) (bt := bt) h
  have lv := varL_len (fold ((bodyB o t hk ks hv vs bo bt).length : Int))
  unfold spec_l3Bytes.f recB
  rw [w64 (x := t - bt) (by omega) (by omega), w64 (x := o - bo) (by omega) (by omega)]
  refine EvV.bind (l1Bytes_ev (by omega) (by omega)) (EvV.bind (l1Bytes_ev (by omega) (by omega)) (EvP.pos (by omega) ?_))
  simp only [Option.bind_some]
  refine EvV.bind (l3Put_ev hk ks (by omega)) (EvP.pos (by simp only [List.length_append]; omega) (EvV.bind (l3Put_ev hv vs (by omega)) (EvP.pos (by simp only [List.length_append]; omega) ?_)))
  exact EvV.bind (l1Bytes_ev (n := ((bodyB o t hk ks hv vs bo bt).length : Int)) (by omega) (by omega)) (EvP.pos (Nat.lt_of_le_of_lt (Nat.add_le_add lv.1 lb) (by decide)) (EvP.ret rfl))

theorem sRecordBytes_ev (o t : Int) (hk : Bool) (ks : List Int) (hv : Bool) (vs : List Int) (bo bt : Int) (h1 : ks.length ≤ 1000000000000000000) (h2 : vs.length ≤ 1000000000000000000) : EvV (fun k => spec_RecordBytes.f k o t hk ks hv vs bo bt) (recR o t hk ks hv vs bo bt) := by
  unfold spec_RecordBytes.f recR
  refine EvV.bind (sRecordValid_ev o t hk ks hv vs h1 h2) ?_
  simp only [l3Base_eq, Option.bind_some]
  refine EvP.ite (fun a => EvP.ite (fun b => ?_) (fun b => EvP.ret ?_)) (fun a => EvP.ret ?_)
  · rw [if_pos ⟨a, b⟩]; exact EvV.bind (l3Bytes_ev a b) (EvP.ret rfl)
  · rw [if_neg (fun x => b x.2)]
  · rw [if_neg (fun x => a x.1)]

theorem FnRecordShift : laws_FnRecordShift.Pure := by
  intro l _ _ hl
  refine EvP.done ?_
  unfold laws_FnRecordShift.f
  refine EvP.ite (fun _ => EvP.ret rfl) (fun _ => ?_)
  refine EvP.bind (drawRecordBytes_ev l hl) ?_
  rintro ⟨o, t, hk, ks, hv, vs, bo, bt⟩ ⟨h1, h2⟩
  dsimp only at h1 h2 ⊢
  have i := iRecordBytes_ev o t hk ks hv vs bo bt (by omega) (by omega)
  have s := sRecordBytes_ev o t hk ks hv vs bo bt (by omega) (by omega)
  have L := recR_len o t hk ks hv vs bo bt
  have q := sameInts_same (recR o t hk ks hv vs bo bt).1 (by omega)
  refine EvV.bind i (EvV.bind s (EvP.neg (by simp) (EvV.bind q (EvP.pos (by simp) ?_))))
  have skip : EvV (fun k => laws_FnRecordShift.j0 k bo bt (recR o t hk ks hv vs bo bt).1 (recR o t hk ks hv vs bo bt).2 (recR o t hk ks hv vs bo bt).1 (recR o t hk ks hv vs bo bt).2 true o t hk ks hv vs) true := by
    refine EvP.succ ?_
    simp only [laws_FnRecordShift.j0]
    exact EvP.pos (by simp) (EvP.pos (by simp) (EvV.bind q (EvP.ret rfl)))
  refine EvP.ite (fun ok => EvP.ite (fun _ => skip) (fun nb => ?_)) (fun _ => skip)
  by_cases c : recOk o t hk ks hv vs = true ∧ baseO bo bt = true
  · have e : recR o t hk ks hv vs bo bt = (recB o t hk ks hv vs bo bt, true) := by unfold recR; rw [if_pos c]
    by_cases no : o = 99999
    · rw [show (o == 99999) = true from by simp [no]]; exact skip
    · rw [show (o == 99999) = false from by simp [no]]
      obtain ⟨c1, c2, c3, c4⟩ := recOk_iff.1 c.1
      obtain ⟨b1, b2⟩ := baseO_iff.1 c.2
      have r1 : recOk (o + 1) t hk ks hv vs = true := recOk_iff.2 ⟨by omega, c2, c3, c4⟩
      have r2 : baseO (bo + 1) bt = true := baseO_iff.2 ⟨by omega, b2⟩
      have eb : recB (o + 1) t hk ks hv vs (bo + 1) bt = recB o t hk ks hv vs bo bt := by
        have : o + 1 - (bo + 1) = o - bo := by omega
        unfold recB bodyB
        rw [this]
      have i1 := (iRecordBytes_ev (o + 1) t hk ks hv vs (bo + 1) bt (by omega) (by omega)).to (w := (recB o t hk ks hv vs bo bt, true)) (by unfold recR; rw [if_pos ⟨r1, r2⟩, eb])
      rw [e] at q ⊢
      refine EvP.succ ?_
      simp only [laws_FnRecordShift.j0]
      rw [w64 (x := o + 1) (by omega) (by omega), w64 (x := bo + 1) (by omega) (by omega)]
      exact EvP.neg (by decide) (EvV.bind i1 (EvP.pos (by simp) (EvV.bind q (EvP.ret rfl))))
  · have e : (recR o t hk ks hv vs bo bt).2 = false := by unfold recR; rw [if_neg c]
    rw [e] at ok
    exact absurd ok (by decide)

end Go.Proofs.Ytdgpkjjclngamaa.Pure
