/- Of a valid message: with a time that is not its own, or with a missing value of one byte, it is not valid, at whatever message the code draws; there is no condition. -/
import Derived.Test.YtmpnedpokdaejaaQFnOldPartx4
import Derived.Test.YtmpnedpokdaejaaMath
import Derived.Test.YtmpnedpokdaejaaMath3
import Derived.Test.YtmpnedpokdaejaaMath4
set_option linter.unusedVariables false
set_option linter.unusedSimpArgs false
namespace Go.Proofs.Ytmpnedpokdaejaa.Pure
open Go.RowKit Go.Proofs.Ytmpnedpokdaejaa.QFnOldPart Go.Proofs.YtmpnedpokdaejaaW.PrintWords Go.Proofs.YtmpnedpokdaejaaW.PrintLast Go.Proofs.YtmpnedpokdaejaaW.PrintMore Go.Proofs.Ytmpnedpokdaejaa.M

theorem l6In_eq (a b c : Int) : spec_l6In.f a b c = some (decide (b ≤ a ∧ a ≤ c)) := by
  unfold spec_l6In.f
  by_cases h : a ≥ b
  · rw [if_pos h]; congr 1; simp only [decide_eq_decide]; omega
  · rw [if_neg h]; congr 1; symm; simp only [decide_eq_false_iff_not]; omega

theorem pick_ev {b : List Int} {p : Int} (hb : Rdr b p) (hp : p ≤ 1000000000) {n : Int} (hn : 1 ≤ n) (hn2 : n ≤ 1000000000) :
    EvP (fun k => spec_l6Rd_pick.f k b p n) (fun r => 0 ≤ r.1 ∧ r.1 < n ∧ r.2 = p + 1) := by
  obtain ⟨hl, hx, hp0⟩ := hb
  have w1 : wrap64 (p + 1) = p + 1 := w64 (by omega) (by omega)
  have w2 : wrap64 (p + 1 - 1) = p := by rw [w64 (by omega) (by omega)]; omega
  unfold spec_l6Rd_pick.f
  refine EvP.neg (by omega) ?_
  rw [w1]
  refine EvP.succ ?_
  simp only [spec_l6Rd_pick.j0, w2]
  refine EvP.ite (fun h => EvP.ret ⟨by omega, by omega, rfl⟩) (fun h => ?_)
  have hlen : ((b.length : Int) == 0) = false := by simpa using h
  have hne : ¬ (b.length : Int) = 0 := by simpa using hlen
  have tm : ∀ x : Int, 0 ≤ x → 0 ≤ Int.tmod x n ∧ Int.tmod x n < n := fun x hx => by
    rw [tmod_pos hx]; exact ⟨Int.emod_nonneg _ (by omega), Int.emod_lt_of_pos _ (by omega)⟩
  have rr : ∀ i, 0 ≤ rd b i ∧ rd b i ≤ 255 := rd_rng hx
  refine EvP.ite (fun h1 => ?_) (fun h1 => ?_)
  · refine EvP.pos hp0 (EvP.neg (by omega) (EvP.ret ?_))
    have := rr p
    have t := tm (wrap64 (rd b p)) (by rw [w64 (by omega) (by omega)]; omega)
    exact ⟨t.1, t.2, rfl⟩
  · have t1 : Int.tmod p (b.length : Int) = p % (b.length : Int) := tmod_pos hp0
    have w3 : wrap64 (wrap64 (p * 7) + 3) = p * 7 + 3 := by rw [w64 (x := p * 7) (by omega) (by omega), w64 (by omega) (by omega)]
    have t2 : Int.tmod (p * 7 + 3) (b.length : Int) = (p * 7 + 3) % (b.length : Int) := tmod_pos (by omega)
    have a1 := Int.emod_nonneg p hne
    have a2 := Int.emod_lt_of_pos p (by omega : 0 < (b.length : Int))
    have a3 := Int.emod_nonneg (p * 7 + 3) hne
    have a4 := Int.emod_lt_of_pos (p * 7 + 3) (by omega : 0 < (b.length : Int))
    have d1 : Int.tdiv p (b.length : Int) = p / (b.length : Int) := tdiv_pos hp0
    have d2 : 0 ≤ p / (b.length : Int) := Int.ediv_nonneg hp0 (by omega)
    have d3 : p / (b.length : Int) ≤ p := Int.ediv_le_self _ hp0
    simp only [w3, t1, t2, d1]
    refine EvP.neg hne (EvP.pos a1 (EvP.pos a2 (EvP.pos a3 (EvP.pos a4 (EvP.neg (by omega) (EvP.ret ?_))))))
    have r1 := rr (p % (b.length : Int))
    have r2 := rr ((p * 7 + 3) % (b.length : Int))
    generalize rd b (p % (b.length : Int)) = x1 at r1 ⊢
    generalize rd b ((p * 7 + 3) % (b.length : Int)) = x2 at r2 ⊢
    generalize p / (b.length : Int) = q at d2 d3 ⊢
    have wx : ∀ x : Int, 0 ≤ x → x ≤ 1000000000000 → wrap64 x = x := fun x h0 h1 => w64 (by omega) (by omega)
    have e : wrap64 (wrap64 (wrap64 (wrap64 (wrap64 x1 * 131) + wrap64 (wrap64 x2 * 1117)) + wrap64 (p * 29)) + wrap64 (wrap64 q * 53)) = x1 * 131 + x2 * 1117 + p * 29 + q * 53 := by
      rw [wx x1 (by omega) (by omega), wx x2 (by omega) (by omega), wx q (by omega) (by omega), wx (x1 * 131) (by omega) (by omega), wx (x2 * 1117) (by omega) (by omega), wx (p * 29) (by omega) (by omega), wx (q * 53) (by omega) (by omega),
        wx (x1 * 131 + x2 * 1117) (by omega) (by omega), wx (x1 * 131 + x2 * 1117 + p * 29) (by omega) (by omega), wx _ (by omega) (by omega)]
    rw [e]
    generalize hz : x1 * 131 + x2 * 1117 + p * 29 + q * 53 = z
    have z0 : 0 ≤ z := by omega
    have z1 : z ≤ 1000000000000 := by omega
    rw [tdiv_pos z0, wx (z / 64) (by omega) (by omega)]
    have t := tm _ (xor_nonneg (x := z) (y := z / 64) (by omega) (by omega) (by omega) (by omega))
    exact ⟨t.1, t.2, rfl⟩

theorem open_ev (l : List Int) (hl : ∀ x ∈ l, (Lit.int .u8 x).wf = true) : EvP (fun _ => spec_l6Open.f l) (fun r => Rdr r.1 r.2 ∧ r.2 = 0) := by
  have hx : ∀ x ∈ l, 0 ≤ x ∧ x ≤ 255 := fun x hx => wf_u8 (hl x hx)
  unfold spec_l6Open.f
  refine EvP.ite (fun h => ?_) (fun h => ?_)
  · refine EvP.pos (by omega) (EvP.ret ⟨⟨by simp; omega, fun x hm => hx x (List.mem_of_mem_take hm), Int.le_refl 0⟩, rfl⟩)
  · exact EvP.ret ⟨⟨by dsimp only; omega, hx, Int.le_refl 0⟩, rfl⟩

theorem l1Ok_l0 (xs : List Int) (hl : xs.length ≤ 1000000000000000000) (d : Nat) : ∀ j : Nat, j ≤ xs.length → xs.length - j = d → EvV (fun k => spec_l1Ok.l0 k xs (j : Int)) (allB (xs.drop j)) := by
  induction d with
  | zero =>
    intro j hj hd
    refine EvP.succ ?_
    simp only [spec_l1Ok.l0]
    rw [drop_end xs j (by omega)]
    exact EvP.neg (by omega) (EvP.ret rfl)
  | succ d ih =>
    intro j hj hd
    have hlt : j < xs.length := by omega
    refine EvP.succ ?_
    simp only [spec_l1Ok.l0, l6In_eq, Option.bind_some, rd_nat xs j hlt, w64_succ hlt hl]
    refine EvP.pos (by omega) (EvP.pos (by omega) ?_)
    rw [drop_cons xs j hlt]
    refine EvP.ite (fun h => ?_) (fun h => EvP.ret ?_)
    · have hb : isB xs[j] = true := h
      exact (ih (j + 1) (by omega) (by omega)).to (allB_cons_t hb)
    · have hb : isB xs[j] = false := by simpa [isB] using h
      exact allB_cons_f hb
theorem l1Ok_ev (xs : List Int) (hl : xs.length ≤ 1000000000000000000) : EvV (fun k => spec_l1Ok.f k xs) (allB xs) := by
  unfold spec_l1Ok.f; exact l1Ok_l0 xs hl xs.length 0 (by omega) (by omega)

theorem isByte_eq (x : Int) : impl_isByte.f x = some (isB x) := by
  unfold impl_isByte.f isB
  by_cases h : x ≥ 0
  · rw [if_pos h]; congr 1; simp only [decide_eq_decide]; omega
  · rw [if_neg h]; congr 1; symm; simp only [decide_eq_false_iff_not]; omega

theorem allBytes_l0 (xs : List Int) (hl : xs.length ≤ 1000000000000000000) (d : Nat) : ∀ j : Nat, j ≤ xs.length → xs.length - j = d → EvV (fun k => impl_allBytes.l0 k xs (xs.length : Int) (j : Int)) (allB (xs.drop j)) := by
  induction d with
  | zero =>
    intro j hj hd
    refine EvP.succ ?_
    simp only [impl_allBytes.l0]
    rw [drop_end xs j (by omega)]
    exact EvP.neg (by omega) (EvP.ret rfl)
  | succ d ih =>
    intro j hj hd
    have hlt : j < xs.length := by omega
    refine EvP.succ ?_
    simp only [impl_allBytes.l0, isByte_eq, Option.bind_some, rd_nat xs j hlt, w64_succ hlt hl]
    refine EvP.pos (by omega) (EvP.pos (by omega) (EvP.pos (by omega) ?_))
    rw [drop_cons xs j hlt]
    refine EvP.ite (fun h => ?_) (fun h => EvP.ret ?_)
    · exact (ih (j + 1) (by omega) (by omega)).to (allB_cons_t h)
    · exact allB_cons_f (by simpa using h)
theorem allBytes_ev (xs : List Int) (hl : xs.length ≤ 1000000000000000000) : EvV (fun k => impl_allBytes.f k xs) (allB xs) := by
  unfold impl_allBytes.f; exact allBytes_l0 xs hl xs.length 0 (by omega) (by omega)

theorem l91Part_ev {b : List Int} {p : Int} (hb : Rdr b p) (hp : p ≤ 10000000) :
    EvP (fun k => spec_l91Part.f k b p) (fun r => r.2.1.length ≤ 12 ∧ Rdr b r.2.2 ∧ r.2.2 ≤ p + 100) := by
  have hR : ∀ q : Int, p ≤ q → Rdr b q := fun q hq => ⟨hb.1, hb.2.1, by have := hb.2.2; omega⟩
  have key : ∀ (n : Int), n ≤ 12 → ∀ (d : Nat) (xs : List Int) (i q : Int), 0 ≤ i → n - i ≤ d → xs.length = i → i ≤ 12 → p ≤ q → q ≤ p + 10 + 2 * i → EvP (fun k => spec_l91Part.l0 k xs n i b q) (fun r => r.2.1.length ≤ 12 ∧ Rdr b r.2.2 ∧ r.2.2 ≤ p + 100) := by
    intro n hn d
    induction d with
    | zero =>
      intro xs i q hi hd hx hi2 hq0 hq
      refine EvP.succ ?_
      simp only [spec_l91Part.l0]
      exact EvP.neg (by omega) (EvP.ret ⟨by dsimp only; omega, hR _ (by dsimp only; omega), by dsimp only; omega⟩)
    | succ d ih =>
      intro xs i q hi hd hx hi2 hq0 hq
      refine EvP.succ ?_
      simp only [spec_l91Part.l0]
      refine EvP.ite (fun hlt => ?_) (fun _ => EvP.ret ⟨by dsimp only; omega, hR _ (by dsimp only; omega), by dsimp only; omega⟩)
      refine EvP.bind (pick_ev (hR q hq0) (by omega) (by decide) (by decide)) ?_
      rintro ⟨v, q1⟩ ⟨b1, b2, b3⟩
      dsimp only at b1 b2 b3 ⊢
      simp only [Option.bind_some]
      refine EvP.bind (pick_ev (hR q1 (by omega)) (by omega) (by decide) (by decide)) ?_
      rintro ⟨u, q2⟩ ⟨c1, c2, c3⟩
      dsimp only at c1 c2 c3 ⊢
      rw [w64 (x := i + 1) (by omega) (by omega)]
      exact EvP.pos c1 (EvP.pos (by simpa using c2) (EvP.pos (by omega) (ih _ (i + 1) q2 (by omega) (by omega) (by simp; omega) (by omega) (by omega) (by omega))))
  have hj : ∀ (n q : Int), n ≤ 12 → p ≤ q → q ≤ p + 10 → EvP (fun k => spec_l91Part.j0 k [] n b q) (fun r => r.2.1.length ≤ 12 ∧ Rdr b r.2.2 ∧ r.2.2 ≤ p + 100) := by
    intro n q hn hq0 hq
    refine EvP.succ ?_
    simp only [spec_l91Part.j0]
    exact key n hn n.toNat [] 0 q (by decide) (by omega) rfl (by decide) hq0 (by omega)
  unfold spec_l91Part.f
  refine EvP.bind (pick_ev hb (by omega) (by decide) (by decide)) ?_
  rintro ⟨v, q1⟩ ⟨a1, a2, a3⟩
  dsimp only at a1 a2 a3 ⊢
  refine EvP.ite (fun _ => EvP.ret ⟨by simp, hR _ (by dsimp only; omega), by dsimp only; omega⟩) (fun _ => ?_)
  simp only [Option.bind_some]
  refine EvP.bind (pick_ev (hR q1 (by omega)) (by omega) (by decide) (by decide)) ?_
  rintro ⟨u, q2⟩ ⟨b1, b2, b3⟩
  dsimp only at b1 b2 b3 ⊢
  refine EvP.bind (pick_ev (hR q2 (by omega)) (by omega) (by decide) (by decide)) ?_
  rintro ⟨w, q3⟩ ⟨c1, c2, c3⟩
  dsimp only at c1 c2 c3 ⊢
  exact EvP.ite (fun _ => hj _ _ (by decide) (by omega) (by omega)) (fun _ => hj _ _ (by omega) (by omega) (by omega))

theorem within_eq (a b c : Int) : impl_within.f a b c = some (decide (b ≤ a ∧ a ≤ c)) := by
  unfold impl_within.f
  by_cases h : a ≥ b
  · rw [if_pos h]; congr 1; simp only [decide_eq_decide]; omega
  · rw [if_neg h]; congr 1; symm; simp only [decide_eq_false_iff_not]; omega

theorem baseValid_eq (o t : Int) : impl_baseValid.f o t = some (baseO o t) := by
  unfold impl_baseValid.f baseO
  simp only [within_eq, Option.bind_some]
  by_cases h : 0 ≤ o ∧ o ≤ 99999
  · rw [if_pos (by simpa using h)]; simp [h]
  · rw [if_neg (by simpa using h)]; simp [h]

theorem partValid_ev (has : Bool) (xs : List Int) (hl : xs.length ≤ 1000000000000000000) : EvV (fun k => impl_partValid.f k has xs) (partOk has xs) := by
  unfold impl_partValid.f partOk
  refine EvP.ite (fun h => ?_) (fun h => EvP.ret ?_)
  · rw [if_pos h]
    refine EvP.ite (fun g => EvV.bind (allBytes_ev xs hl) (EvP.ret ?_)) (fun g => EvP.ret ?_)
    · simp [g]
    · simp [g]
  · rw [if_neg h, Bool.eq_iff_iff]
    simp only [decide_eq_true_eq, beq_iff_eq]

theorem iRecordValid_ev (o t : Int) (hk : Bool) (ks : List Int) (hv : Bool) (vs : List Int) (h1 : ks.length ≤ 1000000000000000000) (h2 : vs.length ≤ 1000000000000000000) : EvV (fun k => impl_RecordValid.f k o t hk ks hv vs) (recOk o t hk ks hv vs) := by
  unfold impl_RecordValid.f recOk
  simp only [baseValid_eq, baseO, Option.bind_some]
  refine EvP.ite (fun a => ?_) (fun a => EvP.ret ?_)
  · have a' := a
    simp only [Bool.and_eq_true, decide_eq_true_eq] at a'
    refine EvV.bind (partValid_ev hk ks h1) (EvP.ite (fun b => EvV.bind (partValid_ev hv vs h2) (EvP.ret ?_)) (fun b => EvP.ret ?_))
    · simp [a', b]
    · simp [a', b]
  · revert a
    cases decide (0 ≤ o ∧ o ≤ 99999) <;> cases decide (0 ≤ t ∧ t ≤ 99999) <;> simp

theorem l3Part_ev (has : Bool) (xs : List Int) (hl : xs.length ≤ 1000000000000000000) : EvV (fun k => spec_l3Part.f k has xs) (partOk has xs) := by
  unfold spec_l3Part.f partOk
  refine EvP.ite (fun h => ?_) (fun h => ?_)
  · rw [if_pos h]
    refine EvV.bind (l1Ok_ev xs hl) (EvP.ite (fun g => EvP.ret ?_) (fun g => EvP.ret ?_))
    · simp [g]
    · simp [g]
  · rw [if_neg h]
    refine EvP.ite (fun c => EvV.bind (l1Ok_ev xs hl) (EvP.ite (fun g => EvP.ret ?_) (fun g => EvP.ret ?_))) (fun c => EvP.ret ?_)
    · have : xs = [] := List.eq_nil_of_length_eq_zero (by omega)
      subst this; rfl
    · have : xs = [] := List.eq_nil_of_length_eq_zero (by omega)
      subst this; exact absurd rfl g
    · rw [decide_eq_false c]

theorem sRecordValid_ev (o t : Int) (hk : Bool) (ks : List Int) (hv : Bool) (vs : List Int) (h1 : ks.length ≤ 1000000000000000000) (h2 : vs.length ≤ 1000000000000000000) : EvV (fun k => spec_RecordValid.f k o t hk ks hv vs) (recOk o t hk ks hv vs) := by
  unfold spec_RecordValid.f recOk
  simp only [l6In_eq, Option.bind_some]
  refine EvP.ite (fun a => ?_) (fun a => EvP.ret (by simp [a]))
  refine EvP.ite (fun c => ?_) (fun c => EvP.ret (by simp [a, c]))
  refine EvV.bind (l3Part_ev hk ks h1) (EvP.ite (fun b => EvV.bind (l3Part_ev hv vs h2) (EvP.ret ?_)) (fun b => EvP.ret ?_))
  · rw [a, c, b]; rfl
  · have b' : partOk hk ks = false := by simpa using b
    rw [a, c, b']; rfl

/-- A valid message. -/
def oldOk (o : Int) (timed : Bool) (t : Int) (ks vs : List Int) (hk miss : Bool) : Bool := recOk o t hk ks (!miss) vs && (timed || decide (t = 0))
theorem iKept_eq (o : Int) (timed : Bool) (t : Int) (ks vs : List Int) (hk miss : Bool) (h1 : ks.length ≤ 1000000000000) (h2 : vs.length ≤ 1000000000000) : impl_Old_kept.f o timed t ks vs hk miss = some (o, t, hk, ks, !miss, vs) := by
  unfold impl_Old_kept.f slices_Clone_int_int.f
  rw [if_pos (by omega), if_pos (by omega)]
  rfl
theorem iOldValid_ev (o : Int) (timed : Bool) (t : Int) (ks vs : List Int) (hk miss : Bool) (h1 : ks.length ≤ 1000000000000) (h2 : vs.length ≤ 1000000000000) : EvV (fun k => impl_OldValid.f k o timed t ks vs hk miss) (oldOk o timed t ks vs hk miss) := by
  unfold impl_OldValid.f oldOk
  rw [iKept_eq o timed t ks vs hk miss h1 h2]
  simp only [Option.bind_some]
  exact EvV.bind (iRecordValid_ev o t hk ks (!miss) vs (by omega) (by omega)) (EvP.ret rfl)

theorem sKept_eq (o : Int) (timed : Bool) (t : Int) (ks vs : List Int) (hk miss : Bool) (h1 : ks.length ≤ 1000000000000) (h2 : vs.length ≤ 1000000000000) : spec_l11Record.f o timed t ks vs hk miss = some (o, t, hk, ks, !miss, vs) := by
  unfold spec_l11Record.f
  simp only [Option.bind_some, List.nil_append, List.length_nil, Nat.zero_add]
  rw [if_pos (by omega), if_pos (by omega)]
theorem sOldValid_ev (o : Int) (timed : Bool) (t : Int) (ks vs : List Int) (hk miss : Bool) (h1 : ks.length ≤ 1000000000000) (h2 : vs.length ≤ 1000000000000) : EvV (fun k => spec_OldValid.f k o timed t ks vs hk miss) (oldOk o timed t ks vs hk miss) := by
  unfold spec_OldValid.f oldOk
  rw [sKept_eq o timed t ks vs hk miss h1 h2]
  simp only [Option.bind_some]
  refine EvV.bind (sRecordValid_ev o t hk ks (!miss) vs (by omega) (by omega)) (EvP.ite (fun a => ?_) (fun a => EvP.ret ?_))
  · rw [a]
    refine EvP.ite (fun b => EvP.ret (by rw [b]; rfl)) (fun b => EvP.ret ?_)
    rw [Bool.eq_false_iff.2 b]
    rw [Bool.eq_iff_iff]; simp
  · rw [Bool.eq_false_iff.2 a]; rfl

theorem l91Old_ev {b : List Int} {p : Int} (hb : Rdr b p) (hp : p ≤ 1000000) (o : Int) :
    EvP (fun k => spec_l91Old.f k b p o) (fun r => r.2.2.2.1.length ≤ 12 ∧ r.2.2.2.2.1.length ≤ 12 ∧ (r.1 = o ∨ -1 ≤ r.1 ∧ r.1 ≤ 100000) ∧ 0 ≤ r.2.2.1 ∧ r.2.2.1 ≤ 100000 ∧ Rdr b r.2.2.2.2.2.2.2 ∧ r.2.2.2.2.2.2.2 ≤ p + 1000) := by
  have hR : ∀ q : Int, 0 ≤ q → Rdr b q := fun q hq => ⟨hb.1, hb.2.1, hq⟩
  have p0 := hb.2.2
  have j0 : ∀ (q : Int) (timed : Bool) (t : Int) (x y : Bool), 0 ≤ q → q ≤ p + 10 → 0 ≤ t → t ≤ 100000 → EvP (fun k => spec_l91Old.j0 k b q o timed t x y) (fun r => r.2.2.2.1.length ≤ 12 ∧ r.2.2.2.2.1.length ≤ 12 ∧ (r.1 = o ∨ -1 ≤ r.1 ∧ r.1 ≤ 100000) ∧ 0 ≤ r.2.2.1 ∧ r.2.2.1 ≤ 100000 ∧ Rdr b r.2.2.2.2.2.2.2 ∧ r.2.2.2.2.2.2.2 ≤ p + 1000) := by
    intro q timed t x y q0 q1 t0 t1
    refine EvP.succ ?_
    simp only [spec_l91Old.j0]
    refine EvP.bind (l91Part_ev (hR q q0) (by omega)) ?_
    rintro ⟨hk, ks, r1⟩ ⟨e1, e2, e3⟩
    dsimp only at e1 e2 e3 ⊢
    have e20 := e2.2.2
    refine EvP.bind (l91Part_ev e2 (by omega)) ?_
    rintro ⟨hv, vs, r2⟩ ⟨f1, f2, f3⟩
    dsimp only at f1 f2 f3 ⊢
    have f20 := f2.2.2
    refine EvP.bind (pick_ev f2 (by omega) (by decide) (by decide)) ?_
    rintro ⟨v, r3⟩ ⟨c1, c2, c3⟩
    dsimp only at c1 c2 c3 ⊢
    refine EvP.ite (fun _ => EvP.ret ⟨e1, f1, .inl rfl, t0, t1, hR _ (by dsimp only; omega), by dsimp only; omega⟩) (fun _ => EvP.ite (fun _ => ?_) (fun _ => EvP.ret ⟨e1, f1, .inl rfl, t0, t1, hR _ (by dsimp only; omega), by dsimp only; omega⟩))
    simp only [Option.bind_some]
    refine EvP.bind (pick_ev (hR r3 (by omega)) (by omega) (by decide) (by decide)) ?_
    rintro ⟨u, r4⟩ ⟨d1, d2, d3⟩
    dsimp only at d1 d2 d3 ⊢
    have hr : -1 ≤ rd [-1, 99999, 100000] u ∧ rd [-1, 99999, 100000] u ≤ 100000 := by
      have c : u = 0 ∨ u = 1 ∨ u = 2 := by omega
      rcases c with rfl | rfl | rfl <;> decide
    exact EvP.pos d1 (EvP.pos (by simpa using d2) (EvP.ret ⟨e1, f1, .inr hr, t0, t1, hR _ (by dsimp only; omega), by dsimp only; omega⟩))
  unfold spec_l91Old.f
  refine EvP.bind (pick_ev hb (by omega) (by decide) (by decide)) ?_
  rintro ⟨v1, q1⟩ ⟨a1, a2, a3⟩
  dsimp only at a1 a2 a3 ⊢
  refine EvP.ite (fun _ => ?_) (fun _ => j0 q1 _ _ _ _ (by omega) (by omega) (by decide) (by decide))
  refine EvP.bind (pick_ev (hR q1 (by omega)) (by omega) (by decide) (by decide)) ?_
  rintro ⟨v2, q2⟩ ⟨b1, b2, b3⟩
  dsimp only at b1 b2 b3 ⊢
  refine EvP.bind (pick_ev (hR q2 (by omega)) (by omega) (by decide) (by decide)) ?_
  rintro ⟨v3, q3⟩ ⟨c1, c2, c3⟩
  dsimp only at c1 c2 c3 ⊢
  have m3 : 0 ≤ v2 * (1 + v3 * 300) := Int.mul_nonneg b1 (by omega)
  have m4 : v2 * (1 + v3 * 300) ≤ 249 * 301 := Int.mul_le_mul (by omega) (by omega) (by omega) (by omega)
  rw [w64 (x := v3 * 300) (by omega) (by omega), w64 (x := 1 + v3 * 300) (by omega) (by omega)]
  generalize v2 * (1 + v3 * 300) = y at m3 m4 ⊢
  rw [w64 (x := y) (by omega) (by omega)]
  exact j0 q3 _ _ _ _ (by omega) (by omega) m3 (by omega)

theorem drawOldValid_ev (l : List Int) (hl : ∀ x ∈ l, (Lit.int .u8 x).wf = true) : EvP (fun k => spec_DrawOldValid.f k l) (fun r => r.2.2.2.1.length ≤ 12 ∧ r.2.2.2.2.1.length ≤ 12) := by
  unfold spec_DrawOldValid.f
  refine EvP.bind (open_ev l hl) ?_
  rintro ⟨b, p⟩ ⟨h, hp⟩
  obtain rfl : p = 0 := hp
  have hR : ∀ q : Int, 0 ≤ q → Rdr b q := fun q hq => ⟨h.1, h.2.1, hq⟩
  dsimp only at h ⊢
  refine EvP.bind (pick_ev h (by decide) (by decide) (by decide)) ?_
  rintro ⟨v, q⟩ ⟨a1, a2, a3⟩
  dsimp only at a1 a2 a3 ⊢
  refine EvP.bind (l91Old_ev (hR q (by omega)) (by omega) v) ?_
  rintro ⟨o, timed, t, ks, vs, hk, miss, q2⟩ ⟨h1, h2, _⟩
  exact EvP.ret ⟨h1, h2⟩

theorem FnOldPart : laws_FnOldPart.Pure := by
  intro l _ _ hl
  refine EvP.done ?_
  unfold laws_FnOldPart.f
  refine EvP.ite (fun _ => EvP.ret rfl) (fun _ => ?_)
  refine EvP.bind (drawOldValid_ev l hl) ?_
  rintro ⟨o, timed, t, ks, vs, hk, miss⟩ ⟨h1, h2⟩
  dsimp only at h1 h2 ⊢
  refine EvV.bind (iOldValid_ev o timed t ks vs hk miss (by omega) (by omega)) (EvV.bind (sOldValid_ev o timed t ks vs hk miss (by omega) (by omega)) (EvP.neg (by simp) (EvP.succ ?_)))
  simp only [laws_FnOldPart.j0]
  refine EvP.ite (fun _ => EvP.ret (by simp)) (fun _ => ?_)
  have x1 : oldOk o false 7 ks vs hk miss = false := by unfold oldOk; simp
  have x2 : oldOk o timed t ks [1] hk true = false := by
    unfold oldOk
    rw [Bool.and_eq_false_iff]; left
    rw [Bool.eq_false_iff]; intro h
    have := (recOk_iff.1 h).2.2.2
    simp [partOk] at this
  exact EvV.bind ((iOldValid_ev o false 7 ks vs hk miss (by omega) (by omega)).to x1) (EvP.neg (by simp) (EvV.bind ((iOldValid_ev o timed t ks [1] hk true (by omega) (by simp)).to x2) (EvP.ret rfl)))

end Go.Proofs.Ytmpnedpokdaejaa.Pure
