/- Each message of a list that makes a batch becomes its record, at whatever messages the code draws; there is no condition. -/
import Derived.Test.YtmpnedpokdaejaaQFnTurnx10
import Derived.Test.YtmpnedpokdaejaaMath
import Derived.Test.YtmpnedpokdaejaaMath2
import Derived.Test.YtmpnedpokdaejaaMath3
import Derived.Test.YtmpnedpokdaejaaMath4
import Derived.Test.YtmpnedpokdaejaaMath5
set_option linter.unusedVariables false
set_option linter.unusedSimpArgs false
namespace Go.Proofs.Ytmpnedpokdaejaa.Pure
open Go.RowKit Go.Proofs.Ytmpnedpokdaejaa.QFnTurn Go.Proofs.YtmpnedpokdaejaaW.PrintWords Go.Proofs.YtmpnedpokdaejaaW.PrintLast Go.Proofs.YtmpnedpokdaejaaW.PrintMore Go.Proofs.Ytmpnedpokdaejaa.M

theorem l6In_eq (a b c : Int) : spec_l6In.f a b c = some (decide (b ≤ a ∧ a ≤ c)) := by
  unfold spec_l6In.f
  by_cases h : a ≥ b
  · rw [if_pos h]; congr 1; simp only [decide_eq_decide]; omega
  · rw [if_neg h]; congr 1; symm; simp only [decide_eq_false_iff_not]; omega

theorem pick_ev {b : List Int} {p : Int} (hb : Rdr b p) (hp : p ≤ 1000000000) {n : Int} (hn : 1 ≤ n) (hn2 : n ≤ 1000000000) :
    EvP (fun k => spec_l6Rd_pick.f k b p n) (fun r => 0 ≤ r.1 ∧ r.1 < n ∧ r.2 = p + 1) := by
  obtain ⟨hl, hx, hp0⟩ := hb
  have w1 : wrap64 (p + 1) = p + 1 := w64 (by omega) (by omega)
  have w2 : wrap64 (p + 1 - 1) = p := by rw [w64 (by omega) (by omega)]; omega
  unfold spec_l6Rd_pick.f
  refine EvP.neg (by omega) ?_
  rw [w1]
  refine EvP.succ ?_
  simp only [spec_l6Rd_pick.j0, w2]
  refine EvP.ite (fun h => EvP.ret ⟨by omega, by omega, rfl⟩) (fun h => ?_)
  have hlen : ((b.length : Int) == 0) = false := by simpa using h
  have hne : ¬ (b.length : Int) = 0 := by simpa using hlen
  have tm : ∀ x : Int, 0 ≤ x → 0 ≤ Int.tmod x n ∧ Int.tmod x n < n := fun x hx => by
    rw [tmod_pos hx]; exact ⟨Int.emod_nonneg _ (by omega), Int.emod_lt_of_pos _ (by omega)⟩
  have rr : ∀ i, 0 ≤ rd b i ∧ rd b i ≤ 255 := rd_rng hx
  refine EvP.ite (fun h1 => ?_) (fun h1 => ?_)
  · refine EvP.pos hp0 (EvP.neg (by omega) (EvP.ret ?_))
    have := rr p
    have t := tm (wrap64 (rd b p)) (by rw [w64 (by omega) (by omega)]; omega)
    exact ⟨t.1, t.2, rfl⟩
  · have t1 : Int.tmod p (b.length : Int) = p % (b.length : Int) := tmod_pos hp0
    have w3 : wrap64 (wrap64 (p * 7) + 3) = p * 7 + 3 := by rw [w64 (x := p * 7) (by omega) (by omega), w64 (by omega) (by omega)]
    have t2 : Int.tmod (p * 7 + 3) (b.length : Int) = (p * 7 + 3) % (b.length : Int) := tmod_pos (by omega)
    have a1 := Int.emod_nonneg p hne
    have a2 := Int.emod_lt_of_pos p (by omega : 0 < (b.length : Int))
    have a3 := Int.emod_nonneg (p * 7 + 3) hne
    have a4 := Int.emod_lt_of_pos (p * 7 + 3) (by omega : 0 < (b.length : Int))
    have d1 : Int.tdiv p (b.length : Int) = p / (b.length : Int) := tdiv_pos hp0
    have d2 : 0 ≤ p / (b.length : Int) := Int.ediv_nonneg hp0 (by omega)
    have d3 : p / (b.length : Int) ≤ p := Int.ediv_le_self _ hp0
    simp only [w3, t1, t2, d1]
    refine EvP.neg hne (EvP.pos a1 (EvP.pos a2 (EvP.pos a3 (EvP.pos a4 (EvP.neg (by omega) (EvP.ret ?_))))))
    have r1 := rr (p % (b.length : Int))
    have r2 := rr ((p * 7 + 3) % (b.length : Int))
    generalize rd b (p % (b.length : Int)) = x1 at r1 ⊢
    generalize rd b ((p * 7 + 3) % (b.length : Int)) = x2 at r2 ⊢
    generalize p / (b.length : Int) = q at d2 d3 ⊢
    have wx : ∀ x : Int, 0 ≤ x → x ≤ 1000000000000 → wrap64 x = x := fun x h0 h1 => w64 (by omega) (by omega)
    have e : wrap64 (wrap64 (wrap64 (wrap64 (wrap64 x1 * 131) + wrap64 (wrap64 x2 * 1117)) + wrap64 (p * 29)) + wrap64 (wrap64 q * 53)) = x1 * 131 + x2 * 1117 + p * 29 + q * 53 := by
      rw [wx x1 (by omega) (by omega), wx x2 (by omega) (by omega), wx q (by omega) (by omega), wx (x1 * 131) (by omega) (by omega), wx (x2 * 1117) (by omega) (by omega), wx (p * 29) (by omega) (by omega), wx (q * 53) (by omega) (by omega),
        wx (x1 * 131 + x2 * 1117) (by omega) (by omega), wx (x1 * 131 + x2 * 1117 + p * 29) (by omega) (by omega), wx _ (by omega) (by omega)]
    rw [e]
    generalize hz : x1 * 131 + x2 * 1117 + p * 29 + q * 53 = z
    have z0 : 0 ≤ z := by omega
    have z1 : z ≤ 1000000000000 := by omega
    rw [tdiv_pos z0, wx (z / 64) (by omega) (by omega)]
    have t := tm _ (xor_nonneg (x := z) (y := z / 64) (by omega) (by omega) (by omega) (by omega))
    exact ⟨t.1, t.2, rfl⟩

theorem open_ev (l : List Int) (hl : ∀ x ∈ l, (Lit.int .u8 x).wf = true) : EvP (fun _ => spec_l6Open.f l) (fun r => Rdr r.1 r.2 ∧ r.2 = 0) := by
  have hx : ∀ x ∈ l, 0 ≤ x ∧ x ≤ 255 := fun x hx => wf_u8 (hl x hx)
  unfold spec_l6Open.f
  refine EvP.ite (fun h => ?_) (fun h => ?_)
  · refine EvP.pos (by omega) (EvP.ret ⟨⟨by simp; omega, fun x hm => hx x (List.mem_of_mem_take hm), Int.le_refl 0⟩, rfl⟩)
  · exact EvP.ret ⟨⟨by dsimp only; omega, hx, Int.le_refl 0⟩, rfl⟩

theorem l1Ok_l0 (xs : List Int) (hl : xs.length ≤ 1000000000000000000) (d : Nat) : ∀ j : Nat, j ≤ xs.length → xs.length - j = d → EvV (fun k => spec_l1Ok.l0 k xs (j : Int)) (allB (xs.drop j)) := by
  induction d with
  | zero =>
    intro j hj hd
    refine EvP.succ ?_
    simp only [spec_l1Ok.l0]
    rw [drop_end xs j (by omega)]
    exact EvP.neg (by omega) (EvP.ret rfl)
  | succ d ih =>
    intro j hj hd
    have hlt : j < xs.length := by omega
    refine EvP.succ ?_
    simp only [spec_l1Ok.l0, l6In_eq, Option.bind_some, rd_nat xs j hlt, w64_succ hlt hl]
    refine EvP.pos (by omega) (EvP.pos (by omega) ?_)
    rw [drop_cons xs j hlt]
    refine EvP.ite (fun h => ?_) (fun h => EvP.ret ?_)
    · have hb : isB xs[j] = true := h
      exact (ih (j + 1) (by omega) (by omega)).to (allB_cons_t hb)
    · have hb : isB xs[j] = false := by simpa [isB] using h
      exact allB_cons_f hb
theorem l1Ok_ev (xs : List Int) (hl : xs.length ≤ 1000000000000000000) : EvV (fun k => spec_l1Ok.f k xs) (allB xs) := by
  unfold spec_l1Ok.f; exact l1Ok_l0 xs hl xs.length 0 (by omega) (by omega)

theorem isByte_eq (x : Int) : impl_isByte.f x = some (isB x) := by
  unfold impl_isByte.f isB
  by_cases h : x ≥ 0
  · rw [if_pos h]; congr 1; simp only [decide_eq_decide]; omega
  · rw [if_neg h]; congr 1; symm; simp only [decide_eq_false_iff_not]; omega

theorem allBytes_l0 (xs : List Int) (hl : xs.length ≤ 1000000000000000000) (d : Nat) : ∀ j : Nat, j ≤ xs.length → xs.length - j = d → EvV (fun k => impl_allBytes.l0 k xs (xs.length : Int) (j : Int)) (allB (xs.drop j)) := by
  induction d with
  | zero =>
    intro j hj hd
    refine EvP.succ ?_
    simp only [impl_allBytes.l0]
    rw [drop_end xs j (by omega)]
    exact EvP.neg (by omega) (EvP.ret rfl)
  | succ d ih =>
    intro j hj hd
    have hlt : j < xs.length := by omega
    refine EvP.succ ?_
    simp only [impl_allBytes.l0, isByte_eq, Option.bind_some, rd_nat xs j hlt, w64_succ hlt hl]
    refine EvP.pos (by omega) (EvP.pos (by omega) (EvP.pos (by omega) ?_))
    rw [drop_cons xs j hlt]
    refine EvP.ite (fun h => ?_) (fun h => EvP.ret ?_)
    · exact (ih (j + 1) (by omega) (by omega)).to (allB_cons_t h)
    · exact allB_cons_f (by simpa using h)
theorem allBytes_ev (xs : List Int) (hl : xs.length ≤ 1000000000000000000) : EvV (fun k => impl_allBytes.f k xs) (allB xs) := by
  unfold impl_allBytes.f; exact allBytes_l0 xs hl xs.length 0 (by omega) (by omega)

theorem sameInts_l0 (xs ys : List Int) (he : xs.length = ys.length) (hl : xs.length ≤ 1000000000000000000) (d : Nat) : ∀ j : Nat, j ≤ xs.length → xs.length - j = d → EvV (fun k => laws_sameInts.l0 k xs ys (j : Int)) (decide (xs.drop j = ys.drop j)) := by
  induction d with
  | zero =>
    intro j hj hd
    refine EvP.succ ?_
    simp only [laws_sameInts.l0]
    rw [drop_end xs j (by omega), drop_end ys j (by omega)]
    exact EvP.neg (by omega) (EvP.ret (by simp))
  | succ d ih =>
    intro j hj hd
    have hlt : j < xs.length := by omega
    have hlt2 : j < ys.length := by omega
    refine EvP.succ ?_
    simp only [laws_sameInts.l0, rd_nat xs j hlt, rd_nat ys j hlt2, w64_succ hlt hl]
    refine EvP.pos (by omega) (EvP.pos (by omega) (EvP.pos (by omega) ?_))
    rw [drop_cons xs j hlt, drop_cons ys j hlt2]
    refine EvP.ite (fun h => ?_) (fun h => EvP.ret ?_)
    · exact (ih (j + 1) (by omega) (by omega)).to (dec_cons_t h)
    · exact dec_cons_f h
theorem sameInts_ev (xs ys : List Int) (hl : xs.length ≤ 1000000000000000000) : EvV (fun k => laws_sameInts.f k xs ys) (decide (xs = ys)) := by
  unfold laws_sameInts.f
  refine EvP.ite (fun h => ?_) (fun h => EvP.ret ?_)
  · exact sameInts_l0 xs ys (by omega) hl xs.length 0 (by omega) (by omega)
  · have : ¬ xs = ys := by rintro rfl; exact h rfl
    simp [this]
theorem sameInts_same (xs : List Int) (hl : xs.length ≤ 1000000000000000000) : EvV (fun k => laws_sameInts.f k xs xs) true := (sameInts_ev xs xs hl).to (by simp)

theorem l91Part_ev {b : List Int} {p : Int} (hb : Rdr b p) (hp : p ≤ 10000000) :
    EvP (fun k => spec_l91Part.f k b p) (fun r => r.2.1.length ≤ 12 ∧ Rdr b r.2.2 ∧ r.2.2 ≤ p + 100) := by
  have hR : ∀ q : Int, p ≤ q → Rdr b q := fun q hq => ⟨hb.1, hb.2.1, by have := hb.2.2; omega⟩
  have key : ∀ (n : Int), n ≤ 12 → ∀ (d : Nat) (xs : List Int) (i q : Int), 0 ≤ i → n - i ≤ d → xs.length = i → i ≤ 12 → p ≤ q → q ≤ p + 10 + 2 * i → EvP (fun k => spec_l91Part.l0 k xs n i b q) (fun r => r.2.1.length ≤ 12 ∧ Rdr b r.2.2 ∧ r.2.2 ≤ p + 100) := by
    intro n hn d
    induction d with
    | zero =>
      intro xs i q hi hd hx hi2 hq0 hq
      refine EvP.succ ?_
      simp only [spec_l91Part.l0]
      exact EvP.neg (by omega) (EvP.ret ⟨by dsimp only; omega, hR _ (by dsimp only; omega), by dsimp only; omega⟩)
    | succ d ih =>
      intro xs i q hi hd hx hi2 hq0 hq
      refine EvP.succ ?_
      simp only [spec_l91Part.l0]
      refine EvP.ite (fun hlt => ?_) (fun _ => EvP.ret ⟨by dsimp only; omega, hR _ (by dsimp only; omega), by dsimp only; omega⟩)
      refine EvP.bind (pick_ev (hR q hq0) (by omega) (by decide) (by decide)) ?_
      rintro ⟨v, q1⟩ ⟨b1, b2, b3⟩
      dsimp only at b1 b2 b3 ⊢
      simp only [Option.bind_some]
      refine EvP.bind (pick_ev (hR q1 (by omega)) (by omega) (by decide) (by decide)) ?_
      rintro ⟨u, q2⟩ ⟨c1, c2, c3⟩
      dsimp only at c1 c2 c3 ⊢
      rw [w64 (x := i + 1) (by omega) (by omega)]
      exact EvP.pos c1 (EvP.pos (by simpa using c2) (EvP.pos (by omega) (ih _ (i + 1) q2 (by omega) (by omega) (by simp; omega) (by omega) (by omega) (by omega))))
  have hj : ∀ (n q : Int), n ≤ 12 → p ≤ q → q ≤ p + 10 → EvP (fun k => spec_l91Part.j0 k [] n b q) (fun r => r.2.1.length ≤ 12 ∧ Rdr b r.2.2 ∧ r.2.2 ≤ p + 100) := by
    intro n q hn hq0 hq
    refine EvP.succ ?_
    simp only [spec_l91Part.j0]
    exact key n hn n.toNat [] 0 q (by decide) (by omega) rfl (by decide) hq0 (by omega)
  unfold spec_l91Part.f
  refine EvP.bind (pick_ev hb (by omega) (by decide) (by decide)) ?_
  rintro ⟨v, q1⟩ ⟨a1, a2, a3⟩
  dsimp only at a1 a2 a3 ⊢
  refine EvP.ite (fun _ => EvP.ret ⟨by simp, hR _ (by dsimp only; omega), by dsimp only; omega⟩) (fun _ => ?_)
  simp only [Option.bind_some]
  refine EvP.bind (pick_ev (hR q1 (by omega)) (by omega) (by decide) (by decide)) ?_
  rintro ⟨u, q2⟩ ⟨b1, b2, b3⟩
  dsimp only at b1 b2 b3 ⊢
  refine EvP.bind (pick_ev (hR q2 (by omega)) (by omega) (by decide) (by decide)) ?_
  rintro ⟨w, q3⟩ ⟨c1, c2, c3⟩
  dsimp only at c1 c2 c3 ⊢
  exact EvP.ite (fun _ => hj _ _ (by decide) (by omega) (by omega)) (fun _ => hj _ _ (by omega) (by omega) (by omega))

theorem within_eq (a b c : Int) : impl_within.f a b c = some (decide (b ≤ a ∧ a ≤ c)) := by
  unfold impl_within.f
  by_cases h : a ≥ b
  · rw [if_pos h]; congr 1; simp only [decide_eq_decide]; omega
  · rw [if_neg h]; congr 1; symm; simp only [decide_eq_false_iff_not]; omega

theorem baseValid_eq (o t : Int) : impl_baseValid.f o t = some (baseO o t) := by
  unfold impl_baseValid.f baseO
  simp only [within_eq, Option.bind_some]
  by_cases h : 0 ≤ o ∧ o ≤ 99999
  · rw [if_pos (by simpa using h)]; simp [h]
  · rw [if_neg (by simpa using h)]; simp [h]

theorem partValid_ev (has : Bool) (xs : List Int) (hl : xs.length ≤ 1000000000000000000) : EvV (fun k => impl_partValid.f k has xs) (partOk has xs) := by
  unfold impl_partValid.f partOk
  refine EvP.ite (fun h => ?_) (fun h => EvP.ret ?_)
  · rw [if_pos h]
    refine EvP.ite (fun g => EvV.bind (allBytes_ev xs hl) (EvP.ret ?_)) (fun g => EvP.ret ?_)
    · simp [g]
    · simp [g]
  · rw [if_neg h, Bool.eq_iff_iff]
    simp only [decide_eq_true_eq, beq_iff_eq]

theorem iRecordValid_ev (o t : Int) (hk : Bool) (ks : List Int) (hv : Bool) (vs : List Int) (h1 : ks.length ≤ 1000000000000000000) (h2 : vs.length ≤ 1000000000000000000) : EvV (fun k => impl_RecordValid.f k o t hk ks hv vs) (recOk o t hk ks hv vs) := by
  unfold impl_RecordValid.f recOk
  simp only [baseValid_eq, baseO, Option.bind_some]
  refine EvP.ite (fun a => ?_) (fun a => EvP.ret ?_)
  · have a' := a
    simp only [Bool.and_eq_true, decide_eq_true_eq] at a'
    refine EvV.bind (partValid_ev hk ks h1) (EvP.ite (fun b => EvV.bind (partValid_ev hv vs h2) (EvP.ret ?_)) (fun b => EvP.ret ?_))
    · simp [a', b]
    · simp [a', b]
  · revert a
    cases decide (0 ≤ o ∧ o ≤ 99999) <;> cases decide (0 ≤ t ∧ t ≤ 99999) <;> simp

theorem l3Part_ev (has : Bool) (xs : List Int) (hl : xs.length ≤ 1000000000000000000) : EvV (fun k => spec_l3Part.f k has xs) (partOk has xs) := by
  unfold spec_l3Part.f partOk
  refine EvP.ite (fun h => ?_) (fun h => ?_)
  · rw [if_pos h]
    refine EvV.bind (l1Ok_ev xs hl) (EvP.ite (fun g => EvP.ret ?_) (fun g => EvP.ret ?_))
    · simp [g]
    · simp [g]
  · rw [if_neg h]
    refine EvP.ite (fun c => EvV.bind (l1Ok_ev xs hl) (EvP.ite (fun g => EvP.ret ?_) (fun g => EvP.ret ?_))) (fun c => EvP.ret ?_)
    · have : xs = [] := List.eq_nil_of_length_eq_zero (by omega)
      subst this; rfl
    · have : xs = [] := List.eq_nil_of_length_eq_zero (by omega)
      subst this; exact absurd rfl g
    · rw [decide_eq_false c]

theorem sRecordValid_ev (o t : Int) (hk : Bool) (ks : List Int) (hv : Bool) (vs : List Int) (h1 : ks.length ≤ 1000000000000000000) (h2 : vs.length ≤ 1000000000000000000) : EvV (fun k => spec_RecordValid.f k o t hk ks hv vs) (recOk o t hk ks hv vs) := by
  unfold spec_RecordValid.f recOk
  simp only [l6In_eq, Option.bind_some]
  refine EvP.ite (fun a => ?_) (fun a => EvP.ret (by simp [a]))
  refine EvP.ite (fun c => ?_) (fun c => EvP.ret (by simp [a, c]))
  refine EvV.bind (l3Part_ev hk ks h1) (EvP.ite (fun b => EvV.bind (l3Part_ev hv vs h2) (EvP.ret ?_)) (fun b => EvP.ret ?_))
  · rw [a, c, b]; rfl
  · have b' : partOk hk ks = false := by simpa using b
    rw [a, c, b']; rfl

def toM (x : S57) : RecM := ⟨x.f0, x.f1, x.f2, x.f3, x.f4, x.f5⟩
def SmallR (L : List S57) : Prop := ∀ x ∈ L, x.f3.length ≤ 1000000000000 ∧ x.f5.length ≤ 1000000000000
def prevO (L : List S57) (j : Nat) : Option Int := if j = 0 then none else some (rd_T57 L ((j : Int) - 1)).f0
theorem rdT_nat (L : List S57) (j : Nat) (h : j < L.length) : rd_T57 L (j : Int) = L[j] := by
  unfold rd_T57; simp [List.getD_eq_getElem?_getD, h]
theorem l5Records_l0 (L : List S57) (hs : SmallR L) (hl : L.length ≤ 1000000000000) (d : Nat) : ∀ j : Nat, j ≤ L.length → L.length - j = d → EvV (fun k => spec_l5Records.l0 k L (j : Int)) (ascF (prevO L j) ((L.drop j).map toM) && decide (1 ≤ (L.length : Int) ∧ (L.length : Int) ≤ 6)) := by
  induction d with
  | zero =>
    intro j hj hd
    refine EvP.succ ?_
    simp only [spec_l5Records.l0, l6In_eq, Option.bind_some]
    rw [drop_end L j (by omega)]
    exact EvP.neg (by omega) (EvP.ret (by simp [ascF]))
  | succ d ih =>
    intro j hj hd
    have hlt : j < L.length := by omega
    have hx := hs L[j] (List.getElem_mem hlt)
    have e : rd_T57 L (j : Int) = L[j] := rdT_nat L j hlt
    refine EvP.succ ?_
    simp only [spec_l5Records.l0, e, w64_succ hlt (by omega : L.length ≤ 1000000000000000000)]
    rw [List.drop_eq_getElem_cons hlt, List.map_cons]
    refine EvP.pos (by omega) (EvP.pos (by omega) (EvV.bind (sRecordValid_ev _ _ _ _ _ _ (by omega) (by omega)) ?_))
    have hp : prevO L (j + 1) = some (toM L[j]).o := by
      unfold prevO
      rw [if_neg (by omega)]
      have : ((j + 1 : Nat) : Int) - 1 = (j : Int) := by omega
      rw [this, e]; rfl
    have next := ih (j + 1) (by omega) (by omega)
    rw [hp] at next
    refine EvP.ite (fun ok => ?_) (fun ok => EvP.ret ?_)
    · have ok' : (toM L[j]).ok = true := ok
      refine EvP.ite (fun hpos => ?_) (fun hpos => ?_)
      · have wj : wrap64 ((j : Int) - 1) = (j : Int) - 1 := w64 (by omega) (by omega)
        rw [wj]
        have hq : prevO L j = some (rd_T57 L ((j : Int) - 1)).f0 := by unfold prevO; rw [if_neg (by omega)]
        rw [hq]
        refine EvP.pos (by omega) (EvP.pos (by omega) (EvP.ite (fun g => EvP.ret ?_) (fun g => ?_)))
        · have : ¬ (rd_T57 L ((j : Int) - 1)).f0 < (toM L[j]).o := by show ¬ (_ < L[j].f0); omega
          simp [ascF, this]
        · have : (rd_T57 L ((j : Int) - 1)).f0 < (toM L[j]).o := by show _ < L[j].f0; omega
          exact next.to (by simp [ascF, ok', this])
      · have hq : prevO L j = none := by unfold prevO; rw [if_pos (by omega)]
        rw [hq]
        exact next.to (by simp [ascF, ok'])
    · have ok' : (toM L[j]).ok = false := Bool.eq_false_iff.mpr ok
      simp [ascF, ok']
theorem l5Records_ev (L : List S57) (hs : SmallR L) (hl : L.length ≤ 1000000000000) : EvV (fun k => spec_l5Records.f k L) (ascF none (L.map toM) && decide (1 ≤ (L.length : Int) ∧ (L.length : Int) ≤ 6)) := by
  unfold spec_l5Records.f
  exact l5Records_l0 L hs hl L.length 0 (by omega) (by omega)

theorem sBatchValid_ev (pk mark : Bool) (prod ep seq : Int) (L : List S57) (hs : SmallR L) (hl : L.length ≤ 1000000000000) : EvV (fun k => spec_BatchValid.f k pk mark prod ep seq L) (batOk mark prod ep seq (L.map toM)) := by
  have no : batOk mark prod ep seq (L.map toM) = false → EvV (fun k => spec_BatchValid.j0 k true pk mark prod ep seq L) (batOk mark prod ep seq (L.map toM)) := by
    intro h
    rw [h]
    refine EvP.succ ?_
    simp only [spec_BatchValid.j0]
    exact EvP.pos (by simp) (EvP.ret rfl)
  unfold spec_BatchValid.f
  refine EvV.bind (l5Records_ev L hs hl) ?_
  simp only [l6In_eq, Option.bind_some]
  have hlen : (L.map toM).length = L.length := by simp
  refine EvP.ite (fun a => ?_) (fun a => no ?_)
  · simp only [Bool.and_eq_true] at a
    refine EvP.ite (fun b => ?_) (fun b => no ?_)
    · refine EvP.ite (fun c => ?_) (fun c => no ?_)
      · by_cases e : decide (0 ≤ seq ∧ seq ≤ 9999) = true
        · rw [e]
          refine EvP.succ ?_
          simp only [spec_BatchValid.j0]
          have key : batOk mark prod ep seq (L.map toM) = ((if prod = 255 then decide (ep = 0) && (decide (seq = 0) && !mark) else true) && (!mark || decide ((L.length : Int) = 1))) := by
            unfold batOk manyOk
            rw [hlen, ← headOk_same, b, c, e, a.1, a.2]
            simp
          rw [key]
          refine EvP.neg (by decide) (EvP.ite (fun f => ?_) (fun f => ?_))
          · rw [if_pos f]
            refine EvP.ite (fun g => EvP.ite (fun h => EvP.ret ?_) (fun h => EvP.ret ?_)) (fun g => EvP.ret ?_)
            · cases mark <;> simp [g, h]
            · simp [h]
            · simp [g]
          · rw [if_neg f]
            refine EvP.ite (fun g => EvP.ret ?_) (fun g => EvP.ret ?_)
            · rw [g, Bool.eq_iff_iff]; simp
            · simp [g]
        · have e' : decide (0 ≤ seq ∧ seq ≤ 9999) = false := by simpa using e
          rw [e']
          refine no ?_
          unfold batOk; rw [← headOk_same, e']; simp
      · have c' : decide (0 ≤ ep ∧ ep ≤ 99) = false := by simpa using c
        unfold batOk; rw [← headOk_same, c']; simp
    · have b' : decide (0 ≤ prod ∧ prod ≤ 255) = false := by simpa using b
      unfold batOk; rw [← headOk_same, b']; simp
  · unfold batOk manyOk
    rw [hlen]
    revert a
    cases ascF none (L.map toM) <;> cases decide (1 ≤ (L.length : Int) ∧ (L.length : Int) ≤ 6) <;> simp

theorem idValid_eq (a : Int) : impl_idValid.f a = some (decide (0 ≤ a ∧ a ≤ 254)) := by
  unfold impl_idValid.f; rw [within_eq]; rfl

theorem ibv_l0 (L : List S57) (pk mark : Bool) (prod ep seq : Int) (hs : SmallR L) (hl : L.length ≤ 1000000000000) (d : Nat) : ∀ j : Nat, j ≤ L.length → L.length - j = d → EvV (fun k => impl_BatchValid.l0 k L (L.length : Int) (j : Int) pk mark prod ep seq L) (ascF (prevO L j) ((L.drop j).map toM)) := by
  induction d with
  | zero =>
    intro j hj hd
    refine EvP.succ ?_
    simp only [impl_BatchValid.l0]
    rw [drop_end L j (by omega)]
    exact EvP.neg (by omega) (EvP.ret (by simp [ascF]))
  | succ d ih =>
    intro j hj hd
    have hlt : j < L.length := by omega
    have hx := hs L[j] (List.getElem_mem hlt)
    have e : rd_T57 L (j : Int) = L[j] := rdT_nat L j hlt
    refine EvP.succ ?_
    simp only [impl_BatchValid.l0, e, w64_succ hlt (by omega : L.length ≤ 1000000000000000000)]
    rw [List.drop_eq_getElem_cons hlt, List.map_cons]
    refine EvP.pos (by omega) (EvP.pos (by omega) (EvP.pos (by omega) (EvV.bind (iRecordValid_ev _ _ _ _ _ _ (by omega) (by omega)) ?_)))
    have hp : prevO L (j + 1) = some (toM L[j]).o := by
      unfold prevO
      rw [if_neg (by omega)]
      have : ((j + 1 : Nat) : Int) - 1 = (j : Int) := by omega
      rw [this, e]; rfl
    have next := ih (j + 1) (by omega) (by omega)
    rw [hp] at next
    refine EvP.ite (fun ok => ?_) (fun ok => EvP.ret ?_)
    · have ok' : (toM L[j]).ok = true := ok
      refine EvP.ite (fun hpos => ?_) (fun hpos => ?_)
      · have wj : wrap64 ((j : Int) - 1) = (j : Int) - 1 := w64 (by omega) (by omega)
        rw [wj]
        have hq : prevO L j = some (rd_T57 L ((j : Int) - 1)).f0 := by unfold prevO; rw [if_neg (by omega)]
        rw [hq]
        refine EvP.pos (by omega) (EvP.pos (by omega) (EvP.ite (fun g => EvP.ret ?_) (fun g => ?_)))
        · have : ¬ (rd_T57 L ((j : Int) - 1)).f0 < (toM L[j]).o := by show ¬ (_ < L[j].f0); omega
          simp [ascF, this]
        · have : (rd_T57 L ((j : Int) - 1)).f0 < (toM L[j]).o := by show _ < L[j].f0; omega
          exact next.to (by simp [ascF, ok', this])
      · have hq : prevO L j = none := by unfold prevO; rw [if_pos (by omega)]
        rw [hq]
        exact next.to (by simp [ascF, ok'])
    · have ok' : (toM L[j]).ok = false := Bool.eq_false_iff.mpr ok
      simp [ascF, ok']
theorem iBatchValid_ev (pk mark : Bool) (prod ep seq : Int) (L : List S57) (hs : SmallR L) (hl : L.length ≤ 1000000000000) : EvV (fun k => impl_BatchValid.f k pk mark prod ep seq L) (batOk mark prod ep seq (L.map toM)) := by
  have hlen : (L.map toM).length = L.length := by simp
  have j1 : ∀ b : Bool, EvV (fun k => impl_BatchValid.j1 k b pk mark prod ep seq L) (!b && ascF none (L.map toM)) := by
    intro b
    refine EvP.succ ?_
    simp only [impl_BatchValid.j1]
    refine EvP.ite (fun h => EvP.ret (by simp [h])) (fun h => ?_)
    have hb : b = false := by simpa using h
    rw [hb]
    exact ibv_l0 L pk mark prod ep seq hs hl L.length 0 (by omega) (by omega)
  have j0 : headOk mark prod ep seq = true → EvV (fun k => impl_BatchValid.j0 k pk mark prod ep seq L) (batOk mark prod ep seq (L.map toM)) := by
    intro hh
    have key : batOk mark prod ep seq (L.map toM) = (decide (1 ≤ (L.length : Int) ∧ (L.length : Int) ≤ 6) && ((!mark || decide ((L.length : Int) = 1)) && ascF none (L.map toM))) := by
      unfold batOk manyOk
      rw [hlen, hh]; simp [Bool.and_assoc]
    rw [key]
    refine EvP.succ ?_
    simp only [impl_BatchValid.j0, within_eq, Option.bind_some]
    refine EvP.ite (fun a => EvP.ite (fun m => ?_) (fun m => ?_)) (fun a => ?_)
    · subst m
      rw [a]
      refine (j1 _).to ?_
      have : (!((L.length : Int) != 1)) = decide ((L.length : Int) = 1) := by rw [Bool.eq_iff_iff]; simp
      rw [this]; simp
    · have m' : mark = false := by simpa using m
      subst m'
      rw [a]
      exact (j1 false).to (by simp)
    · have a' : decide (1 ≤ (L.length : Int) ∧ (L.length : Int) ≤ 6) = false := by simpa using a
      rw [a']
      exact (j1 true).to (by simp)
  have no : headOk mark prod ep seq = false → batOk mark prod ep seq (L.map toM) = false := fun h => by unfold batOk; rw [h]; rfl
  unfold impl_BatchValid.f
  simp only [idValid_eq, within_eq, Option.bind_some]
  refine EvP.ite (fun a => ?_) (fun a => ?_)
  · have hd : headOk mark prod ep seq = (decide (ep = 0) && (decide (seq = 0) && !mark)) := by unfold headOk; rw [if_pos a]
    refine EvP.ite (fun b => EvP.ite (fun c => EvP.ite (fun m => EvP.ret ?_) (fun m => j0 ?_)) (fun c => EvP.ret ?_)) (fun b => EvP.ret ?_)
    · rw [no (by rw [hd, m]; simp)]
    · rw [hd]; simp [b, c, m]
    · rw [no (by rw [hd]; simp [c])]
    · rw [no (by rw [hd]; simp [b])]
  · have hd : headOk mark prod ep seq = (decide (0 ≤ prod ∧ prod ≤ 254) && (decide (0 ≤ ep ∧ ep ≤ 99) && decide (0 ≤ seq ∧ seq ≤ 9999))) := by unfold headOk; rw [if_neg a]
    refine EvP.ite (fun b => EvP.ite (fun c => EvP.ite (fun e => j0 ?_) (fun e => EvP.ret ?_)) (fun c => EvP.ret ?_)) (fun b => EvP.ret ?_)
    · rw [hd, b, c, e]; rfl
    · have e' : decide (0 ≤ seq ∧ seq ≤ 9999) = false := by simpa using e
      rw [no (by rw [hd, e']; simp)]
    · have c' : decide (0 ≤ ep ∧ ep ≤ 99) = false := by simpa using c
      rw [no (by rw [hd, c']; simp)]
    · have b' : decide (0 ≤ prod ∧ prod ≤ 254) = false := by simpa using b
      rw [no (by rw [hd, b']; simp)]

/-- A valid message. -/
def oldOk (o : Int) (timed : Bool) (t : Int) (ks vs : List Int) (hk miss : Bool) : Bool := recOk o t hk ks (!miss) vs && (timed || decide (t = 0))
theorem iKept_eq (o : Int) (timed : Bool) (t : Int) (ks vs : List Int) (hk miss : Bool) (h1 : ks.length ≤ 1000000000000) (h2 : vs.length ≤ 1000000000000) : impl_Old_kept.f o timed t ks vs hk miss = some (o, t, hk, ks, !miss, vs) := by
  unfold impl_Old_kept.f slices_Clone_int_int.f
  rw [if_pos (by omega), if_pos (by omega)]
  rfl
theorem iOldValid_ev (o : Int) (timed : Bool) (t : Int) (ks vs : List Int) (hk miss : Bool) (h1 : ks.length ≤ 1000000000000) (h2 : vs.length ≤ 1000000000000) : EvV (fun k => impl_OldValid.f k o timed t ks vs hk miss) (oldOk o timed t ks vs hk miss) := by
  unfold impl_OldValid.f oldOk
  rw [iKept_eq o timed t ks vs hk miss h1 h2]
  simp only [Option.bind_some]
  exact EvV.bind (iRecordValid_ev o t hk ks (!miss) vs (by omega) (by omega)) (EvP.ret rfl)

theorem sKept_eq (o : Int) (timed : Bool) (t : Int) (ks vs : List Int) (hk miss : Bool) (h1 : ks.length ≤ 1000000000000) (h2 : vs.length ≤ 1000000000000) : spec_l11Record.f o timed t ks vs hk miss = some (o, t, hk, ks, !miss, vs) := by
  unfold spec_l11Record.f
  simp only [Option.bind_some, List.nil_append, List.length_nil, Nat.zero_add]
  rw [if_pos (by omega), if_pos (by omega)]
theorem sOldValid_ev (o : Int) (timed : Bool) (t : Int) (ks vs : List Int) (hk miss : Bool) (h1 : ks.length ≤ 1000000000000) (h2 : vs.length ≤ 1000000000000) : EvV (fun k => spec_OldValid.f k o timed t ks vs hk miss) (oldOk o timed t ks vs hk miss) := by
  unfold spec_OldValid.f oldOk
  rw [sKept_eq o timed t ks vs hk miss h1 h2]
  simp only [Option.bind_some]
  refine EvV.bind (sRecordValid_ev o t hk ks (!miss) vs (by omega) (by omega)) (EvP.ite (fun a => ?_) (fun a => EvP.ret ?_))
  · rw [a]
    refine EvP.ite (fun b => EvP.ret (by rw [b]; rfl)) (fun b => EvP.ret ?_)
    rw [Bool.eq_false_iff.2 b]
    rw [Bool.eq_iff_iff]; simp
  · rw [Bool.eq_false_iff.2 a]; rfl

theorem l91Old_ev {b : List Int} {p : Int} (hb : Rdr b p) (hp : p ≤ 1000000) (o : Int) :
    EvP (fun k => spec_l91Old.f k b p o) (fun r => r.2.2.2.1.length ≤ 12 ∧ r.2.2.2.2.1.length ≤ 12 ∧ (r.1 = o ∨ -1 ≤ r.1 ∧ r.1 ≤ 100000) ∧ 0 ≤ r.2.2.1 ∧ r.2.2.1 ≤ 100000 ∧ Rdr b r.2.2.2.2.2.2.2 ∧ r.2.2.2.2.2.2.2 ≤ p + 1000) := by
  have hR : ∀ q : Int, 0 ≤ q → Rdr b q := fun q hq => ⟨hb.1, hb.2.1, hq⟩
  have p0 := hb.2.2
  have j0 : ∀ (q : Int) (timed : Bool) (t : Int) (x y : Bool), 0 ≤ q → q ≤ p + 10 → 0 ≤ t → t ≤ 100000 → EvP (fun k => spec_l91Old.j0 k b q o timed t x y) (fun r => r.2.2.2.1.length ≤ 12 ∧ r.2.2.2.2.1.length ≤ 12 ∧ (r.1 = o ∨ -1 ≤ r.1 ∧ r.1 ≤ 100000) ∧ 0 ≤ r.2.2.1 ∧ r.2.2.1 ≤ 100000 ∧ Rdr b r.2.2.2.2.2.2.2 ∧ r.2.2.2.2.2.2.2 ≤ p + 1000) := by
    intro q timed t x y q0 q1 t0 t1
    refine EvP.succ ?_
    simp only [spec_l91Old.j0]
    refine EvP.bind (l91Part_ev (hR q q0) (by omega)) ?_
    rintro ⟨hk, ks, r1⟩ ⟨e1, e2, e3⟩
    dsimp only at e1 e2 e3 ⊢
    have e20 := e2.2.2
    refine EvP.bind (l91Part_ev e2 (by omega)) ?_
    rintro ⟨hv, vs, r2⟩ ⟨f1, f2, f3⟩
    dsimp only at f1 f2 f3 ⊢
    have f20 := f2.2.2
    refine EvP.bind (pick_ev f2 (by omega) (by decide) (by decide)) ?_
    rintro ⟨v, r3⟩ ⟨c1, c2, c3⟩
    dsimp only at c1 c2 c3 ⊢
    refine EvP.ite (fun _ => EvP.ret ⟨e1, f1, .inl rfl, t0, t1, hR _ (by dsimp only; omega), by dsimp only; omega⟩) (fun _ => EvP.ite (fun _ => ?_) (fun _ => EvP.ret ⟨e1, f1, .inl rfl, t0, t1, hR _ (by dsimp only; omega), by dsimp only; omega⟩))
    simp only [Option.bind_some]
    refine EvP.bind (pick_ev (hR r3 (by omega)) (by omega) (by decide) (by decide)) ?_
    rintro ⟨u, r4⟩ ⟨d1, d2, d3⟩
    dsimp only at d1 d2 d3 ⊢
    have hr : -1 ≤ rd [-1, 99999, 100000] u ∧ rd [-1, 99999, 100000] u ≤ 100000 := by
      have c : u = 0 ∨ u = 1 ∨ u = 2 := by omega
      rcases c with rfl | rfl | rfl <;> decide
    exact EvP.pos d1 (EvP.pos (by simpa using d2) (EvP.ret ⟨e1, f1, .inr hr, t0, t1, hR _ (by dsimp only; omega), by dsimp only; omega⟩))
  unfold spec_l91Old.f
  refine EvP.bind (pick_ev hb (by omega) (by decide) (by decide)) ?_
  rintro ⟨v1, q1⟩ ⟨a1, a2, a3⟩
  dsimp only at a1 a2 a3 ⊢
  refine EvP.ite (fun _ => ?_) (fun _ => j0 q1 _ _ _ _ (by omega) (by omega) (by decide) (by decide))
  refine EvP.bind (pick_ev (hR q1 (by omega)) (by omega) (by decide) (by decide)) ?_
  rintro ⟨v2, q2⟩ ⟨b1, b2, b3⟩
  dsimp only at b1 b2 b3 ⊢
  refine EvP.bind (pick_ev (hR q2 (by omega)) (by omega) (by decide) (by decide)) ?_
  rintro ⟨v3, q3⟩ ⟨c1, c2, c3⟩
  dsimp only at c1 c2 c3 ⊢
  have m3 : 0 ≤ v2 * (1 + v3 * 300) := Int.mul_nonneg b1 (by omega)
  have m4 : v2 * (1 + v3 * 300) ≤ 249 * 301 := Int.mul_le_mul (by omega) (by omega) (by omega) (by omega)
  rw [w64 (x := v3 * 300) (by omega) (by omega), w64 (x := 1 + v3 * 300) (by omega) (by omega)]
  generalize v2 * (1 + v3 * 300) = y at m3 m4 ⊢
  rw [w64 (x := y) (by omega) (by omega)]
  exact j0 q3 _ _ _ _ (by omega) (by omega) m3 (by omega)

def oldPB (has : Bool) (xs : List Int) : List Int := if has = true then (xs.length : Int) :: xs else [255]
theorem oldPB_len (has : Bool) (xs : List Int) : (oldPB has xs).length ≤ xs.length + 1 := by unfold oldPB; split <;> simp
theorem oldPB_bytes {has : Bool} {xs : List Int} (h : partOk has xs = true) : allB (oldPB has xs) = true := by
  unfold oldPB
  obtain ⟨h1, h2⟩ := partOk_iff.1 h
  by_cases hh : has = true
  · rw [if_pos hh]
    obtain ⟨a, b⟩ := h1 hh
    refine allB_iff.2 ?_
    intro x hx
    rcases List.mem_cons.1 hx with rfl | hx
    · omega
    · exact allB_iff.1 b x hx
  · rw [if_neg hh]; rfl
def headO (timed : Bool) (t : Int) : List Int := if timed = true then 1 :: intB t 3 else [0]
theorem headO_len (timed : Bool) (t : Int) : (headO timed t).length ≤ 4 := by
  have := intB_len3 t 3
  unfold headO; split <;> simp
  omega
theorem headO_bytes (timed : Bool) (t : Int) : allB (headO timed t) = true := by
  unfold headO
  split
  · refine allB_iff.2 ?_
    intro x hx
    rcases List.mem_cons.1 hx with rfl | hx
    · omega
    · exact allB_iff.1 (intB_bytes t 3) x hx
  · rfl
def bodyO (timed : Bool) (t : Int) (ks vs : List Int) (hk miss : Bool) : List Int := headO timed t ++ oldPB hk ks ++ oldPB (!miss) vs
/-- A message's bytes. -/
def oldB (o : Int) (timed : Bool) (t : Int) (ks vs : List Int) (hk miss : Bool) : List Int := intB o 3 ++ (intB (sumL (bodyO timed t ks vs hk miss)) 2 ++ bodyO timed t ks vs hk miss)
def oldR (o : Int) (timed : Bool) (t : Int) (ks vs : List Int) (hk miss : Bool) : List Int × Bool := if oldOk o timed t ks vs hk miss = true then (oldB o timed t ks vs hk miss, true) else ([], false)
theorem oldOk_iff {o : Int} {timed : Bool} {t : Int} {ks vs : List Int} {hk miss : Bool} : oldOk o timed t ks vs hk miss = true ↔ recOk o t hk ks (!miss) vs = true ∧ (timed = true ∨ t = 0) := by unfold oldOk; simp
theorem oldR_len (o : Int) (timed : Bool) (t : Int) (ks vs : List Int) (hk miss : Bool) : (oldR o timed t ks vs hk miss).1.length ≤ ks.length + vs.length + 20 := by
  unfold oldR
  split
  · have a1 := intB_len3 o 3
    have a2 := intB_len3 (sumL (bodyO timed t ks vs hk miss)) 2
    have a3 := headO_len timed t
    have a4 := oldPB_len hk ks
    have a5 := oldPB_len (!miss) vs
    unfold oldB
    simp only [List.length_append]
    unfold bodyO at a2 ⊢
    simp only [List.length_append]
    omega
  · simp

/-- A message as a record. -/
def toR (x : S26) : S57 := ⟨x.f0, x.f2, x.f5, x.f3, !x.f6, x.f4⟩
def okO (x : S26) : Bool := oldOk x.f0 x.f1 x.f2 x.f3 x.f4 x.f5 x.f6
def SmallO (xs : List S26) : Prop := ∀ x ∈ xs, x.f3.length ≤ 1000000 ∧ x.f4.length ≤ 1000000
def turnOk (xs : List S26) : Bool := decide (xs.length ≤ 6) && (xs.all okO && batOk false 255 0 0 ((xs.map toR).map toM))
def turnR (xs : List S26) (pk : Bool) : Bool × Bool × Int × Int × Int × List S57 × Bool := if turnOk xs = true then (pk, false, 255, 0, 0, xs.map toR, true) else (false, false, 0, 0, 0, [], false)
theorem rdO_nat (L : List S26) (j : Nat) (h : j < L.length) : rd_T26 L (j : Int) = L[j] := by
  unfold rd_T26; simp [List.getD_eq_getElem?_getD, h]
theorem smallR_map {xs : List S26} (hs : SmallO xs) : SmallR (xs.map toR) := by
  intro y hy
  obtain ⟨x, hx, rfl⟩ := List.mem_map.1 hy
  have := hs x hx
  exact ⟨by show x.f3.length ≤ _; omega, by show x.f4.length ≤ _; omega⟩
theorem turn_snoc (xs : List S26) (j : Nat) (h : j < xs.length) : (xs.take (j + 1)).map toR = (xs.take j).map toR ++ [toR xs[j]] := by
  rw [List.take_succ_eq_append_getElem h, List.map_append]
  rfl
theorem turn_all (xs : List S26) (j : Nat) (h : j < xs.length) (a : (xs.take j).all okO = true) (b : okO xs[j] = true) : (xs.take (j + 1)).all okO = true := by
  rw [List.take_succ_eq_append_getElem h, List.all_append, a]
  simpa using b
theorem turn_bad {xs : List S26} {j : Nat} (h : j < xs.length) (b : okO xs[j] = false) : turnOk xs = false := by
  rw [Bool.eq_false_iff]
  intro h0
  unfold turnOk at h0
  simp only [Bool.and_eq_true, List.all_eq_true] at h0
  have := h0.2.1 xs[j] (List.getElem_mem h)
  rw [b] at this
  cases this
theorem turn_end {xs : List S26} (h6 : xs.length ≤ 6) (a : xs.all okO = true) : turnOk xs = batOk false 255 0 0 ((xs.map toR).map toM) := by
  unfold turnOk
  rw [decide_eq_true h6, a]
  rfl
theorem sTurn_l0 (xs : List S26) (pk : Bool) (hs : SmallO xs) (hl : xs.length ≤ 1000000) (d : Nat) : ∀ j : Nat, j ≤ xs.length → xs.length - j = d → (xs.take j).all okO = true → (1 ≤ j → xs.length ≤ 6) →
    EvV (fun k => spec_OldTurn.l0 k xs (j : Int) pk false 255 0 0 ((xs.take j).map toR)) (turnR xs pk) := by
  induction d with
  | zero =>
    intro j hj hd ha h6
    have e : xs.take j = xs := List.take_of_length_le (by omega)
    rw [e] at ha ⊢
    refine EvP.succ ?_
    simp only [spec_OldTurn.l0]
    refine EvP.neg (by omega) (EvV.bind (sBatchValid_ev pk false 255 0 0 (xs.map toR) (smallR_map hs) (by simp; omega)) (EvP.ite (fun g => EvP.ret ?_) (fun g => EvP.ret ?_)))
    · unfold turnR
      rw [turn_end (by omega) ha, if_pos g]
    · unfold turnR
      rw [turn_end (by omega) ha, if_neg g]
  | succ d ih =>
    intro j hj hd ha h6
    have hlt : j < xs.length := by omega
    have hx := hs xs[j] (List.getElem_mem hlt)
    refine EvP.succ ?_
    simp only [spec_OldTurn.l0, rdO_nat xs j hlt, w64_succ hlt (by omega : xs.length ≤ 1000000000000000000)]
    refine EvP.pos (by omega) (EvP.pos (by omega) (EvV.bind (sOldValid_ev _ _ _ _ _ _ _ (by omega) (by omega)) (EvP.ite (fun g => ?_) (fun g => EvP.ret ?_))))
    · refine EvP.ite (fun g6 => EvP.ret ?_) (fun g6 => ?_)
      · unfold turnR
        have : turnOk xs = false := by unfold turnOk; rw [decide_eq_false (by omega)]; rfl
        rw [this]
        rfl
      · rw [sKept_eq _ _ _ _ _ _ _ (by omega) (by omega)]
        simp only [Option.bind_some]
        refine EvP.pos (by simp; omega) ?_
        have := ih (j + 1) (by omega) (by omega) (turn_all xs j hlt ha g) (fun _ => by omega)
        rw [turn_snoc xs j hlt] at this
        exact this
    · unfold turnR
      rw [turn_bad hlt (Bool.eq_false_iff.2 g)]
      rfl
theorem sTurn_ev (xs : List S26) (pk : Bool) (hs : SmallO xs) (hl : xs.length ≤ 1000000) : EvV (fun k => spec_OldTurn.f k xs pk) (turnR xs pk) := by
  unfold spec_OldTurn.f
  exact sTurn_l0 xs pk hs hl xs.length 0 (by omega) (by omega) rfl (by omega)

theorem iTurn_l0 (xs : List S26) (pk : Bool) (hs : SmallO xs) (h6 : xs.length ≤ 6) (d : Nat) : ∀ j : Nat, j ≤ xs.length → xs.length - j = d → (xs.take j).all okO = true →
    EvV (fun k => impl_OldTurn.l0 k xs (xs.length : Int) (j : Int) pk false 255 0 0 ((xs.take j).map toR)) (turnR xs pk) := by
  induction d with
  | zero =>
    intro j hj hd ha
    have e : xs.take j = xs := List.take_of_length_le (by omega)
    rw [e] at ha ⊢
    refine EvP.succ ?_
    simp only [impl_OldTurn.l0]
    refine EvP.neg (by omega) (EvV.bind (iBatchValid_ev pk false 255 0 0 (xs.map toR) (smallR_map hs) (by simp; omega)) (EvP.ite (fun g => EvP.ret ?_) (fun g => EvP.ret ?_)))
    · unfold turnR
      rw [turn_end (by omega) ha, if_pos g]
    · unfold turnR
      rw [turn_end (by omega) ha, if_neg g]
  | succ d ih =>
    intro j hj hd ha
    have hlt : j < xs.length := by omega
    have hx := hs xs[j] (List.getElem_mem hlt)
    refine EvP.succ ?_
    simp only [impl_OldTurn.l0, rdO_nat xs j hlt, w64_succ hlt (by omega : xs.length ≤ 1000000000000000000)]
    refine EvP.pos (by omega) (EvP.pos (by omega) (EvP.pos (by omega) (EvV.bind (iOldValid_ev _ _ _ _ _ _ _ (by omega) (by omega)) (EvP.ite (fun g => ?_) (fun g => EvP.ret ?_)))))
    · rw [iKept_eq _ _ _ _ _ _ _ (by omega) (by omega)]
      simp only [Option.bind_some]
      refine EvP.pos (by simp; omega) ?_
      have := ih (j + 1) (by omega) (by omega) (turn_all xs j hlt ha g)
      rw [turn_snoc xs j hlt] at this
      exact this
    · unfold turnR
      rw [turn_bad hlt (Bool.eq_false_iff.2 g)]
      rfl
theorem iTurn_ev (xs : List S26) (pk : Bool) (hs : SmallO xs) : EvV (fun k => impl_OldTurn.f k xs pk) (turnR xs pk) := by
  unfold impl_OldTurn.f
  refine EvP.ite (fun g => EvP.ret ?_) (fun g => iTurn_l0 xs pk hs (by omega) xs.length 0 (by omega) (by omega) rfl)
  unfold turnR
  have : turnOk xs = false := by unfold turnOk; rw [decide_eq_false (by omega)]; rfl
  rw [this]
  rfl

theorem drawOldTurn_ev (l : List Int) (hl : ∀ x ∈ l, (Lit.int .u8 x).wf = true) : EvP (fun k => spec_DrawOldTurn.f k l) (fun r => SmallO r.1 ∧ r.1.length ≤ 7) := by
  unfold spec_DrawOldTurn.f
  refine EvP.bind (open_ev l hl) ?_
  rintro ⟨b, p⟩ ⟨h, hp⟩
  obtain rfl : p = 0 := hp
  have hR : ∀ q : Int, 0 ≤ q → Rdr b q := fun q hq => ⟨h.1, h.2.1, hq⟩
  dsimp only at h ⊢
  have l0 : ∀ (d : Nat) (xs : List S26) (n o i q : Int), SmallO xs → 0 ≤ i → (xs.length : Int) = i → n ≤ 7 → n - i ≤ d → i ≤ 7 → 0 ≤ q → q ≤ 10 + 1010 * i → -100 ≤ o → o ≤ 30 + 10 * i →
      EvP (fun k => spec_DrawOldTurn.l0 k xs n o i b q) (fun r => SmallO r.1 ∧ r.1.length ≤ 7) := by
    intro d
    induction d with
    | zero =>
      intro xs n o i q hs hi hx hn hd hi7 q0 q1 o0 o1
      refine EvP.succ ?_
      simp only [spec_DrawOldTurn.l0]
      refine EvP.neg (by omega) (EvP.bind (pick_ev (hR q q0) (by omega) (by decide) (by decide)) ?_)
      rintro ⟨v, q2⟩ _
      exact EvP.ret ⟨hs, by dsimp only; omega⟩
    | succ d ih =>
      intro xs n o i q hs hi hx hn hd hi7 q0 q1 o0 o1
      refine EvP.succ ?_
      simp only [spec_DrawOldTurn.l0]
      refine EvP.ite (fun g => ?_) (fun g => ?_)
      · refine EvP.bind (l91Old_ev (hR q q0) (by omega) o) ?_
        rintro ⟨o', timed, t, ks, vs, hk, miss, q2⟩ ⟨h1, h2, _, _, _, h6, h7⟩
        dsimp only at h1 h2 h6 h7 ⊢
        have q20 := h6.2.2
        refine EvP.pos (by omega) (EvP.bind (pick_ev h6 (by omega) (by decide) (by decide)) ?_)
        rintro ⟨v, q3⟩ ⟨a1, a2, a3⟩
        dsimp only at a1 a2 a3 ⊢
        refine EvP.bind (pick_ev (hR q3 (by omega)) (by omega) (by decide) (by decide)) ?_
        rintro ⟨u, q4⟩ ⟨b1, b2, b3⟩
        dsimp only at b1 b2 b3 ⊢
        have ht : Int.tdiv u 19 = u / 19 := tdiv_pos b1
        rw [ht]
        rw [w64 (x := u / 19) (by omega) (by omega), w64 (x := o + 1) (by omega) (by omega), w64 (x := o + 1 + v) (by omega) (by omega), w64 (x := o + 1 + v - u / 19) (by omega) (by omega), w64 (x := i + 1) (by omega) (by omega)]
        refine ih _ n _ (i + 1) q4 ?_ (by omega) (by simp; omega) hn (by omega) (by omega) (by omega) (by omega) (by omega) (by omega)
        intro x hx'
        rcases List.mem_append.1 hx' with h | h
        · exact hs x h
        · rw [List.mem_singleton.1 h]
          exact ⟨by dsimp only; omega, by dsimp only; omega⟩
      · refine EvP.bind (pick_ev (hR q q0) (by omega) (by decide) (by decide)) ?_
        rintro ⟨v, q2⟩ _
        exact EvP.ret ⟨hs, by dsimp only; omega⟩
  have j0 : ∀ (n q : Int), n ≤ 7 → 0 ≤ q → q ≤ 8 → EvP (fun k => spec_DrawOldTurn.j0 k [] n b q) (fun r => SmallO r.1 ∧ r.1.length ≤ 7) := by
    intro n q hn q0 q1
    refine EvP.succ ?_
    simp only [spec_DrawOldTurn.j0]
    refine EvP.bind (pick_ev (hR q q0) (by omega) (by decide) (by decide)) ?_
    rintro ⟨v, q2⟩ ⟨a1, a2, a3⟩
    dsimp only at a1 a2 a3 ⊢
    exact l0 7 [] n v 0 q2 (fun x hx => absurd hx List.not_mem_nil) (by decide) rfl hn (by omega) (by decide) (by omega) (by omega) (by omega) (by omega)
  simp only [Option.bind_some]
  refine EvP.bind (pick_ev h (by decide) (by decide) (by decide)) ?_
  rintro ⟨v, q⟩ ⟨a1, a2, a3⟩
  dsimp only at a1 a2 a3 ⊢
  refine EvP.bind (pick_ev (hR q (by omega)) (by omega) (by decide) (by decide)) ?_
  rintro ⟨u, q2⟩ ⟨b1, b2, b3⟩
  dsimp only at b1 b2 b3 ⊢
  refine EvP.ite (fun _ => ?_) (fun _ => ?_)
  · refine EvP.bind (pick_ev (hR q2 (by omega)) (by omega) (by decide) (by decide)) ?_
    rintro ⟨x, q3⟩ ⟨c1, c2, c3⟩
    dsimp only at c1 c2 c3 ⊢
    have hx : rd [0, 6, 7] x ≤ 7 := by
      have c : x = 0 ∨ x = 1 ∨ x = 2 := by omega
      rcases c with rfl | rfl | rfl <;> decide
    exact EvP.pos c1 (EvP.pos (by simpa using c2) (j0 _ q3 hx (by omega) (by omega)))
  · rw [w64 (x := 1 + v) (by omega) (by omega)]
    exact j0 _ q2 (by omega) (by omega) (by omega)

theorem sameRecord_same (o t : Int) (hk : Bool) (ks : List Int) (hv : Bool) (vs : List Int) (h1 : ks.length ≤ 1000000000000) (h2 : vs.length ≤ 1000000000000) : EvV (fun k => laws_sameRecord.f k o t hk ks hv vs o t hk ks hv vs) true := by
  unfold laws_sameRecord.f
  exact EvP.pos rfl (EvP.pos rfl (EvP.pos (by simp) (EvP.pos (by simp) (EvV.bind (sameInts_same ks (by omega)) (EvP.pos rfl (EvV.bind (sameInts_same vs (by omega)) (EvP.ret rfl)))))))

theorem sameRecords_same (L : List S57) (hs : SmallR L) (hl : L.length ≤ 1000000000000) : EvV (fun k => laws_sameRecords.f k L L) true := by
  have key : ∀ (d j : Nat), j + d = L.length → EvV (fun k => laws_sameRecords.l0 k L L (j : Int)) true := by
    intro d
    induction d with
    | zero =>
      intro j hj
      refine EvP.succ ?_
      simp only [laws_sameRecords.l0]
      exact EvP.neg (by omega) (EvP.ret rfl)
    | succ d ih =>
      intro j hj
      have hlt : j < L.length := by omega
      have e : rd_T57 L (j : Int) = L[j] := rdT_nat L j hlt
      have hx := hs L[j] (List.getElem_mem hlt)
      refine EvP.succ ?_
      simp only [laws_sameRecords.l0, e, w64_succ hlt (by omega : L.length ≤ 1000000000000000000)]
      exact EvP.pos (by omega) (EvP.pos (by omega) (EvP.pos (by omega) (EvV.bind (sameRecord_same _ _ _ _ _ _ hx.1 hx.2) (EvP.pos rfl (ih (j + 1) (by omega))))))
  unfold laws_sameRecords.f
  exact EvP.pos rfl (key L.length 0 (by omega))

theorem sameBatch_same (pk mark : Bool) (prod ep seq : Int) (L : List S57) (hs : SmallR L) (hl : L.length ≤ 1000000000000) : EvV (fun k => laws_sameBatch.f k pk mark prod ep seq L pk mark prod ep seq L) true := by
  unfold laws_sameBatch.f
  exact EvP.pos (by simp) (EvP.pos (by simp) (EvP.pos rfl (EvP.pos rfl (EvP.pos rfl (EvV.bind (sameRecords_same L hs hl) (EvP.ret rfl))))))
theorem sameTurn (xs : List S26) (pk : Bool) (hs : SmallO xs) (hl : xs.length ≤ 1000000) : EvV (fun k => laws_sameBatch.f k (turnR xs pk).1 (turnR xs pk).2.1 (turnR xs pk).2.2.1 (turnR xs pk).2.2.2.1 (turnR xs pk).2.2.2.2.1 (turnR xs pk).2.2.2.2.2.1 (turnR xs pk).1 (turnR xs pk).2.1 (turnR xs pk).2.2.1 (turnR xs pk).2.2.2.1 (turnR xs pk).2.2.2.2.1 (turnR xs pk).2.2.2.2.2.1) true := by
  refine sameBatch_same _ _ _ _ _ _ ?_ ?_
  · unfold turnR
    split
    · exact smallR_map hs
    · exact fun x hx => absurd hx List.not_mem_nil
  · unfold turnR
    split
    · show (xs.map toR).length ≤ _
      simp
      omega
    · simp

theorem evGet {α : Type} {g : Nat → Option α} {v : α} (h : EvV g v) : ∃ K, ∀ k, K ≤ k → g k = some v := by
  obtain ⟨r, rfl, h⟩ := h
  exact h
theorem ev_all {n : Nat} {P : Nat → Nat → Prop} (h : ∀ j, j < n → ∃ K, ∀ k, K ≤ k → P j k) : ∃ K, ∀ k, K ≤ k → ∀ j, j < n → P j k := by
  induction n with
  | zero => exact ⟨0, fun _ _ j hj => by omega⟩
  | succ n ih =>
    obtain ⟨K1, h1⟩ := ih (fun j hj => h j (by omega))
    obtain ⟨K2, h2⟩ := h n (by omega)
    refine ⟨max K1 K2, fun k hk j hj => ?_⟩
    by_cases e : j = n
    · subst e; exact h2 k (by omega)
    · exact h1 k (by omega) j (by omega)
theorem FnTurn : laws_FnTurn.Pure := by
  intro l _ _ hl _
  obtain ⟨⟨xs, pk⟩, ⟨hs, hx⟩, K0, h0⟩ := drawOldTurn_ev l hl
  dsimp only at hs hx h0
  obtain ⟨K1, h1⟩ := evGet (sTurn_ev xs pk hs (by omega))
  obtain ⟨K2, h2⟩ := evGet (iTurn_ev xs pk hs)
  obtain ⟨K3, h3⟩ := evGet (sameTurn xs pk hs (by omega))
  obtain ⟨K4, h4⟩ := evGet (iBatchValid_ev pk false 255 0 0 (xs.map toR) (smallR_map hs) (by simp; omega))
  have sm : ∀ j, j < xs.length → (rd_T26 xs (j : Int)).f3.length ≤ 1000000 ∧ (rd_T26 xs (j : Int)).f4.length ≤ 1000000 := fun j hj => by
    rw [rdO_nat xs j hj]
    exact hs _ (List.getElem_mem hj)
  obtain ⟨K5, h5⟩ := ev_all (n := xs.length) (P := fun j k => laws_sameInts.f k (rd_T26 xs (j : Int)).f3 (rd_T26 xs (j : Int)).f3 = some true) (fun j hj => evGet (sameInts_same _ (by have := sm j hj; omega)))
  obtain ⟨K6, h6⟩ := ev_all (n := xs.length) (P := fun j k => laws_sameInts.f k (rd_T26 xs (j : Int)).f4 (rd_T26 xs (j : Int)).f4 = some true) (fun j hj => evGet (sameInts_same _ (by have := sm j hj; omega)))
  obtain ⟨k, k0, k1, k2, k3, k4, k5, k6⟩ : ∃ k, K0 ≤ k ∧ K1 ≤ k ∧ K2 ≤ k ∧ K3 ≤ k ∧ K4 ≤ k ∧ K5 ≤ k ∧ K6 ≤ k := ⟨K0 + K1 + K2 + K3 + K4 + K5 + K6, by omega, by omega, by omega, by omega, by omega, by omega, by omega⟩
  refine ⟨k, xs, pk, (turnR xs pk).1, (turnR xs pk).2.1, (turnR xs pk).2.2.1, (turnR xs pk).2.2.2.1, (turnR xs pk).2.2.2.2.1, (turnR xs pk).2.2.2.2.2.1, (turnR xs pk).2.2.2.2.2.2, ⟨h0 k k0, h2 k k2, h1 k k1, h3 k k3, by omega, fun g => ?_, fun g => ?_⟩⟩
  all_goals
    have hok : turnOk xs = true := by
      unfold turnR at g
      by_cases c : turnOk xs = true
      · exact c
      · rw [if_neg c] at g; cases g
    have e : turnR xs pk = (pk, false, 255, 0, 0, xs.map toR, true) := by
      unfold turnR
      rw [if_pos hok]
    rw [e]
    dsimp only
  · have hk := hok
    unfold turnOk at hk
    simp only [Bool.and_eq_true] at hk
    exact ⟨rfl, rfl, by simp, by rw [h4 k k4, hk.2.2]⟩
  · intro j hj
    have e1 : rd_T57 (xs.map toR) (j : Int) = toR (rd_T26 xs (j : Int)) := by rw [rdT_nat _ j (by simp; omega), rdO_nat xs j hj]; simp
    rw [e1]
    exact ⟨rfl, rfl, rfl, rfl, rfl, rfl, h5 k k5 j hj, h6 k k6 j hj⟩

end Go.Proofs.Ytmpnedpokdaejaa.Pure
