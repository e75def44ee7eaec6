/- Of a valid batch: without its records, with its first record twice, or as a mark of no producer it is not valid, at whatever batch the code draws; there is no condition. -/
import Derived.Test.YtdgpkjjclngamaaQFnBatchPartx9
import Derived.Test.YtdgpkjjclngamaaMath
import Derived.Test.YtdgpkjjclngamaaMath3
import Derived.Test.YtdgpkjjclngamaaMath5
set_option linter.unusedVariables false
set_option linter.unusedSimpArgs false
namespace Go.Proofs.Ytdgpkjjclngamaa.Pure
open Go.RowKit Go.Proofs.Ytdgpkjjclngamaa.QFnBatchPart Go.Proofs.YtdgpkjjclngamaaW.PrintWords Go.Proofs.YtdgpkjjclngamaaW.PrintLast Go.Proofs.YtdgpkjjclngamaaW.PrintMore Go.Proofs.Ytdgpkjjclngamaa.M

theorem l6In_eq (a b c : Int) : spec_l6In.f a b c = some (decide (b ≤ a ∧ a ≤ c)) := by
  unfold spec_l6In.f
  by_cases h : a ≥ b
  · rw [if_pos h]; congr 1; simp only [decide_eq_decide]; omega
  · rw [if_neg h]; congr 1; symm; simp only [decide_eq_false_iff_not]; omega

theorem pick_ev {b : List Int} {p : Int} (hb : Rdr b p) (hp : p ≤ 1000000000) {n : Int} (hn : 1 ≤ n) (hn2 : n ≤ 1000000000) :
    EvP (fun k => spec_l6Rd_pick.f k b p n) (fun r => 0 ≤ r.1 ∧ r.1 < n ∧ r.2 = p + 1) := by
  obtain ⟨hl, hx, hp0⟩ := hb
  have w1 : wrap64 (p + 1) = p + 1 := w64 (by omega) (by omega)
  have w2 : wrap64 (p + 1 - 1) = p := by rw [w64 (by omega) (by omega)]; omega
  unfold spec_l6Rd_pick.f
  refine EvP.neg (by omega) ?_
  rw [w1]
  refine EvP.succ ?_
  simp only [spec_l6Rd_pick.j0, w2]
  refine EvP.ite (fun h => EvP.ret ⟨by omega, by omega, rfl⟩) (fun h => ?_)
  have hlen : ((b.length : Int) == 0) = false := by simpa using h
  have hne : ¬ (b.length : Int) = 0 := by simpa using hlen
  have tm : ∀ x : Int, 0 ≤ x → 0 ≤ Int.tmod x n ∧ Int.tmod x n < n := fun x hx => by
    rw [tmod_pos hx]; exact ⟨Int.emod_nonneg _ (by omega), Int.emod_lt_of_pos _ (by omega)⟩
  have rr : ∀ i, 0 ≤ rd b i ∧ rd b i ≤ 255 := rd_rng hx
  refine EvP.ite (fun h1 => ?_) (fun h1 => ?_)
  · refine EvP.pos hp0 (EvP.neg (by omega) (EvP.ret ?_))
    have := rr p
    have t := tm (wrap64 (rd b p)) (by rw [w64 (by omega) (by omega)]; omega)
    exact ⟨t.1, t.2, rfl⟩
  · have t1 : Int.tmod p (b.length : Int) = p % (b.length : Int) := tmod_pos hp0
    have w3 : wrap64 (wrap64 (p * 7) + 3) = p * 7 + 3 := by rw [w64 (x := p * 7) (by omega) (by omega), w64 (by omega) (by omega)]
    have t2 : Int.tmod (p * 7 + 3) (b.length : Int) = (p * 7 + 3) % (b.length : Int) := tmod_pos (by omega)
    have a1 := Int.emod_nonneg p hne
    have a2 := Int.emod_lt_of_pos p (by omega : 0 < (b.length : Int))
    have a3 := Int.emod_nonneg (p * 7 + 3) hne
    have a4 := Int.emod_lt_of_pos (p * 7 + 3) (by omega : 0 < (b.length : Int))
    have d1 : Int.tdiv p (b.length : Int) = p / (b.length : Int) := tdiv_pos hp0
    have d2 : 0 ≤ p / (b.length : Int) := Int.ediv_nonneg hp0 (by omega)
    have d3 : p / (b.length : Int) ≤ p := Int.ediv_le_self _ hp0
    simp only [w3, t1, t2, d1]
    refine EvP.neg hne (EvP.pos a1 (EvP.pos a2 (EvP.pos a3 (EvP.pos a4 (EvP.neg (by omega) (EvP.ret ?_))))))
    have r1 := rr (p % (b.length : Int))
    have r2 := rr ((p * 7 + 3) % (b.length : Int))
    generalize rd b (p % (b.length : Int)) = x1 at r1 ⊢
    generalize rd b ((p * 7 + 3) % (b.length : Int)) = x2 at r2 ⊢
    generalize p / (b.length : Int) = q at d2 d3 ⊢
    have wx : ∀ x : Int, 0 ≤ x → x ≤ 1000000000000 → wrap64 x = x := fun x h0 h1 => w64 (by omega) (by omega)
    have e : wrap64 (wrap64 (wrap64 (wrap64 (wrap64 x1 * 131) + wrap64 (wrap64 x2 * 1117)) + wrap64 (p * 29)) + wrap64 (wrap64 q * 53)) = x1 * 131 + x2 * 1117 + p * 29 + q * 53 := by
      rw [wx x1 (by omega) (by omega), wx x2 (by omega) (by omega), wx q (by omega) (by omega), wx (x1 * 131) (by omega) (by omega), wx (x2 * 1117) (by omega) (by omega), wx (p * 29) (by omega) (by omega), wx (q * 53) (by omega) (by omega),
        wx (x1 * 131 + x2 * 1117) (by omega) (by omega), wx (x1 * 131 + x2 * 1117 + p * 29) (by omega) (by omega), wx _ (by omega) (by omega)]
    rw [e]
    generalize hz : x1 * 131 + x2 * 1117 + p * 29 + q * 53 = z
    have z0 : 0 ≤ z := by omega
    have z1 : z ≤ 1000000000000 := by omega
    rw [tdiv_pos z0, wx (z / 64) (by omega) (by omega)]
    have t := tm _ (xor_nonneg (x := z) (y := z / 64) (by omega) (by omega) (by omega) (by omega))
    exact ⟨t.1, t.2, rfl⟩

theorem open_ev (l : List Int) (hl : ∀ x ∈ l, (Lit.int .u8 x).wf = true) : EvP (fun _ => spec_l6Open.f l) (fun r => Rdr r.1 r.2 ∧ r.2 = 0) := by
  have hx : ∀ x ∈ l, 0 ≤ x ∧ x ≤ 255 := fun x hx => wf_u8 (hl x hx)
  unfold spec_l6Open.f
  refine EvP.ite (fun h => ?_) (fun h => ?_)
  · refine EvP.pos (by omega) (EvP.ret ⟨⟨by simp; omega, fun x hm => hx x (List.mem_of_mem_take hm), Int.le_refl 0⟩, rfl⟩)
  · exact EvP.ret ⟨⟨by dsimp only; omega, hx, Int.le_refl 0⟩, rfl⟩

theorem l1Ok_l0 (xs : List Int) (hl : xs.length ≤ 1000000000000000000) (d : Nat) : ∀ j : Nat, j ≤ xs.length → xs.length - j = d → EvV (fun k => spec_l1Ok.l0 k xs (j : Int)) (allB (xs.drop j)) := by
  induction d with
  | zero =>
    intro j hj hd
    refine EvP.succ ?_
    simp only [spec_l1Ok.l0]
    rw [drop_end xs j (by omega)]
    exact EvP.neg (by omega) (EvP.ret rfl)
  | succ d ih =>
    intro j hj hd
    have hlt : j < xs.length := by omega
    refine EvP.succ ?_
    simp only [spec_l1Ok.l0, l6In_eq, Option.bind_some, rd_nat xs j hlt, w64_succ hlt hl]
    refine EvP.pos (by omega) (EvP.pos (by omega) ?_)
    rw [drop_cons xs j hlt]
    refine EvP.ite (fun h => ?_) (fun h => EvP.ret ?_)
    · have hb : isB xs[j] = true := h
      exact (ih (j + 1) (by omega) (by omega)).to (allB_cons_t hb)
    · have hb : isB xs[j] = false := by simpa [isB] using h
      exact allB_cons_f hb
theorem l1Ok_ev (xs : List Int) (hl : xs.length ≤ 1000000000000000000) : EvV (fun k => spec_l1Ok.f k xs) (allB xs) := by
  unfold spec_l1Ok.f; exact l1Ok_l0 xs hl xs.length 0 (by omega) (by omega)

theorem isByte_eq (x : Int) : impl_isByte.f x = some (isB x) := by
  unfold impl_isByte.f isB
  by_cases h : x ≥ 0
  · rw [if_pos h]; congr 1; simp only [decide_eq_decide]; omega
  · rw [if_neg h]; congr 1; symm; simp only [decide_eq_false_iff_not]; omega

theorem allBytes_l0 (xs : List Int) (hl : xs.length ≤ 1000000000000000000) (d : Nat) : ∀ j : Nat, j ≤ xs.length → xs.length - j = d → EvV (fun k => impl_allBytes.l0 k xs (xs.length : Int) (j : Int)) (allB (xs.drop j)) := by
  induction d with
  | zero =>
    intro j hj hd
    refine EvP.succ ?_
    simp only [impl_allBytes.l0]
    rw [drop_end xs j (by omega)]
    exact EvP.neg (by omega) (EvP.ret rfl)
  | succ d ih =>
    intro j hj hd
    have hlt : j < xs.length := by omega
    refine EvP.succ ?_
    simp only [impl_allBytes.l0, isByte_eq, Option.bind_some, rd_nat xs j hlt, w64_succ hlt hl]
    refine EvP.pos (by omega) (EvP.pos (by omega) (EvP.pos (by omega) ?_))
    rw [drop_cons xs j hlt]
    refine EvP.ite (fun h => ?_) (fun h => EvP.ret ?_)
    · exact (ih (j + 1) (by omega) (by omega)).to (allB_cons_t h)
    · exact allB_cons_f (by simpa using h)
theorem allBytes_ev (xs : List Int) (hl : xs.length ≤ 1000000000000000000) : EvV (fun k => impl_allBytes.f k xs) (allB xs) := by
  unfold impl_allBytes.f; exact allBytes_l0 xs hl xs.length 0 (by omega) (by omega)

theorem l91Part_ev {b : List Int} {p : Int} (hb : Rdr b p) (hp : p ≤ 10000000) :
    EvP (fun k => spec_l91Part.f k b p) (fun r => r.2.1.length ≤ 12 ∧ Rdr b r.2.2 ∧ r.2.2 ≤ p + 100) := by
  have hR : ∀ q : Int, p ≤ q → Rdr b q := fun q hq => ⟨hb.1, hb.2.1, by have := hb.2.2; omega⟩
  have key : ∀ (n : Int), n ≤ 12 → ∀ (d : Nat) (xs : List Int) (i q : Int), 0 ≤ i → n - i ≤ d → xs.length = i → i ≤ 12 → p ≤ q → q ≤ p + 10 + 2 * i → EvP (fun k => spec_l91Part.l0 k xs n i b q) (fun r => r.2.1.length ≤ 12 ∧ Rdr b r.2.2 ∧ r.2.2 ≤ p + 100) := by
    intro n hn d
    induction d with
    | zero =>
      intro xs i q hi hd hx hi2 hq0 hq
      refine EvP.succ ?_
      simp only [spec_l91Part.l0]
      exact EvP.neg (by omega) (EvP.ret ⟨by dsimp only; omega, hR _ (by dsimp only; omega), by dsimp only; omega⟩)
    | succ d ih =>
      intro xs i q hi hd hx hi2 hq0 hq
      refine EvP.succ ?_
      simp only [spec_l91Part.l0]
      refine EvP.ite (fun hlt => ?_) (fun _ => EvP.ret ⟨by dsimp only; omega, hR _ (by dsimp only; omega), by dsimp only; omega⟩)
      refine EvP.bind (pick_ev (hR q hq0) (by omega) (by decide) (by decide)) ?_
      rintro ⟨v, q1⟩ ⟨b1, b2, b3⟩
      dsimp only at b1 b2 b3 ⊢
      simp only [Option.bind_some]
      refine EvP.bind (pick_ev (hR q1 (by omega)) (by omega) (by decide) (by decide)) ?_
      rintro ⟨u, q2⟩ ⟨c1, c2, c3⟩
      dsimp only at c1 c2 c3 ⊢
      rw [w64 (x := i + 1) (by omega) (by omega)]
      exact EvP.pos c1 (EvP.pos (by simpa using c2) (EvP.pos (by omega) (ih _ (i + 1) q2 (by omega) (by omega) (by simp; omega) (by omega) (by omega) (by omega))))
  have hj : ∀ (n q : Int), n ≤ 12 → p ≤ q → q ≤ p + 10 → EvP (fun k => spec_l91Part.j0 k [] n b q) (fun r => r.2.1.length ≤ 12 ∧ Rdr b r.2.2 ∧ r.2.2 ≤ p + 100) := by
    intro n q hn hq0 hq
    refine EvP.succ ?_
    simp only [spec_l91Part.j0]
    exact key n hn n.toNat [] 0 q (by decide) (by omega) rfl (by decide) hq0 (by omega)
  unfold spec_l91Part.f
  refine EvP.bind (pick_ev hb (by omega) (by decide) (by decide)) ?_
  rintro ⟨v, q1⟩ ⟨a1, a2, a3⟩
  dsimp only at a1 a2 a3 ⊢
  refine EvP.ite (fun _ => EvP.ret ⟨by simp, hR _ (by dsimp only; omega), by dsimp only; omega⟩) (fun _ => ?_)
  simp only [Option.bind_some]
  refine EvP.bind (pick_ev (hR q1 (by omega)) (by omega) (by decide) (by decide)) ?_
  rintro ⟨u, q2⟩ ⟨b1, b2, b3⟩
  dsimp only at b1 b2 b3 ⊢
  refine EvP.bind (pick_ev (hR q2 (by omega)) (by omega) (by decide) (by decide)) ?_
  rintro ⟨w, q3⟩ ⟨c1, c2, c3⟩
  dsimp only at c1 c2 c3 ⊢
  exact EvP.ite (fun _ => hj _ _ (by decide) (by omega) (by omega)) (fun _ => hj _ _ (by omega) (by omega) (by omega))

theorem within_eq (a b c : Int) : impl_within.f a b c = some (decide (b ≤ a ∧ a ≤ c)) := by
  unfold impl_within.f
  by_cases h : a ≥ b
  · rw [if_pos h]; congr 1; simp only [decide_eq_decide]; omega
  · rw [if_neg h]; congr 1; symm; simp only [decide_eq_false_iff_not]; omega

theorem baseValid_eq (o t : Int) : impl_baseValid.f o t = some (baseO o t) := by
  unfold impl_baseValid.f baseO
  simp only [within_eq, Option.bind_some]
  by_cases h : 0 ≤ o ∧ o ≤ 99999
  · rw [if_pos (by simpa using h)]; simp [h]
  · rw [if_neg (by simpa using h)]; simp [h]

theorem partValid_ev (has : Bool) (xs : List Int) (hl : xs.length ≤ 1000000000000000000) : EvV (fun k => impl_partValid.f k has xs) (partOk has xs) := by
  unfold impl_partValid.f partOk
  refine EvP.ite (fun h => ?_) (fun h => EvP.ret ?_)
  · rw [if_pos h]
    refine EvP.ite (fun g => EvV.bind (allBytes_ev xs hl) (EvP.ret ?_)) (fun g => EvP.ret ?_)
    · simp [g]
    · simp [g]
  · rw [if_neg h, Bool.eq_iff_iff]
    simp only [decide_eq_true_eq, beq_iff_eq]

theorem iRecordValid_ev (o t : Int) (hk : Bool) (ks : List Int) (hv : Bool) (vs : List Int) (h1 : ks.length ≤ 1000000000000000000) (h2 : vs.length ≤ 1000000000000000000) : EvV (fun k => impl_RecordValid.f k o t hk ks hv vs) (recOk o t hk ks hv vs) := by
  unfold impl_RecordValid.f recOk
  simp only [baseValid_eq, baseO, Option.bind_some]
  refine EvP.ite (fun a => ?_) (fun a => EvP.ret ?_)
  · have a' := a
    simp only [Bool.and_eq_true, decide_eq_true_eq] at a'
    refine EvV.bind (partValid_ev hk ks h1) (EvP.ite (fun b => EvV.bind (partValid_ev hv vs h2) (EvP.ret ?_)) (fun b => EvP.ret ?_))
    · simp [a', b]
    · simp [a', b]
  · revert a
    cases decide (0 ≤ o ∧ o ≤ 99999) <;> cases decide (0 ≤ t ∧ t ≤ 99999) <;> simp

theorem l3Part_ev (has : Bool) (xs : List Int) (hl : xs.length ≤ 1000000000000000000) : EvV (fun k => spec_l3Part.f k has xs) (partOk has xs) := by
  unfold spec_l3Part.f partOk
  refine EvP.ite (fun h => ?_) (fun h => ?_)
  · rw [if_pos h]
    refine EvV.bind (l1Ok_ev xs hl) (EvP.ite (fun g => EvP.ret ?_) (fun g => EvP.ret ?_))
    · simp [g]
    · simp [g]
  · rw [if_neg h]
    refine EvP.ite (fun c => EvV.bind (l1Ok_ev xs hl) (EvP.ite (fun g => EvP.ret ?_) (fun g => EvP.ret ?_))) (fun c => EvP.ret ?_)
    · have : xs = [] := List.eq_nil_of_length_eq_zero (by omega)
      subst this; rfl
    · have : xs = [] := List.eq_nil_of_length_eq_zero (by omega)
      subst this; exact absurd rfl g
    · rw [decide_eq_false c]

theorem sRecordValid_ev (o t : Int) (hk : Bool) (ks : List Int) (hv : Bool) (vs : List Int) (h1 : ks.length ≤ 1000000000000000000) (h2 : vs.length ≤ 1000000000000000000) : EvV (fun k => spec_RecordValid.f k o t hk ks hv vs) (recOk o t hk ks hv vs) := by
  unfold spec_RecordValid.f recOk
  simp only [l6In_eq, Option.bind_some]
  refine EvP.ite (fun a => ?_) (fun a => EvP.ret (by simp [a]))
  refine EvP.ite (fun c => ?_) (fun c => EvP.ret (by simp [a, c]))
  refine EvV.bind (l3Part_ev hk ks h1) (EvP.ite (fun b => EvV.bind (l3Part_ev hv vs h2) (EvP.ret ?_)) (fun b => EvP.ret ?_))
  · rw [a, c, b]; rfl
  · have b' : partOk hk ks = false := by simpa using b
    rw [a, c, b']; rfl

def toM (x : S27) : RecM := ⟨x.f0, x.f1, x.f2, x.f3, x.f4, x.f5⟩
def SmallR (L : List S27) : Prop := ∀ x ∈ L, x.f3.length ≤ 1000000000000 ∧ x.f5.length ≤ 1000000000000
def prevO (L : List S27) (j : Nat) : Option Int := if j = 0 then none else some (rd_T27 L ((j : Int) - 1)).f0
theorem rdT_nat (L : List S27) (j : Nat) (h : j < L.length) : rd_T27 L (j : Int) = L[j] := by
  unfold rd_T27; simp [List.getD_eq_getElem?_getD, h]
theorem l5Records_l0 (L : List S27) (hs : SmallR L) (hl : L.length ≤ 1000000000000) (d : Nat) : ∀ j : Nat, j ≤ L.length → L.length - j = d → EvV (fun k => spec_l5Records.l0 k L (j : Int)) (ascF (prevO L j) ((L.drop j).map toM) && decide (1 ≤ (L.length : Int) ∧ (L.length : Int) ≤ 6)) := by
  induction d with
  | zero =>
    intro j hj hd
    refine EvP.succ ?_
    simp only [spec_l5Records.l0, l6In_eq, Option.bind_some]
    rw [drop_end L j (by omega)]
    exact EvP.neg (by omega) (EvP.ret (by simp [ascF]))
  | succ d ih =>
    intro j hj hd
    have hlt : j < L.length := by omega
    have hx := hs L[j] (List.getElem_mem hlt)
    have e : rd_T27 L (j : Int) = L[j] := rdT_nat L j hlt
    refine EvP.succ ?_
    simp only [spec_l5Records.l0, e, w64_succ hlt (by omega : L.length ≤ 1000000000000000000)]
    rw [List.drop_eq_getElem_cons hlt, List.map_cons]
    refine EvP.pos (by omega) (EvP.pos (by omega) (EvV.bind (sRecordValid_ev _ _ _ _ _ _ (by omega) (by omega)) ?_))
    have hp : prevO L (j + 1) = some (toM L[j]).o := by
      unfold prevO
      rw [if_neg (by omega)]
      have : ((j + 1 : Nat) : Int) - 1 = (j : Int) := by omega
      rw [this, e]; rfl
    have next := ih (j + 1) (by omega) (by omega)
    rw [hp] at next
    refine EvP.ite (fun ok => ?_) (fun ok => EvP.ret ?_)
    · have ok' : (toM L[j]).ok = true := ok
      refine EvP.ite (fun hpos => ?_) (fun hpos => ?_)
      · have wj : wrap64 ((j : Int) - 1) = (j : Int) - 1 := w64 (by omega) (by omega)
        rw [wj]
        have hq : prevO L j = some (rd_T27 L ((j : Int) - 1)).f0 := by unfold prevO; rw [if_neg (by omega)]
        rw [hq]
        refine EvP.pos (by omega) (EvP.pos (by omega) (EvP.ite (fun g => EvP.ret ?_) (fun g => ?_)))
        · have : ¬ (rd_T27 L ((j : Int) - 1)).f0 < (toM L[j]).o := by show ¬ (_ < L[j].f0); omega
          simp [ascF, this]
        · have : (rd_T27 L ((j : Int) - 1)).f0 < (toM L[j]).o := by show _ < L[j].f0; omega
          exact next.to (by simp [ascF, ok', this])
      · have hq : prevO L j = none := by unfold prevO; rw [if_pos (by omega)]
        rw [hq]
        exact next.to (by simp [ascF, ok'])
    · have ok' : (toM L[j]).ok = false := Bool.eq_false_iff.mpr ok
      simp [ascF, ok']
theorem l5Records_ev (L : List S27) (hs : SmallR L) (hl : L.length ≤ 1000000000000) : EvV (fun k => spec_l5Records.f k L) (ascF none (L.map toM) && decide (1 ≤ (L.length : Int) ∧ (L.length : Int) ≤ 6)) := by
  unfold spec_l5Records.f
  exact l5Records_l0 L hs hl L.length 0 (by omega) (by omega)

theorem sBatchValid_ev (pk mark : Bool) (prod ep seq : Int) (L : List S27) (hs : SmallR L) (hl : L.length ≤ 1000000000000) : EvV (fun k => spec_BatchValid.f k pk mark prod ep seq L) (batOk mark prod ep seq (L.map toM)) := by
  have no : batOk mark prod ep seq (L.map toM) = false → EvV (fun k => spec_BatchValid.j0 k true pk mark prod ep seq L) (batOk mark prod ep seq (L.map toM)) := by
    intro h
    rw [h]
    refine EvP.succ ?_
    simp only [spec_BatchValid.j0]
    exact EvP.pos (by simp) (EvP.ret rfl)
  unfold spec_BatchValid.f
  refine EvV.bind (l5Records_ev L hs hl) ?_
  simp only [l6In_eq, Option.bind_some]
  have hlen : (L.map toM).length = L.length := by simp
  refine EvP.ite (fun a => ?_) (fun a => no ?_)
  · simp only [Bool.and_eq_true] at a
    refine EvP.ite (fun b => ?_) (fun b => no ?_)
    · refine EvP.ite (fun c => ?_) (fun c => no ?_)
      · by_cases e : decide (0 ≤ seq ∧ seq ≤ 9999) = true
        · rw [e]
          refine EvP.succ ?_
          simp only [spec_BatchValid.j0]
          have key : batOk mark prod ep seq (L.map toM) = ((if prod = 255 then decide (ep = 0) && (decide (seq = 0) && !mark) else true) && (!mark || decide ((L.length : Int) = 1))) := by
            unfold batOk manyOk
            rw [hlen, ← headOk_same, b, c, e, a.1, a.2]
            simp
          rw [key]
          refine EvP.neg (by decide) (EvP.ite (fun f => ?_) (fun f => ?_))
          · rw [if_pos f]
            refine EvP.ite (fun g => EvP.ite (fun h => EvP.ret ?_) (fun h => EvP.ret ?_)) (fun g => EvP.ret ?_)
            · cases mark <;> simp [g, h]
            · simp [h]
            · simp [g]
          · rw [if_neg f]
            refine EvP.ite (fun g => EvP.ret ?_) (fun g => EvP.ret ?_)
            · rw [g, Bool.eq_iff_iff]; simp
            · simp [g]
        · have e' : decide (0 ≤ seq ∧ seq ≤ 9999) = false := by simpa using e
          rw [e']
          refine no ?_
          unfold batOk; rw [← headOk_same, e']; simp
      · have c' : decide (0 ≤ ep ∧ ep ≤ 99) = false := by simpa using c
        unfold batOk; rw [← headOk_same, c']; simp
    · have b' : decide (0 ≤ prod ∧ prod ≤ 255) = false := by simpa using b
      unfold batOk; rw [← headOk_same, b']; simp
  · unfold batOk manyOk
    rw [hlen]
    revert a
    cases ascF none (L.map toM) <;> cases decide (1 ≤ (L.length : Int) ∧ (L.length : Int) ≤ 6) <;> simp

theorem idValid_eq (a : Int) : impl_idValid.f a = some (decide (0 ≤ a ∧ a ≤ 254)) := by
  unfold impl_idValid.f; rw [within_eq]; rfl

theorem ibv_l0 (L : List S27) (pk mark : Bool) (prod ep seq : Int) (hs : SmallR L) (hl : L.length ≤ 1000000000000) (d : Nat) : ∀ j : Nat, j ≤ L.length → L.length - j = d → EvV (fun k => impl_BatchValid.l0 k L (L.length : Int) (j : Int) pk mark prod ep seq L) (ascF (prevO L j) ((L.drop j).map toM)) := by
  induction d with
  | zero =>
    intro j hj hd
    refine EvP.succ ?_
    simp only [impl_BatchValid.l0]
    rw [drop_end L j (by omega)]
    exact EvP.neg (by omega) (EvP.ret (by simp [ascF]))
  | succ d ih =>
    intro j hj hd
    have hlt : j < L.length := by omega
    have hx := hs L[j] (List.getElem_mem hlt)
    have e : rd_T27 L (j : Int) = L[j] := rdT_nat L j hlt
    refine EvP.succ ?_
    simp only [impl_BatchValid.l0, e, w64_succ hlt (by omega : L.length ≤ 1000000000000000000)]
    rw [List.drop_eq_getElem_cons hlt, List.map_cons]
    refine EvP.pos (by omega) (EvP.pos (by omega) (EvP.pos (by omega) (EvV.bind (iRecordValid_ev _ _ _ _ _ _ (by omega) (by omega)) ?_)))
    have hp : prevO L (j + 1) = some (toM L[j]).o := by
      unfold prevO
      rw [if_neg (by omega)]
      have : ((j + 1 : Nat) : Int) - 1 = (j : Int) := by omega
      rw [this, e]; rfl
    have next := ih (j + 1) (by omega) (by omega)
    rw [hp] at next
    refine EvP.ite (fun ok => ?_) (fun ok => EvP.ret ?_)
    · have ok' : (toM L[j]).ok = true := ok
      refine EvP.ite (fun hpos => ?_) (fun hpos => ?_)
      · have wj : wrap64 ((j : Int) - 1) = (j : Int) - 1 := w64 (by omega) (by omega)
        rw [wj]
        have hq : prevO L j = some (rd_T27 L ((j : Int) - 1)).f0 := by unfold prevO; rw [if_neg (by omega)]
        rw [hq]
        refine EvP.pos (by omega) (EvP.pos (by omega) (EvP.ite (fun g => EvP.ret ?_) (fun g => ?_)))
        · have : ¬ (rd_T27 L ((j : Int) - 1)).f0 < (toM L[j]).o := by show ¬ (_ < L[j].f0); omega
          simp [ascF, this]
        · have : (rd_T27 L ((j : Int) - 1)).f0 < (toM L[j]).o := by show _ < L[j].f0; omega
          exact next.to (by simp [ascF, ok', this])
      · have hq : prevO L j = none := by unfold prevO; rw [if_pos (by omega)]
        rw [hq]
        exact next.to (by simp [ascF, ok'])
    · have ok' : (toM L[j]).ok = false := Bool.eq_false_iff.mpr ok
      simp [ascF, ok']
theorem iBatchValid_ev (pk mark : Bool) (prod ep seq : Int) (L : List S27) (hs : SmallR L) (hl : L.length ≤ 1000000000000) : EvV (fun k => impl_BatchValid.f k pk mark prod ep seq L) (batOk mark prod ep seq (L.map toM)) := by
  have hlen : (L.map toM).length = L.length := by simp
  have j1 : ∀ b : Bool, EvV (fun k => impl_BatchValid.j1 k b pk mark prod ep seq L) (!b && ascF none (L.map toM)) := by
    intro b
    refine EvP.succ ?_
    simp only [impl_BatchValid.j1]
    refine EvP.ite (fun h => EvP.ret (by simp [h])) (fun h => ?_)
    have hb : b = false := by simpa using h
    rw [hb]
    exact ibv_l0 L pk mark prod ep seq hs hl L.length 0 (by omega) (by omega)
  have j0 : headOk mark prod ep seq = true → EvV (fun k => impl_BatchValid.j0 k pk mark prod ep seq L) (batOk mark prod ep seq (L.map toM)) := by
    intro hh
    have key : batOk mark prod ep seq (L.map toM) = (decide (1 ≤ (L.length : Int) ∧ (L.length : Int) ≤ 6) && ((!mark || decide ((L.length : Int) = 1)) && ascF none (L.map toM))) := by
      unfold batOk manyOk
      rw [hlen, hh]; simp [Bool.and_assoc]
    rw [key]
    refine EvP.succ ?_
    simp only [impl_BatchValid.j0, within_eq, Option.bind_some]
    refine EvP.ite (fun a => EvP.ite (fun m => ?_) (fun m => ?_)) (fun a => ?_)
    · subst m
      rw [a]
      refine (j1 _).to ?_
      have : (!((L.length : Int) != 1)) = decide ((L.length : Int) = 1) := by rw [Bool.eq_iff_iff]; simp
      rw [this]; simp
    · have m' : mark = false := by simpa using m
      subst m'
      rw [a]
      exact (j1 false).to (by simp)
    · have a' : decide (1 ≤ (L.length : Int) ∧ (L.length : Int) ≤ 6) = false := by simpa using a
      rw [a']
      exact (j1 true).to (by simp)
  have no : headOk mark prod ep seq = false → batOk mark prod ep seq (L.map toM) = false := fun h => by unfold batOk; rw [h]; rfl
  unfold impl_BatchValid.f
  simp only [idValid_eq, within_eq, Option.bind_some]
  refine EvP.ite (fun a => ?_) (fun a => ?_)
  · have hd : headOk mark prod ep seq = (decide (ep = 0) && (decide (seq = 0) && !mark)) := by unfold headOk; rw [if_pos a]
    refine EvP.ite (fun b => EvP.ite (fun c => EvP.ite (fun m => EvP.ret ?_) (fun m => j0 ?_)) (fun c => EvP.ret ?_)) (fun b => EvP.ret ?_)
    · rw [no (by rw [hd, m]; simp)]
    · rw [hd]; simp [b, c, m]
    · rw [no (by rw [hd]; simp [c])]
    · rw [no (by rw [hd]; simp [b])]
  · have hd : headOk mark prod ep seq = (decide (0 ≤ prod ∧ prod ≤ 254) && (decide (0 ≤ ep ∧ ep ≤ 99) && decide (0 ≤ seq ∧ seq ≤ 9999))) := by unfold headOk; rw [if_neg a]
    refine EvP.ite (fun b => EvP.ite (fun c => EvP.ite (fun e => j0 ?_) (fun e => EvP.ret ?_)) (fun c => EvP.ret ?_)) (fun b => EvP.ret ?_)
    · rw [hd, b, c, e]; rfl
    · have e' : decide (0 ≤ seq ∧ seq ≤ 9999) = false := by simpa using e
      rw [no (by rw [hd, e']; simp)]
    · have c' : decide (0 ≤ ep ∧ ep ≤ 99) = false := by simpa using c
      rw [no (by rw [hd, c']; simp)]
    · have b' : decide (0 ≤ prod ∧ prod ≤ 254) = false := by simpa using b
      rw [no (by rw [hd, b']; simp)]

def RB (x : S27) : Prop := x.f3.length ≤ 13 ∧ x.f5.length ≤ 13 ∧ 0 ≤ x.f0 ∧ x.f0 ≤ 1000
theorem l91Records_ev {b : List Int} {p : Int} (hb : Rdr b p) (hp : p ≤ 1000) (o : Int) (h0 : 0 ≤ o) (h1 : o ≤ 60) :
    EvP (fun k => spec_l91Records.f k b p o 4) (fun r => 1 ≤ r.1.length ∧ r.1.length ≤ 4 ∧ (∀ x ∈ r.1, RB x) ∧ Rdr b r.2 ∧ r.2 ≤ p + 3000) := by
  have hR : ∀ q : Int, 0 ≤ q → Rdr b q := fun q hq => ⟨hb.1, hb.2.1, hq⟩
  have p0 := hb.2.2
  unfold spec_l91Records.f
  refine EvP.bind (pick_ev hb (by omega) (by decide) (by decide)) ?_
  rintro ⟨n, q1⟩ ⟨a1, a2, a3⟩
  dsimp only at a1 a2 a3 ⊢
  refine EvP.bind (pick_ev (hR q1 (by omega)) (by omega) (by decide) (by decide)) ?_
  rintro ⟨t, q2⟩ ⟨b1, b2, b3⟩
  dsimp only at b1 b2 b3 ⊢
  rw [w64 (x := 1 + n) (by omega) (by omega)]
  have key : ∀ (d : Nat) (L : List S27) (i off t q : Int), 0 ≤ i → i + d = 1 + n → (L.length : Int) = i → (∀ x ∈ L, RB x) → 0 ≤ off → off ≤ 60 + 2 * i → 0 ≤ t → t ≤ 1000 + 100 * i → 0 ≤ q → q ≤ p + 2 + 300 * i →
      EvP (fun k => spec_l91Records.l0 k off L (1 + n) t i b q) (fun r => 1 ≤ r.1.length ∧ r.1.length ≤ 4 ∧ (∀ x ∈ r.1, RB x) ∧ Rdr b r.2 ∧ r.2 ≤ p + 3000) := by
    intro d
    induction d with
    | zero =>
      intro L i off t q i0 hd hL hB o0 o1 t0 t1 q0 q1
      refine EvP.succ ?_
      simp only [spec_l91Records.l0]
      exact EvP.neg (by omega) (EvP.ret ⟨by dsimp only; omega, by dsimp only; omega, hB, hR q q0, by dsimp only; omega⟩)
    | succ d ih =>
      intro L i off t q i0 hd hL hB o0 o1 t0 t1 q0 q1
      have fin : ∀ (X : S27) (u : Int), RB X → 0 ≤ u → u ≤ p + 2 + 300 * i + 202 →
          EvP (fun k => (spec_l6Rd_pick.f k b u 5).bind fun y => (spec_l6Rd_pick.f k b y.2 30).bind fun z => spec_l91Records.l0 k (wrap64 ((wrap64 (off + 1)) + (wrap64 (Int.tdiv y.1 4)))) (L ++ [X]) (1 + n) (mx (wrap64 ((wrap64 (t + z.1)) - 6)) 0) (wrap64 (i + 1)) b z.2) (fun r => 1 ≤ r.1.length ∧ r.1.length ≤ 4 ∧ (∀ x ∈ r.1, RB x) ∧ Rdr b r.2 ∧ r.2 ≤ p + 3000) := by
        intro X u hX u0 u1
        refine EvP.bind (pick_ev (hR u u0) (by omega) (by decide) (by decide)) ?_
        rintro ⟨v, r1⟩ ⟨c1, c2, c3⟩
        dsimp only at c1 c2 c3 ⊢
        refine EvP.bind (pick_ev (hR r1 (by omega)) (by omega) (by decide) (by decide)) ?_
        rintro ⟨w, r2⟩ ⟨d1, d2, d3⟩
        dsimp only at d1 d2 d3 ⊢
        have td : 0 ≤ Int.tdiv v 4 ∧ Int.tdiv v 4 ≤ 1 := by
          have c : v = 0 ∨ v = 1 ∨ v = 2 ∨ v = 3 ∨ v = 4 := by omega
          rcases c with rfl | rfl | rfl | rfl | rfl <;> decide
        generalize Int.tdiv v 4 = y at td ⊢
        obtain ⟨td1, td2⟩ := td
        rw [w64 (x := off + 1) (by omega) (by omega), w64 (x := y) (by omega) (by omega), w64 (x := off + 1 + y) (by omega) (by omega), w64 (x := t + w) (by omega) (by omega), w64 (x := t + w - 6) (by omega) (by omega), w64 (x := i + 1) (by omega) (by omega)]
        have m : 0 ≤ mx (t + w - 6) 0 ∧ mx (t + w - 6) 0 ≤ 1000 + 100 * (i + 1) := by unfold mx; split <;> omega
        generalize mx (t + w - 6) 0 = t2 at m ⊢
        refine ih (L ++ [X]) (i + 1) (off + 1 + y) t2 r2 (by omega) (by omega) (by simp; omega) ?_ (by omega) (by omega) m.1 m.2 (by omega) (by omega)
        intro x hx
        rcases List.mem_append.1 hx with h | h
        · exact hB x h
        · rw [List.mem_singleton.1 h]; exact hX
      have j1 : ∀ (hv : Bool) (vs : List Int) (c : Bool) (u : Int) (hk : Bool) (ks : List Int), vs.length ≤ 12 → ks.length ≤ 12 → 0 ≤ u → u ≤ p + 2 + 300 * i + 201 →
          EvP (fun k => spec_l91Records.j1 k off L (1 + n) t i hv vs c b u off t hk ks false) (fun r => 1 ≤ r.1.length ∧ r.1.length ≤ 4 ∧ (∀ x ∈ r.1, RB x) ∧ Rdr b r.2 ∧ r.2 ≤ p + 3000) := by
        intro hv vs c u hk ks l1 l2 u0 u1
        refine EvP.succ ?_
        simp only [spec_l91Records.j1]
        refine EvP.ite (fun _ => ?_) (fun _ => EvP.pos (by omega) (fin _ u ⟨by dsimp only; omega, by dsimp only; omega, by dsimp only; omega, by dsimp only; omega⟩ u0 (by omega)))
        refine EvP.bind (pick_ev (hR u u0) (by omega) (by decide) (by decide)) ?_
        rintro ⟨v, r1⟩ ⟨c1, c2, c3⟩
        dsimp only at c1 c2 c3 ⊢
        exact EvP.pos (by omega) (fin _ r1 ⟨by simp, by dsimp only; omega, by dsimp only; omega, by dsimp only; omega⟩ (by omega) (by omega))
      refine EvP.succ ?_
      simp only [spec_l91Records.l0]
      refine EvP.pos (by omega) ?_
      refine EvP.bind (l91Part_ev (hR q q0) (by omega)) ?_
      rintro ⟨hk, ks, r1⟩ ⟨e1, e2, e3⟩
      dsimp only at e1 e2 e3 ⊢
      have e20 := e2.2.2
      refine EvP.bind (l91Part_ev e2 (by omega)) ?_
      rintro ⟨hv, vs, r2⟩ ⟨f1, f2, f3⟩
      dsimp only at f1 f2 f3 ⊢
      have f20 := f2.2.2
      refine EvP.ite (fun _ => ?_) (fun _ => j1 hv vs false r2 hk ks f1 e1 f20 (by omega))
      refine EvP.bind (pick_ev f2 (by omega) (by decide) (by decide)) ?_
      rintro ⟨v, r3⟩ ⟨c1, c2, c3⟩
      dsimp only at c1 c2 c3 ⊢
      exact j1 hv vs _ r3 hk ks f1 e1 (by omega) (by omega)
  exact key (1 + n).toNat [] 0 o t q2 (by decide) (by omega) rfl (fun x hx => absurd hx List.not_mem_nil) h0 (by omega) b1 (by omega) (by omega) (by omega)

theorem l91Batch_ev {b : List Int} {p : Int} (hb : Rdr b p) (hp : p ≤ 100) (o : Int) (h0 : 0 ≤ o) (h1 : o ≤ 60) :
    EvP (fun k => spec_l91Batch.f k b p o) (fun r => r.2.2.2.2.2.1.length ≤ 5 ∧ (∀ x ∈ r.2.2.2.2.2.1, RB x)) := by
  have hR : ∀ q : Int, 0 ≤ q → Rdr b q := fun q hq => ⟨hb.1, hb.2.1, hq⟩
  have p0 := hb.2.2
  have j0 : ∀ (u : Int) (pk mk : Bool) (pr ep sq : Int) (L : List S27), 0 ≤ u → u ≤ 100000 → 1 ≤ L.length → L.length ≤ 4 → (∀ x ∈ L, RB x) →
      EvP (fun k => spec_l91Batch.j0 k b u pk mk pr ep sq L) (fun r => r.2.2.2.2.2.1.length ≤ 5 ∧ (∀ x ∈ r.2.2.2.2.2.1, RB x)) := by
    intro u pk mk pr ep sq L u0 u1 n1 n4 hB
    refine EvP.succ ?_
    simp only [spec_l91Batch.j0]
    refine EvP.bind (pick_ev (hR u u0) (by omega) (by decide) (by decide)) ?_
    rintro ⟨v, r1⟩ ⟨c1, c2, c3⟩
    dsimp only at c1 c2 c3 ⊢
    refine EvP.ite (fun _ => ?_) (fun _ => EvP.ite (fun _ => ?_) (fun _ => EvP.ite (fun _ => EvP.ret ⟨by dsimp only; omega, hB⟩) (fun _ => EvP.ret ⟨by dsimp only; omega, hB⟩)))
    · simp only [Option.bind_some]
      refine EvP.bind (pick_ev (hR r1 (by omega)) (by omega) (by decide) (by decide)) ?_
      rintro ⟨w, r2⟩ ⟨d1, d2, d3⟩
      dsimp only at d1 d2 d3 ⊢
      exact EvP.pos d1 (EvP.pos (by simpa using d2) (EvP.ret ⟨by dsimp only; omega, hB⟩))
    · refine EvP.pos (by omega) (EvP.pos (by omega) (EvP.ret ⟨by simp; omega, ?_⟩))
      intro x hx
      rcases List.mem_append.1 hx with h | h
      · exact hB x h
      · rw [List.mem_singleton.1 h]
        have e : rd_T27 L 0 = L[0] := rdT_nat L 0 (by omega)
        rw [e]
        exact hB L[0] (List.getElem_mem _)
  unfold spec_l91Batch.f
  refine EvP.bind (pick_ev hb (by omega) (by decide) (by decide)) ?_
  rintro ⟨v1, q1⟩ ⟨a1, a2, a3⟩
  dsimp only at a1 a2 a3 ⊢
  refine EvP.bind (l91Records_ev (hR q1 (by omega)) (by omega) o h0 h1) ?_
  rintro ⟨L, q2⟩ ⟨n1, n4, hB, hq, hq2⟩
  dsimp only at n1 n4 hB hq hq2 ⊢
  have q20 := hq.2.2
  refine EvP.bind (pick_ev hq (by omega) (by decide) (by decide)) ?_
  rintro ⟨v3, q3⟩ ⟨b1, b2, b3⟩
  dsimp only at b1 b2 b3 ⊢
  refine EvP.ite (fun _ => ?_) (fun _ => j0 q3 _ _ _ _ _ L (by omega) (by omega) n1 n4 hB)
  refine EvP.bind (pick_ev (hR q3 (by omega)) (by omega) (by decide) (by decide)) ?_
  rintro ⟨v4, q4⟩ ⟨c1, c2, c3⟩
  dsimp only at c1 c2 c3 ⊢
  refine EvP.bind (pick_ev (hR q4 (by omega)) (by omega) (by decide) (by decide)) ?_
  rintro ⟨v5, q5⟩ ⟨d1, d2, d3⟩
  dsimp only at d1 d2 d3 ⊢
  refine EvP.bind (pick_ev (hR q5 (by omega)) (by omega) (by decide) (by decide)) ?_
  rintro ⟨v6, q6⟩ ⟨e1, e2, e3⟩
  dsimp only at e1 e2 e3 ⊢
  refine EvP.bind (pick_ev (hR q6 (by omega)) (by omega) (by decide) (by decide)) ?_
  rintro ⟨v7, q7⟩ ⟨f1, f2, f3⟩
  dsimp only at f1 f2 f3 ⊢
  refine EvP.ite (fun _ => ?_) (fun _ => j0 q7 _ _ _ _ _ L (by omega) (by omega) n1 n4 hB)
  refine EvP.bind (pick_ev (hR q7 (by omega)) (by omega) (by decide) (by decide)) ?_
  rintro ⟨v8, q8⟩ ⟨g1, g2, g3⟩
  dsimp only at g1 g2 g3 ⊢
  refine EvP.bind (pick_ev (hR q8 (by omega)) (by omega) (by decide) (by decide)) ?_
  rintro ⟨v9, q9⟩ ⟨i1, i2, i3⟩
  dsimp only at i1 i2 i3 ⊢
  refine j0 q9 _ _ _ _ _ _ (by omega) (by omega) (by simp) (by simp) ?_
  intro x hx
  rw [List.mem_singleton.1 hx]
  exact ⟨by simp, by simp, by dsimp only; omega, by dsimp only; omega⟩

theorem drawBatchValid_ev (l : List Int) (hl : ∀ x ∈ l, (Lit.int .u8 x).wf = true) : EvP (fun k => spec_DrawBatchValid.f k l) (fun r => r.2.2.2.2.2.length ≤ 5 ∧ (∀ x ∈ r.2.2.2.2.2, RB x)) := by
  unfold spec_DrawBatchValid.f
  refine EvP.bind (open_ev l hl) ?_
  rintro ⟨b, p⟩ ⟨h, hp⟩
  obtain rfl : p = 0 := hp
  have hR : ∀ q : Int, 0 ≤ q → Rdr b q := fun q hq => ⟨h.1, h.2.1, hq⟩
  dsimp only at h ⊢
  refine EvP.bind (pick_ev h (by decide) (by decide) (by decide)) ?_
  rintro ⟨v, q⟩ ⟨a1, a2, a3⟩
  dsimp only at a1 a2 a3 ⊢
  refine EvP.bind (l91Batch_ev (hR q (by omega)) (by omega) v a1 (by omega)) ?_
  rintro ⟨pk, mk, pr, ep, sq, L, q2⟩ ⟨h1, h2⟩
  exact EvP.ret ⟨h1, h2⟩

theorem evGet {α : Type} {g : Nat → Option α} {v : α} (h : EvV g v) : ∃ K, ∀ k, K ≤ k → g k = some v := by
  obtain ⟨r, rfl, h⟩ := h
  exact h
theorem FnBatchPart : laws_FnBatchPart.Pure := by
  intro l _ _ hl _
  obtain ⟨⟨pk, mk, pr, ep, sq, L⟩, ⟨h1, h2⟩, K0, h0⟩ := drawBatchValid_ev l hl
  dsimp only at h1 h2 h0
  have hs : SmallR L := fun x hx => ⟨by have := (h2 x hx).1; omega, by have := (h2 x hx).2.1; omega⟩
  obtain ⟨K1, i⟩ := evGet (iBatchValid_ev pk mk pr ep sq L hs (by omega))
  obtain ⟨K2, s⟩ := evGet (sBatchValid_ev pk mk pr ep sq L hs (by omega))
  by_cases c : batOk mk pr ep sq (L.map toM) = true
  · rw [c] at i s
    obtain ⟨_, hm, ha⟩ := batOk_iff.1 c
    have hn : 1 ≤ L.length := by
      unfold manyOk at hm
      simp only [Bool.and_eq_true, decide_eq_true_eq, List.length_map] at hm
      omega
    have e0 : rd_T27 L 0 = L[0] := rdT_nat L 0 (by omega)
    have hs2 : SmallR ([rd_T27 L 0] ++ L) := by
      intro x hx
      rcases List.mem_append.1 hx with h | h
      · rw [List.mem_singleton.1 h, e0]; exact hs L[0] (List.getElem_mem _)
      · exact hs x h
    have x1 : batOk mk pr ep sq (([] : List S27).map toM) = false := by
      rw [Bool.eq_false_iff]; intro h; have := (batOk_iff.1 h).2.1; simp [manyOk] at this
    have x2 : batOk mk pr ep sq (([rd_T27 L 0] ++ L).map toM) = false := by
      rw [Bool.eq_false_iff]; intro h
      have g := (batOk_iff.1 h).2.2
      rw [e0] at g
      cases L with
      | nil => simp at hn
      | cons x xs =>
        simp only [List.getElem_cons_zero, List.map_append, List.map_cons, List.map_nil, List.cons_append, List.nil_append, ascF, Bool.and_eq_true, decide_eq_true_eq] at g
        exact absurd g.2.2.2.1 (by simp [toM])
    have x3 : batOk true 255 ep sq (L.map toM) = false := by
      rw [Bool.eq_false_iff]; intro h; have := (batOk_iff.1 h).1; simp [headOk] at this
    obtain ⟨K3, v1⟩ := evGet ((iBatchValid_ev pk mk pr ep sq [] (fun x hx => absurd hx List.not_mem_nil) (by simp)).to x1)
    obtain ⟨K4, v2⟩ := evGet ((iBatchValid_ev pk mk pr ep sq _ hs2 (by simp; omega)).to x2)
    obtain ⟨K5, v3⟩ := evGet ((iBatchValid_ev pk true 255 ep sq L hs (by omega)).to x3)
    exact ⟨K0 + K1 + K2 + K3 + K4 + K5, pk, mk, pr, ep, sq, L, true, ⟨h0 _ (by omega), i _ (by omega), s _ (by omega), by omega, fun _ => ⟨by omega, v1 _ (by omega), v2 _ (by omega), v3 _ (by omega)⟩⟩⟩
  · have c' : batOk mk pr ep sq (L.map toM) = false := by simpa using c
    rw [c'] at i s
    exact ⟨K0 + K1 + K2, pk, mk, pr, ep, sq, L, false, ⟨h0 _ (by omega), i _ (by omega), s _ (by omega), by omega, fun h => by cases h⟩⟩

end Go.Proofs.Ytdgpkjjclngamaa.Pure
