/- Packed bytes are at most one longer for each 64, at whatever bytes the code draws; there is no condition. -/
import Derived.Test.YtjbgbnngfbhmjaaQFnPackLongx4
import Derived.Test.YtjbgbnngfbhmjaaMath
import Derived.Test.YtjbgbnngfbhmjaaMath6
import Derived.Test.YtjbgbnngfbhmjaaMath7
set_option linter.unusedVariables false
set_option linter.unusedSimpArgs false
namespace Go.Proofs.Ytjbgbnngfbhmjaa.Pure
open Go.RowKit Go.Proofs.Ytjbgbnngfbhmjaa.QFnPackLong Go.Proofs.YtjbgbnngfbhmjaaW.PrintWords Go.Proofs.YtjbgbnngfbhmjaaW.PrintLast Go.Proofs.YtjbgbnngfbhmjaaW.PrintMore Go.Proofs.Ytjbgbnngfbhmjaa.M

theorem l6In_eq (a b c : Int) : spec_l6In.f a b c = some (decide (b ≤ a ∧ a ≤ c)) := by
  unfold spec_l6In.f
  by_cases h : a ≥ b
  · rw [if_pos h]; congr 1; simp only [decide_eq_decide]; omega
  · rw [if_neg h]; congr 1; symm; simp only [decide_eq_false_iff_not]; omega

theorem pick_ev {b : List Int} {p : Int} (hb : Rdr b p) (hp : p ≤ 1000000000) {n : Int} (hn : 1 ≤ n) (hn2 : n ≤ 1000000000) :
    EvP (fun k => spec_l6Rd_pick.f k b p n) (fun r => 0 ≤ r.1 ∧ r.1 < n ∧ r.2 = p + 1) := by
  obtain ⟨hl, hx, hp0⟩ := hb
  have w1 : wrap64 (p + 1) = p + 1 := w64 (by omega) (by omega)
  have w2 : wrap64 (p + 1 - 1) = p := by rw [w64 (by omega) (by omega)]; omega
  unfold spec_l6Rd_pick.f
  refine EvP.neg (by omega) ?_
  rw [w1]
  refine EvP.succ ?_
  simp only [spec_l6Rd_pick.j0, w2]
  refine EvP.ite (fun h => EvP.ret ⟨by omega, by omega, rfl⟩) (fun h => ?_)
  have hlen : ((b.length : Int) == 0) = false := by simpa using h
  have hne : ¬ (b.length : Int) = 0 := by simpa using hlen
  have tm : ∀ x : Int, 0 ≤ x → 0 ≤ Int.tmod x n ∧ Int.tmod x n < n := fun x hx => by
    rw [tmod_pos hx]; exact ⟨Int.emod_nonneg _ (by omega), Int.emod_lt_of_pos _ (by omega)⟩
  have rr : ∀ i, 0 ≤ rd b i ∧ rd b i ≤ 255 := rd_rng hx
  refine EvP.ite (fun h1 => ?_) (fun h1 => ?_)
  · refine EvP.pos hp0 (EvP.neg (by omega) (EvP.ret ?_))
    have := rr p
    have t := tm (wrap64 (rd b p)) (by rw [w64 (by omega) (by omega)]; omega)
    exact ⟨t.1, t.2, rfl⟩
  · have t1 : Int.tmod p (b.length : Int) = p % (b.length : Int) := tmod_pos hp0
    have w3 : wrap64 (wrap64 (p * 7) + 3) = p * 7 + 3 := by rw [w64 (x := p * 7) (by omega) (by omega), w64 (by omega) (by omega)]
    have t2 : Int.tmod (p * 7 + 3) (b.length : Int) = (p * 7 + 3) % (b.length : Int) := tmod_pos (by omega)
    have a1 := Int.emod_nonneg p hne
    have a2 := Int.emod_lt_of_pos p (by omega : 0 < (b.length : Int))
    have a3 := Int.emod_nonneg (p * 7 + 3) hne
    have a4 := Int.emod_lt_of_pos (p * 7 + 3) (by omega : 0 < (b.length : Int))
    have d1 : Int.tdiv p (b.length : Int) = p / (b.length : Int) := tdiv_pos hp0
    have d2 : 0 ≤ p / (b.length : Int) := Int.ediv_nonneg hp0 (by omega)
    have d3 : p / (b.length : Int) ≤ p := Int.ediv_le_self _ hp0
    simp only [w3, t1, t2, d1]
    refine EvP.neg hne (EvP.pos a1 (EvP.pos a2 (EvP.pos a3 (EvP.pos a4 (EvP.neg (by omega) (EvP.ret ?_))))))
    have r1 := rr (p % (b.length : Int))
    have r2 := rr ((p * 7 + 3) % (b.length : Int))
    generalize rd b (p % (b.length : Int)) = x1 at r1 ⊢
    generalize rd b ((p * 7 + 3) % (b.length : Int)) = x2 at r2 ⊢
    generalize p / (b.length : Int) = q at d2 d3 ⊢
    have wx : ∀ x : Int, 0 ≤ x → x ≤ 1000000000000 → wrap64 x = x := fun x h0 h1 => w64 (by omega) (by omega)
    have e : wrap64 (wrap64 (wrap64 (wrap64 (wrap64 x1 * 131) + wrap64 (wrap64 x2 * 1117)) + wrap64 (p * 29)) + wrap64 (wrap64 q * 53)) = x1 * 131 + x2 * 1117 + p * 29 + q * 53 := by
      rw [wx x1 (by omega) (by omega), wx x2 (by omega) (by omega), wx q (by omega) (by omega), wx (x1 * 131) (by omega) (by omega), wx (x2 * 1117) (by omega) (by omega), wx (p * 29) (by omega) (by omega), wx (q * 53) (by omega) (by omega),
        wx (x1 * 131 + x2 * 1117) (by omega) (by omega), wx (x1 * 131 + x2 * 1117 + p * 29) (by omega) (by omega), wx _ (by omega) (by omega)]
    rw [e]
    generalize hz : x1 * 131 + x2 * 1117 + p * 29 + q * 53 = z
    have z0 : 0 ≤ z := by omega
    have z1 : z ≤ 1000000000000 := by omega
    rw [tdiv_pos z0, wx (z / 64) (by omega) (by omega)]
    have t := tm _ (xor_nonneg (x := z) (y := z / 64) (by omega) (by omega) (by omega) (by omega))
    exact ⟨t.1, t.2, rfl⟩

theorem open_ev (l : List Int) (hl : ∀ x ∈ l, (Lit.int .u8 x).wf = true) : EvP (fun _ => spec_l6Open.f l) (fun r => Rdr r.1 r.2 ∧ r.2 = 0) := by
  have hx : ∀ x ∈ l, 0 ≤ x ∧ x ≤ 255 := fun x hx => wf_u8 (hl x hx)
  unfold spec_l6Open.f
  refine EvP.ite (fun h => ?_) (fun h => ?_)
  · refine EvP.pos (by omega) (EvP.ret ⟨⟨by simp; omega, fun x hm => hx x (List.mem_of_mem_take hm), Int.le_refl 0⟩, rfl⟩)
  · exact EvP.ret ⟨⟨by dsimp only; omega, hx, Int.le_refl 0⟩, rfl⟩

theorem l1Ok_l0 (xs : List Int) (hl : xs.length ≤ 1000000000000000000) (d : Nat) : ∀ j : Nat, j ≤ xs.length → xs.length - j = d → EvV (fun k => spec_l1Ok.l0 k xs (j : Int)) (allB (xs.drop j)) := by
  induction d with
  | zero =>
    intro j hj hd
    refine EvP.succ ?_
    simp only [spec_l1Ok.l0]
    rw [drop_end xs j (by omega)]
    exact EvP.neg (by omega) (EvP.ret rfl)
  | succ d ih =>
    intro j hj hd
    have hlt : j < xs.length := by omega
    refine EvP.succ ?_
    simp only [spec_l1Ok.l0, l6In_eq, Option.bind_some, rd_nat xs j hlt, w64_succ hlt hl]
    refine EvP.pos (by omega) (EvP.pos (by omega) ?_)
    rw [drop_cons xs j hlt]
    refine EvP.ite (fun h => ?_) (fun h => EvP.ret ?_)
    · have hb : isB xs[j] = true := h
      exact (ih (j + 1) (by omega) (by omega)).to (allB_cons_t hb)
    · have hb : isB xs[j] = false := by simpa [isB] using h
      exact allB_cons_f hb
theorem l1Ok_ev (xs : List Int) (hl : xs.length ≤ 1000000000000000000) : EvV (fun k => spec_l1Ok.f k xs) (allB xs) := by
  unfold spec_l1Ok.f; exact l1Ok_l0 xs hl xs.length 0 (by omega) (by omega)

theorem isByte_eq (x : Int) : impl_isByte.f x = some (isB x) := by
  unfold impl_isByte.f isB
  by_cases h : x ≥ 0
  · rw [if_pos h]; congr 1; simp only [decide_eq_decide]; omega
  · rw [if_neg h]; congr 1; symm; simp only [decide_eq_false_iff_not]; omega

theorem allBytes_l0 (xs : List Int) (hl : xs.length ≤ 1000000000000000000) (d : Nat) : ∀ j : Nat, j ≤ xs.length → xs.length - j = d → EvV (fun k => impl_allBytes.l0 k xs (xs.length : Int) (j : Int)) (allB (xs.drop j)) := by
  induction d with
  | zero =>
    intro j hj hd
    refine EvP.succ ?_
    simp only [impl_allBytes.l0]
    rw [drop_end xs j (by omega)]
    exact EvP.neg (by omega) (EvP.ret rfl)
  | succ d ih =>
    intro j hj hd
    have hlt : j < xs.length := by omega
    refine EvP.succ ?_
    simp only [impl_allBytes.l0, isByte_eq, Option.bind_some, rd_nat xs j hlt, w64_succ hlt hl]
    refine EvP.pos (by omega) (EvP.pos (by omega) (EvP.pos (by omega) ?_))
    rw [drop_cons xs j hlt]
    refine EvP.ite (fun h => ?_) (fun h => EvP.ret ?_)
    · exact (ih (j + 1) (by omega) (by omega)).to (allB_cons_t h)
    · exact allB_cons_f (by simpa using h)
theorem allBytes_ev (xs : List Int) (hl : xs.length ≤ 1000000000000000000) : EvV (fun k => impl_allBytes.f k xs) (allB xs) := by
  unfold impl_allBytes.f; exact allBytes_l0 xs hl xs.length 0 (by omega) (by omega)

theorem sameInts_l0 (xs ys : List Int) (he : xs.length = ys.length) (hl : xs.length ≤ 1000000000000000000) (d : Nat) : ∀ j : Nat, j ≤ xs.length → xs.length - j = d → EvV (fun k => laws_sameInts.l0 k xs ys (j : Int)) (decide (xs.drop j = ys.drop j)) := by
  induction d with
  | zero =>
    intro j hj hd
    refine EvP.succ ?_
    simp only [laws_sameInts.l0]
    rw [drop_end xs j (by omega), drop_end ys j (by omega)]
    exact EvP.neg (by omega) (EvP.ret (by simp))
  | succ d ih =>
    intro j hj hd
    have hlt : j < xs.length := by omega
    have hlt2 : j < ys.length := by omega
    refine EvP.succ ?_
    simp only [laws_sameInts.l0, rd_nat xs j hlt, rd_nat ys j hlt2, w64_succ hlt hl]
    refine EvP.pos (by omega) (EvP.pos (by omega) (EvP.pos (by omega) ?_))
    rw [drop_cons xs j hlt, drop_cons ys j hlt2]
    refine EvP.ite (fun h => ?_) (fun h => EvP.ret ?_)
    · exact (ih (j + 1) (by omega) (by omega)).to (dec_cons_t h)
    · exact dec_cons_f h
theorem sameInts_ev (xs ys : List Int) (hl : xs.length ≤ 1000000000000000000) : EvV (fun k => laws_sameInts.f k xs ys) (decide (xs = ys)) := by
  unfold laws_sameInts.f
  refine EvP.ite (fun h => ?_) (fun h => EvP.ret ?_)
  · exact sameInts_l0 xs ys (by omega) hl xs.length 0 (by omega) (by omega)
  · have : ¬ xs = ys := by rintro rfl; exact h rfl
    simp [this]
theorem sameInts_same (xs : List Int) (hl : xs.length ≤ 1000000000000000000) : EvV (fun k => laws_sameInts.f k xs xs) true := (sameInts_ev xs xs hl).to (by simp)

theorem l4Long_ev {xs : List Int} {a b : Nat} (hl : xs.length ≤ 100000) (ha : a ≤ xs.length) (hb1 : 1 ≤ b) (hb : b ≤ a) : EvV (fun k => spec_l4Long.f k xs (a : Int) (b : Int)) ((long xs a b : Nat) : Int) := by
  have key : ∀ (f n : Nat), n + f = 66 → EvV (fun k => spec_l4Long.l0 k xs (a : Int) (b : Int) (n : Int)) ((longF xs a b f n : Nat) : Int) := by
    intro f
    induction f with
    | zero =>
      intro n hn
      have w1 : wrap64 ((a : Int) + (n : Int)) = ((a + n : Nat) : Int) := by rw [w64 (by omega) (by omega)]; omega
      refine EvP.succ ?_
      simp only [spec_l4Long.l0, w1, longF]
      exact EvP.ite (fun _ => EvP.neg (by omega) (EvP.ret rfl)) (fun _ => EvP.ret rfl)
    | succ f ih =>
      intro n hn
      have w1 : wrap64 ((a : Int) + (n : Int)) = ((a + n : Nat) : Int) := by rw [w64 (by omega) (by omega)]; omega
      have w2 : wrap64 (((a + n : Nat) : Int) - (b : Int)) = ((a + n : Nat) : Int) - (b : Int) := w64 (by omega) (by omega)
      have w3 : wrap64 ((n : Int) + 1) = ((n + 1 : Nat) : Int) := by rw [w64 (by omega) (by omega)]; omega
      refine EvP.succ ?_
      simp only [spec_l4Long.l0, w1, w2, w3, longF]
      refine EvP.ite (fun g => EvP.pos (by omega) (EvP.pos (by omega) (EvP.pos (by omega) (EvP.pos (by omega) (EvP.ite (fun e => ?_) (fun e => EvP.ret ?_)))))) (fun g => EvP.ret ?_)
      · rw [if_pos ⟨by omega, e⟩]; exact ih (n + 1) (by omega)
      · rw [if_neg (fun x => e x.2)]
      · rw [if_neg (fun x => g (by omega))]
  unfold spec_l4Long.f
  exact key 66 0 rfl

theorem l4Best_ev {xs : List Int} {a : Nat} (hl : xs.length ≤ 100000) (ha : a ≤ xs.length) : EvV (fun k => spec_l4Best.f k xs (a : Int)) (((best xs a).1 : Int), ((best xs a).2 : Int)) := by
  have hm : mn (a : Int) 200 = ((min a 200 : Nat) : Int) := by unfold mn; split <;> omega
  have key : ∀ (f b lg bs : Nat), b + f = min a 200 + 1 → 1 ≤ b → EvV (fun k => spec_l4Best.l0 k xs (a : Int) (bs : Int) (lg : Int) (b : Int)) (((bestF xs a f b lg bs).1 : Int), ((bestF xs a f b lg bs).2 : Int)) := by
    intro f
    induction f with
    | zero =>
      intro b lg bs hb h1
      refine EvP.succ ?_
      simp only [spec_l4Best.l0, hm, bestF]
      exact EvP.neg (by omega) (EvP.ret rfl)
    | succ f ih =>
      intro b lg bs hb h1
      have w3 : wrap64 ((b : Int) + 1) = ((b + 1 : Nat) : Int) := by rw [w64 (by omega) (by omega)]; omega
      refine EvP.succ ?_
      simp only [spec_l4Best.l0, hm, w3, bestF]
      refine EvP.pos (by omega) (EvV.bind (l4Long_ev hl ha h1 (by omega)) (EvP.ite (fun g => ?_) (fun g => ?_)))
      · rw [if_pos (by omega)]; exact ih (b + 1) _ b (by omega) (by omega)
      · rw [if_neg (by omega)]; exact ih (b + 1) lg bs (by omega) (by omega)
  unfold spec_l4Best.f best
  exact key (min a 200) 1 0 0 (by omega) (by omega)

theorem l4Plain_ev (xs : List Int) (hl : xs.length ≤ 100000) : EvV (fun k => spec_l4Plain.f k xs) (plainL xs) := by
  have key : ∀ (d j : Nat) (out : List Int), xs.length - j ≤ d → j ≤ xs.length + 64 → out.length ≤ 200000 + 2 * j → EvV (fun k => spec_l4Plain.l0 k xs out (j : Int)) (out ++ plainL (xs.drop j)) := by
    intro d
    induction d with
    | zero =>
      intro j out hd _ _
      refine EvP.succ ?_
      simp only [spec_l4Plain.l0]
      rw [drop_end xs j (by omega), plainL_nil, List.append_nil]
      exact EvP.neg (by omega) (EvP.ret rfl)
    | succ d ih =>
      intro j out hd hj ho
      by_cases hlt : j < xs.length
      · have w1 : wrap64 ((j : Int) + 64) = ((j + 64 : Nat) : Int) := by rw [w64 (by omega) (by omega)]; omega
        have hm : mn ((j + 64 : Nat) : Int) (xs.length : Int) = ((min (j + 64) xs.length : Nat) : Int) := by unfold mn; split <;> omega
        have w2 : wrap64 (((min (j + 64) xs.length : Nat) : Int) - (j : Int)) = ((min (j + 64) xs.length : Nat) : Int) - (j : Int) := w64 (by omega) (by omega)
        have w3 : wrap64 (((min (j + 64) xs.length : Nat) : Int) - (j : Int) - 1) = (((xs.drop j).take 64).length : Int) - 1 := by rw [w64 (by omega) (by omega)]; simp; omega
        have e1 : (((min (j + 64) xs.length : Nat) : Int)).toNat = min (j + 64) xs.length := by omega
        have e2 : ((j : Int)).toNat = j := by omega
        have e3 : (xs.take (min (j + 64) xs.length)).drop j = (xs.drop j).take 64 := by
          rw [List.drop_take]
          by_cases h : j + 64 ≤ xs.length
          · congr 1; omega
          · rw [List.take_of_length_le (by simp; omega), List.take_of_length_le (by simp; omega)]
        refine EvP.succ ?_
        simp only [spec_l4Plain.l0, w1, hm, w2, w3, e1, e2, e3, Option.bind_some]
        have l6 : ((xs.drop j).take 64).length ≤ 64 := by simp; omega
        have hne : xs.drop j ≠ [] := by intro h; have := congrArg List.length h; simp at this; omega
        refine EvP.pos (by omega) (EvP.pos (by omega) (EvP.pos (by omega) (EvP.pos (by omega) (EvP.pos (by omega) (EvP.pos (by simp only [List.length_append, List.length_cons, List.length_nil]; omega) ?_)))))
        refine (ih (j + 64) _ (by omega) (by omega) (by simp only [List.length_append, List.length_cons, List.length_nil]; omega)).to ?_
        rw [plainL_step hne, List.drop_drop]
        simp
      · refine EvP.succ ?_
        simp only [spec_l4Plain.l0]
        rw [drop_end xs j (by omega), plainL_nil, List.append_nil]
        exact EvP.neg (by omega) (EvP.ret rfl)
  unfold spec_l4Plain.f
  exact (key xs.length 0 [] (by omega) (by omega) (by simp)).to (by simp)

theorem l4Pack_ev (xs : List Int) (hl : xs.length ≤ 10000) : EvV (fun k => spec_l4Pack.f k xs) (packL xs) := by
  have key : ∀ (d : Nat) (out plain : List Int) (a : Nat), xs.length - a ≤ d → a ≤ xs.length → out.length + 2 * plain.length ≤ 2 * a → EvV (fun k => spec_l4Pack.l0 k xs out plain (a : Int)) (packF xs d out plain a) := by
    intro d
    induction d with
    | zero =>
      intro out plain a hd ha ho
      have pl := plainL_len _ plain rfl
      have lp := l4Plain_ev plain (by omega)
      refine EvP.succ ?_
      simp only [spec_l4Pack.l0, packF]
      generalize plainL plain = P at pl lp ⊢
      exact EvP.neg (by omega) (EvV.bind lp (EvP.pos (by omega) (EvP.ret rfl)))
    | succ d ih =>
      intro out plain a hd ha ho
      have pl := plainL_len _ plain rfl
      have lp := l4Plain_ev plain (by omega)
      refine EvP.succ ?_
      simp only [spec_l4Pack.l0, packF]
      generalize plainL plain = P at pl lp ⊢
      by_cases hlt : a < xs.length
      · obtain ⟨br1, br2, br3, -⟩ := best_rng (xs := xs) (a := a) ha
        have lb := l4Best_ev (xs := xs) (a := a) (by omega) ha
        rw [if_pos hlt]
        generalize best xs a = B at br1 br2 br3 lb ⊢
        obtain ⟨B1, B2⟩ := B
        dsimp only at br1 br2 br3 lb ⊢
        refine EvP.pos (by omega) (EvV.bind lb ?_)
        dsimp only
        have w1 : wrap64 ((a : Int) + 1) = ((a + 1 : Nat) : Int) := by rw [w64 (by omega) (by omega)]; omega
        have w2 : wrap64 ((a : Int) + (B1 : Int)) = ((a + B1 : Nat) : Int) := by clear w1; rw [w64 (by omega) (by omega)]; omega
        have w3 : wrap64 (wrap64 (64 + (B1 : Int)) - 3) = 61 + (B1 : Int) := by clear w1 w2; rw [w64 (x := 64 + (B1 : Int)) (by omega) (by omega), w64 (by omega) (by omega)]; omega
        rw [w1, w2, w3]
        clear w1 w2 w3
        refine EvP.ite (fun g => ?_) (fun g => ?_)
        · rw [if_pos (by omega)]
          exact EvP.pos (by omega) (EvP.pos (by omega) (ih _ _ _ (by omega) (by omega) (by simp; omega)))
        · rw [if_neg (by omega)]
          refine EvV.bind lp (EvP.pos (by omega) ?_)
          simp only [Option.bind_some]
          refine EvP.pos (by simp only [List.length_append, List.length_cons, List.length_nil]; omega) ?_
          exact ih _ _ _ (by omega) (by omega) (by simp only [List.length_append, List.length_cons, List.length_nil]; omega)
      · rw [if_neg hlt]
        exact EvP.neg (by omega) (EvV.bind lp (EvP.pos (by omega) (EvP.ret rfl)))
  unfold spec_l4Pack.f
  exact key xs.length [] [] 0 (by omega) (by omega) (by simp)

theorem sPack_ev (xs : List Int) (hl : xs.length ≤ 1000000000000) : EvV (fun k => spec_PackBytes.f k xs) (packR xs) := by
  unfold spec_PackBytes.f packR
  refine EvV.bind (l1Ok_ev xs (by omega)) (EvP.ite (fun a => EvP.ite (fun b => EvP.ret ?_) (fun b => ?_)) (fun a => EvP.ret ?_))
  · rw [if_neg (by omega)]
  · rw [if_pos ⟨a, by omega⟩]; exact EvV.bind (l4Pack_ev xs (by omega)) (EvP.ret rfl)
  · rw [if_neg (fun x => a x.1)]

theorem l91Rows_ev {b : List Int} {p : Int} (hb : Rdr b p) (hp : p ≤ 1000000) : EvP (fun k => spec_l91Rows.f k b p) (fun r => r.1.length ≤ 400 ∧ Rdr b r.2 ∧ r.2 ≤ p + 1000) := by
  have hR : ∀ q : Int, p ≤ q → Rdr b q := fun q hq => ⟨hb.1, hb.2.1, by have := hb.2.2; omega⟩
  have j4 : ∀ (xs : List Int) (q : Int), xs.length ≤ 400 → p ≤ q → q ≤ p + 500 → EvP (fun k => spec_l91Rows.j4 k xs b q) (fun r => r.1.length ≤ 400 ∧ Rdr b r.2 ∧ r.2 ≤ p + 1000) := by
    intro xs q hx h0 h1
    refine EvP.succ ?_
    simp only [spec_l91Rows.j4]
    refine EvP.ite (fun g => ?_) (fun g => EvP.ret ⟨hx, hR _ h0, by dsimp only; omega⟩)
    refine EvP.bind (pick_ev (hR q h0) (by omega) (by decide) (by decide)) ?_
    rintro ⟨v, q1⟩ ⟨a1, a2, a3⟩
    dsimp only at a1 a2 a3 ⊢
    refine EvP.ite (fun _ => ?_) (fun _ => EvP.ret ⟨hx, hR _ (by dsimp only; omega), by dsimp only; omega⟩)
    refine EvP.bind (pick_ev (hR q1 (by omega)) (by omega) (by omega) (by omega)) ?_
    rintro ⟨w, q2⟩ ⟨b1, b2, b3⟩
    dsimp only at b1 b2 b3 ⊢
    exact EvP.pos b1 (EvP.pos b2 (EvP.ret ⟨by simp; omega, hR _ (by dsimp only; omega), by dsimp only; omega⟩))
  have l2 : ∀ (d : Nat) (xs : List Int) (m q : Int), m ≤ 201 → m - xs.length ≤ d → xs.length ≤ 400 → p ≤ q → q ≤ p + 500 → EvP (fun k => spec_l91Rows.l2 k xs m b q) (fun r => r.1.length ≤ 400 ∧ Rdr b r.2 ∧ r.2 ≤ p + 1000) := by
    intro d
    induction d with
    | zero =>
      intro xs m q hm hd hx h0 h1
      refine EvP.succ ?_
      simp only [spec_l91Rows.l2]
      exact EvP.neg (by omega) (j4 xs q hx h0 h1)
    | succ d ih =>
      intro xs m q hm hd hx h0 h1
      refine EvP.succ ?_
      simp only [spec_l91Rows.l2]
      exact EvP.ite (fun g => EvP.pos (by omega) (ih _ m q hm (by simp; omega) (by simp; omega) h0 h1)) (fun _ => j4 xs q hx h0 h1)
  unfold spec_l91Rows.f
  refine EvP.bind (pick_ev hb (by omega) (by decide) (by decide)) ?_
  rintro ⟨n, q0⟩ ⟨a1, a2, a3⟩
  dsimp only at a1 a2 a3 ⊢
  have l0 : ∀ (d : Nat) (xs : List Int) (i q : Int), 0 ≤ i → i + d = n → xs.length ≤ 12 * i → p ≤ q → q ≤ p + 1 + 10 * i → EvP (fun k => spec_l91Rows.l0 k xs n i b q) (fun r => r.1.length ≤ 400 ∧ Rdr b r.2 ∧ r.2 ≤ p + 1000) := by
    intro d
    induction d with
    | zero =>
      intro xs i q hi hd hx h0 h1
      refine EvP.succ ?_
      simp only [spec_l91Rows.l0]
      refine EvP.neg (by omega) ?_
      refine EvP.bind (pick_ev (hR q h0) (by omega) (by decide) (by decide)) ?_
      rintro ⟨v, q1⟩ ⟨b1, b2, b3⟩
      dsimp only at b1 b2 b3 ⊢
      refine EvP.ite (fun _ => ?_) (fun _ => j4 xs q1 (by omega) (by omega) (by omega))
      simp only [Option.bind_some]
      refine EvP.bind (pick_ev (hR q1 (by omega)) (by omega) (by decide) (by decide)) ?_
      rintro ⟨w, q2⟩ ⟨c1, c2, c3⟩
      dsimp only at c1 c2 c3 ⊢
      have hm : rd [64, 65, 70, 199, 200, 201] w ≤ 201 := by
        have c : w = 0 ∨ w = 1 ∨ w = 2 ∨ w = 3 ∨ w = 4 ∨ w = 5 := by omega
        rcases c with rfl | rfl | rfl | rfl | rfl | rfl <;> decide
      exact EvP.pos c1 (EvP.pos (by simpa using c2) (l2 300 xs _ q2 hm (by omega) (by omega) (by omega) (by omega)))
    | succ d ih =>
      intro xs i q hi hd hx h0 h1
      have wi : wrap64 (i + 1) = i + 1 := w64 (by omega) (by omega)
      have l1 : ∀ (e : Nat) (ys : List Int) (s m j q : Int), 0 ≤ s → s < xs.length → (xs.length : Int) + j ≤ ys.length → 0 ≤ j → j ≤ 12 → m ≤ 12 → m - j ≤ e → ys.length ≤ 12 * i + j → p ≤ q → q ≤ p + 1 + 10 * i + 3 → EvP (fun k => spec_l91Rows.l1 k ys n i s m j b q) (fun r => r.1.length ≤ 400 ∧ Rdr b r.2 ∧ r.2 ≤ p + 1000) := by
        intro e
        induction e with
        | zero =>
          intro ys s m j q s0 s1 hy j0 j12 hm he hyl h0 h1
          refine EvP.succ ?_
          simp only [spec_l91Rows.l1, wi]
          exact EvP.neg (by omega) (ih ys (i + 1) q (by omega) (by omega) (by omega) h0 (by omega))
        | succ e ihe =>
          intro ys s m j q s0 s1 hy j0 j12 hm he hyl h0 h1
          refine EvP.succ ?_
          simp only [spec_l91Rows.l1, wi]
          refine EvP.ite (fun g => ?_) (fun g => ih ys (i + 1) q (by omega) (by omega) (by omega) h0 (by omega))
          rw [w64 (x := s + j) (by omega) (by omega), w64 (x := j + 1) (by omega) (by omega)]
          exact EvP.pos (by omega) (EvP.pos (by omega) (EvP.pos (by omega) (ihe _ s m (j + 1) q s0 s1 (by simp; omega) (by omega) (by omega) hm (by omega) (by simp; omega) h0 h1)))
      have j1 : ∀ (c : Bool) (q : Int), (c = true → 1 ≤ xs.length) → p ≤ q → q ≤ p + 1 + 10 * i + 1 → EvP (fun k => spec_l91Rows.j1 k xs n i c b q) (fun r => r.1.length ≤ 400 ∧ Rdr b r.2 ∧ r.2 ≤ p + 1000) := by
        intro c q hc h0 h1
        refine EvP.succ ?_
        simp only [spec_l91Rows.j1, wi]
        refine EvP.ite (fun g => ?_) (fun g => ?_)
        · have hx1 := hc g
          refine EvP.bind (pick_ev (hR q h0) (by omega) (by omega) (by omega)) ?_
          rintro ⟨v, q1⟩ ⟨b1, b2, b3⟩
          dsimp only at b1 b2 b3 ⊢
          refine EvP.bind (pick_ev (hR q1 (by omega)) (by omega) (by decide) (by decide)) ?_
          rintro ⟨w, q2⟩ ⟨c1, c2, c3⟩
          dsimp only at c1 c2 c3 ⊢
          rw [w64 (x := 1 + w) (by omega) (by omega)]
          exact l1 12 xs v (1 + w) 0 q2 b1 b2 (by omega) (by decide) (by decide) (by omega) (by omega) (by omega) (by omega) (by omega)
        · refine EvP.bind (pick_ev (hR q h0) (by omega) (by decide) (by decide)) ?_
          rintro ⟨v, q1⟩ ⟨b1, b2, b3⟩
          dsimp only at b1 b2 b3 ⊢
          refine EvP.bind (pick_ev (hR q1 (by omega)) (by omega) (by decide) (by decide)) ?_
          rintro ⟨w, q2⟩ ⟨c1, c2, c3⟩
          dsimp only at c1 c2 c3 ⊢
          refine EvP.bind (pick_ev (hR q2 (by omega)) (by omega) (by decide) (by decide)) ?_
          rintro ⟨u, q3⟩ ⟨d1, d2, d3⟩
          dsimp only at d1 d2 d3 ⊢
          simp only [Option.bind_some]
          exact EvP.pos (by simp; omega) (ih _ (i + 1) q3 (by omega) (by omega) (by simp; omega) (by omega) (by omega))
      refine EvP.succ ?_
      simp only [spec_l91Rows.l0]
      refine EvP.pos (by omega) (EvP.ite (fun g => ?_) (fun g => j1 false q (by simp) h0 (by omega)))
      refine EvP.bind (pick_ev (hR q h0) (by omega) (by decide) (by decide)) ?_
      rintro ⟨v, q1⟩ ⟨b1, b2, b3⟩
      dsimp only at b1 b2 b3 ⊢
      exact j1 _ q1 (fun _ => by omega) (by omega) (by omega)
  exact l0 n.toNat [] 0 q0 (by decide) (by omega) (by simp) (by omega) (by omega)

theorem drawPackBytes_ev (l : List Int) (hl : ∀ x ∈ l, (Lit.int .u8 x).wf = true) : EvP (fun k => spec_DrawPackBytes.f k l) (fun xs => xs.length ≤ 400) := by
  unfold spec_DrawPackBytes.f
  refine EvP.bind (open_ev l hl) ?_
  rintro ⟨b, p⟩ ⟨h, hp⟩
  obtain rfl : p = 0 := hp
  dsimp only at h ⊢
  refine EvP.bind (l91Rows_ev h (by decide)) ?_
  rintro ⟨xs, q⟩ ⟨h1, _⟩
  exact EvP.ret h1

theorem impl_pack_ev {xs : List Int} (hb : allB xs = true) (hl : xs.length ≤ 200) : impl_pack.f xs = some (packL xs) := by
  unfold impl_pack.f
  rw [if_pos ⟨hl, allB_iff.1 hb⟩]
  exact Pk.packG_eq xs

theorem iPack_ev (xs : List Int) (hl : xs.length ≤ 1000000000000) : EvV (fun k => impl_PackBytes.f k xs) (packR xs) := by
  unfold impl_PackBytes.f packR
  refine EvP.ite (fun a => EvP.ret ?_) (fun a => EvV.bind (allBytes_ev xs (by omega)) (EvP.ite (fun b => ?_) (fun b => EvP.ret ?_)))
  · rw [if_neg (by omega)]
  · rw [if_pos ⟨b, by omega⟩, impl_pack_ev b (by omega)]; exact EvP.ret rfl
  · rw [if_neg (fun x => b x.1)]

theorem FnPackLong : laws_FnPackLong.Pure := by
  intro l _ _ hl
  refine EvP.done ?_
  unfold laws_FnPackLong.f
  refine EvP.ite (fun _ => EvP.ret rfl) (fun _ => ?_)
  refine EvP.bind (drawPackBytes_ev l hl) ?_
  intro xs hx
  have s := sPack_ev xs (by omega)
  have i := iPack_ev xs (by omega)
  have L := packR_len xs
  have q := sameInts_same (packR xs).1 (by omega)
  have P := packL_long xs
  refine EvV.bind i (EvV.bind s (EvP.neg (by simp) (EvV.bind q (EvP.pos (by simp) ?_))))
  unfold packR at L ⊢
  by_cases c : allB xs = true ∧ xs.length ≤ 200
  · rw [if_pos c]
    refine EvP.pos rfl (EvP.ret ?_)
    generalize packL xs = p at P ⊢
    dsimp only
    rw [w64 (x := (xs.length : Int) + 63) (by omega) (by omega), tdiv_pos (by omega), w64 (x := ((xs.length : Int) + 63) / 64) (by omega) (by omega), w64 (by omega) (by omega)]
    exact (decide_eq_true (by omega)).symm
  · rw [if_neg c]
    exact EvP.neg (by decide) (EvP.pos rfl (EvV.bind (sameInts_same [] (by decide)) (EvP.ret rfl)))

end Go.Proofs.Ytjbgbnngfbhmjaa.Pure
