/- The program's PackBytes and the reference's tell the same bytes, which share no memory with the argument or another call's, for every list; there is no condition. -/
import Derived.Test.YtjbgbnngfbhmjaaQFnExactPackBytesx3
import Derived.Test.YtjbgbnngfbhmjaaMath
import Derived.Test.YtjbgbnngfbhmjaaMath2
import Derived.Test.YtjbgbnngfbhmjaaMath6
set_option linter.unusedVariables false
set_option linter.unusedSimpArgs false
namespace Go.Proofs.Ytjbgbnngfbhmjaa.Pure
open Go.RowKit Go.Proofs.Ytjbgbnngfbhmjaa.QFnExactPackBytes Go.Proofs.YtjbgbnngfbhmjaaW.PrintWords Go.Proofs.YtjbgbnngfbhmjaaW.PrintLast Go.Proofs.YtjbgbnngfbhmjaaW.PrintMore Go.Proofs.Ytjbgbnngfbhmjaa.M

theorem l6In_eq (a b c : Int) : spec_l6In.f a b c = some (decide (b ≤ a ∧ a ≤ c)) := by
  unfold spec_l6In.f
  by_cases h : a ≥ b
  · rw [if_pos h]; congr 1; simp only [decide_eq_decide]; omega
  · rw [if_neg h]; congr 1; symm; simp only [decide_eq_false_iff_not]; omega

theorem l1Ok_l0 (xs : List Int) (hl : xs.length ≤ 1000000000000000000) (d : Nat) : ∀ j : Nat, j ≤ xs.length → xs.length - j = d → EvV (fun k => spec_l1Ok.l0 k xs (j : Int)) (allB (xs.drop j)) := by
  induction d with
  | zero =>
    intro j hj hd
    refine EvP.succ ?_
    simp only [spec_l1Ok.l0]
    rw [drop_end xs j (by omega)]
    exact EvP.neg (by omega) (EvP.ret rfl)
  | succ d ih =>
    intro j hj hd
    have hlt : j < xs.length := by omega
    refine EvP.succ ?_
    simp only [spec_l1Ok.l0, l6In_eq, Option.bind_some, rd_nat xs j hlt, w64_succ hlt hl]
    refine EvP.pos (by omega) (EvP.pos (by omega) ?_)
    rw [drop_cons xs j hlt]
    refine EvP.ite (fun h => ?_) (fun h => EvP.ret ?_)
    · have hb : isB xs[j] = true := h
      exact (ih (j + 1) (by omega) (by omega)).to (allB_cons_t hb)
    · have hb : isB xs[j] = false := by simpa [isB] using h
      exact allB_cons_f hb
theorem l1Ok_ev (xs : List Int) (hl : xs.length ≤ 1000000000000000000) : EvV (fun k => spec_l1Ok.f k xs) (allB xs) := by
  unfold spec_l1Ok.f; exact l1Ok_l0 xs hl xs.length 0 (by omega) (by omega)

theorem isByte_eq (x : Int) : impl_isByte.f x = some (isB x) := by
  unfold impl_isByte.f isB
  by_cases h : x ≥ 0
  · rw [if_pos h]; congr 1; simp only [decide_eq_decide]; omega
  · rw [if_neg h]; congr 1; symm; simp only [decide_eq_false_iff_not]; omega

theorem allBytes_l0 (xs : List Int) (hl : xs.length ≤ 1000000000000000000) (d : Nat) : ∀ j : Nat, j ≤ xs.length → xs.length - j = d → EvV (fun k => impl_allBytes.l0 k xs (xs.length : Int) (j : Int)) (allB (xs.drop j)) := by
  induction d with
  | zero =>
    intro j hj hd
    refine EvP.succ ?_
    simp only [impl_allBytes.l0]
    rw [drop_end xs j (by omega)]
    exact EvP.neg (by omega) (EvP.ret rfl)
  | succ d ih =>
    intro j hj hd
    have hlt : j < xs.length := by omega
    refine EvP.succ ?_
    simp only [impl_allBytes.l0, isByte_eq, Option.bind_some, rd_nat xs j hlt, w64_succ hlt hl]
    refine EvP.pos (by omega) (EvP.pos (by omega) (EvP.pos (by omega) ?_))
    rw [drop_cons xs j hlt]
    refine EvP.ite (fun h => ?_) (fun h => EvP.ret ?_)
    · exact (ih (j + 1) (by omega) (by omega)).to (allB_cons_t h)
    · exact allB_cons_f (by simpa using h)
theorem allBytes_ev (xs : List Int) (hl : xs.length ≤ 1000000000000000000) : EvV (fun k => impl_allBytes.f k xs) (allB xs) := by
  unfold impl_allBytes.f; exact allBytes_l0 xs hl xs.length 0 (by omega) (by omega)

theorem eqIntS_l0 (xs ys : List Int) (he : xs.length = ys.length) (hl : xs.length ≤ 1000000000000000000) (d : Nat) : ∀ j : Nat, j ≤ xs.length → xs.length - j = d → EvV (fun k => laws_eqIntS.l0 k xs ys (j : Int)) (decide (xs.drop j = ys.drop j)) := by
  induction d with
  | zero =>
    intro j hj hd
    refine EvP.succ ?_
    simp only [laws_eqIntS.l0]
    rw [drop_end xs j (by omega), drop_end ys j (by omega)]
    exact EvP.neg (by omega) (EvP.ret (by simp))
  | succ d ih =>
    intro j hj hd
    have hlt : j < xs.length := by omega
    have hlt2 : j < ys.length := by omega
    refine EvP.succ ?_
    simp only [laws_eqIntS.l0, rd_nat xs j hlt, rd_nat ys j hlt2, w64_succ hlt hl]
    refine EvP.pos (by omega) (EvP.pos (by omega) (EvP.pos (by omega) ?_))
    rw [drop_cons xs j hlt, drop_cons ys j hlt2]
    refine EvP.ite (fun h => ?_) (fun h => EvP.ret ?_)
    · exact (ih (j + 1) (by omega) (by omega)).to (dec_cons_t h)
    · exact dec_cons_f h
theorem eqIntS_ev (xs ys : List Int) (hl : xs.length ≤ 1000000000000000000) : EvV (fun k => laws_eqIntS.f k xs ys) (decide (xs = ys)) := by
  unfold laws_eqIntS.f
  refine EvP.ite (fun h => ?_) (fun h => EvP.ret ?_)
  · exact eqIntS_l0 xs ys (by omega) hl xs.length 0 (by omega) (by omega)
  · have : ¬ xs = ys := by rintro rfl; exact h rfl
    simp [this]

theorem toIntS_ev (xs : List Int) (hl : xs.length ≤ 1000000000000) : EvV (fun k => laws_toIntS.f k xs) xs := by
  have key : ∀ (d j : Nat) (ys : List Int), j + d = xs.length → ys.length = xs.length → ys.take j = xs.take j → EvV (fun k => laws_toIntS.l0 k xs ys (j : Int)) xs := by
    intro d
    induction d with
    | zero =>
      intro j ys hj hy ht
      refine EvP.succ ?_
      simp only [laws_toIntS.l0]
      refine EvP.neg (by omega) (EvP.ret ?_)
      rw [List.take_of_length_le (by omega), List.take_of_length_le (by omega)] at ht
      exact ht.symm
    | succ d ih =>
      intro j ys hj hy ht
      have hlt : j < xs.length := by omega
      refine EvP.succ ?_
      simp only [laws_toIntS.l0, rd_nat xs j hlt, w64_succ hlt (by omega : xs.length ≤ 1000000000000000000)]
      refine EvP.pos (by omega) (EvP.pos (by omega) (EvP.pos (by omega) ?_))
      have e : ((j : Int)).toNat = j := by omega
      rw [e]
      refine ih (j + 1) _ (by omega) (by simpa using hy) ?_
      rw [List.take_add_one, List.take_add_one, List.take_set_of_le (Nat.le_refl _), ht]
      simp [hlt, hy]
  unfold laws_toIntS.f
  refine EvP.pos (by omega) (EvP.pos (by omega) ?_)
  exact key xs.length 0 _ (by omega) (by simp) (by simp)

theorem markIntS_ev (xs : List Int) (s : Int) (hs0 : 0 ≤ s) (hs1 : s ≤ 1000000000000000) (hl : xs.length ≤ 1000000000000000) :
    EvP (fun k => laws_markIntS.f k xs s) (fun r => r.1 = s + xs.length ∧ r.2.length = xs.length ∧ Marked r.2 s) := by
  have key : ∀ (d j : Nat) (ys : List Int), j + d = xs.length → ys.length = xs.length → (∀ i (h : i < ys.length), i < j → ys[i] = s + i) → EvP (fun k => laws_markIntS.l0 k ys (s + j) (j : Int)) (fun r => r.1 = s + xs.length ∧ r.2.length = xs.length ∧ Marked r.2 s) := by
    intro d
    induction d with
    | zero =>
      intro j ys hj hy ht
      refine EvP.succ ?_
      simp only [laws_markIntS.l0]
      refine EvP.neg (by omega) (EvP.ret ⟨?_, hy, ?_⟩)
      · dsimp only; omega
      · intro i hi; exact ht i hi (by dsimp only at hi; omega)
    | succ d ih =>
      intro j ys hj hy ht
      have hlt : j < ys.length := by omega
      have e : ((j : Int)).toNat = j := by omega
      have e2 : wrap64 (s + (j : Int) + 1) = s + ((j + 1 : Nat) : Int) := by rw [w64 (by omega) (by omega)]; omega
      refine EvP.succ ?_
      simp only [laws_markIntS.l0, w64_succ hlt (by omega : ys.length ≤ 1000000000000000000), e, e2]
      refine EvP.pos (by omega) (EvP.pos (by omega) ?_)
      refine ih (j + 1) _ (by omega) (by simpa using hy) ?_
      intro i hi hij
      rw [List.getElem_set]
      split
      · rename_i h; omega
      · rename_i h; exact ht i (by simpa using hi) (by omega)
  unfold laws_markIntS.f
  have := key xs.length 0 xs (by omega) rfl (by intro i _ h; omega)
  simpa using this

theorem heldIntS_ev (ys : List Int) (s : Int) (hs0 : 0 ≤ s) (hs1 : s ≤ 1000000000000000) (hl : ys.length ≤ 1000000000000000) (hm : Marked ys s) :
    EvV (fun k => laws_heldIntS.f k ys s) (s + ys.length) := by
  have key : ∀ (d j : Nat), j + d = ys.length → EvV (fun k => laws_heldIntS.l0 k ys (s + j) (j : Int)) (s + ys.length) := by
    intro d
    induction d with
    | zero =>
      intro j hj
      refine EvP.succ ?_
      simp only [laws_heldIntS.l0]
      exact EvP.neg (by omega) (EvP.ret (by omega))
    | succ d ih =>
      intro j hj
      have hlt : j < ys.length := by omega
      have e2 : wrap64 (s + (j : Int) + 1) = s + ((j + 1 : Nat) : Int) := by rw [w64 (by omega) (by omega)]; omega
      refine EvP.succ ?_
      simp only [laws_heldIntS.l0, w64_succ hlt (by omega : ys.length ≤ 1000000000000000000), e2, marked_rd hm j hlt]
      refine EvP.pos (by omega) (EvP.pos (by omega) (EvP.pos (by simp) ?_))
      exact ih (j + 1) (by omega)
  unfold laws_heldIntS.f
  have := key ys.length 0 (by omega)
  simpa using this

theorem l4Long_ev {xs : List Int} {a b : Nat} (hl : xs.length ≤ 100000) (ha : a ≤ xs.length) (hb1 : 1 ≤ b) (hb : b ≤ a) : EvV (fun k => spec_l4Long.f k xs (a : Int) (b : Int)) ((long xs a b : Nat) : Int) := by
  have key : ∀ (f n : Nat), n + f = 66 → EvV (fun k => spec_l4Long.l0 k xs (a : Int) (b : Int) (n : Int)) ((longF xs a b f n : Nat) : Int) := by
    intro f
    induction f with
    | zero =>
      intro n hn
      have w1 : wrap64 ((a : Int) + (n : Int)) = ((a + n : Nat) : Int) := by rw [w64 (by omega) (by omega)]; omega
      refine EvP.succ ?_
      simp only [spec_l4Long.l0, w1, longF]
      exact EvP.ite (fun _ => EvP.neg (by omega) (EvP.ret rfl)) (fun _ => EvP.ret rfl)
    | succ f ih =>
      intro n hn
      have w1 : wrap64 ((a : Int) + (n : Int)) = ((a + n : Nat) : Int) := by rw [w64 (by omega) (by omega)]; omega
      have w2 : wrap64 (((a + n : Nat) : Int) - (b : Int)) = ((a + n : Nat) : Int) - (b : Int) := w64 (by omega) (by omega)
      have w3 : wrap64 ((n : Int) + 1) = ((n + 1 : Nat) : Int) := by rw [w64 (by omega) (by omega)]; omega
      refine EvP.succ ?_
      simp only [spec_l4Long.l0, w1, w2, w3, longF]
      refine EvP.ite (fun g => EvP.pos (by omega) (EvP.pos (by omega) (EvP.pos (by omega) (EvP.pos (by omega) (EvP.ite (fun e => ?_) (fun e => EvP.ret ?_)))))) (fun g => EvP.ret ?_)
      · rw [if_pos ⟨by omega, e⟩]; exact ih (n + 1) (by omega)
      · rw [if_neg (fun x => e x.2)]
      · rw [if_neg (fun x => g (by omega))]
  unfold spec_l4Long.f
  exact key 66 0 rfl

theorem l4Best_ev {xs : List Int} {a : Nat} (hl : xs.length ≤ 100000) (ha : a ≤ xs.length) : EvV (fun k => spec_l4Best.f k xs (a : Int)) (((best xs a).1 : Int), ((best xs a).2 : Int)) := by
  have hm : mn (a : Int) 200 = ((min a 200 : Nat) : Int) := by unfold mn; split <;> omega
  have key : ∀ (f b lg bs : Nat), b + f = min a 200 + 1 → 1 ≤ b → EvV (fun k => spec_l4Best.l0 k xs (a : Int) (bs : Int) (lg : Int) (b : Int)) (((bestF xs a f b lg bs).1 : Int), ((bestF xs a f b lg bs).2 : Int)) := by
    intro f
    induction f with
    | zero =>
      intro b lg bs hb h1
      refine EvP.succ ?_
      simp only [spec_l4Best.l0, hm, bestF]
      exact EvP.neg (by omega) (EvP.ret rfl)
    | succ f ih =>
      intro b lg bs hb h1
      have w3 : wrap64 ((b : Int) + 1) = ((b + 1 : Nat) : Int) := by rw [w64 (by omega) (by omega)]; omega
      refine EvP.succ ?_
      simp only [spec_l4Best.l0, hm, w3, bestF]
      refine EvP.pos (by omega) (EvV.bind (l4Long_ev hl ha h1 (by omega)) (EvP.ite (fun g => ?_) (fun g => ?_)))
      · rw [if_pos (by omega)]; exact ih (b + 1) _ b (by omega) (by omega)
      · rw [if_neg (by omega)]; exact ih (b + 1) lg bs (by omega) (by omega)
  unfold spec_l4Best.f best
  exact key (min a 200) 1 0 0 (by omega) (by omega)

theorem l4Plain_ev (xs : List Int) (hl : xs.length ≤ 100000) : EvV (fun k => spec_l4Plain.f k xs) (plainL xs) := by
  have key : ∀ (d j : Nat) (out : List Int), xs.length - j ≤ d → j ≤ xs.length + 64 → out.length ≤ 200000 + 2 * j → EvV (fun k => spec_l4Plain.l0 k xs out (j : Int)) (out ++ plainL (xs.drop j)) := by
    intro d
    induction d with
    | zero =>
      intro j out hd _ _
      refine EvP.succ ?_
      simp only [spec_l4Plain.l0]
      rw [drop_end xs j (by omega), plainL_nil, List.append_nil]
      exact EvP.neg (by omega) (EvP.ret rfl)
    | succ d ih =>
      intro j out hd hj ho
      by_cases hlt : j < xs.length
      · have w1 : wrap64 ((j : Int) + 64) = ((j + 64 : Nat) : Int) := by rw [w64 (by omega) (by omega)]; omega
        have hm : mn ((j + 64 : Nat) : Int) (xs.length : Int) = ((min (j + 64) xs.length : Nat) : Int) := by unfold mn; split <;> omega
        have w2 : wrap64 (((min (j + 64) xs.length : Nat) : Int) - (j : Int)) = ((min (j + 64) xs.length : Nat) : Int) - (j : Int) := w64 (by omega) (by omega)
        have w3 : wrap64 (((min (j + 64) xs.length : Nat) : Int) - (j : Int) - 1) = (((xs.drop j).take 64).length : Int) - 1 := by rw [w64 (by omega) (by omega)]; simp; omega
        have e1 : (((min (j + 64) xs.length : Nat) : Int)).toNat = min (j + 64) xs.length := by omega
        have e2 : ((j : Int)).toNat = j := by omega
        have e3 : (xs.take (min (j + 64) xs.length)).drop j = (xs.drop j).take 64 := by
          rw [List.drop_take]
          by_cases h : j + 64 ≤ xs.length
          · congr 1; omega
          · rw [List.take_of_length_le (by simp; omega), List.take_of_length_le (by simp; omega)]
        refine EvP.succ ?_
        simp only [spec_l4Plain.l0, w1, hm, w2, w3, e1, e2, e3, Option.bind_some]
        have l6 : ((xs.drop j).take 64).length ≤ 64 := by simp; omega
        have hne : xs.drop j ≠ [] := by intro h; have := congrArg List.length h; simp at this; omega
        refine EvP.pos (by omega) (EvP.pos (by omega) (EvP.pos (by omega) (EvP.pos (by omega) (EvP.pos (by omega) (EvP.pos (by simp only [List.length_append, List.length_cons, List.length_nil]; omega) ?_)))))
        refine (ih (j + 64) _ (by omega) (by omega) (by simp only [List.length_append, List.length_cons, List.length_nil]; omega)).to ?_
        rw [plainL_step hne, List.drop_drop]
        simp
      · refine EvP.succ ?_
        simp only [spec_l4Plain.l0]
        rw [drop_end xs j (by omega), plainL_nil, List.append_nil]
        exact EvP.neg (by omega) (EvP.ret rfl)
  unfold spec_l4Plain.f
  exact (key xs.length 0 [] (by omega) (by omega) (by simp)).to (by simp)

theorem l4Pack_ev (xs : List Int) (hl : xs.length ≤ 10000) : EvV (fun k => spec_l4Pack.f k xs) (packL xs) := by
  have key : ∀ (d : Nat) (out plain : List Int) (a : Nat), xs.length - a ≤ d → a ≤ xs.length → out.length + 2 * plain.length ≤ 2 * a → EvV (fun k => spec_l4Pack.l0 k xs out plain (a : Int)) (packF xs d out plain a) := by
    intro d
    induction d with
    | zero =>
      intro out plain a hd ha ho
      have pl := plainL_len _ plain rfl
      have lp := l4Plain_ev plain (by omega)
      refine EvP.succ ?_
      simp only [spec_l4Pack.l0, packF]
      generalize plainL plain = P at pl lp ⊢
      exact EvP.neg (by omega) (EvV.bind lp (EvP.pos (by omega) (EvP.ret rfl)))
    | succ d ih =>
      intro out plain a hd ha ho
      have pl := plainL_len _ plain rfl
      have lp := l4Plain_ev plain (by omega)
      refine EvP.succ ?_
      simp only [spec_l4Pack.l0, packF]
      generalize plainL plain = P at pl lp ⊢
      by_cases hlt : a < xs.length
      · obtain ⟨br1, br2, br3, -⟩ := best_rng (xs := xs) (a := a) ha
        have lb := l4Best_ev (xs := xs) (a := a) (by omega) ha
        rw [if_pos hlt]
        generalize best xs a = B at br1 br2 br3 lb ⊢
        obtain ⟨B1, B2⟩ := B
        dsimp only at br1 br2 br3 lb ⊢
        refine EvP.pos (by omega) (EvV.bind lb ?_)
        dsimp only
        have w1 : wrap64 ((a : Int) + 1) = ((a + 1 : Nat) : Int) := by rw [w64 (by omega) (by omega)]; omega
        have w2 : wrap64 ((a : Int) + (B1 : Int)) = ((a + B1 : Nat) : Int) := by clear w1; rw [w64 (by omega) (by omega)]; omega
        have w3 : wrap64 (wrap64 (64 + (B1 : Int)) - 3) = 61 + (B1 : Int) := by clear w1 w2; rw [w64 (x := 64 + (B1 : Int)) (by omega) (by omega), w64 (by omega) (by omega)]; omega
        rw [w1, w2, w3]
        clear w1 w2 w3
        refine EvP.ite (fun g => ?_) (fun g => ?_)
        · rw [if_pos (by omega)]
          exact EvP.pos (by omega) (EvP.pos (by omega) (ih _ _ _ (by omega) (by omega) (by simp; omega)))
        · rw [if_neg (by omega)]
          refine EvV.bind lp (EvP.pos (by omega) ?_)
          simp only [Option.bind_some]
          refine EvP.pos (by simp only [List.length_append, List.length_cons, List.length_nil]; omega) ?_
          exact ih _ _ _ (by omega) (by omega) (by simp only [List.length_append, List.length_cons, List.length_nil]; omega)
      · rw [if_neg hlt]
        exact EvP.neg (by omega) (EvV.bind lp (EvP.pos (by omega) (EvP.ret rfl)))
  unfold spec_l4Pack.f
  exact key xs.length [] [] 0 (by omega) (by omega) (by simp)

theorem sPack_ev (xs : List Int) (hl : xs.length ≤ 1000000000000) : EvV (fun k => spec_PackBytes.f k xs) (packR xs) := by
  unfold spec_PackBytes.f packR
  refine EvV.bind (l1Ok_ev xs (by omega)) (EvP.ite (fun a => EvP.ite (fun b => EvP.ret ?_) (fun b => ?_)) (fun a => EvP.ret ?_))
  · rw [if_neg (by omega)]
  · rw [if_pos ⟨a, by omega⟩]; exact EvV.bind (l4Pack_ev xs (by omega)) (EvP.ret rfl)
  · rw [if_neg (fun x => a x.1)]

theorem impl_pack_ev {xs : List Int} (hb : allB xs = true) (hl : xs.length ≤ 200) : impl_pack.f xs = some (packL xs) := by
  unfold impl_pack.f
  rw [if_pos ⟨hl, allB_iff.1 hb⟩]
  exact Pk.packG_eq xs

theorem iPack_ev (xs : List Int) (hl : xs.length ≤ 1000000000000) : EvV (fun k => impl_PackBytes.f k xs) (packR xs) := by
  unfold impl_PackBytes.f packR
  refine EvP.ite (fun a => EvP.ret ?_) (fun a => EvV.bind (allBytes_ev xs (by omega)) (EvP.ite (fun b => ?_) (fun b => EvP.ret ?_)))
  · rw [if_neg (by omega)]
  · rw [if_pos ⟨b, by omega⟩, impl_pack_ev b (by omega)]; exact EvP.ret rfl
  · rw [if_neg (fun x => b x.1)]

theorem FnExactPackBytes : laws_FnExactPackBytes.Pure := by
  intro l _ _ _
  refine EvP.done ?_
  unfold laws_FnExactPackBytes.f
  refine EvP.ite (fun _ => EvP.ret rfl) (fun h => ?_)
  have t := toIntS_ev l (by omega)
  have s := sPack_ev l (by omega)
  have i := iPack_ev l (by omega)
  have L := packR_len l
  generalize packR l = r at s i L
  obtain ⟨xs, b⟩ := r
  dsimp only at L
  have q := (eqIntS_ev xs xs (by omega)).to (w := true) (by simp)
  have ql := (eqIntS_ev l l (by omega)).to (w := true) (by simp)
  refine EvV.bind t (EvV.bind s (EvV.bind t (EvV.bind i (EvV.bind q (EvP.pos (by simp) (EvP.succ ?_))))))
  simp only [laws_FnExactPackBytes.j0]
  refine EvP.neg (by simp) (EvV.bind t (EvV.bind ql (EvP.pos (by simp) (EvP.bind (markIntS_ev l 1 (by decide) (by decide) (by omega)) ?_))))
  rintro ⟨m0, ys0⟩ ⟨hm0, _, _⟩
  dsimp only at hm0 ⊢
  refine EvP.neg (by omega) (EvV.bind q (EvP.pos (by simp) (EvP.succ ?_)))
  simp only [laws_FnExactPackBytes.j1]
  refine EvP.neg (by simp) (EvP.bind (markIntS_ev xs 1 (by decide) (by decide) (by omega)) ?_)
  rintro ⟨m, ys⟩ ⟨hm, hy, hM⟩
  dsimp only at hm hy hM ⊢
  have hh := heldIntS_ev ys 1 (by decide) (by decide) (by omega) hM
  refine EvV.bind hh (EvP.neg (by omega) (EvP.pos (by omega) (EvV.bind t (EvV.bind i (EvV.bind q (EvP.pos (by simp) (EvP.succ ?_)))))))
  simp only [laws_FnExactPackBytes.j2]
  exact EvP.neg (by simp) (EvV.bind hh (EvP.neg (by omega) (EvP.pos (by omega) (EvP.ret rfl))))

end Go.Proofs.Ytjbgbnngfbhmjaa.Pure
