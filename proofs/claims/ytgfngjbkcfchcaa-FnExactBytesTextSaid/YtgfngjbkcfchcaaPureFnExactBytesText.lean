/- The program's BytesText and the reference's tell the same text and leave the numbers as they are, for every list; there is no condition. -/
import Derived.Test.YtgfngjbkcfchcaaQFnExactBytesTextx2
import Derived.Test.YtgfngjbkcfchcaaMath
set_option linter.unusedVariables false
set_option linter.unusedSimpArgs false
namespace Go.Proofs.Ytgfngjbkcfchcaa.Pure
open Go.RowKit Go.Proofs.Ytgfngjbkcfchcaa.QFnExactBytesText Go.Proofs.YtgfngjbkcfchcaaW.PrintWords Go.Proofs.YtgfngjbkcfchcaaW.PrintLast Go.Proofs.YtgfngjbkcfchcaaW.PrintMore Go.Proofs.Ytgfngjbkcfchcaa.M

theorem l6In_eq (a b c : Int) : spec_l6In.f a b c = some (decide (b ≤ a ∧ a ≤ c)) := by
  unfold spec_l6In.f
  by_cases h : a ≥ b
  · rw [if_pos h]; congr 1; simp only [decide_eq_decide]; omega
  · rw [if_neg h]; congr 1; symm; simp only [decide_eq_false_iff_not]; omega

theorem l1Ok_l0 (xs : List Int) (hl : xs.length ≤ 1000000000000000000) (d : Nat) : ∀ j : Nat, j ≤ xs.length → xs.length - j = d → EvV (fun k => spec_l1Ok.l0 k xs (j : Int)) (allB (xs.drop j)) := by
  induction d with
  | zero =>
    intro j hj hd
    refine EvP.succ ?_
    simp only [spec_l1Ok.l0]
    rw [drop_end xs j (by omega)]
    exact EvP.neg (by omega) (EvP.ret rfl)
  | succ d ih =>
    intro j hj hd
    have hlt : j < xs.length := by omega
    refine EvP.succ ?_
    simp only [spec_l1Ok.l0, l6In_eq, Option.bind_some, rd_nat xs j hlt, w64_succ hlt hl]
    refine EvP.pos (by omega) (EvP.pos (by omega) ?_)
    rw [drop_cons xs j hlt]
    refine EvP.ite (fun h => ?_) (fun h => EvP.ret ?_)
    · have hb : isB xs[j] = true := h
      exact (ih (j + 1) (by omega) (by omega)).to (allB_cons_t hb)
    · have hb : isB xs[j] = false := by simpa [isB] using h
      exact allB_cons_f hb
theorem l1Ok_ev (xs : List Int) (hl : xs.length ≤ 1000000000000000000) : EvV (fun k => spec_l1Ok.f k xs) (allB xs) := by
  unfold spec_l1Ok.f; exact l1Ok_l0 xs hl xs.length 0 (by omega) (by omega)

theorem isByte_eq (x : Int) : impl_isByte.f x = some (isB x) := by
  unfold impl_isByte.f isB
  by_cases h : x ≥ 0
  · rw [if_pos h]; congr 1; simp only [decide_eq_decide]; omega
  · rw [if_neg h]; congr 1; symm; simp only [decide_eq_false_iff_not]; omega

theorem allBytes_l0 (xs : List Int) (hl : xs.length ≤ 1000000000000000000) (d : Nat) : ∀ j : Nat, j ≤ xs.length → xs.length - j = d → EvV (fun k => impl_allBytes.l0 k xs (xs.length : Int) (j : Int)) (allB (xs.drop j)) := by
  induction d with
  | zero =>
    intro j hj hd
    refine EvP.succ ?_
    simp only [impl_allBytes.l0]
    rw [drop_end xs j (by omega)]
    exact EvP.neg (by omega) (EvP.ret rfl)
  | succ d ih =>
    intro j hj hd
    have hlt : j < xs.length := by omega
    refine EvP.succ ?_
    simp only [impl_allBytes.l0, isByte_eq, Option.bind_some, rd_nat xs j hlt, w64_succ hlt hl]
    refine EvP.pos (by omega) (EvP.pos (by omega) (EvP.pos (by omega) ?_))
    rw [drop_cons xs j hlt]
    refine EvP.ite (fun h => ?_) (fun h => EvP.ret ?_)
    · exact (ih (j + 1) (by omega) (by omega)).to (allB_cons_t h)
    · exact allB_cons_f (by simpa using h)
theorem allBytes_ev (xs : List Int) (hl : xs.length ≤ 1000000000000000000) : EvV (fun k => impl_allBytes.f k xs) (allB xs) := by
  unfold impl_allBytes.f; exact allBytes_l0 xs hl xs.length 0 (by omega) (by omega)

theorem eqIntS_l0 (xs ys : List Int) (he : xs.length = ys.length) (hl : xs.length ≤ 1000000000000000000) (d : Nat) : ∀ j : Nat, j ≤ xs.length → xs.length - j = d → EvV (fun k => laws_eqIntS.l0 k xs ys (j : Int)) (decide (xs.drop j = ys.drop j)) := by
  induction d with
  | zero =>
    intro j hj hd
    refine EvP.succ ?_
    simp only [laws_eqIntS.l0]
    rw [drop_end xs j (by omega), drop_end ys j (by omega)]
    exact EvP.neg (by omega) (EvP.ret (by simp))
  | succ d ih =>
    intro j hj hd
    have hlt : j < xs.length := by omega
    have hlt2 : j < ys.length := by omega
    refine EvP.succ ?_
    simp only [laws_eqIntS.l0, rd_nat xs j hlt, rd_nat ys j hlt2, w64_succ hlt hl]
    refine EvP.pos (by omega) (EvP.pos (by omega) (EvP.pos (by omega) ?_))
    rw [drop_cons xs j hlt, drop_cons ys j hlt2]
    refine EvP.ite (fun h => ?_) (fun h => EvP.ret ?_)
    · exact (ih (j + 1) (by omega) (by omega)).to (dec_cons_t h)
    · exact dec_cons_f h
theorem eqIntS_ev (xs ys : List Int) (hl : xs.length ≤ 1000000000000000000) : EvV (fun k => laws_eqIntS.f k xs ys) (decide (xs = ys)) := by
  unfold laws_eqIntS.f
  refine EvP.ite (fun h => ?_) (fun h => EvP.ret ?_)
  · exact eqIntS_l0 xs ys (by omega) hl xs.length 0 (by omega) (by omega)
  · have : ¬ xs = ys := by rintro rfl; exact h rfl
    simp [this]

theorem toIntS_ev (xs : List Int) (hl : xs.length ≤ 1000000000000) : EvV (fun k => laws_toIntS.f k xs) xs := by
  have key : ∀ (d j : Nat) (ys : List Int), j + d = xs.length → ys.length = xs.length → ys.take j = xs.take j → EvV (fun k => laws_toIntS.l0 k xs ys (j : Int)) xs := by
    intro d
    induction d with
    | zero =>
      intro j ys hj hy ht
      refine EvP.succ ?_
      simp only [laws_toIntS.l0]
      refine EvP.neg (by omega) (EvP.ret ?_)
      rw [List.take_of_length_le (by omega), List.take_of_length_le (by omega)] at ht
      exact ht.symm
    | succ d ih =>
      intro j ys hj hy ht
      have hlt : j < xs.length := by omega
      refine EvP.succ ?_
      simp only [laws_toIntS.l0, rd_nat xs j hlt, w64_succ hlt (by omega : xs.length ≤ 1000000000000000000)]
      refine EvP.pos (by omega) (EvP.pos (by omega) (EvP.pos (by omega) ?_))
      have e : ((j : Int)).toNat = j := by omega
      rw [e]
      refine ih (j + 1) _ (by omega) (by simpa using hy) ?_
      rw [List.take_add_one, List.take_add_one, List.take_set_of_le (Nat.le_refl _), ht]
      simp [hlt, hy]
  unfold laws_toIntS.f
  refine EvP.pos (by omega) (EvP.pos (by omega) ?_)
  exact key xs.length 0 _ (by omega) (by simp) (by simp)

def hexB (xs : List Int) : List UInt8 := xs.flatMap fun b => [hexD (b / 16), hexD (b % 16)]
/-- Two hex digits a byte; nothing where some number is no byte. -/
def textB (xs : List Int) : ByteArray := if allB xs = true then ⟨(hexB xs).toArray⟩ else ⟨#[]⟩
theorem hexB_len (xs : List Int) : (hexB xs).length = 2 * xs.length := by
  induction xs with
  | nil => rfl
  | cons x xs ih =>
    simp only [hexB, List.flatMap_cons, List.length_append, List.length_cons, List.length_nil] at ih ⊢
    omega
theorem hexB_app (xs ys : List Int) : hexB (xs ++ ys) = hexB xs ++ hexB ys := by simp [hexB]
theorem hexB_snoc (xs : List Int) (j : Nat) (h : j < xs.length) : hexB (xs.take (j + 1)) = hexB (xs.take j) ++ [hexD (xs[j] / 16), hexD (xs[j] % 16)] := by
  rw [List.take_succ_eq_append_getElem h, hexB_app]; rfl
theorem iText_l0 (xs : List Int) (hb : allB xs = true) (hl : xs.length ≤ 1000000000000) (d : Nat) : ∀ j : Nat, j ≤ xs.length → xs.length - j = d → EvV (fun k => impl_BytesText.l0 k xs (hexB (xs.take j)) (j : Int)) ⟨(hexB xs).toArray⟩ := by
  induction d with
  | zero =>
    intro j hj hd
    refine EvP.succ ?_
    simp only [impl_BytesText.l0]
    rw [List.take_of_length_le (by omega)]
    exact EvP.neg (by omega) (EvP.ret rfl)
  | succ d ih =>
    intro j hj hd
    have hlt : j < xs.length := by omega
    have hx := allB_get hb j hlt
    have hn : (hexB (xs.take j)).length ≤ 35184372088832 := by rw [hexB_len, List.length_take]; omega
    refine EvP.succ ?_
    simp only [impl_BytesText.l0, rd_nat xs j hlt, w64_succ hlt (by omega : xs.length ≤ 1000000000000000000)]
    refine EvP.pos (by omega) (EvP.pos (by omega) (EvP.pos ⟨hx.1, hx.2, hn⟩ ?_))
    rw [← hexB_snoc xs j hlt]
    exact ih (j + 1) (by omega) (by omega)
theorem iText_ev (xs : List Int) (hl : xs.length ≤ 1000000000000) : EvV (fun k => impl_BytesText.f k xs) (textB xs) := by
  unfold impl_BytesText.f textB
  refine EvV.bind (allBytes_ev xs (by omega)) (EvP.ite (fun h => ?_) (fun h => EvP.ret (by rw [if_neg h])))
  rw [if_pos h]
  exact iText_l0 xs h hl xs.length 0 (by omega) (by omega)

theorem ext_dig (q : Int) (h0 : 0 ≤ q) (h1 : q < 16) : (⟨#[48, 49, 50, 51, 52, 53, 54, 55, 56, 57, 97, 98, 99, 100, 101, 102]⟩ : ByteArray).extract q.toNat (q + 1).toNat = ⟨#[hexD q]⟩ := by
  have c : q = 0 ∨ q = 1 ∨ q = 2 ∨ q = 3 ∨ q = 4 ∨ q = 5 ∨ q = 6 ∨ q = 7 ∨ q = 8 ∨ q = 9 ∨ q = 10 ∨ q = 11 ∨ q = 12 ∨ q = 13 ∨ q = 14 ∨ q = 15 := by omega
  apply ByteArray.ext
  rw [ByteArray.data_extract]
  rcases c with rfl | rfl | rfl | rfl | rfl | rfl | rfl | rfl | rfl | rfl | rfl | rfl | rfl | rfl | rfl | rfl <;> rfl
theorem app_dig (a : List UInt8) (x y : UInt8) : ((⟨a.toArray⟩ : ByteArray) ++ (⟨#[x]⟩ : ByteArray)) ++ (⟨#[y]⟩ : ByteArray) = ⟨(a ++ [x, y]).toArray⟩ := by
  apply ByteArray.ext
  simp
theorem sText_l0 (xs : List Int) (hb : allB xs = true) (hl : xs.length ≤ 1000000000000) (d : Nat) : ∀ j : Nat, j ≤ xs.length → xs.length - j = d → EvV (fun k => spec_BytesText.l0 k xs (⟨#[48, 49, 50, 51, 52, 53, 54, 55, 56, 57, 97, 98, 99, 100, 101, 102]⟩ : ByteArray) ⟨(hexB (xs.take j)).toArray⟩ (j : Int)) ⟨(hexB xs).toArray⟩ := by
  induction d with
  | zero =>
    intro j hj hd
    refine EvP.succ ?_
    simp only [spec_BytesText.l0]
    rw [List.take_of_length_le (by omega)]
    exact EvP.neg (by omega) (EvP.ret rfl)
  | succ d ih =>
    intro j hj hd
    have hlt : j < xs.length := by omega
    have hx := allB_get hb j hlt
    have hn : (hexB (xs.take j)).length ≤ 35184372088832 := by rw [hexB_len, List.length_take]; omega
    have sn := hexB_snoc xs j hlt
    have td : Int.tdiv xs[j] 16 = xs[j] / 16 := Int.tdiv_eq_ediv_of_nonneg hx.1
    have tm : Int.tmod xs[j] 16 = xs[j] % 16 := Int.tmod_eq_emod_of_nonneg hx.1
    have q0 : 0 ≤ xs[j] / 16 ∧ xs[j] / 16 < 16 := by omega
    have m0 : 0 ≤ xs[j] % 16 ∧ xs[j] % 16 < 16 := by omega
    refine EvP.succ ?_
    simp only [spec_BytesText.l0, rd_nat xs j hlt, w64_succ hlt (by omega : xs.length ≤ 1000000000000000000), td, tm]
    generalize xs[j] / 16 = q at q0 sn ⊢
    generalize xs[j] % 16 = m at m0 sn ⊢
    rw [w64 (x := q) (by omega) (by omega), w64 (x := q + 1) (by omega) (by omega), w64 (x := m + 1) (by omega) (by omega), ext_dig q q0.1 q0.2, ext_dig m m0.1 m0.2, app_dig, ← sn]
    refine EvP.pos (by omega) (EvV.bind (l1Ok_ev xs (by omega)) (EvP.pos hb ?_))
    refine EvP.pos (by omega) (EvP.pos q0.1 (EvP.pos (by omega) (EvP.pos (show q + 1 ≤ 16 by omega) (EvP.pos ?_ ?_))))
    rotate_left
    refine EvP.pos m0.1 (EvP.pos (by omega) (EvP.pos (show m + 1 ≤ 16 by omega) (EvP.pos ?_ (ih (j + 1) (by omega) (by omega)))))
    rotate_left
    · show (hexB (xs.take j)).toArray.size + 1 ≤ _
      rw [List.size_toArray]; omega
    · have e : ((⟨(hexB (xs.take j)).toArray⟩ : ByteArray) ++ (⟨#[hexD q]⟩ : ByteArray)).size = (hexB (xs.take j)).length + 1 := by simp [ByteArray.size]
      rw [e]
      show _ + 1 + 1 ≤ _
      omega
theorem sText_ev (xs : List Int) (hl : xs.length ≤ 1000000000000) : EvV (fun k => spec_BytesText.f k xs) (textB xs) := by
  unfold spec_BytesText.f textB
  by_cases hb : allB xs = true
  · rw [if_pos hb]
    exact sText_l0 xs hb hl xs.length 0 (by omega) (by omega)
  · rw [if_neg hb]
    refine EvP.succ ?_
    simp only [spec_BytesText.l0]
    exact EvP.ite (fun _ => EvV.bind (l1Ok_ev xs (by omega)) (EvP.neg hb (EvP.ret rfl))) (fun _ => EvP.ret rfl)

theorem FnExactBytesText : laws_FnExactBytesText.Pure := by
  intro l _ _ _
  refine EvP.done ?_
  unfold laws_FnExactBytesText.f
  refine EvP.ite (fun _ => EvP.ret rfl) (fun h => ?_)
  have t := toIntS_ev l (by omega)
  have q := (eqIntS_ev l l (by omega)).to (w := true) (by simp)
  exact EvV.bind t (EvV.bind (sText_ev l (by omega)) (EvV.bind t (EvV.bind (iText_ev l (by omega)) (EvP.pos rfl (EvV.bind t (EvV.bind q (EvP.pos (by simp) (EvP.ret rfl))))))))

end Go.Proofs.Ytgfngjbkcfchcaa.Pure
