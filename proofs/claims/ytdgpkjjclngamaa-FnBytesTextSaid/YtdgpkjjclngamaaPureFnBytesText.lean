/- A text of bytes has two digits a byte, and the texts of two parts make the whole's, at whatever bytes the code draws; there is no condition. -/
import Derived.Test.YtdgpkjjclngamaaQFnBytesTextx3
import Derived.Test.YtdgpkjjclngamaaMath
import Derived.Test.YtdgpkjjclngamaaMath2
set_option linter.unusedVariables false
set_option linter.unusedSimpArgs false
namespace Go.Proofs.Ytdgpkjjclngamaa.Pure
open Go.RowKit Go.Proofs.Ytdgpkjjclngamaa.QFnBytesText Go.Proofs.YtdgpkjjclngamaaW.PrintWords Go.Proofs.YtdgpkjjclngamaaW.PrintLast Go.Proofs.YtdgpkjjclngamaaW.PrintMore Go.Proofs.Ytdgpkjjclngamaa.M

theorem l6In_eq (a b c : Int) : spec_l6In.f a b c = some (decide (b ≤ a ∧ a ≤ c)) := by
  unfold spec_l6In.f
  by_cases h : a ≥ b
  · rw [if_pos h]; congr 1; simp only [decide_eq_decide]; omega
  · rw [if_neg h]; congr 1; symm; simp only [decide_eq_false_iff_not]; omega

theorem pick_ev {b : List Int} {p : Int} (hb : Rdr b p) (hp : p ≤ 1000000000) {n : Int} (hn : 1 ≤ n) (hn2 : n ≤ 1000000000) :
    EvP (fun k => spec_l6Rd_pick.f k b p n) (fun r => 0 ≤ r.1 ∧ r.1 < n ∧ r.2 = p + 1) := by
  obtain ⟨hl, hx, hp0⟩ := hb
  have w1 : wrap64 (p + 1) = p + 1 := w64 (by omega) (by omega)
  have w2 : wrap64 (p + 1 - 1) = p := by rw [w64 (by omega) (by omega)]; omega
  unfold spec_l6Rd_pick.f
  refine EvP.neg (by omega) ?_
  rw [w1]
  refine EvP.succ ?_
  simp only [spec_l6Rd_pick.j0, w2]
  refine EvP.ite (fun h => EvP.ret ⟨by omega, by omega, rfl⟩) (fun h => ?_)
  have hlen : ((b.length : Int) == 0) = false := by simpa using h
  have hne : ¬ (b.length : Int) = 0 := by simpa using hlen
  have tm : ∀ x : Int, 0 ≤ x → 0 ≤ Int.tmod x n ∧ Int.tmod x n < n := fun x hx => by
    rw [tmod_pos hx]; exact ⟨Int.emod_nonneg _ (by omega), Int.emod_lt_of_pos _ (by omega)⟩
  have rr : ∀ i, 0 ≤ rd b i ∧ rd b i ≤ 255 := rd_rng hx
  refine EvP.ite (fun h1 => ?_) (fun h1 => ?_)
  · refine EvP.pos hp0 (EvP.neg (by omega) (EvP.ret ?_))
    have := rr p
    have t := tm (wrap64 (rd b p)) (by rw [w64 (by omega) (by omega)]; omega)
    exact ⟨t.1, t.2, rfl⟩
  · have t1 : Int.tmod p (b.length : Int) = p % (b.length : Int) := tmod_pos hp0
    have w3 : wrap64 (wrap64 (p * 7) + 3) = p * 7 + 3 := by rw [w64 (x := p * 7) (by omega) (by omega), w64 (by omega) (by omega)]
    have t2 : Int.tmod (p * 7 + 3) (b.length : Int) = (p * 7 + 3) % (b.length : Int) := tmod_pos (by omega)
    have a1 := Int.emod_nonneg p hne
    have a2 := Int.emod_lt_of_pos p (by omega : 0 < (b.length : Int))
    have a3 := Int.emod_nonneg (p * 7 + 3) hne
    have a4 := Int.emod_lt_of_pos (p * 7 + 3) (by omega : 0 < (b.length : Int))
    have d1 : Int.tdiv p (b.length : Int) = p / (b.length : Int) := tdiv_pos hp0
    have d2 : 0 ≤ p / (b.length : Int) := Int.ediv_nonneg hp0 (by omega)
    have d3 : p / (b.length : Int) ≤ p := Int.ediv_le_self _ hp0
    simp only [w3, t1, t2, d1]
    refine EvP.neg hne (EvP.pos a1 (EvP.pos a2 (EvP.pos a3 (EvP.pos a4 (EvP.neg (by omega) (EvP.ret ?_))))))
    have r1 := rr (p % (b.length : Int))
    have r2 := rr ((p * 7 + 3) % (b.length : Int))
    generalize rd b (p % (b.length : Int)) = x1 at r1 ⊢
    generalize rd b ((p * 7 + 3) % (b.length : Int)) = x2 at r2 ⊢
    generalize p / (b.length : Int) = q at d2 d3 ⊢
    have wx : ∀ x : Int, 0 ≤ x → x ≤ 1000000000000 → wrap64 x = x := fun x h0 h1 => w64 (by omega) (by omega)
    have e : wrap64 (wrap64 (wrap64 (wrap64 (wrap64 x1 * 131) + wrap64 (wrap64 x2 * 1117)) + wrap64 (p * 29)) + wrap64 (wrap64 q * 53)) = x1 * 131 + x2 * 1117 + p * 29 + q * 53 := by
      rw [wx x1 (by omega) (by omega), wx x2 (by omega) (by omega), wx q (by omega) (by omega), wx (x1 * 131) (by omega) (by omega), wx (x2 * 1117) (by omega) (by omega), wx (p * 29) (by omega) (by omega), wx (q * 53) (by omega) (by omega),
        wx (x1 * 131 + x2 * 1117) (by omega) (by omega), wx (x1 * 131 + x2 * 1117 + p * 29) (by omega) (by omega), wx _ (by omega) (by omega)]
    rw [e]
    generalize hz : x1 * 131 + x2 * 1117 + p * 29 + q * 53 = z
    have z0 : 0 ≤ z := by omega
    have z1 : z ≤ 1000000000000 := by omega
    rw [tdiv_pos z0, wx (z / 64) (by omega) (by omega)]
    have t := tm _ (xor_nonneg (x := z) (y := z / 64) (by omega) (by omega) (by omega) (by omega))
    exact ⟨t.1, t.2, rfl⟩

theorem open_ev (l : List Int) (hl : ∀ x ∈ l, (Lit.int .u8 x).wf = true) : EvP (fun _ => spec_l6Open.f l) (fun r => Rdr r.1 r.2 ∧ r.2 = 0) := by
  have hx : ∀ x ∈ l, 0 ≤ x ∧ x ≤ 255 := fun x hx => wf_u8 (hl x hx)
  unfold spec_l6Open.f
  refine EvP.ite (fun h => ?_) (fun h => ?_)
  · refine EvP.pos (by omega) (EvP.ret ⟨⟨by simp; omega, fun x hm => hx x (List.mem_of_mem_take hm), Int.le_refl 0⟩, rfl⟩)
  · exact EvP.ret ⟨⟨by dsimp only; omega, hx, Int.le_refl 0⟩, rfl⟩

theorem l1Ok_l0 (xs : List Int) (hl : xs.length ≤ 1000000000000000000) (d : Nat) : ∀ j : Nat, j ≤ xs.length → xs.length - j = d → EvV (fun k => spec_l1Ok.l0 k xs (j : Int)) (allB (xs.drop j)) := by
  induction d with
  | zero =>
    intro j hj hd
    refine EvP.succ ?_
    simp only [spec_l1Ok.l0]
    rw [drop_end xs j (by omega)]
    exact EvP.neg (by omega) (EvP.ret rfl)
  | succ d ih =>
    intro j hj hd
    have hlt : j < xs.length := by omega
    refine EvP.succ ?_
    simp only [spec_l1Ok.l0, l6In_eq, Option.bind_some, rd_nat xs j hlt, w64_succ hlt hl]
    refine EvP.pos (by omega) (EvP.pos (by omega) ?_)
    rw [drop_cons xs j hlt]
    refine EvP.ite (fun h => ?_) (fun h => EvP.ret ?_)
    · have hb : isB xs[j] = true := h
      exact (ih (j + 1) (by omega) (by omega)).to (allB_cons_t hb)
    · have hb : isB xs[j] = false := by simpa [isB] using h
      exact allB_cons_f hb
theorem l1Ok_ev (xs : List Int) (hl : xs.length ≤ 1000000000000000000) : EvV (fun k => spec_l1Ok.f k xs) (allB xs) := by
  unfold spec_l1Ok.f; exact l1Ok_l0 xs hl xs.length 0 (by omega) (by omega)

theorem isByte_eq (x : Int) : impl_isByte.f x = some (isB x) := by
  unfold impl_isByte.f isB
  by_cases h : x ≥ 0
  · rw [if_pos h]; congr 1; simp only [decide_eq_decide]; omega
  · rw [if_neg h]; congr 1; symm; simp only [decide_eq_false_iff_not]; omega

theorem allBytes_l0 (xs : List Int) (hl : xs.length ≤ 1000000000000000000) (d : Nat) : ∀ j : Nat, j ≤ xs.length → xs.length - j = d → EvV (fun k => impl_allBytes.l0 k xs (xs.length : Int) (j : Int)) (allB (xs.drop j)) := by
  induction d with
  | zero =>
    intro j hj hd
    refine EvP.succ ?_
    simp only [impl_allBytes.l0]
    rw [drop_end xs j (by omega)]
    exact EvP.neg (by omega) (EvP.ret rfl)
  | succ d ih =>
    intro j hj hd
    have hlt : j < xs.length := by omega
    refine EvP.succ ?_
    simp only [impl_allBytes.l0, isByte_eq, Option.bind_some, rd_nat xs j hlt, w64_succ hlt hl]
    refine EvP.pos (by omega) (EvP.pos (by omega) (EvP.pos (by omega) ?_))
    rw [drop_cons xs j hlt]
    refine EvP.ite (fun h => ?_) (fun h => EvP.ret ?_)
    · exact (ih (j + 1) (by omega) (by omega)).to (allB_cons_t h)
    · exact allB_cons_f (by simpa using h)
theorem allBytes_ev (xs : List Int) (hl : xs.length ≤ 1000000000000000000) : EvV (fun k => impl_allBytes.f k xs) (allB xs) := by
  unfold impl_allBytes.f; exact allBytes_l0 xs hl xs.length 0 (by omega) (by omega)

theorem l2Sum_l0 (xs : List Int) (hl : xs.length ≤ 1000000000000000000) (hb : allB xs = true) (d : Nat) : ∀ (j : Nat) (s : Int), j ≤ xs.length → xs.length - j = d → 0 ≤ s → s < 65521 → EvV (fun k => spec_l2Sum.l0 k xs s (j : Int)) ((xs.drop j).foldl sumStep s) := by
  induction d with
  | zero =>
    intro j s hj hd _ _
    refine EvP.succ ?_
    simp only [spec_l2Sum.l0]
    rw [drop_end xs j (by omega)]
    exact EvP.neg (by omega) (EvP.ret rfl)
  | succ d ih =>
    intro j s hj hd h0 h1
    have hlt : j < xs.length := by omega
    have hx := allB_get hb j hlt
    have e : Int.tmod (wrap64 (wrap64 (257 * s) + xs[j])) 65521 = sumStep s xs[j] := by
      rw [w64 (x := 257 * s) (by omega) (by omega), w64 (by omega) (by omega), tmod_pos (by omega)]; rfl
    refine EvP.succ ?_
    simp only [spec_l2Sum.l0, rd_nat xs j hlt, w64_succ hlt hl, e]
    refine EvP.pos (by omega) (EvP.pos (by omega) ?_)
    rw [drop_cons xs j hlt]
    exact ih (j + 1) _ (by omega) (by omega) (sumStep_rng _ _).1 (sumStep_rng _ _).2
theorem l2Sum_ev (xs : List Int) (hl : xs.length ≤ 1000000000000000000) (hb : allB xs = true) : EvV (fun k => spec_l2Sum.f k xs) (sumL xs) := by
  unfold spec_l2Sum.f; exact l2Sum_l0 xs hl hb xs.length 0 1 (by omega) (by omega) (by decide) (by decide)

theorem sSumOf_ev (xs : List Int) (hl : xs.length ≤ 1000000000000000000) : EvV (fun k => spec_SumOf.f k xs) (if allB xs = true then sumL xs else -1) := by
  unfold spec_SumOf.f
  refine EvV.bind (l1Ok_ev xs hl) (EvP.ite (fun h => ?_) (fun h => EvP.ret ?_))
  · rw [if_pos h]; exact EvV.bind (l2Sum_ev xs hl h) (EvP.ret rfl)
  · rw [if_neg h]

theorem l91Some_ev {b : List Int} {p : Int} (hb : Rdr b p) (hp : p ≤ 1000000) {m : Int} (hm0 : 0 ≤ m) (hm : m ≤ 100) :
    EvP (fun k => spec_l91Some.f k b p m) (fun r => r.1.length ≤ 100 ∧ Rdr b r.2 ∧ r.2 ≤ p + 200) := by
  have hR : ∀ q : Int, p ≤ q → Rdr b q := fun q hq => ⟨hb.1, hb.2.1, by have := hb.2.2; omega⟩
  unfold spec_l91Some.f
  rw [w64 (x := m + 1) (by omega) (by omega)]
  refine EvP.bind (pick_ev hb (by omega) (by omega) (by omega)) ?_
  rintro ⟨n, q0⟩ ⟨a1, a2, a3⟩
  dsimp only at a1 a2 a3 ⊢
  have key : ∀ (d : Nat) (xs : List Int) (i q : Int), 0 ≤ i → i + d = n → xs.length = i → p ≤ q → q ≤ p + 1 + i → EvP (fun k => spec_l91Some.l0 k xs n i b q) (fun r => r.1.length ≤ 100 ∧ Rdr b r.2 ∧ r.2 ≤ p + 200) := by
    intro d
    induction d with
    | zero =>
      intro xs i q hi hd hx hq0 hq
      refine EvP.succ ?_
      simp only [spec_l91Some.l0]
      refine EvP.neg (by omega) (EvP.ite (fun hn => ?_) (fun hn => ?_))
      · refine EvP.bind (pick_ev (hR q hq0) (by omega) (by decide) (by decide)) ?_
        rintro ⟨v, q1⟩ ⟨b1, b2, b3⟩
        dsimp only at b1 b2 b3 ⊢
        refine EvP.succ ?_
        simp only [spec_l91Some.j1]
        refine EvP.ite (fun _ => ?_) (fun _ => EvP.ret ⟨by dsimp only; omega, hR _ (by dsimp only; omega), by dsimp only; omega⟩)
        refine EvP.bind (pick_ev (hR q1 (by omega)) (by omega) (by omega) (by omega)) ?_
        rintro ⟨w, q2⟩ ⟨c1, c2, c3⟩
        dsimp only at c1 c2 c3 ⊢
        simp only [Option.bind_some]
        refine EvP.bind (pick_ev (hR q2 (by omega)) (by omega) (by decide) (by decide)) ?_
        rintro ⟨u, q3⟩ ⟨d1, d2, d3⟩
        dsimp only at d1 d2 d3 ⊢
        exact EvP.pos d1 (EvP.pos (by simpa using d2) (EvP.pos c1 (EvP.pos (by omega) (EvP.ret ⟨by simp; omega, hR _ (by dsimp only; omega), by dsimp only; omega⟩))))
      · refine EvP.succ ?_
        simp only [spec_l91Some.j1]
        exact EvP.neg (by decide) (EvP.ret ⟨by dsimp only; omega, hR _ (by dsimp only; omega), by dsimp only; omega⟩)
    | succ d ih =>
      intro xs i q hi hd hx hq0 hq
      refine EvP.succ ?_
      simp only [spec_l91Some.l0]
      refine EvP.pos (by omega) ?_
      refine EvP.bind (pick_ev (hR q hq0) (by omega) (by decide) (by decide)) ?_
      rintro ⟨v, q1⟩ ⟨b1, b2, b3⟩
      dsimp only at b1 b2 b3 ⊢
      rw [w64 (x := i + 1) (by omega) (by omega)]
      exact EvP.pos (by omega) (ih _ (i + 1) q1 (by omega) (by omega) (by simp; omega) (by omega) (by omega))
  exact key n.toNat [] 0 q0 (by omega) (by omega) rfl (by omega) (by omega)

def hexB (xs : List Int) : List UInt8 := xs.flatMap fun b => [hexD (b / 16), hexD (b % 16)]
/-- Two hex digits a byte; nothing where some number is no byte. -/
def textB (xs : List Int) : ByteArray := if allB xs = true then ⟨(hexB xs).toArray⟩ else ⟨#[]⟩
theorem hexB_len (xs : List Int) : (hexB xs).length = 2 * xs.length := by
  induction xs with
  | nil => rfl
  | cons x xs ih =>
    simp only [hexB, List.flatMap_cons, List.length_append, List.length_cons, List.length_nil] at ih ⊢
    omega
theorem hexB_app (xs ys : List Int) : hexB (xs ++ ys) = hexB xs ++ hexB ys := by simp [hexB]
theorem hexB_snoc (xs : List Int) (j : Nat) (h : j < xs.length) : hexB (xs.take (j + 1)) = hexB (xs.take j) ++ [hexD (xs[j] / 16), hexD (xs[j] % 16)] := by
  rw [List.take_succ_eq_append_getElem h, hexB_app]; rfl
theorem iText_l0 (xs : List Int) (hb : allB xs = true) (hl : xs.length ≤ 1000000000000) (d : Nat) : ∀ j : Nat, j ≤ xs.length → xs.length - j = d → EvV (fun k => impl_BytesText.l0 k xs (hexB (xs.take j)) (j : Int)) ⟨(hexB xs).toArray⟩ := by
  induction d with
  | zero =>
    intro j hj hd
    refine EvP.succ ?_
    simp only [impl_BytesText.l0]
    rw [List.take_of_length_le (by omega)]
    exact EvP.neg (by omega) (EvP.ret rfl)
  | succ d ih =>
    intro j hj hd
    have hlt : j < xs.length := by omega
    have hx := allB_get hb j hlt
    have hn : (hexB (xs.take j)).length ≤ 35184372088832 := by rw [hexB_len, List.length_take]; omega
    refine EvP.succ ?_
    simp only [impl_BytesText.l0, rd_nat xs j hlt, w64_succ hlt (by omega : xs.length ≤ 1000000000000000000)]
    refine EvP.pos (by omega) (EvP.pos (by omega) (EvP.pos ⟨hx.1, hx.2, hn⟩ ?_))
    rw [← hexB_snoc xs j hlt]
    exact ih (j + 1) (by omega) (by omega)
theorem iText_ev (xs : List Int) (hl : xs.length ≤ 1000000000000) : EvV (fun k => impl_BytesText.f k xs) (textB xs) := by
  unfold impl_BytesText.f textB
  refine EvV.bind (allBytes_ev xs (by omega)) (EvP.ite (fun h => ?_) (fun h => EvP.ret (by rw [if_neg h])))
  rw [if_pos h]
  exact iText_l0 xs h hl xs.length 0 (by omega) (by omega)

theorem ext_dig (q : Int) (h0 : 0 ≤ q) (h1 : q < 16) : (⟨#[48, 49, 50, 51, 52, 53, 54, 55, 56, 57, 97, 98, 99, 100, 101, 102]⟩ : ByteArray).extract q.toNat (q + 1).toNat = ⟨#[hexD q]⟩ := by
  have c : q = 0 ∨ q = 1 ∨ q = 2 ∨ q = 3 ∨ q = 4 ∨ q = 5 ∨ q = 6 ∨ q = 7 ∨ q = 8 ∨ q = 9 ∨ q = 10 ∨ q = 11 ∨ q = 12 ∨ q = 13 ∨ q = 14 ∨ q = 15 := by omega
  apply ByteArray.ext
  rw [ByteArray.data_extract]
  rcases c with rfl | rfl | rfl | rfl | rfl | rfl | rfl | rfl | rfl | rfl | rfl | rfl | rfl | rfl | rfl | rfl <;> rfl
theorem app_dig (a : List UInt8) (x y : UInt8) : ((⟨a.toArray⟩ : ByteArray) ++ (⟨#[x]⟩ : ByteArray)) ++ (⟨#[y]⟩ : ByteArray) = ⟨(a ++ [x, y]).toArray⟩ := by
  apply ByteArray.ext
  simp
theorem sText_l0 (xs : List Int) (hb : allB xs = true) (hl : xs.length ≤ 1000000000000) (d : Nat) : ∀ j : Nat, j ≤ xs.length → xs.length - j = d → EvV (fun k => spec_BytesText.l0 k xs (⟨#[48, 49, 50, 51, 52, 53, 54, 55, 56, 57, 97, 98, 99, 100, 101, 102]⟩ : ByteArray) ⟨(hexB (xs.take j)).toArray⟩ (j : Int)) ⟨(hexB xs).toArray⟩ := by
  induction d with
  | zero =>
    intro j hj hd
    refine EvP.succ ?_
    simp only [spec_BytesText.l0]
    rw [List.take_of_length_le (by omega)]
    exact EvP.neg (by omega) (EvP.ret rfl)
  | succ d ih =>
    intro j hj hd
    have hlt : j < xs.length := by omega
    have hx := allB_get hb j hlt
    have hn : (hexB (xs.take j)).length ≤ 35184372088832 := by rw [hexB_len, List.length_take]; omega
    have sn := hexB_snoc xs j hlt
    have td : Int.tdiv xs[j] 16 = xs[j] / 16 := Int.tdiv_eq_ediv_of_nonneg hx.1
    have tm : Int.tmod xs[j] 16 = xs[j] % 16 := Int.tmod_eq_emod_of_nonneg hx.1
    have q0 : 0 ≤ xs[j] / 16 ∧ xs[j] / 16 < 16 := by omega
    have m0 : 0 ≤ xs[j] % 16 ∧ xs[j] % 16 < 16 := by omega
    refine EvP.succ ?_
    simp only [spec_BytesText.l0, rd_nat xs j hlt, w64_succ hlt (by omega : xs.length ≤ 1000000000000000000), td, tm]
    generalize xs[j] / 16 = q at q0 sn ⊢
    generalize xs[j] % 16 = m at m0 sn ⊢
    rw [w64 (x := q) (by omega) (by omega), w64 (x := q + 1) (by omega) (by omega), w64 (x := m + 1) (by omega) (by omega), ext_dig q q0.1 q0.2, ext_dig m m0.1 m0.2, app_dig, ← sn]
    refine EvP.pos (by omega) (EvV.bind (l1Ok_ev xs (by omega)) (EvP.pos hb ?_))
    refine EvP.pos (by omega) (EvP.pos q0.1 (EvP.pos (by omega) (EvP.pos (show q + 1 ≤ 16 by omega) (EvP.pos ?_ ?_))))
    rotate_left
    refine EvP.pos m0.1 (EvP.pos (by omega) (EvP.pos (show m + 1 ≤ 16 by omega) (EvP.pos ?_ (ih (j + 1) (by omega) (by omega)))))
    rotate_left
    · show (hexB (xs.take j)).toArray.size + 1 ≤ _
      rw [List.size_toArray]; omega
    · have e : ((⟨(hexB (xs.take j)).toArray⟩ : ByteArray) ++ (⟨#[hexD q]⟩ : ByteArray)).size = (hexB (xs.take j)).length + 1 := by simp [ByteArray.size]
      rw [e]
      show _ + 1 + 1 ≤ _
      omega
theorem sText_ev (xs : List Int) (hl : xs.length ≤ 1000000000000) : EvV (fun k => spec_BytesText.f k xs) (textB xs) := by
  unfold spec_BytesText.f textB
  by_cases hb : allB xs = true
  · rw [if_pos hb]
    exact sText_l0 xs hb hl xs.length 0 (by omega) (by omega)
  · rw [if_neg hb]
    refine EvP.succ ?_
    simp only [spec_BytesText.l0]
    exact EvP.ite (fun _ => EvV.bind (l1Ok_ev xs (by omega)) (EvP.neg hb (EvP.ret rfl))) (fun _ => EvP.ret rfl)

theorem drawBytesText_ev (l : List Int) (hl : ∀ x ∈ l, (Lit.int .u8 x).wf = true) : EvP (fun k => spec_DrawBytesText.f k l) (fun xs => xs.length ≤ 100) := by
  unfold spec_DrawBytesText.f
  refine EvP.bind (open_ev l hl) ?_
  rintro ⟨b, p⟩ ⟨h, hp⟩
  obtain rfl : p = 0 := hp
  dsimp only at h ⊢
  refine EvP.bind (l91Some_ev h (by decide) (by decide) (by decide)) ?_
  rintro ⟨xs, q⟩ ⟨h1, _⟩
  exact EvP.ret h1

theorem FnBytesText : laws_FnBytesText.Pure := by
  intro l l1 _ _ hl _ _ _
  refine EvP.done ?_
  unfold laws_FnBytesText.f
  have j0 : ∀ c : Bool, (c = false → l1.length ≤ 1048576) → EvV (fun k => laws_FnBytesText.j0 k l l1 c) true := by
    intro c hc
    refine EvP.succ ?_
    simp only [laws_FnBytesText.j0]
    refine EvP.ite (fun _ => EvP.ret rfl) (fun hcf => ?_)
    have hl1 := hc (by simpa using hcf)
    refine EvP.bind (drawBytesText_ev l hl) ?_
    intro xs hx
    have i := iText_ev xs (by omega)
    refine EvV.bind i (EvV.bind (sText_ev xs (by omega)) (EvP.pos rfl (EvV.bind (sSumOf_ev xs (by omega)) (EvP.succ ?_))))
    simp only [laws_FnBytesText.j1]
    refine EvP.ite (fun _ => EvP.ret (by simp)) (fun hs => ?_)
    have hb : allB xs = true := by
      by_cases hb : allB xs = true
      · exact hb
      · rw [if_neg hb] at hs; exact absurd (by decide) hs
    have ht : ∀ ys, allB ys = true → textB ys = ⟨(hexB ys).toArray⟩ := fun ys h => by unfold textB; rw [if_pos h]
    have n0 : (0 : Int) ≤ (l1.length : Int) % ((xs.length : Int) + 1) := Int.emod_nonneg _ (by omega)
    have n1 : (l1.length : Int) % ((xs.length : Int) + 1) < (xs.length : Int) + 1 := Int.emod_lt_of_pos _ (by omega)
    rw [w64 (x := (xs.length : Int) + 1) (by omega) (by omega), w64 (x := 2 * (xs.length : Int)) (by omega) (by omega)]
    generalize (l1.length : Int) % ((xs.length : Int) + 1) = n at n0 n1 ⊢
    have a1 : allB (xs.take n.toNat) = true := allB_iff.2 fun x hx => allB_iff.1 hb x (List.mem_of_mem_take hx)
    have a2 : allB (xs.drop n.toNat) = true := allB_iff.2 fun x hx => allB_iff.1 hb x (List.mem_of_mem_drop hx)
    have i1 := iText_ev (xs.take n.toNat) (by simp; omega)
    have i2 := iText_ev (xs.drop n.toNat) (by simp; omega)
    rw [ht _ a1] at i1
    rw [ht _ a2] at i2
    rw [ht _ hb]
    have sz : ∀ ys : List Int, (⟨(hexB ys).toArray⟩ : ByteArray).size = 2 * ys.length := fun ys => by rw [← hexB_len]; simp [ByteArray.size]
    have ap : ((⟨(hexB (xs.take n.toNat)).toArray⟩ : ByteArray) ++ ⟨(hexB (xs.drop n.toNat)).toArray⟩) = ⟨(hexB xs).toArray⟩ := by
      apply ByteArray.ext
      have : hexB (xs.take n.toNat) ++ hexB (xs.drop n.toNat) = hexB xs := by rw [← hexB_app, List.take_append_drop]
      rw [ByteArray.data_append]
      simp [← this]
    refine EvP.neg (by omega) (EvP.pos (by rw [sz]; omega) (EvP.pos n0 (EvP.pos (by omega) (EvV.bind i1 (EvV.bind i2 (EvP.pos (by rw [sz, sz]; simp; omega) (EvP.ret ?_)))))))
    rw [ap]
    simp
  exact EvP.ite (fun _ => j0 true (fun h => by simp at h)) (fun _ => j0 _ (fun h => by have h2 := of_decide_eq_false h; omega))

end Go.Proofs.Ytdgpkjjclngamaa.Pure
