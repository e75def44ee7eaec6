/- Plain words for the laws of this seat: what the functions tell, over numbers and lists alone. No program stands here. -/
import Derived.Test.YtmpnedpokdaejaaVE
set_option linter.unusedVariables false
set_option linter.unusedSimpArgs false
namespace Go.Proofs.Ytmpnedpokdaejaa.M
open Go.RowKit Go.Proofs.YtmpnedpokdaejaaW.PrintWords

/-! ### From some number of rounds on, an answer of which P holds -/
def EvP {α : Type} (g : Nat → Option α) (P : α → Prop) : Prop := ∃ r, P r ∧ ∃ K, ∀ k, K ≤ k → g k = some r
abbrev EvV {α : Type} (g : Nat → Option α) (v : α) : Prop := EvP g (Eq v)
section
variable {α β : Type} {g h : Nat → Option α} {P Q : α → Prop} {R : β → Prop}
theorem EvP.mono (e : EvP g P) (hq : ∀ r, P r → Q r) : EvP g Q := by
  obtain ⟨r, hr, hk⟩ := e
  exact ⟨r, hq r hr, hk⟩
theorem EvP.ret {r : α} (hr : P r) : EvP (fun _ => some r) P := ⟨r, hr, 0, fun _ _ => rfl⟩
theorem EvP.bind {f : Nat → α → Option β} (e : EvP g P) (k : ∀ a, P a → EvP (fun n => f n a) R) : EvP (fun n => (g n).bind (f n)) R := by
  obtain ⟨a, ha, K, hK⟩ := e
  obtain ⟨r, hr, K', hK'⟩ := k a ha
  refine ⟨r, hr, max K K', fun n hn => ?_⟩
  have h1 := hK n (by omega)
  have h2 := hK' n (by omega)
  simp only [h1, Option.bind_some]
  exact h2
theorem EvV.bind {f : Nat → α → Option β} {a : α} (e : EvV g a) (k : EvP (fun n => f n a) R) : EvP (fun n => (g n).bind (f n)) R :=
  EvP.bind e (fun b hb => by subst hb; exact k)
theorem EvP.succ (e : EvP (fun k => g (k + 1)) P) : EvP g P := by
  obtain ⟨r, hr, K, hK⟩ := e
  refine ⟨r, hr, K + 1, fun n hn => ?_⟩
  obtain ⟨m, rfl⟩ : ∃ m, n = m + 1 := ⟨n - 1, by omega⟩
  exact hK m (by omega)
theorem EvP.ite {c : Prop} [Decidable c] (h1 : c → EvP g P) (h2 : ¬ c → EvP h P) : EvP (fun k => if c then g k else h k) P := by
  by_cases hc : c
  · simpa only [if_pos hc] using h1 hc
  · simpa only [if_neg hc] using h2 hc
theorem EvP.pos {c : Prop} [Decidable c] (hc : c) (e : EvP g P) : EvP (fun k => if c then g k else h k) P := by simpa only [if_pos hc] using e
theorem EvP.neg {c : Prop} [Decidable c] (hc : ¬ c) (e : EvP h P) : EvP (fun k => if c then g k else h k) P := by simpa only [if_neg hc] using e
theorem EvP.congr (hgh : ∀ k, g k = h k) (e : EvP h P) : EvP g P := by
  have : g = h := funext hgh
  rw [this]; exact e
theorem EvP.const {o : Option α} {r : α} (ho : o = some r) (hr : P r) : EvP (fun _ => o) P := ⟨r, hr, 0, fun _ _ => ho⟩
theorem EvV.of_succ {v : α} (hs : ∀ k, g (k + 1) = some v) : EvV g v := ⟨v, rfl, 1, fun k hk => by
  obtain ⟨m, rfl⟩ : ∃ m, k = m + 1 := ⟨k - 1, by omega⟩
  exact hs m⟩
theorem EvV.of_add {v : α} (c : Nat) (hs : ∀ k, g (k + c) = some v) : EvV g v := ⟨v, rfl, c, fun k hk => by
  obtain ⟨m, rfl⟩ : ∃ m, k = m + c := ⟨k - c, by omega⟩
  exact hs m⟩
theorem EvV.all {v : α} (hs : ∀ k, g k = some v) : EvV g v := ⟨v, rfl, 0, fun k _ => hs k⟩
theorem EvV.to {v w : α} (e : EvV g v) (hvw : v = w) : EvV g w := hvw ▸ e
end
theorem EvP.done {g : Nat → Option Bool} (e : EvV g true) : ∃ k, g k = some true := by
  obtain ⟨r, hr, K, hK⟩ := e
  exact ⟨K, by rw [hK K (Nat.le_refl _), hr]⟩

/-! ### Numbers -/
theorem w64 {x : Int} (h0 : -9223372036854775808 ≤ x) (h1 : x ≤ 9223372036854775807) : wrap64 x = x := by unfold wrap64; omega
theorem w64_succ {j n : Nat} (h : j < n) (hn : n ≤ 1000000000000000000) : wrap64 ((j : Int) + 1) = ((j + 1 : Nat) : Int) := by unfold wrap64; omega
theorem wf_i64 {x : Int} (h : (Lit.int .i64 x).wf = true) : -9223372036854775808 ≤ x ∧ x ≤ 9223372036854775807 := by
  simpa [Lit.wf, IntKind.min, IntKind.max, IntKind.signed, IntKind.bits] using h
theorem wf_u8 {x : Int} (h : (Lit.int .u8 x).wf = true) : 0 ≤ x ∧ x ≤ 255 := by
  simpa [Lit.wf, IntKind.min, IntKind.max, IntKind.signed, IntKind.bits] using h
theorem tmod_pos {a b : Int} (h : 0 ≤ a) : Int.tmod a b = a % b := Int.tmod_eq_emod_of_nonneg h
theorem tdiv_pos {a b : Int} (h : 0 ≤ a) : Int.tdiv a b = a / b := Int.tdiv_eq_ediv_of_nonneg h
theorem wrap_i64_eq (x : Int) : IntKind.i64.wrap x = wrap64 x := by rw [IntKind.wrap_i64]; unfold wrap64; rfl
theorem wraps_i64 (n : Int) (h0 : 0 ≤ n) (h1 : n < 2 ^ 62) : IntKind.i64.wrap n = n := by rw [wrap_i64_eq, w64 (by omega) (by omega)]
theorem and_mask (i : Nat) (hi : i ≤ 62) (x : Int) (h0 : 0 ≤ x) (h1 : x < 2 ^ 62) : Go.bits .and .i64 x (2 ^ i - 1) = x % 2 ^ i := bits_mask .i64 62 (by decide) wraps_i64 i hi x h0 h1
theorem and1 {x : Int} (h0 : 0 ≤ x) (h1 : x < 2 ^ 62) : Go.bits .and .i64 x 1 = x % 2 := and_mask 1 (by decide) x h0 h1
theorem and15 {x : Int} (h0 : 0 ≤ x) (h1 : x < 2 ^ 62) : Go.bits .and .i64 x 15 = x % 16 := and_mask 4 (by decide) x h0 h1
theorem and127 {x : Int} (h0 : 0 ≤ x) (h1 : x < 2 ^ 62) : Go.bits .and .i64 x 127 = x % 128 := and_mask 7 (by decide) x h0 h1
theorem and255 {x : Int} (h0 : 0 ≤ x) (h1 : x < 2 ^ 62) : Go.bits .and .i64 x 255 = x % 256 := and_mask 8 (by decide) x h0 h1
theorem or_join (i : Nat) (x y : Int) (hx0 : 0 ≤ x) (hx : x % 2 ^ i = 0) (hx1 : x < 2 ^ 62) (hy0 : 0 ≤ y) (hy : y < 2 ^ i) (hy1 : y < 2 ^ 62) : Go.bits .or .i64 x y = x + y :=
  bits_join .i64 62 (by decide) wraps_i64 i x y hx0 hx hx1 hy0 hy hy1
theorem bits_swap (k : IntKind) (x y : Int) : Go.bits .or k x y = Go.bits .or k y x := by
  unfold Go.bits; simp only [BitVec.or_comm]
theorem xor_nonneg {x y : Int} (hx0 : 0 ≤ x) (hx1 : x < 2 ^ 62) (hy0 : 0 ≤ y) (hy1 : y < 2 ^ 62) : 0 ≤ Go.bits .xor .i64 x y := by
  obtain ⟨a, rfl⟩ := Int.eq_ofNat_of_zero_le hx0
  obtain ⟨b, rfl⟩ := Int.eq_ofNat_of_zero_le hy0
  have ha : a < 2 ^ 62 := by exact_mod_cast hx1
  have hb : b < 2 ^ 62 := by exact_mod_cast hy1
  have hab : a ^^^ b < 2 ^ 62 := Nat.xor_lt_two_pow ha hb
  have ha' : a % 2 ^ 64 = a := Nat.mod_eq_of_lt (by omega)
  have hb' : b % 2 ^ 64 = b := Nat.mod_eq_of_lt (by omega)
  unfold Go.bits
  have e : (BitVec.ofInt IntKind.i64.bits (a : Int) ^^^ BitVec.ofInt IntKind.i64.bits (b : Int)).toNat = a ^^^ b := by
    show (BitVec.ofInt 64 (a : Int) ^^^ BitVec.ofInt 64 (b : Int)).toNat = a ^^^ b
    rw [BitVec.toNat_xor, BitVec.ofInt_natCast, BitVec.ofInt_natCast, BitVec.toNat_ofNat, BitVec.toNat_ofNat, ha', hb']
  simp only [e]
  rw [wrap_i64_eq, w64 (by omega) (by omega)]
  omega

/-! ### Lists -/
theorem rd_nat (xs : List Int) (j : Nat) (h : j < xs.length) : rd xs (j : Int) = xs[j] := by
  unfold rd; simp [List.getD_eq_getElem?_getD, h]
theorem drop_cons (xs : List Int) (j : Nat) (h : j < xs.length) : xs.drop j = xs[j] :: xs.drop (j + 1) := List.drop_eq_getElem_cons h
theorem drop_end {α : Type} (xs : List α) (j : Nat) (h : xs.length ≤ j) : xs.drop j = [] := List.drop_eq_nil_of_le h
def isB (x : Int) : Bool := decide (0 ≤ x ∧ x ≤ 255)
def allB (xs : List Int) : Bool := xs.all isB
theorem isB_iff {x : Int} : isB x = true ↔ 0 ≤ x ∧ x ≤ 255 := by simp [isB]
theorem allB_cons_t {x : Int} {xs : List Int} (h : isB x = true) : allB xs = allB (x :: xs) := by simp [allB, h]
theorem allB_cons_f {x : Int} {xs : List Int} (h : isB x = false) : allB (x :: xs) = false := by simp [allB, h]
theorem dec_cons_t {x y : Int} {xs ys : List Int} (h : x = y) : decide (xs = ys) = decide (x :: xs = y :: ys) := by simp [h]
theorem dec_cons_f {x y : Int} {xs ys : List Int} (h : ¬ x = y) : decide (x :: xs = y :: ys) = false := by simp [h]
theorem allB_iff {xs : List Int} : allB xs = true ↔ ∀ x ∈ xs, 0 ≤ x ∧ x ≤ 255 := by simp [allB, isB]
theorem allB_get {xs : List Int} (h : allB xs = true) (j : Nat) (hj : j < xs.length) : 0 ≤ xs[j] ∧ xs[j] ≤ 255 := allB_iff.1 h _ (List.getElem_mem hj)

/-! ### Numbers of variable length -/
def fold (n : Int) : Int := if n < -1000000 ∨ 1000000 < n then -1 else if n < 0 then -2 * n - 1 else 2 * n
def unf (f : Int) : Int := if f % 2 = 1 then -(f / 2) - 1 else f / 2
def unfC (f : Int) : Int := if f < 0 ∨ 2000000 < f then 0 else unf f
def varL (f : Int) : List Int := if f < 128 then [f] else if f < 16384 then [f % 128 + 128, f / 128] else [f % 128 + 128, f / 128 % 128 + 128, f / 16384]
def varR (n : Int) : List Int × Bool := if fold n < 0 then ([], false) else (varL (fold n), true)
theorem varL_len (f : Int) : (varL f).length ≤ 3 ∧ 1 ≤ (varL f).length := by
  unfold varL
  repeat' split
  all_goals simp
theorem varR_len (n : Int) : (varR n).1.length ≤ 3 := by
  unfold varR
  split
  · simp
  · exact (varL_len _).1
theorem fold_rng {n : Int} (h0 : -1000000 ≤ n) (h1 : n ≤ 1000000) : 0 ≤ fold n ∧ fold n ≤ 2000000 := by unfold fold; repeat' split <;> omega
theorem unf_fold {n : Int} (h0 : -1000000 ≤ n) (h1 : n ≤ 1000000) : unf (fold n) = n := by unfold unf fold; repeat' split <;> omega
theorem fold_unf {f : Int} (h0 : 0 ≤ f) (h1 : f ≤ 2000000) : fold (unf f) = f := by unfold unf fold; repeat' split <;> omega

/-! ### The reader that draws -/
def Rdr (b : List Int) (p : Int) : Prop := b.length ≤ 2000 ∧ (∀ x ∈ b, 0 ≤ x ∧ x ≤ 255) ∧ 0 ≤ p
theorem rd_rng {b : List Int} (hb : ∀ x ∈ b, 0 ≤ x ∧ x ≤ 255) (i : Int) : 0 ≤ rd b i ∧ rd b i ≤ 255 := by
  unfold rd
  rw [List.getD_eq_getElem?_getD]
  by_cases h : i.toNat < b.length
  · simp only [List.getElem?_eq_getElem h, Option.getD_some]; exact hb _ (List.getElem_mem h)
  · simp [List.getElem?_eq_none (Nat.le_of_not_lt h)]
end Go.Proofs.Ytmpnedpokdaejaa.M
namespace Go.Proofs.Ytmpnedpokdaejaa.PrintWords
/-- The rows name this word so; it stands in the words' own place. -/
theorem sized_ints : type_of% @Go.Proofs.YtmpnedpokdaejaaW.PrintWords.sized_ints := @Go.Proofs.YtmpnedpokdaejaaW.PrintWords.sized_ints
end Go.Proofs.Ytmpnedpokdaejaa.PrintWords
