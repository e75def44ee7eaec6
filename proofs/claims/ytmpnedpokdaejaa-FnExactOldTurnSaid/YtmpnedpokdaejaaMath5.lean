/- Plain words for the laws of this seat, fifth part: batches of records. No program stands here. -/
import Derived.Test.YtmpnedpokdaejaaMath4
set_option linter.unusedVariables false
set_option linter.unusedSimpArgs false
namespace Go.Proofs.Ytmpnedpokdaejaa.M
open Go.RowKit Go.Proofs.YtmpnedpokdaejaaW.PrintWords

/-- A record, as these words see it. -/
structure RecM where
  o : Int
  t : Int
  hk : Bool
  ks : List Int
  hv : Bool
  vs : List Int
def RecM.ok (r : RecM) : Bool := recOk r.o r.t r.hk r.ks r.hv r.vs
/-- Records are valid and their offsets ascend, from the one ahead on. -/
def ascF : Option Int → List RecM → Bool
  | _, [] => true
  | p, r :: rs => r.ok && ((match p with | none => true | some q => decide (q < r.o)) && ascF (some r.o) rs)
def headOk (mark : Bool) (prod ep seq : Int) : Bool := if prod = 255 then decide (ep = 0) && (decide (seq = 0) && !mark) else decide (0 ≤ prod ∧ prod ≤ 254) && (decide (0 ≤ ep ∧ ep ≤ 99) && decide (0 ≤ seq ∧ seq ≤ 9999))
def manyOk (mark : Bool) (n : Nat) : Bool := decide (1 ≤ (n : Int) ∧ (n : Int) ≤ 6) && (!mark || decide ((n : Int) = 1))
def batOk (mark : Bool) (prod ep seq : Int) (L : List RecM) : Bool := headOk mark prod ep seq && (manyOk mark L.length && ascF none L)
theorem batOk_iff {mark : Bool} {prod ep seq : Int} {L : List RecM} : batOk mark prod ep seq L = true ↔ headOk mark prod ep seq = true ∧ manyOk mark L.length = true ∧ ascF none L = true := by unfold batOk; simp [Bool.and_eq_true]
theorem ascF_some {q : Int} {L : List RecM} (h : ascF (some q) L = true) : ascF none L = true := by
  cases L with
  | nil => rfl
  | cons r rs =>
    simp only [ascF, Bool.and_eq_true] at h ⊢
    exact ⟨h.1, trivial, h.2.2⟩
theorem ascF_get (L : List RecM) : ∀ (p : Option Int), ascF p L = true → ∀ j (h : j < L.length), L[j].ok = true := by
  induction L with
  | nil => intro p _ j h; simp at h
  | cons r rs ih =>
    intro p h j hj
    simp only [ascF, Bool.and_eq_true] at h
    cases j with
    | zero => exact h.1
    | succ j => exact ih _ h.2.2 j (by simpa using hj)
/-- From the first offset to the last: at least one less than how many there are. -/
theorem ascF_span (L : List RecM) : ∀ (q : Int), ascF (some q) L = true → ∀ j (h : j < L.length), q + (j + 1) ≤ L[j].o := by
  induction L with
  | nil => intro q _ j h; simp at h
  | cons r rs ih =>
    intro q h j hj
    simp only [ascF, Bool.and_eq_true, decide_eq_true_eq] at h
    cases j with
    | zero => simp only [List.getElem_cons_zero]; omega
    | succ j =>
      have := ih r.o h.2.2 j (by simpa using hj)
      simp only [List.getElem_cons_succ]
      omega
theorem headOk_same (mark : Bool) {prod ep seq : Int} : (decide (0 ≤ prod ∧ prod ≤ 255) && (decide (0 ≤ ep ∧ ep ≤ 99) && decide (0 ≤ seq ∧ seq ≤ 9999)) && (if prod = 255 then decide (ep = 0) && (decide (seq = 0) && !mark) else true)) = headOk mark prod ep seq := by
  unfold headOk
  rw [Bool.eq_iff_iff]
  by_cases h : prod = 255
  · rw [if_pos h, if_pos h]
    simp only [Bool.and_eq_true, decide_eq_true_eq, Bool.not_eq_true']
    constructor
    · rintro ⟨_, h1, h2, h3⟩; exact ⟨h1, h2, h3⟩
    · rintro ⟨h1, h2, h3⟩; exact ⟨⟨by omega, by omega, by omega⟩, h1, h2, h3⟩
  · rw [if_neg h, if_neg h]
    simp only [Bool.and_eq_true, decide_eq_true_eq, and_true]
    constructor
    · rintro ⟨h1, h2, h3⟩; exact ⟨by omega, h2, h3⟩
    · rintro ⟨h1, h2, h3⟩; exact ⟨by omega, h2, h3⟩
end Go.Proofs.Ytmpnedpokdaejaa.M
