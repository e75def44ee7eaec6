import Derived.Test.YtjbgbnngfbhmjaaPkF
import Derived.DeepKeys4
namespace Go.Proofs.Ytjbgbnngfbhmjaa.Pk
open Go.RowKit Go.Shelf Go.Proofs.YtjbgbnngfbhmjaaW.PrintWords Go.Proofs.YtjbgbnngfbhmjaaW.PrintLast Go.Proofs.YtjbgbnngfbhmjaaW.PrintMore
set_option linter.unusedVariables false
set_option linter.unusedSimpArgs false
theorem key46 : WideMaps.KeyLaw Try.prog 46 := deep_law_laid (m := 2) (by kernel_rfl) (by decide) (of_decide_eq_true (by kernel_rfl)) (by kernel_rfl) (by kernel_rfl)
def key3 (a b c : Int) : Value := .agg #[.int .i64 a, .int .i64 b, .int .i64 c]
def isB (a : Int) : Prop := 0 ≤ a ∧ a ≤ 255
theorem int_lits {d : Nat} {a : Int} (ha : isB a) : Try.prog.keyLits (d + 1) 3 [.int .i64 a] = some [.int .i64 a] := by
  have hw : (Lit.int .i64 a).wf = true := by
    obtain ⟨h0, h1⟩ := ha
    have m1 : IntKind.i64.min = -9223372036854775808 := by decide
    have m2 : IntKind.i64.max = 9223372036854775807 := by decide
    simp only [Lit.wf, m1, m2, Bool.and_eq_true, decide_eq_true_eq]
    omega
  simp only [Program.keyLits, Try.underlying3, hw, and_self, if_true]
theorem key3_of {a b c : Int} (ha : isB a) (hb : isB b) (hc : isB c) : ∃ l, keyOf Try.prog 46 (key3 a b c) = some l := by
  have e1 : Try.prog.keyType 46 = true := by kernel_rfl
  have e2 := Try.underlying46
  have e4 : Try.prog.cellsOf 46 = 3 := by kernel_rfl
  have e5 : Try.prog.cellsOf 3 = 1 := by kernel_rfl
  obtain ⟨d, hd⟩ : ∃ d, Try.prog.types.size + 1 = d + 1 + 1 := ⟨Try.prog.types.size - 1, by
    have : 1 ≤ Try.prog.types.size := of_decide_eq_true (by kernel_rfl)
    omega⟩
  have ef : (key3 a b c).formed Try.prog 46 = true := by
    simp only [key3, Value.formed, e2, e4]
    rfl
  have ek : Try.prog.keyLits (Try.prog.types.size + 1) 46 (key3 a b c).cells.toList = some [.int .i64 a, .int .i64 b, .int .i64 c] := by
    rw [hd]
    show Try.prog.keyLits (d + 1 + 1) 46 [.int .i64 a, .int .i64 b, .int .i64 c] = _
    unfold Program.keyLits
    rw [e2]
    dsimp only
    simp only [e4, e5, List.length_cons, List.length_nil, if_true]
    have er : List.range 3 = [0, 1, 2] := rfl
    rw [er]
    have m0 : Try.prog.keyLits (d + 1) 3 ((([Value.int .i64 a, .int .i64 b, .int .i64 c].drop (0 * 1))).take 1) = some [.int .i64 a] := int_lits ha
    have m1 : Try.prog.keyLits (d + 1) 3 ((([Value.int .i64 a, .int .i64 b, .int .i64 c].drop (1 * 1))).take 1) = some [.int .i64 b] := int_lits hb
    have m2 : Try.prog.keyLits (d + 1) 3 ((([Value.int .i64 a, .int .i64 b, .int .i64 c].drop (2 * 1))).take 1) = some [.int .i64 c] := int_lits hc
    simp only [List.mapM_cons, List.mapM_nil, m0, m1, m2]
    rfl
  refine ⟨.string (keyBytes [.int .i64 a, .int .i64 b, .int .i64 c]), ?_⟩
  unfold keyOf
  rw [e2]
  dsimp only
  rw [e1, ef, ek]
  rfl
theorem key3_inj {a b c a' b' c' : Int} : key3 a b c = key3 a' b' c' ↔ a = a' ∧ b = b' ∧ c = c' := by
  simp [key3]
end Go.Proofs.Ytjbgbnngfbhmjaa.Pk
