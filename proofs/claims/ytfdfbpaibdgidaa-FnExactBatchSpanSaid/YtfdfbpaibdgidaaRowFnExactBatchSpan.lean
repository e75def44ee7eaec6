/- The row of the law FnExactBatchSpan: its arguments are opened, the walk is called with what is proved over lists, the arguments read as before. There is no condition. -/
import Derived.Test.YtfdfbpaibdgidaaRows
import Derived.Test.YtfdfbpaibdgidaaQFnExactBatchSpanx7
import Derived.Test.YtfdfbpaibdgidaaPureFnExactBatchSpan
import Derived.Test.YtfdfbpaibdgidaaOpen
import Derived.WalkKit
import Derived.ProofKit
import Derived.OpenShut
import Derived.ShutString
import Derived.ChangeOld
import Derived.Below
import Derived.SizedLaws
namespace Go.Proofs.Ytfdfbpaibdgidaa.fnExactBatchSpan
open Go.ChangeShapes Go.WideShapes Go.ChangeAt Go.RowKit Go.Proofs.YtfdfbpaibdgidaaW.PrintWords
open Go.ChangeMaps (open_string shut_string)
set_option linter.unusedVariables false
set_option linter.unusedSimpArgs false
theorem own : ownKnob Try.prog.godebug = none := by kernel_rfl
theorem laidOut : laidOutB Try.prog = true := by kernel_rfl
def toS33 (x : Open.Rec) : QFnExactBatchSpan.S33 := ⟨x.o, x.t, x.hk, x.ks, x.hv, x.vs⟩
theorem recsC {w : World} {A : Option Addr} {L : List Open.Rec} (h : Open.RecsAt w A L.length L) : Kd.C QFnExactBatchSpan.k33 w A (L.map toS33).length (L.map toS33) := by
  obtain ⟨h1, h2, h3⟩ := h
  refine ⟨rfl, by simpa using h2, fun hn => ?_⟩
  obtain ⟨ad, e, hc⟩ := h3 (by simpa using hn)
  refine ⟨ad, e, fun j p hj => ?_⟩
  rw [List.getElem?_map] at hj
  obtain ⟨x, hx, rfl⟩ := Option.map_eq_some_iff.1 hj
  obtain ⟨cs, hl, ⟨A3, c3, A5, c5, rfl, r3, l3, r5, l5, _⟩, hat⟩ := hc j x hx
  exact ⟨_, hl, QFnExactBatchSpan.k33_mk w (toS33 x) l3 r3 l5 r5, hat⟩
theorem recsM {w : World} {A : Option Addr} {L : List Open.Rec} (h : Open.RecsAt w A L.length L) : ∀ y ∈ L.map toS33, y.f3.length ≤ maxLen ∧ y.f5.length ≤ maxLen := by
  intro y hy
  obtain ⟨x, hx, rfl⟩ := List.mem_map.1 hy
  obtain ⟨j, hj, rfl⟩ := List.getElem_of_mem hx
  obtain ⟨h1, h2, h3⟩ := h
  obtain ⟨ad, e, hc⟩ := h3 (by omega)
  obtain ⟨cs, _, ⟨_, _, _, _, _, _, _, _, _, m3, m5, _⟩, _⟩ := hc j L[j] (List.getElem?_eq_getElem hj)
  exact ⟨m3, m5⟩
set_option maxRecDepth 100000 in
theorem lifted (os : Os) (started : os.Started) (H : Type) (enc : TypeId × Value → H) :
    ReturnsInHanded {} Try.checked os 7 .any (Rows.fnExactBatchSpanSpec.pre6 enc Try.prog Try.f7 Rows.fnExactBatchSpanRow.domain false) (Rows.fnExactBatchSpanSpec.post enc Try.prog Try.f7 false true false false) := by
  refine returnsInHanded_of_change_sized (C := Try.checked) own started (by kernel_rfl) Try.func7
    (ChangeSpec.witness6 (enc := enc) (C := Try.checked) false ⟨#[], #[.agg #[.bool false, .bool false, .int .i64 0, .int .i64 0, .int .i64 0, .slice none 0 0]], []⟩ 8 (by kernel_rfl) (by kernel_rfl) (by kernel_rfl) (by kernel_rfl)) ?_
  intro W base args ds gs before hval0 hW hcnd hsz0 _
  have hval : ∀ (j : Nat) t v, Try.f7.params[j]? = some t → args[j]? = some v → Value.okWide Try.prog W .any base t v := hval0
  have hW' := hW
  obtain ⟨p, q, hA0, hV, rfl, hfz, hnd⟩ := hW
  have hA : DataW.TrodAll enc Try.prog W 0 (fun _ => true) true Try.f7.params.toList args.toList ds p := hA0
  rw [Try.params7] at hA hval
  obtain ⟨v0, vs0, d0, ds0, p0, q0, hargs, rfl, rfl, h0, r0⟩ := trodAll_cons hA
  obtain ⟨rfl, rfl, rfl⟩ := trodAll_nil r0
  obtain rfl : args = #[v0] := by cases args; simp_all
  obtain ⟨rfl, rfl⟩ := trodVars_none hV
  have k0 := h0
  have lt0 : ∀ x ∈ p0, x.block < W.heap.size := by obtain ⟨m, hm⟩ := k0; exact DataW.trod_lt m _ _ _ hm
  obtain ⟨x0, A0, c0, rfl, r0, l0, m0⟩ := Open.arg_bat Try.underlying44 (by kernel_rfl) (by kernel_rfl) rfl rfl rfl rfl rfl rfl Try.underlying33 (by kernel_rfl) (by kernel_rfl) rfl rfl rfl rfl rfl rfl Try.underlying3 Try.underlying4 Try.underlying23 (by kernel_rfl) Try.underlying42 (hval 0 44 v0 rfl rfl) h0
  have q0 : Kd.C QFnExactBatchSpan.k33 W A0 (x0.recs.map toS33).length (x0.recs.map toS33) := recsC r0
  have e0 : x0.recs.length = (x0.recs.map toS33).length := by simp
  rw [e0] at l0 m0 k0
  rw [e0] at hW'
  rw [show (Value.slice A0 x0.recs.length c0) = .slice A0 (x0.recs.map toS33).length c0 by rw [← e0]]
  clear hA0 hval0 hsz0
  obtain ⟨k, hk⟩ := Pure.FnExactBatchSpan x0.packed x0.mark x0.producer x0.epoch x0.seq (x0.recs.map toS33) m0 (recsM r0)
  refine (QFnExactBatchSpan.laws_FnExactBatchSpan.calls k x0.packed x0.mark x0.producer x0.epoch x0.seq A0 c0 (x0.recs.map toS33) true W q0 l0 hk).mono fun e W' ⟨he, bel0⟩ => ?_
  have bel := bel0
  subst he
  exact ⟨_, rfl, _, _, _, [], _, [], hW', trodAll_mk1 (shut_bool Try.underlying4 _), (trodAll_cons_mk (Below.trod laidOut (by kernel_rfl) (of_decide_eq_true (by kernel_rfl)) k0 bel lt0) trodAll_mk0), rfl, bel.frame _, fun h => by cases h⟩
theorem over : Rows.fnExactBatchSpanRow.holds Try.pinned (OpenSpec.ofChange Rows.fnExactBatchSpanSpec) :=
  OpenClaim.holds_of_wide 7 Try.f7 rfl rfl rfl rfl rfl rfl rfl ⟨rfl, rfl, rfl, rfl, rfl⟩ rfl rfl rfl rfl rfl (by kernel_rfl) Try.func7 (by kernel_rfl)
    (of_decide_eq_true (by kernel_rfl)) (by unfold Func.isWrapper; first | (rw [if_pos (by decide +kernel)]; kernel_rfl) | (rw [if_neg (by decide +kernel)]; exact ⟨rfl, rfl⟩))
    (fun os started H enc _ => lifted os started H enc)
end Go.Proofs.Ytfdfbpaibdgidaa.fnExactBatchSpan
namespace Go.Proofs.Ytfdfbpaibdgidaa
/-- The row, for the claim. -/
theorem fnExactBatchSpan_holds : Rows.FnExactBatchSpanSaid := fnExactBatchSpan.over
#print axioms fnExactBatchSpan_holds
end Go.Proofs.Ytfdfbpaibdgidaa
