/- The row of the law FnExactOldTurn: its arguments are opened, the walk is called with what is proved over lists, the arguments read as before. There is no condition. -/
import Derived.Test.YtmpnedpokdaejaaRows
import Derived.Test.YtmpnedpokdaejaaQFnExactOldTurnx12
import Derived.Test.YtmpnedpokdaejaaPureFnExactOldTurn
import Derived.Test.YtmpnedpokdaejaaOpen
import Derived.WalkKit
import Derived.ProofKit
import Derived.OpenShut
import Derived.ShutString
import Derived.ChangeOld
import Derived.Below
import Derived.SizedLaws
namespace Go.Proofs.Ytmpnedpokdaejaa.fnExactOldTurn
open Go.ChangeShapes Go.WideShapes Go.ChangeAt Go.RowKit Go.Proofs.YtmpnedpokdaejaaW.PrintWords
open Go.ChangeMaps (open_string shut_string)
set_option linter.unusedVariables false
set_option linter.unusedSimpArgs false
theorem own : ownKnob Try.prog.godebug = none := by kernel_rfl
theorem laidOut : laidOutB Try.prog = true := by kernel_rfl
def toS50 (x : Open.Msg) : QFnExactOldTurn.S50 := ⟨x.o, x.timed, x.t, x.ks, x.vs, x.hk, x.missing⟩
theorem oldsC {w : World} {A : Option Addr} {L : List Open.Msg} (h : Open.MsgsAt w A L.length L) : Kd.C QFnExactOldTurn.k50 w A (L.map toS50).length (L.map toS50) := by
  obtain ⟨h1, h2, h3⟩ := h
  refine ⟨rfl, by simpa using h2, fun hn => ?_⟩
  obtain ⟨ad, e, hc⟩ := h3 (by simpa using hn)
  refine ⟨ad, e, fun j p hj => ?_⟩
  rw [List.getElem?_map] at hj
  obtain ⟨x, hx, rfl⟩ := Option.map_eq_some_iff.1 hj
  obtain ⟨cs, hl, ⟨A3, c3, A4, c4, rfl, r3, l3, r4, l4, _⟩, hat⟩ := hc j x hx
  exact ⟨_, hl, QFnExactOldTurn.k50_mk w (toS50 x) l3 r3 l4 r4, hat⟩
theorem oldsM {w : World} {A : Option Addr} {L : List Open.Msg} (h : Open.MsgsAt w A L.length L) : ∀ y ∈ L.map toS50, y.f3.length ≤ maxLen ∧ y.f4.length ≤ maxLen := by
  intro y hy
  obtain ⟨x, hx, rfl⟩ := List.mem_map.1 hy
  obtain ⟨j, hj, rfl⟩ := List.getElem_of_mem hx
  obtain ⟨h1, h2, h3⟩ := h
  obtain ⟨ad, e, hc⟩ := h3 (by omega)
  obtain ⟨cs, _, ⟨_, _, _, _, _, _, _, _, _, m3, m4⟩, _⟩ := hc j L[j] (List.getElem?_eq_getElem hj)
  exact ⟨m3, m4⟩
set_option maxRecDepth 100000 in
theorem lifted (os : Os) (started : os.Started) (H : Type) (enc : TypeId × Value → H) :
    ReturnsInHanded {} Try.checked os 5 .any (Rows.fnExactOldTurnSpec.pre6 enc Try.prog Try.f5 Rows.fnExactOldTurnRow.domain false) (Rows.fnExactOldTurnSpec.post enc Try.prog Try.f5 false true false false) := by
  refine returnsInHanded_of_change_sized (C := Try.checked) own started (by kernel_rfl) Try.func5
    (ChangeSpec.witness6 (enc := enc) (C := Try.checked) false ⟨#[], #[.slice none 0 0, .bool false], []⟩ 8 (by kernel_rfl) (by kernel_rfl) (by kernel_rfl) (by kernel_rfl)) ?_
  intro W base args ds gs before hval0 hW hcnd hsz0 _
  have hval : ∀ (j : Nat) t v, Try.f5.params[j]? = some t → args[j]? = some v → Value.okWide Try.prog W .any base t v := hval0
  have hW' := hW
  obtain ⟨p, q, hA0, hV, rfl, hfz, hnd⟩ := hW
  have hA : DataW.TrodAll enc Try.prog W 0 (fun _ => true) true Try.f5.params.toList args.toList ds p := hA0
  rw [Try.params5] at hA hval
  obtain ⟨v0, vs0, d0, ds0, p0, q0, hargs, rfl, rfl, h0, r0⟩ := trodAll_cons hA
  obtain ⟨v1, vs1, d1, ds1, p1, q1, rfl, rfl, rfl, h1, r1⟩ := trodAll_cons r0
  obtain ⟨rfl, rfl, rfl⟩ := trodAll_nil r1
  obtain rfl : args = #[v0, v1] := by cases args; simp_all
  obtain ⟨rfl, rfl⟩ := trodVars_none hV
  have k0 := h0
  have lt0 : ∀ x ∈ p0, x.block < W.heap.size := by obtain ⟨m, hm⟩ := k0; exact DataW.trod_lt m _ _ _ hm
  obtain ⟨A0, x0, c0, rfl, rr0, l0, m0⟩ := Open.arg_olds Try.underlying50 (by kernel_rfl) (by kernel_rfl) rfl rfl rfl rfl rfl rfl rfl Try.underlying3 Try.underlying4 Try.underlying23 (by kernel_rfl) Try.underlying35 (hval 0 35 v0 rfl rfl) h0
  have q0 : Kd.C QFnExactOldTurn.k50 W A0 (x0.map toS50).length (x0.map toS50) := oldsC rr0
  have e0 : x0.length = (x0.map toS50).length := by simp
  rw [e0] at l0 m0 k0
  rw [e0] at hW'
  rw [show (Value.slice A0 x0.length c0) = .slice A0 (x0.map toS50).length c0 by rw [← e0]]
  obtain ⟨a1, rfl, rfl, rfl⟩ := open_bool Try.underlying4 (hval 1 4 v1 rfl rfl) h1
  clear hA0 hval0 hsz0
  refine (QFnExactOldTurn.laws_FnExactOldTurn.walk_ Pure.FnExactOldTurn a1 A0 c0 (x0.map toS50) W q0 l0 m0 (oldsM rr0)).mono fun e W' ⟨he, bel0⟩ => ?_
  have bel := bel0
  subst he
  exact ⟨_, rfl, _, _, _, [], _, [], hW', trodAll_mk1 (shut_bool Try.underlying4 _), (trodAll_cons_mk (Below.trod laidOut (by kernel_rfl) (of_decide_eq_true (by kernel_rfl)) k0 bel lt0) (trodAll_cons_mk (shut_bool Try.underlying4 _) trodAll_mk0)), rfl, bel.frame _, fun h => by cases h⟩
theorem over : Rows.fnExactOldTurnRow.holds Try.pinned (OpenSpec.ofChange Rows.fnExactOldTurnSpec) :=
  OpenClaim.holds_of_wide 5 Try.f5 rfl rfl rfl rfl rfl rfl rfl ⟨rfl, rfl, rfl, rfl, rfl⟩ rfl rfl rfl rfl rfl (by kernel_rfl) Try.func5 (by kernel_rfl)
    (of_decide_eq_true (by kernel_rfl)) (by unfold Func.isWrapper; first | (rw [if_pos (by decide +kernel)]; kernel_rfl) | (rw [if_neg (by decide +kernel)]; exact ⟨rfl, rfl⟩))
    (fun os started H enc _ => lifted os started H enc)
end Go.Proofs.Ytmpnedpokdaejaa.fnExactOldTurn
namespace Go.Proofs.Ytmpnedpokdaejaa
/-- The row, for the claim. -/
theorem fnExactOldTurn_holds : Rows.FnExactOldTurnSaid := fnExactOldTurn.over
#print axioms fnExactOldTurn_holds
end Go.Proofs.Ytmpnedpokdaejaa
